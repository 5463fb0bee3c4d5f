/- The law FnExactRegSet, walked by hand on its one path: the pure facts say what each call answers. -/
import Derived.Test.YtbcpkigeginmnaaM3Z
import Derived.Test.YtbcpkigeginmnaaM6Z
import Derived.Test.YtbcpkigeginmnaaM4Z
import Derived.Test.YtbcpkigeginmnaaM15Z
import Derived.Test.YtbcpkigeginmnaaM14Z
import Derived.Test.YtbcpkigeginmnaaM7Z
import Derived.Test.YtbcpkigeginmnaaGFx4Z
import Derived.Test.YtbcpkigeginmnaaM10Z
import Derived.Test.YtbcpkigeginmnaaM13Z
import Derived.Test.YtbcpkigeginmnaaGFx25Z
import Derived.Test.YtbcpkigeginmnaaM12Z
import Derived.Test.YtbcpkigeginmnaaGFx3Z
set_option linter.unusedVariables false
set_option linter.unusedSimpArgs false
section
namespace Go.Proofs.Ytbcpkigeginmnaa.GF
open Go.RowKit Go.Proofs.YtbcpkigeginmnaaW.PrintWords Go.Proofs.YtbcpkigeginmnaaW.PrintLast Go.Proofs.YtbcpkigeginmnaaW.PrintMore Go.Proofs.Ytbcpkigeginmnaa.Q Go.Proofs.Ytbcpkigeginmnaa.Hnd Go.Proofs.Ytbcpkigeginmnaa.Lst
def tot : List (List Int) → Nat
  | [] => 0
  | x :: t => x.length + tot t
theorem tot_append (a b : List (List Int)) : tot (a ++ b) = tot a + tot b := by
  induction a with
  | nil => simp [tot]
  | cons x t ih => simp [tot, ih]; omega
theorem tot_take (l : List (List Int)) (i : Nat) (hi : i < l.length) : tot (l.take (i + 1)) = tot (l.take i) + l[i].length := by
  rw [List.take_succ_eq_append_getElem hi, tot_append]
  simp [tot]
theorem tot_take_le (l : List (List Int)) (i : Nat) : tot (l.take i) ≤ tot l := by
  have := tot_append (l.take i) (l.drop i)
  rw [List.take_append_drop] at this
  omega
def marksB (m : Int) : List (List Int) → List (List Int)
  | [] => []
  | x :: t => marks (· % 256) m x.length :: marksB (m + (x.length : Int)) t
theorem marksB_length (m : Int) (l : List (List Int)) : (marksB m l).length = l.length := by
  induction l generalizing m with
  | nil => rfl
  | cons x t ih => simp [marksB, ih]
theorem marksB_append (m : Int) (a b : List (List Int)) : marksB m (a ++ b) = marksB m a ++ marksB (m + (tot a : Int)) b := by
  induction a generalizing m with
  | nil => simp [marksB, tot]
  | cons x t ih =>
    simp only [List.cons_append, marksB, ih, tot]
    rw [show m + (x.length : Int) + (tot t : Int) = m + ((x.length + tot t : Nat) : Int) by omega]
theorem marksB_take (m : Int) (l : List (List Int)) (i : Nat) (hi : i < l.length) : marksB m (l.take (i + 1)) = marksB m (l.take i) ++ [marks (· % 256) (m + (tot (l.take i) : Int)) l[i].length] := by
  rw [List.take_succ_eq_append_getElem hi, marksB_append]
  rfl
theorem cur_set (m : Int) (l : List (List Int)) (i : Nat) (hi : i < l.length) : (marksB m (l.take i) ++ l.drop i).set i (marks (· % 256) (m + (tot (l.take i) : Int)) l[i].length) = marksB m (l.take (i + 1)) ++ l.drop (i + 1) := by
  have e : (marksB m (l.take i)).length = i := by rw [marksB_length, List.length_take]; omega
  rw [List.set_append_right _ _ (by omega), e, Nat.sub_self, List.drop_eq_getElem_cons hi, List.set_cons_zero, marksB_take m l i hi, List.append_assoc]
  rfl
theorem cur_get (m : Int) (l : List (List Int)) (i : Nat) (hi : i < l.length) : (marksB m (l.take i) ++ l.drop i).getD i [] = l[i] := by
  have e : (marksB m (l.take i)).length = i := by rw [marksB_length, List.length_take]; omega
  rw [List.getD_eq_getElem?_getD, List.getElem?_append_right (by omega), e, Nat.sub_self, List.getElem?_drop, Nat.add_zero, List.getElem?_eq_getElem hi]
  rfl
theorem mark_b (l : List Int) (m : Int) (h0 : 0 ≤ m) (hm : m ≤ 90000000) (hl : l.length ≤ 9000000) (k : Nat) (hk : l.length < k) : laws_markByteS.f k l m = some (m + (l.length : Int), marks (· % 256) m l.length) := by
  unfold laws_markByteS.f
  exact mark_all laws_markByteS.l0 (· % 256) (fun _ _ _ _ => rfl) l m h0 (by omega) k hk
theorem mark_u (l : List Int) (m : Int) (h0 : 0 ≤ m) (hm : m ≤ 90000000) (hl : l.length ≤ 9000000) (k : Nat) (hk : l.length < k) : laws_markUint32S.f k l m = some (m + (l.length : Int), marks (· % 4294967296) m l.length) := by
  unfold laws_markUint32S.f
  exact mark_all laws_markUint32S.l0 (· % 4294967296) (fun _ _ _ _ => rfl) l m h0 (by omega) k hk
theorem Fr.of_kept {S : Nat → Prop} {w0 w w' : World} (hk : Kept w w' S) (h0 : Below w0.heap.size w0 w) (h1 : Below w0.heap.size w0 w') : Fr S w w' :=
  ⟨h1.os.trans h0.os.symm, h1.tape.trans h0.tape.symm, h1.output.trans h0.output.symm, hk.1, hk.2⟩
set_option maxHeartbeats 8000000 in
set_option maxRecDepth 100000 in
theorem markSS_calls (v : Value) (xs : List (List Int)) (ok : Nat → Prop) (m : Int) (w0 W : World) (hB : Below w0.heap.size w0 W) (hok : ∀ k, ok k → w0.heap.size ≤ k) (hS : Kd.S (Kd.slice 5 (Kd.int .u8)) 68 W w0.heap.size ok v xs) (h0 : 0 ≤ m) (hm : m + (tot xs : Int) ≤ 9000000) (hlen : xs.length ≤ 9000000) :
    Calls Try.prog 49 #[v, .int .i64 m] W fun e w' => e = .returned (.int .i64 (m + (tot xs : Int))) ∧ Kd.S (Kd.slice 5 (Kd.int .u8)) 68 w' w0.heap.size ok v (marksB m xs) ∧ Fr ok W w' := by
  have HOK := Aside0.mk hok
  have HM := Aside0.mk hm
  have HB0 := Aside0.mk hB
  clear hok hm
  by_cases hp : 0 < xs.length
  · obtain ⟨g, cap, rfl, _, _, _⟩ := Kd.S_form hS hp
    have HS := Aside0.mk hS
    have hli : (xs.length : Int) ≤ 9000000 := by omega
    clear hS hB hp
    go_enter Try.func49, Try.ntmps49
    go_wp2
    go_loopg [1, 5] xs.length (fun gg s1 s5 wr => ∃ i : Nat, i ≤ xs.length ∧ xs.length - i ≤ gg ∧ s1 = .int .i64 (m + (tot (xs.take i) : Int)) ∧ s5 = .int .i64 (i : Int) ∧ Aside0 (Kd.S (Kd.slice 5 (Kd.int .u8)) 68 wr w0.heap.size ok (.slice (some ⟨g, 0, none⟩) xs.length cap) (marksB m (xs.take i) ++ xs.drop i)) ∧ Aside0 (Fr ok W wr) ∧ Aside0 (Below w0.heap.size w0 wr))
    case atStart => exact ⟨0, by omega, by omega, by simp [tot], rfl, ⟨by simpa [marksB] using HS.out⟩, ⟨Fr.refl _ _⟩, HB0⟩
    case round =>
      obtain ⟨i, hi, hg, rfl, rfl, HSr, HFr, HBr⟩ := hrel
      clear HS
      by_cases hlt : i < xs.length
      · have hltz : (i : Int) < (xs.length : Int) := by omega
        have hz : (0 : Int) ≤ (i : Int) := by omega
        obtain ⟨oki, c, hcl, hM, hcc, hoki, hH⟩ := Kd.S_lend HSr.out [] (i : Int) hz hltz
        rw [Int.toNat_natCast, cur_get m xs i hlt] at hM
        obtain ⟨vi, rfl, hRi⟩ := hM
        have hx := hcc 0 _ rfl
        rw [Int.toNat_natCast, show (Kd.slice 5 (Kd.int .u8)).sz = 1 from rfl, Nat.mul_one, Nat.add_zero] at hx
        have hle := tot_take_le xs (i + 1)
        rw [tot_take xs i hlt] at hle
        have hmk := mark_b xs[i] (m + (tot (xs.take i) : Int)) (by omega) (by have := HM.out; omega) (by have := HM.out; omega) (xs[i].length + 1) (by omega)
        have HMK := Aside0.mk hmk
        have HRI := Aside0.mk hRi
        have HH := Aside0.mk hH
        have HOI := Aside0.mk hoki
        have HLE := Aside0.mk hle
        clear hcl hcc hoki hH hRi hmk hle
        go_wp2_with (go_at_call 72; refine (laws_markByteS.calls (xs[i].length + 1) oki vi xs[i] (m + (tot (xs.take i) : Int)) _ _ w0 _ (lq HBr.out) (rq HRI.out) HMK.out).mono ?_; rintro e w1 ⟨rfl, hR1, hB1, hK1⟩; have HR1 := Aside0.mk hR1; have HB1 := Aside0.mk hB1; have HK1 := Aside0.mk hK1; clear hR1 hB1 hK1)
        go_roundg (xs.length - (i + 1))
        case measure => omega
        case rel =>
          have hF := Fr.of_kept HK1.out (lq HBr.out) HB1.out
          have hH1 := Kd.H_step (Kd.H_drewN HH.out 0) (w1 := w1) (fun k hk hn hlt => by
            have := HK1.out.2 k (by simpa using hlt) hn
            simpa using this)
          have hT := Kd.R_tight rfl HR1.out
          have hb := Kd.H_back hH1 (x' := marks (· % 256) (m + (tot (xs.take i) : Int)) xs[i].length) (okp := fun k => some k = vi.ownBlock) ⟨vi, rfl, hT⟩ (fun k hk => HRI.out.1 k hk.symm)
          rw [Int.toNat_natCast, cur_set m xs i hlt] at hb
          exact ⟨i + 1, by omega, by omega, by rw [tot_take xs i hlt]; congr 1; omega, by go_num, ⟨hb⟩, ⟨(fq HFr.out).trans hF (fun k hk => .inl ((HOI.out k hk).1))⟩, HB1⟩
      · have hltz : ¬ (i : Int) < (xs.length : Int) := by omega
        obtain rfl : i = xs.length := by omega
        go_wp2
        go_ret
        have e1 : xs.take xs.length = xs := List.take_length
        have e2 : xs.drop xs.length = [] := List.drop_length
        have hS := HSr.out
        rw [e1, e2, List.append_nil] at hS
        exact ⟨rfl, hS, HFr.out⟩
  · have hx : xs = [] := List.eq_nil_of_length_eq_zero (by omega)
    subst hx
    obtain ⟨A, c, rfl⟩ := Kd.S_slice hS
    have HS := Aside0.mk hS
    clear hS hB hp
    go_enter Try.func49, Try.ntmps49
    go_wp2
    go_loopg [1, 5] 0 (fun gg s1 s5 wr => s1 = .int .i64 m ∧ s5 = .int .i64 0 ∧ W = wr)
    case atStart => exact ⟨rfl, rfl, rfl⟩
    case round =>
      obtain ⟨rfl, rfl, rfl⟩ := hrel
      go_wp2
      go_ret
      exact ⟨by simp [tot], HS.out, Fr.refl _ _⟩
structure Gst (w0 W : World) (lo hi : Nat) (v0 v2 : Value) (r : List Int) (ram : List (List Int)) : Prop where
  r0 : Kd.R (Kd.int .u32) 23 W w0.heap.size (fun k => lo ≤ k ∧ k < hi) v0 r
  r2 : Kd.S (Kd.slice 5 (Kd.int .u8)) 68 W w0.heap.size (fun k => lo ≤ k ∧ k < hi) v2 ram
  ge : w0.heap.size ≤ lo
  le : hi ≤ W.heap.size
section
variable {w0 W W' : World} {lo hi : Nat} {v0 v2 : Value} {r : List Int} {ram : List (List Int)} {S : Nat → Prop}
theorem Gst.new (h0 : Kd.R (Kd.int .u32) 23 W' W.heap.size (fun _ => True) v0 r) (h2 : Kd.S (Kd.slice 5 (Kd.int .u8)) 68 W' W.heap.size (fun _ => True) v2 ram) (hB : Below w0.heap.size w0 W) : Gst w0 W' W.heap.size W'.heap.size v0 v2 r ram :=
  ⟨Kd.R_lower (Kd.R_mono (R_in h0) (fun k hk => hk.2)) hB.size, Kd.S_lower (Kd.S_mono (Kd.S_bound h2) (fun k hk => ⟨hk.2.1, hk.2.2.1⟩)) hB.size, hB.size, Nat.le_refl _⟩
theorem Gst.fr (h : Gst w0 W lo hi v0 v2 r ram) (f : Fr S W W') (hS : ∀ k, lo ≤ k → k < hi → ¬ S k) : Gst w0 W' lo hi v0 v2 r ram :=
  ⟨f.R h.r0 (fun k hk => hS k hk.1 hk.2), Kd.S_step h.r2 (fun k hk hlt => f.block k hlt (hS k hk.1 hk.2)), h.ge, Nat.le_trans h.le f.size⟩
theorem Gst.below (h : Gst w0 W lo hi v0 v2 r ram) (hb : Below W.heap.size W W') : Gst w0 W' lo hi v0 v2 r ram := h.fr (Fr.of_below (fun _ => False) hb) (fun _ _ _ h => h)
theorem gq (h : Gst w0 W lo hi v0 v2 r ram) [q : Quiet W W'] : Gst w0 W' lo hi v0 v2 r ram := h.below q.go
theorem Gst.form (h : Gst w0 W lo hi v0 v2 r ram) : ∃ A0 c0 A2 c2, v0 = .slice A0 r.length c0 ∧ v2 = .slice A2 ram.length c2 ∧ r.length ≤ c0 ∧ ram.length ≤ c2 ∧ Kd.C (Kd.int .u32) W A0 r.length r ∧ Kd.C (Kd.slice 5 (Kd.int .u8)) W A2 ram.length ram := by
  obtain ⟨A0, c0, rfl⟩ := Kd.R_slice h.r0
  obtain ⟨A2, c2, rfl⟩ := Kd.S_slice h.r2
  exact ⟨A0, c0, A2, c2, rfl, rfl, (Kd.R_reads' h.r0).2.1, (Kd.S_reads' h.r2).2.1, (Kd.R_reads' h.r0).2.2, (Kd.S_reads' h.r2).2.2⟩
end
set_option maxHeartbeats 8000000 in
set_option maxRecDepth 100000 in
theorem markG_calls (w0 W : World) (lo hi : Nat) (v0 v2 : Value) (r : List Int) (p : Int) (ram : List (List Int)) (m : Int) (hB : Below w0.heap.size w0 W) (hG : Gst w0 W lo hi v0 v2 r ram) (h0 : 0 ≤ m) (hm : m + (r.length : Int) + (ram.length : Int) + (tot ram : Int) ≤ 9000000) :
    Calls Try.prog 15 #[.agg #[v0, .int .u32 p, v2], .int .i64 m] W fun e w' => e = .returned (.int .i64 (m + (r.length : Int) + (tot ram : Int))) ∧ Gst w0 w' lo hi v0 v2 (marks (· % 4294967296) m r.length) (marksB (m + (r.length : Int)) ram) ∧ Fr (fun k => lo ≤ k ∧ k < hi) W w' := by
  have hu28 := Try.underlying28
  have HG := Aside0.mk hG
  have HB := Aside0.mk hB
  have HM := Aside0.mk hm
  have hmk := mark_u r m h0 (by omega) (by omega) (r.length + 1) (by omega)
  have HMK := Aside0.mk hmk
  obtain ⟨A0, c0, A2, c2, rfl, rfl, _, _, _, _⟩ := hG.form
  clear hG hB hm hmk
  have hS2 := Kd.S_apart' HG.out.r2 (Kd.R_typed HG.out.r0) (by decide)
  have HS2 := Aside0.mk hS2
  clear hS2
  go_enter Try.func15, Try.ntmps15
  go_wp2_with (first | (go_at_call 48; refine (laws_markUint32S.calls (r.length + 1) (fun k => some k = (Value.slice A0 r.length c0).ownBlock) _ r m _ _ w0 _ (lq HB.out) (rq (Kd.R_tight rfl HG.out.r0)) HMK.out).mono ?_; rintro e w1 ⟨rfl, hR1, hB1, hK1⟩; have HR1 := Aside0.mk (Kd.R_tight rfl hR1); have HB1 := Aside0.mk hB1; have HF1 := Aside0.mk (((Fr.refl (fun k => some k = (Value.slice A0 r.length c0).ownBlock) W).alloc (.cells #[.slice A0 r.length c0, .int .u32 p, .slice A2 ram.length c2] 28)).trans (Fr.of_kept hK1 (lq HB.out) hB1) (fun _ h => .inl h)); have K1 := Aside0.mk ((Fr.of_kept hK1 (lq HB.out) hB1).blk at1_0 (fun h => by have := HG.out.r0.1 _ h.symm; have := HG.out.le; omega)); clear hR1 hB1 hK1; have z0 := kc K1.out 0 rfl; have z1 := kc K1.out 1 rfl; have z2 := kc K1.out 2 rfl) | (go_at_call 49; refine (markSS_calls _ ram (fun k => (lo ≤ k ∧ k < hi) ∧ some k ≠ (Value.slice A0 r.length c0).ownBlock) (m + (r.length : Int)) w0 _ (lq HB1.out) (fun k hk => Nat.le_trans HG.out.ge hk.1.1) (Kd.S_step HS2.out (fun k hk hlt => (fq HF1.out).block k hlt hk.2)) (by omega) (by have := HM.out; omega) (by have := HM.out; omega)).mono ?_; rintro e w2 ⟨rfl, hS, hF⟩; have HS := Aside0.mk hS; have HF := Aside0.mk hF; clear hS hF))
  go_ret
  refine ⟨rfl, ⟨?_, Kd.S_mono HS.out (fun k hk => hk.1), HG.out.ge, Nat.le_trans HG.out.le (Nat.le_trans HF1.out.size HF.out.size)⟩, ?_⟩
  · have h1 := HF.out.R HR1.out (fun k hk hs => hs.2 hk)
    exact Kd.R_mono h1 (fun k hk => HG.out.r0.1 k hk.symm)
  · exact (HF1.out.mono (fun k hk => HG.out.r0.1 k hk.symm)).trans HF.out (fun k hk => .inl hk.1)
end Go.Proofs.Ytbcpkigeginmnaa.GF
end
section
namespace Go.Proofs.Ytbcpkigeginmnaa.GF
open Go.RowKit Go.Proofs.YtbcpkigeginmnaaW.PrintWords Go.Proofs.YtbcpkigeginmnaaW.PrintLast Go.Proofs.YtbcpkigeginmnaaW.PrintMore Go.Proofs.Ytbcpkigeginmnaa.Q Go.Proofs.Ytbcpkigeginmnaa.Hnd Go.Proofs.Ytbcpkigeginmnaa.Lst
theorem Gst.wide {w0 W : World} {lo hi lo' hi' : Nat} {v0 v2 : Value} {r : List Int} {ram : List (List Int)} (h : Gst w0 W lo hi v0 v2 r ram) (h1 : lo' ≤ lo) (h2 : hi ≤ hi') (h3 : hi' ≤ W.heap.size) (h4 : w0.heap.size ≤ lo') : Gst w0 W lo' hi' v0 v2 r ram :=
  ⟨Kd.R_mono h.r0 (fun k hk => ⟨Nat.le_trans h1 hk.1, Nat.lt_of_lt_of_le hk.2 h2⟩), Kd.S_mono h.r2 (fun k hk => ⟨Nat.le_trans h1 hk.1, Nat.lt_of_lt_of_le hk.2 h2⟩), h4, h3⟩
def setR (r : List Int) (n x : Int) : List Int := if n = 0 then r else r.set n.toNat x
theorem clone_pure (r : List Int) (p : Int) (ram : List (List Int)) (hr : r.length ≤ 9000000) (hl : ram.length ≤ 9000000) (hb : ∀ x ∈ ram, x.length ≤ 9000000) (k : Nat) (hk : ram.length < k) : impl_cloneGuest.f k r p ram = some (r, p, ram) := by
  unfold impl_cloneGuest.f slices_Clone_uint32_uint32.f
  rw [if_pos (by omega), Option.bind_some]
  have main : ∀ (d k i : Nat), i ≤ ram.length → ram.length - i = d → d < k → impl_cloneGuest.l0 k ram (ram.length : Int) (i : Int) r p (ram.take i) = some (r, p, ram) := by
    intro d
    induction d with
    | zero =>
      intro k i hi hd hk
      obtain ⟨k, rfl⟩ : ∃ m, k = m + 1 := ⟨k - 1, by omega⟩
      simp only [impl_cloneGuest.l0]
      rw [if_neg (by omega), List.take_of_length_le (by omega)]
    | succ d ih =>
      intro k i hi hd hk
      obtain ⟨k, rfl⟩ : ∃ m, k = m + 1 := ⟨k - 1, by omega⟩
      have hlt : i < ram.length := by omega
      have e1 : wrap64 ((i : Int) + 1) = ((i + 1 : Nat) : Int) := by rw [wr (by omega) (by omega)]; omega
      have hx := hb ram[i] (List.getElem_mem _)
      have e2 : rd_L2 ram (i : Int) = ram[i] := by
        unfold rd_L2
        rw [Int.toNat_natCast, List.getD_eq_getElem?_getD, List.getElem?_eq_getElem hlt]
        rfl
      have c1 : (i : Int) < (ram.length : Int) := by omega
      have c2 : (0 : Int) ≤ (i : Int) := by omega
      have c3 : ram[i].length < 35184372088832 := by omega
      have c4 : (ram.take i).length < 5864062014805 := by rw [List.length_take]; omega
      simp only [impl_cloneGuest.l0]
      rw [if_pos c1, if_pos c2, if_pos c1, e2]
      unfold slices_Clone_byte_byte.f
      rw [if_pos c3, Option.bind_some, if_pos c4, e1, ← List.take_succ_eq_append_getElem hlt]
      exact ih k (i + 1) (by omega) (by omega) (by omega)
  exact main ram.length k 0 (by omega) (by omega) hk
theorem copy_pure (r : List Int) (p : Int) (ram : List (List Int)) (hr : r.length ≤ 9000000) (hl : ram.length ≤ 9000000) (hb : ∀ x ∈ ram, x.length ≤ 9000000) (k : Nat) (hk : ram.length < k) : spec_l08Copy.f k r p ram = some (r, p, ram) := by
  have main : ∀ (d k i : Nat), i ≤ ram.length → ram.length - i = d → d < k → spec_l08Ram.l0 k ram (ram.take i) (i : Int) = some ram := by
    intro d
    induction d with
    | zero =>
      intro k i hi hd hk
      obtain ⟨k, rfl⟩ : ∃ m, k = m + 1 := ⟨k - 1, by omega⟩
      simp only [spec_l08Ram.l0]
      rw [if_neg (by omega), List.take_of_length_le (by omega)]
    | succ d ih =>
      intro k i hi hd hk
      obtain ⟨k, rfl⟩ : ∃ m, k = m + 1 := ⟨k - 1, by omega⟩
      have hlt : i < ram.length := by omega
      have e1 : wrap64 ((i : Int) + 1) = ((i + 1 : Nat) : Int) := by rw [wr (by omega) (by omega)]; omega
      have hx := hb ram[i] (List.getElem_mem _)
      have e2 : rd_L2 ram (i : Int) = ram[i] := by
        unfold rd_L2
        rw [Int.toNat_natCast, List.getD_eq_getElem?_getD, List.getElem?_eq_getElem hlt]
        rfl
      have c1 : (i : Int) < (ram.length : Int) := by omega
      have c2 : (0 : Int) ≤ (i : Int) := by omega
      have c3 : ([] : List Int).length + ram[i].length < 140737488355328 := by simp; omega
      have c4 : (ram.take i).length < 5864062014805 := by rw [List.length_take]; omega
      simp only [spec_l08Ram.l0]
      rw [if_pos c1, Option.bind_some, if_pos c2, e2, if_pos c3, if_pos c4, e1, List.nil_append, ← List.take_succ_eq_append_getElem hlt]
      exact ih k (i + 1) (by omega) (by omega) (by omega)
  have h0 := main ram.length k 0 (by omega) (by omega) hk
  have c3 : ([] : List Int).length + r.length < 35184372088832 := by simp; omega
  unfold spec_l08Copy.f spec_l08Ram.f
  rw [Option.bind_some, if_pos c3, List.nil_append]
  rw [List.take_zero] at h0
  rw [show (0 : Int) = ((0 : Nat) : Int) from rfl, h0, Option.bind_some]
end Go.Proofs.Ytbcpkigeginmnaa.GF
end
section
namespace Go.Proofs.Ytbcpkigeginmnaa.AidFH
open Go.RowKit Go.Proofs.Ytbcpkigeginmnaa Go.Proofs.Ytbcpkigeginmnaa.GF Go.Proofs.Ytbcpkigeginmnaa.Lst Go.Proofs.YtbcpkigeginmnaaW.PrintWords Go.Proofs.YtbcpkigeginmnaaW.PrintLast
theorem tot_eq (l : List (List Int)) : AidFG.tot l = GF.tot l := by
  induction l with
  | nil => rfl
  | cons x t ih => simp [AidFG.tot, GF.tot, ih]
theorem tot_mem {l : List (List Int)} {x : List Int} (h : x ∈ l) : x.length ≤ tot l := by
  rw [← tot_eq]
  exact AidFG.tot_mem h
theorem held_b (m : Int) (n : Nat) (h0 : 0 ≤ m) (hm : m ≤ 90000000) (hl : n ≤ 9000000) (k : Nat) (hk : n < k) : laws_heldByteS.f k (marks (· % 256) m n) m = some (m + (n : Int)) := by
  unfold laws_heldByteS.f
  exact held_int laws_heldByteS.l0 (· % 256) (fun _ _ _ _ => rfl) m n h0 (by omega) k hk
theorem held_u (m : Int) (n : Nat) (h0 : 0 ≤ m) (hm : m ≤ 90000000) (hl : n ≤ 9000000) (k : Nat) (hk : n < k) : laws_heldUint32S.f k (marks (· % 4294967296) m n) m = some (m + (n : Int)) := by
  unfold laws_heldUint32S.f
  exact held_int laws_heldUint32S.l0 (· % 4294967296) (fun _ _ _ _ => rfl) m n h0 (by omega) k hk
theorem marksB_get (m : Int) (l : List (List Int)) (i : Nat) (hi : i < l.length) : rd_L2 (marksB m l) (i : Int) = marks (· % 256) (m + (tot (l.take i) : Int)) l[i].length := by
  have e : marksB m l = marksB m (l.take i) ++ marksB (m + (tot (l.take i) : Int)) (l.drop i) := by rw [← marksB_append, List.take_append_drop]
  have e2 : (marksB m (l.take i)).length = i := by rw [marksB_length, List.length_take]; omega
  unfold rd_L2
  rw [Int.toNat_natCast, e, List.getD_eq_getElem?_getD, List.getElem?_append_right (by omega), e2, Nat.sub_self, List.drop_eq_getElem_cons hi]
  rfl
theorem held_bb (l : List (List Int)) (m : Int) (h0 : 0 ≤ m) (hm : m + (tot l : Int) ≤ 9000000) (hl : l.length ≤ 9000000) (k : Nat) (hk : 20000000 < k) : laws_heldByteSS.f k (marksB m l) m = some (m + (tot l : Int)) := by
  unfold laws_heldByteSS.f
  have main : ∀ (d k i : Nat), i ≤ l.length → l.length - i = d → 9000001 + d < k → laws_heldByteSS.l0 k (marksB m l) (m + (tot (l.take i) : Int)) (i : Int) = some (m + (tot l : Int)) := by
    intro d
    induction d with
    | zero =>
      intro k i hi hd hk
      obtain ⟨k, rfl⟩ : ∃ m, k = m + 1 := ⟨k - 1, by omega⟩
      simp only [laws_heldByteSS.l0]
      rw [marksB_length, if_neg (by omega), List.take_of_length_le (by omega)]
    | succ d ih =>
      intro k i hi hd hk
      obtain ⟨k, rfl⟩ : ∃ m, k = m + 1 := ⟨k - 1, by omega⟩
      have hlt : i < l.length := by omega
      have e1 : wrap64 ((i : Int) + 1) = ((i + 1 : Nat) : Int) := by rw [wr (by omega) (by omega)]; omega
      have hx := tot_mem (List.getElem_mem hlt)
      have ht := tot_take l i hlt
      have hle := tot_take_le l i
      have hle1 := tot_take_le l (i + 1)
      have c1 : (i : Int) < ((marksB m l).length : Int) := by rw [marksB_length]; omega
      have c2 : (0 : Int) ≤ (i : Int) := by omega
      have e3 : m + (tot (l.take i) : Int) + (l[i].length : Int) = m + (tot (l.take (i + 1)) : Int) := by omega
      have c3 : ¬ m + (tot (l.take (i + 1)) : Int) < 0 := by omega
      simp only [laws_heldByteSS.l0]
      rw [if_pos c1, if_pos c2, marksB_get m l i hlt, held_b _ _ (by omega) (by omega) (by omega) k (by omega), Option.bind_some, e3, if_neg c3, e1]
      exact ih k (i + 1) (by omega) (by omega) (by omega)
  have := main l.length k 0 (by omega) (by omega) (by omega)
  simpa [tot] using this
theorem held_g (r : List Int) (p : Int) (ram : List (List Int)) (m : Int) (h0 : 0 ≤ m) (hm : m + (r.length : Int) + (ram.length : Int) + (tot ram : Int) ≤ 9000000) (k : Nat) (hk : 20000000 < k) :
    laws_heldGuest.f k (marks (· % 4294967296) m r.length) p (marksB (m + (r.length : Int)) ram) m = some (m + (r.length : Int) + (tot ram : Int)) := by
  unfold laws_heldGuest.f
  have c1 : ¬ m + (r.length : Int) < 0 := by omega
  have c2 : ¬ m + (r.length : Int) + (tot ram : Int) < 0 := by omega
  rw [held_u m r.length h0 (by omega) (by omega) k (by omega), Option.bind_some, if_neg c1, held_bb ram _ (by omega) (by omega) (by omega) k hk, Option.bind_some, if_neg c2]
theorem in_s (a b c : Int) : spec_l01In.f a b c = some (decide (b ≤ a ∧ a ≤ c)) := by
  unfold spec_l01In.f; split <;> simp_all <;> omega
end Go.Proofs.Ytbcpkigeginmnaa.AidFH
end
section
namespace Go.Proofs.Ytbcpkigeginmnaa.AidFN
open Go.RowKit Go.Proofs.Ytbcpkigeginmnaa Go.Proofs.Ytbcpkigeginmnaa.AidFW Go.Proofs.Ytbcpkigeginmnaa.GF Go.Proofs.Ytbcpkigeginmnaa.Lst Go.Proofs.YtbcpkigeginmnaaW.PrintWords Go.Proofs.YtbcpkigeginmnaaW.PrintLast
end Go.Proofs.Ytbcpkigeginmnaa.AidFN
end
section
namespace Go.Proofs.Ytbcpkigeginmnaa.Lst
open Go.RowKit Go.Proofs.YtbcpkigeginmnaaW.PrintWords Go.Proofs.YtbcpkigeginmnaaW.PrintLast
def marksS {β : Type} (g : Int → β) (s : Nat) (m : Int) (n : Nat) : List β := (List.range n).map fun (j : Nat) => g (m + (s : Int) * (j : Int))
theorem marksS_length {β : Type} (g : Int → β) (s : Nat) (m : Int) (n : Nat) : (marksS g s m n).length = n := by simp [marksS]
theorem marksS_succ {β : Type} (g : Int → β) (s : Nat) (m : Int) (n : Nat) : marksS g s m (n + 1) = marksS g s m n ++ [g (m + (s : Int) * (n : Int))] := by simp [marksS, List.range_succ]
theorem mark_allS {β : Type} (F : Nat → List β → Int → Int → Option (Int × List β)) (g : Int → β) (s : Nat) (hs : s ≤ 100)
    (hF : ∀ (k : Nat) (x0 : List β) (m : Int) (i : Nat), 0 ≤ m → m ≤ 9000000000 → i < x0.length → x0.length ≤ 9000000 → F (k + 1) x0 m (i : Int) = F k (x0.set i (g m)) (m + (s : Int)) ((i + 1 : Nat) : Int))
    (hE : ∀ (k : Nat) (x0 : List β) (m : Int) (i : Nat), ¬ i < x0.length → F (k + 1) x0 m (i : Int) = some (m, x0))
    (l : List β) (m : Int) (h0 : 0 ≤ m) (hm : m ≤ 90000000) (hl : l.length ≤ 9000000) (k : Nat) (hk : l.length < k) : F k l m 0 = some (m + (s : Int) * (l.length : Int), marksS g s m l.length) := by
  have loop : ∀ (d k i : Nat), i ≤ l.length → l.length - i = d → d < k → F k (marksS g s m i ++ l.drop i) (m + (s : Int) * (i : Int)) (i : Int) = some (m + (s : Int) * (l.length : Int), marksS g s m l.length) := by
    intro d
    induction d with
    | zero =>
      intro k i hi hd hk
      obtain ⟨k, rfl⟩ : ∃ m, k = m + 1 := ⟨k - 1, by omega⟩
      obtain rfl : i = l.length := by omega
      rw [hE k _ _ _ (by simp [marksS_length])]
      simp
    | succ d ih =>
      intro k i hi hd hk
      obtain ⟨k, rfl⟩ : ∃ m, k = m + 1 := ⟨k - 1, by omega⟩
      have hlt : i < l.length := by omega
      have hb0 : 0 ≤ (s : Int) * (i : Int) := Int.mul_nonneg (by omega) (by omega)
      have hb : (s : Int) * (i : Int) ≤ 100 * 9000000 := Int.mul_le_mul (by omega) (by omega) (by omega) (by omega)
      rw [hF k _ _ i (by omega) (by omega) (by simp [marksS_length]; omega) (by simp [marksS_length]; omega)]
      have e : (marksS g s m i ++ l.drop i).set i (g (m + (s : Int) * (i : Int))) = marksS g s m (i + 1) ++ l.drop (i + 1) := by
        rw [List.drop_eq_getElem_cons hlt, List.set_append_right i _ (by simp [marksS_length]), marksS_length, Nat.sub_self, List.set_cons_zero, marksS_succ, List.append_assoc]
        rfl
      rw [e, show m + (s : Int) * (i : Int) + (s : Int) = m + (s : Int) * ((i + 1 : Nat) : Int) by rw [Int.natCast_add, Int.mul_add]; omega]
      exact ih k (i + 1) (by omega) (by omega) (by omega)
  have := loop l.length k 0 (by omega) (by omega) hk
  simpa [marksS] using this
end Go.Proofs.Ytbcpkigeginmnaa.Lst
end
section
namespace Go.Proofs.Ytbcpkigeginmnaa.GF
open Go.RowKit Go.Proofs.YtbcpkigeginmnaaW.PrintWords Go.Proofs.YtbcpkigeginmnaaW.PrintLast Go.Proofs.YtbcpkigeginmnaaW.PrintMore Go.Proofs.Ytbcpkigeginmnaa.Q Go.Proofs.Ytbcpkigeginmnaa.Hnd Go.Proofs.Ytbcpkigeginmnaa.Lst Go.Proofs.Ytbcpkigeginmnaa.AidFW Go.Proofs.Ytbcpkigeginmnaa.AidFN
structure Wst (w0 W : World) (lo hi : Nat) (v : Value) (l : List S70) : Prop where
  r : Kd.R k70 70 W w0.heap.size (fun k => lo ≤ k ∧ k < hi) v l
  ge : w0.heap.size ≤ lo
  le : hi ≤ W.heap.size
section
variable {w0 W W' : World} {lo hi lo' hi' : Nat} {v : Value} {l : List S70} {S : Nat → Prop}
theorem Wst.new (h : Kd.R k70 70 W' W.heap.size (fun _ => True) v l) (hB : Below w0.heap.size w0 W) : Wst w0 W' W.heap.size W'.heap.size v l :=
  ⟨Kd.R_lower (Kd.R_mono (R_in h) (fun k hk => hk.2)) hB.size, hB.size, Nat.le_refl _⟩
theorem Wst.fr (h : Wst w0 W lo hi v l) (f : Fr S W W') (hS : ∀ k, lo ≤ k → k < hi → ¬ S k) : Wst w0 W' lo hi v l :=
  ⟨f.R h.r (fun k hk => hS k hk.1 hk.2), h.ge, Nat.le_trans h.le f.size⟩
theorem Wst.below (h : Wst w0 W lo hi v l) (hb : Below W.heap.size W W') : Wst w0 W' lo hi v l := h.fr (Fr.of_below (fun _ => False) hb) (fun _ _ _ h => h)
theorem wq (h : Wst w0 W lo hi v l) [q : Quiet W W'] : Wst w0 W' lo hi v l := h.below q.go
theorem Wst.form (h : Wst w0 W lo hi v l) : ∃ A c, v = .slice A l.length c ∧ l.length ≤ c ∧ Kd.C k70 W A l.length l := by
  obtain ⟨A, c, rfl⟩ := Kd.R_slice h.r
  exact ⟨A, c, rfl, (Kd.R_reads' h.r).2.1, (Kd.R_reads' h.r).2.2⟩
theorem Wst.wide (h : Wst w0 W lo hi v l) (h1 : lo' ≤ lo) (h2 : hi ≤ hi') (h3 : hi' ≤ W.heap.size) (h4 : w0.heap.size ≤ lo') : Wst w0 W lo' hi' v l :=
  ⟨Kd.R_mono h.r (fun k hk => ⟨Nat.le_trans h1 hk.1, Nat.lt_of_lt_of_le hk.2 h2⟩), h4, h3⟩
end
theorem toW_calls {w W : World} {A : Option Addr} {c : Nat} {l : List S72} {L : List S70} (hL : L = l.map toW) (h : Kd.C k72 w A l.length l) (hc : l.length ≤ c) (hl : l.length ≤ 9000000) (hB : Below w.heap.size w W) :
    Calls Try.prog 19 #[.slice A l.length c] W fun e w' => ∃ B d, e = .returned (.slice B L.length d) ∧ Wst w w' W.heap.size w'.heap.size (.slice B L.length d) L ∧ Below W.heap.size W w' :=
  hL ▸ (laws_toWindowS.calls 10000000 A c l _ W (Kd.C_below h hB) hc (to_w l hl 10000000 (by omega))).mono (fun e w' hh => by
    obtain ⟨v, rfl, hR, hb⟩ := hh
    obtain ⟨B, d, rfl⟩ := Kd.R_slice hR
    exact ⟨_, _, rfl, Wst.new hR hB, hb⟩)
theorem eqW_calls {w W : World} {l1 h1 l2 h2 : Nat} {u v : Value} {l : List S70} (hu : Wst w W l1 h1 u l) (hv : Wst w W l2 h2 v l) (hl : l.length ≤ 9000000) :
    Calls Try.prog 21 #[u, v] W fun e w' => e = .returned (.bool true) ∧ Below W.heap.size W w' := by
  obtain ⟨A, c, rfl, q1, q2⟩ := hu.form
  obtain ⟨B, d, rfl, t1, t2⟩ := hv.form
  exact laws_eqWindowS.calls 10000000 A c l B d l true W q2 q1 t2 t1 (eq_w l hl 10000000 (by omega))
theorem mark_w (l : List S70) (hl : l.length ≤ 9000000) (k : Nat) (hk : l.length < k) : laws_markWindowS.f k l 1 = some (1 + ((3 : Nat) : Int) * (l.length : Int), marksS (fun m => (⟨m, m + 1, m + 2⟩ : S70)) 3 1 l.length) := by
  refine mark_allS laws_markWindowS.l0 (fun m => (⟨m, m + 1, m + 2⟩ : S70)) 3 (by decide) (fun k x0 m i h0 h1 hi hl => ?_) (fun k x0 m i hi => ?_) l 1 (by decide) (by decide) hl k hk
  · have e1 : wrap64 (m + 1) = m + 1 := wr (by omega) (by omega)
    have e2 : wrap64 (m + 1 + 1) = m + 1 + 1 := wr (by omega) (by omega)
    have e3 : wrap64 (m + 1 + 1 + 1) = m + 1 + 1 + 1 := wr (by omega) (by omega)
    have e4 : wrap64 ((i : Int) + 1) = ((i + 1 : Nat) : Int) := by rw [wr (by omega) (by omega)]; omega
    have c1 : (i : Int) < (x0.length : Int) := by omega
    have c2 : (0 : Int) ≤ (i : Int) := by omega
    have g1 : ∀ (y : List S70) (v : S70), i < y.length → rd_T70 (y.set i v) (i : Int) = v := by
      intro y v hy
      unfold rd_T70
      rw [Int.toNat_natCast, List.getD_eq_getElem?_getD, List.getElem?_set_self hy]
      rfl
    simp only [laws_markWindowS.l0, Option.bind_some]
    rw [if_pos c1, if_pos c2]
    simp only [Int.toNat_natCast, e1, e2, e3, e4, List.set_set, List.length_set, g1 _ _ hi]
    first
    | (rw [show m + ((3 : Nat) : Int) = m + 1 + 1 + 1 from by omega, show m + 2 = m + 1 + 1 from by omega]; done)
    | (rw [show m + ((3 : Nat) : Int) = m + 1 + 1 + 1 from by omega, show m + 2 = m + 1 + 1 from by omega]; simp [g1, hi, List.set_set])
  · simp only [laws_markWindowS.l0]
    rw [if_neg (by omega)]
theorem markW_calls (w W : World) (lo hi : Nat) (v : Value) (l : List S70) (hB : Below w.heap.size w W) (hG : Wst w W lo hi v l) (hl : l.length ≤ 9000000) :
    Calls Try.prog 24 #[v, .int .i64 1] W fun e w' => e = .returned (.int .i64 (1 + ((3 : Nat) : Int) * (l.length : Int))) ∧ Wst w w' lo hi v (marksS (fun m => (⟨m, m + 1, m + 2⟩ : S70)) 3 1 l.length) ∧ Fr (fun k => lo ≤ k ∧ k < hi) W w' :=
  (laws_markWindowS.calls 10000000 (fun k => some k = v.ownBlock) v l 1 _ _ w W hB (Kd.R_tight rfl hG.r) (mark_w l hl 10000000 (by omega))).mono (fun e w' hh => by
    obtain ⟨rfl, hR, hb, hk⟩ := hh
    have hF := (Fr.of_kept hk hB hb).mono (T := fun k => lo ≤ k ∧ k < hi) (fun k hk => hG.r.1 k hk.symm)
    exact ⟨rfl, ⟨Kd.R_mono (Kd.R_tight rfl hR) (fun k hk => hG.r.1 k hk.symm), hG.ge, Nat.le_trans hG.le hF.size⟩, hF⟩)
structure Lgn (w W : World) (bW lw hw : Nat) (u0 u2 : Value) (pw : Int) (rw_ : List Int) (mw : List (List Int)) (lx hx : Nat) (xv : Value) (xs : List S70) (bG lg hg : Nat) (g0 g2 : Value) (pg : Int) (rg : List Int) (mg : List (List Int)) : Prop where
  kw : W.heap[bW]? = some (.cells #[u0, .int .u32 pw, u2] 28 (0, 0))
  kg : W.heap[bG]? = some (.cells #[g0, .int .u32 pg, g2] 28 (0, 0))
  gw : Gst w W lw hw u0 u2 rw_ mw
  gx : Wst w W lx hx xv xs
  gg : Gst w W lg hg g0 g2 rg mg
  be : Below w.heap.size w W
  o2 : hw ≤ bW
  o3 : bW < lx
  o4 : hx ≤ lg
  o6 : hg ≤ bG
  p1 : lw ≤ hw
  p2 : lx ≤ hx
  p3 : lg ≤ hg
section
variable {w W W' : World} {bW lw hw lx hx bG lg hg : Nat} {u0 u2 xv g0 g2 : Value} {pw pg : Int} {rw_ rg rg' : List Int} {mw mg mg' : List (List Int)} {xs xs' : List S70}
theorem Lgn.below (h : Lgn w W bW lw hw u0 u2 pw rw_ mw lx hx xv xs bG lg hg g0 g2 pg rg mg) (hb : Below W.heap.size W W') : Lgn w W' bW lw hw u0 u2 pw rw_ mw lx hx xv xs bG lg hg g0 g2 pg rg mg :=
  ⟨blk_below h.kw hb, blk_below h.kg hb, h.gw.below hb, h.gx.below hb, h.gg.below hb, below_step h.be hb, h.o2, h.o3, h.o4, h.o6, h.p1, h.p2, h.p3⟩
theorem Lgn.markX (h : Lgn w W bW lw hw u0 u2 pw rw_ mw lx hx xv xs bG lg hg g0 g2 pg rg mg) (hG : Wst w W' lx hx xv xs') (f : Fr (fun k => lx ≤ k ∧ k < hx) W W') : Lgn w W' bW lw hw u0 u2 pw rw_ mw lx hx xv xs' bG lg hg g0 g2 pg rg mg := by
  have a2 := h.o2; have a3 := h.o3; have a4 := h.o4; have a6 := h.o6; have a7 := h.gx.ge; have b1 := h.p1; have b2 := h.p2; have b3 := h.p3
  exact ⟨f.blk h.kw (fun k => by omega), f.blk h.kg (fun k => by omega), h.gw.fr f (fun k h1 h2 h3 => by omega), hG, h.gg.fr f (fun k h1 h2 h3 => by omega), h.be.trans (f.below (fun i hi => by omega) h.be.size), h.o2, h.o3, h.o4, h.o6, h.p1, h.p2, h.p3⟩
theorem Lgn.markG (h : Lgn w W bW lw hw u0 u2 pw rw_ mw lx hx xv xs bG lg hg g0 g2 pg rg mg) (hG : Gst w W' lg hg g0 g2 rg' mg') (f : Fr (fun k => lg ≤ k ∧ k < hg) W W') : Lgn w W' bW lw hw u0 u2 pw rw_ mw lx hx xv xs bG lg hg g0 g2 pg rg' mg' := by
  have a2 := h.o2; have a3 := h.o3; have a4 := h.o4; have a6 := h.o6; have a7 := h.gx.ge; have b1 := h.p1; have b2 := h.p2; have b3 := h.p3
  exact ⟨f.blk h.kw (fun k => by omega), f.blk h.kg (fun k => by omega), h.gw.fr f (fun k h1 h2 h3 => by omega), h.gx.fr f (fun k h1 h2 h3 => by omega), hG, h.be.trans (f.below (fun i hi => by omega) h.be.size), h.o2, h.o3, h.o4, h.o6, h.p1, h.p2, h.p3⟩
end
end Go.Proofs.Ytbcpkigeginmnaa.GF
end
section
namespace Go.Proofs.Ytbcpkigeginmnaa.GF
open Go.RowKit Go.Proofs.YtbcpkigeginmnaaW.PrintWords Go.Proofs.YtbcpkigeginmnaaW.PrintLast Go.Proofs.YtbcpkigeginmnaaW.PrintMore Go.Proofs.Ytbcpkigeginmnaa.Q Go.Proofs.Ytbcpkigeginmnaa.Hnd Go.Proofs.Ytbcpkigeginmnaa.Lst
structure Came (w : World) (A0 : Option Addr) (c0 : Nat) (r : List Int) (A2 : Option Addr) (c2 : Nat) (ram : List (List Int)) : Prop where
  r0 : Kd.C (Kd.int .u32) w A0 r.length r
  l0 : r.length ≤ c0
  r2 : Kd.C (Kd.slice 5 (Kd.int .u8)) w A2 ram.length ram
  l2 : ram.length ≤ c2
  b0 : r.length ≤ 9000000
  b2 : ram.length ≤ 9000000
  bb : ∀ x ∈ ram, x.length ≤ 9000000
theorem toG_calls {w W : World} {A0 : Option Addr} {c0 : Nat} {r : List Int} (p : Int) {A2 : Option Addr} {c2 : Nat} {ram : List (List Int)} (h : Came w A0 c0 r A2 c2 ram) (hB : Below w.heap.size w W) :
    Calls Try.prog 12 #[.agg #[.slice A0 r.length c0, .int .u32 p, .slice A2 ram.length c2]] W fun e w' => ∃ B0 d0 B2 d2, e = .returned (.agg #[.slice B0 r.length d0, .int .u32 p, .slice B2 ram.length d2]) ∧ Gst w w' W.heap.size w'.heap.size (.slice B0 r.length d0) (.slice B2 ram.length d2) r ram ∧ Below W.heap.size W w' :=
  (laws_toGuest.calls 30000000 A0 c0 r p A2 c2 ram r p ram W (Kd.C_below h.r0 hB) h.l0 (Kd.C_below h.r2 hB) h.l2 (AidFG.to_g r p ram h.b0 h.b2 h.bb 30000000 (by decide))).mono (fun e w' hh => by
    obtain ⟨v0, v2, rfl, hR, hS, hb⟩ := hh
    obtain ⟨B0, d0, rfl⟩ := Kd.R_slice hR
    obtain ⟨B2, d2, rfl⟩ := Kd.S_slice hS
    exact ⟨_, _, _, _, rfl, Gst.new hR hS hB, hb⟩)
theorem eqG_calls {w W : World} {l1 h1 l2 h2 : Nat} {u0 u2 v0 v2 : Value} {r : List Int} (p : Int) {ram : List (List Int)} (hu : Gst w W l1 h1 u0 u2 r ram) (hv : Gst w W l2 h2 v0 v2 r ram) (b0 : r.length ≤ 9000000) (b2 : ram.length ≤ 9000000) (bb : ∀ x ∈ ram, x.length ≤ 9000000) :
    Calls Try.prog 14 #[.agg #[u0, .int .u32 p, u2], .agg #[v0, .int .u32 p, v2]] W fun e w' => e = .returned (.bool true) ∧ Below W.heap.size W w' := by
  obtain ⟨A0, c0, A2, c2, rfl, rfl, q1, q2, q3, q4⟩ := hu.form
  obtain ⟨B0, d0, B2, d2, rfl, rfl, t1, t2, t3, t4⟩ := hv.form
  exact laws_eqGuest.calls 30000000 A0 c0 r p A2 c2 ram B0 d0 r p B2 d2 ram true W q3 q1 q4 q2 t3 t1 t4 t2 (AidFG.eq_g r p ram b0 b2 bb 30000000 (by decide))
theorem heldG_calls {w W : World} {l1 h1 : Nat} {u0 u2 : Value} {r : List Int} (p : Int) {ram : List (List Int)} (hu : Gst w W l1 h1 u0 u2 (marks (· % 4294967296) 1 r.length) (marksB (1 + (r.length : Int)) ram)) (hm : (1 : Int) + (r.length : Int) + (ram.length : Int) + (tot ram : Int) ≤ 9000000) :
    Calls Try.prog 16 #[.agg #[u0, .int .u32 p, u2], .int .i64 1] W fun e w' => e = .returned (.int .i64 (1 + (r.length : Int) + (tot ram : Int))) ∧ Below W.heap.size W w' := by
  obtain ⟨A0, c0, A2, c2, rfl, rfl, q1, q2, q3, q4⟩ := hu.form
  exact laws_heldGuest.calls 30000000 A0 c0 _ p A2 c2 _ 1 _ W q3 q1 q4 q2 (AidFH.held_g r p ram 1 (by decide) hm 30000000 (by decide))
structure Law3 (w W : World) (ca : Array Value) (bW lw hw : Nat) (u0 u2 : Value) (pw : Int) (rw_ : List Int) (mw : List (List Int)) (bX lx hx : Nat) (x0 x2 : Value) (px : Int) (rx : List Int) (mx : List (List Int)) (bG lg hg : Nat) (g0 g2 : Value) (pg : Int) (rg : List Int) (mg : List (List Int)) : Prop where
  ka : W.heap[w.heap.size]? = some (.cells ca 26 (0, 0))
  kw : W.heap[bW]? = some (.cells #[u0, .int .u32 pw, u2] 28 (0, 0))
  kx : W.heap[bX]? = some (.cells #[x0, .int .u32 px, x2] 28 (0, 0))
  kg : W.heap[bG]? = some (.cells #[g0, .int .u32 pg, g2] 28 (0, 0))
  gw : Gst w W lw hw u0 u2 rw_ mw
  gx : Gst w W lx hx x0 x2 rx mx
  gg : Gst w W lg hg g0 g2 rg mg
  be : Below w.heap.size w W
  o1 : w.heap.size < lw
  o2 : hw ≤ bW
  o3 : bW < lx
  o4 : hx ≤ bX
  o5 : bX < lg
  o6 : hg ≤ bG
  p1 : lw ≤ hw
  p2 : lx ≤ hx
  p3 : lg ≤ hg
section
variable {w W W' : World} {ca : Array Value} {bW lw hw bX lx hx bG lg hg : Nat} {u0 u2 x0 x2 g0 g2 : Value} {pw px pg : Int} {rw_ rx rg rx' rg' : List Int} {mw mx mg mx' mg' : List (List Int)}
theorem Law3.below (h : Law3 w W ca bW lw hw u0 u2 pw rw_ mw bX lx hx x0 x2 px rx mx bG lg hg g0 g2 pg rg mg) (hb : Below W.heap.size W W') : Law3 w W' ca bW lw hw u0 u2 pw rw_ mw bX lx hx x0 x2 px rx mx bG lg hg g0 g2 pg rg mg :=
  ⟨blk_below h.ka hb, blk_below h.kw hb, blk_below h.kx hb, blk_below h.kg hb, h.gw.below hb, h.gx.below hb, h.gg.below hb, below_step h.be hb, h.o1, h.o2, h.o3, h.o4, h.o5, h.o6, h.p1, h.p2, h.p3⟩
theorem Law3.markX (h : Law3 w W ca bW lw hw u0 u2 pw rw_ mw bX lx hx x0 x2 px rx mx bG lg hg g0 g2 pg rg mg) (hG : Gst w W' lx hx x0 x2 rx' mx') (f : Fr (fun k => lx ≤ k ∧ k < hx) W W') : Law3 w W' ca bW lw hw u0 u2 pw rw_ mw bX lx hx x0 x2 px rx' mx' bG lg hg g0 g2 pg rg mg := by
  have a1 := h.o1; have a2 := h.o2; have a3 := h.o3; have a4 := h.o4; have a5 := h.o5; have a6 := h.o6; have a7 := h.gx.ge; have a8 := h.gw.ge; have b1 := h.p1; have b2 := h.p2; have b3 := h.p3
  exact ⟨f.blk h.ka (fun k => by omega), f.blk h.kw (fun k => by omega), f.blk h.kx (fun k => by omega), f.blk h.kg (fun k => by omega), h.gw.fr f (fun k h1 h2 h3 => by omega), hG, h.gg.fr f (fun k h1 h2 h3 => by omega),
    h.be.trans (f.below (fun i hi => by omega) h.be.size), h.o1, h.o2, h.o3, h.o4, h.o5, h.o6, h.p1, h.p2, h.p3⟩
theorem Law3.markG (h : Law3 w W ca bW lw hw u0 u2 pw rw_ mw bX lx hx x0 x2 px rx mx bG lg hg g0 g2 pg rg mg) (hG : Gst w W' lg hg g0 g2 rg' mg') (f : Fr (fun k => lg ≤ k ∧ k < hg) W W') : Law3 w W' ca bW lw hw u0 u2 pw rw_ mw bX lx hx x0 x2 px rx mx bG lg hg g0 g2 pg rg' mg' := by
  have a1 := h.o1; have a2 := h.o2; have a3 := h.o3; have a4 := h.o4; have a5 := h.o5; have a6 := h.o6; have a7 := h.gx.ge; have a8 := h.gw.ge; have b1 := h.p1; have b2 := h.p2; have b3 := h.p3
  exact ⟨f.blk h.ka (fun k => by omega), f.blk h.kw (fun k => by omega), f.blk h.kx (fun k => by omega), f.blk h.kg (fun k => by omega), h.gw.fr f (fun k h1 h2 h3 => by omega), h.gx.fr f (fun k h1 h2 h3 => by omega), hG,
    h.be.trans (f.below (fun i hi => by omega) h.be.size), h.o1, h.o2, h.o3, h.o4, h.o5, h.o6, h.p1, h.p2, h.p3⟩
end
end Go.Proofs.Ytbcpkigeginmnaa.GF
end
