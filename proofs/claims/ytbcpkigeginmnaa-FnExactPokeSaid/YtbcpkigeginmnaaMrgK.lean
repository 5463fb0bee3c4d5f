/- A register set in a guest of one's own, and RegSet, walked by hand. -/
import Derived.Test.YtbcpkigeginmnaaGFx0K
import Derived.Test.YtbcpkigeginmnaaGFx21K
import Derived.Test.YtbcpkigeginmnaaLstK
import Derived.Test.YtbcpkigeginmnaaHndK
import Derived.Test.YtbcpkigeginmnaaGFx1K
import Derived.Test.YtbcpkigeginmnaaGFx18K
import Derived.Test.YtbcpkigeginmnaaGFx20K
section
namespace Go.Proofs.Ytbcpkigeginmnaa.GF
open Go.RowKit Go.Proofs.YtbcpkigeginmnaaW.PrintWords Go.Proofs.YtbcpkigeginmnaaW.PrintLast Go.Proofs.YtbcpkigeginmnaaW.PrintMore Go.Proofs.Ytbcpkigeginmnaa.Q Go.Proofs.Ytbcpkigeginmnaa.Hnd Go.Proofs.Ytbcpkigeginmnaa.Lst
set_option linter.unusedVariables false
set_option linter.unusedSimpArgs false
/-- How many bytes rows hold. -/
def tot : List (List Int) → Nat
  | [] => 0
  | x :: t => x.length + tot t
theorem tot_append (a b : List (List Int)) : tot (a ++ b) = tot a + tot b := by
  induction a with
  | nil => simp [tot]
  | cons x t ih => simp [tot, ih]; omega
theorem tot_take (l : List (List Int)) (i : Nat) (hi : i < l.length) : tot (l.take (i + 1)) = tot (l.take i) + l[i].length := by
  rw [List.take_succ_eq_append_getElem hi, tot_append]
  simp [tot]
theorem tot_take_le (l : List (List Int)) (i : Nat) : tot (l.take i) ≤ tot l := by
  have := tot_append (l.take i) (l.drop i)
  rw [List.take_append_drop] at this
  omega
/-- Rows of bytes, numbered on. -/
def marksB (m : Int) : List (List Int) → List (List Int)
  | [] => []
  | x :: t => marks (· % 256) m x.length :: marksB (m + (x.length : Int)) t
theorem marksB_length (m : Int) (l : List (List Int)) : (marksB m l).length = l.length := by
  induction l generalizing m with
  | nil => rfl
  | cons x t ih => simp [marksB, ih]
theorem marksB_append (m : Int) (a b : List (List Int)) : marksB m (a ++ b) = marksB m a ++ marksB (m + (tot a : Int)) b := by
  induction a generalizing m with
  | nil => simp [marksB, tot]
  | cons x t ih =>
    simp only [List.cons_append, marksB, ih, tot]
    rw [show m + (x.length : Int) + (tot t : Int) = m + ((x.length + tot t : Nat) : Int) by omega]
theorem marksB_take (m : Int) (l : List (List Int)) (i : Nat) (hi : i < l.length) : marksB m (l.take (i + 1)) = marksB m (l.take i) ++ [marks (· % 256) (m + (tot (l.take i) : Int)) l[i].length] := by
  rw [List.take_succ_eq_append_getElem hi, marksB_append]
  rfl
theorem cur_set (m : Int) (l : List (List Int)) (i : Nat) (hi : i < l.length) : (marksB m (l.take i) ++ l.drop i).set i (marks (· % 256) (m + (tot (l.take i) : Int)) l[i].length) = marksB m (l.take (i + 1)) ++ l.drop (i + 1) := by
  have e : (marksB m (l.take i)).length = i := by rw [marksB_length, List.length_take]; omega
  rw [List.set_append_right _ _ (by omega), e, Nat.sub_self, List.drop_eq_getElem_cons hi, List.set_cons_zero, marksB_take m l i hi, List.append_assoc]
  rfl
theorem cur_get (m : Int) (l : List (List Int)) (i : Nat) (hi : i < l.length) : (marksB m (l.take i) ++ l.drop i).getD i [] = l[i] := by
  have e : (marksB m (l.take i)).length = i := by rw [marksB_length, List.length_take]; omega
  rw [List.getD_eq_getElem?_getD, List.getElem?_append_right (by omega), e, Nat.sub_self, List.getElem?_drop, Nat.add_zero, List.getElem?_eq_getElem hi]
  rfl
theorem mark_b (l : List Int) (m : Int) (h0 : 0 ≤ m) (hm : m ≤ 90000000) (hl : l.length ≤ 9000000) (k : Nat) (hk : l.length < k) : laws_markByteS.f k l m = some (m + (l.length : Int), marks (· % 256) m l.length) := by
  unfold laws_markByteS.f
  exact mark_all laws_markByteS.l0 (· % 256) (fun _ _ _ _ => rfl) l m h0 (by omega) k hk
theorem mark_u (l : List Int) (m : Int) (h0 : 0 ≤ m) (hm : m ≤ 90000000) (hl : l.length ≤ 9000000) (k : Nat) (hk : l.length < k) : laws_markUint32S.f k l m = some (m + (l.length : Int), marks (· % 4294967296) m l.length) := by
  unfold laws_markUint32S.f
  exact mark_all laws_markUint32S.l0 (· % 4294967296) (fun _ _ _ _ => rfl) l m h0 (by omega) k hk
theorem Fr.of_kept {S : Nat → Prop} {w0 w w' : World} (hk : Kept w w' S) (h0 : Below w0.heap.size w0 w) (h1 : Below w0.heap.size w0 w') : Fr S w w' :=
  ⟨h1.os.trans h0.os.symm, h1.tape.trans h0.tape.symm, h1.output.trans h0.output.symm, hk.1, hk.2⟩
set_option maxHeartbeats 8000000 in
set_option maxRecDepth 100000 in
theorem markSS_calls (v : Value) (xs : List (List Int)) (ok : Nat → Prop) (m : Int) (w0 W : World) (hB : Below w0.heap.size w0 W) (hok : ∀ k, ok k → w0.heap.size ≤ k) (hS : Kd.S (Kd.slice 5 (Kd.int .u8)) 68 W w0.heap.size ok v xs) (h0 : 0 ≤ m) (hm : m + (tot xs : Int) ≤ 9000000) (hlen : xs.length ≤ 9000000) :
    Calls Try.prog 49 #[v, .int .i64 m] W fun e w' => e = .returned (.int .i64 (m + (tot xs : Int))) ∧ Kd.S (Kd.slice 5 (Kd.int .u8)) 68 w' w0.heap.size ok v (marksB m xs) ∧ Fr ok W w' := by
  have HOK := Aside0.mk hok
  have HM := Aside0.mk hm
  have HB0 := Aside0.mk hB
  clear hok hm
  by_cases hp : 0 < xs.length
  · obtain ⟨g, cap, rfl, _, _, _⟩ := Kd.S_form hS hp
    have HS := Aside0.mk hS
    have hli : (xs.length : Int) ≤ 9000000 := by omega
    clear hS hB hp
    go_enter Try.func49, Try.ntmps49
    go_wp2
    go_loopg [1, 5] xs.length (fun gg s1 s5 wr => ∃ i : Nat, i ≤ xs.length ∧ xs.length - i ≤ gg ∧ s1 = .int .i64 (m + (tot (xs.take i) : Int)) ∧ s5 = .int .i64 (i : Int) ∧ Aside0 (Kd.S (Kd.slice 5 (Kd.int .u8)) 68 wr w0.heap.size ok (.slice (some ⟨g, 0, none⟩) xs.length cap) (marksB m (xs.take i) ++ xs.drop i)) ∧ Aside0 (Fr ok W wr) ∧ Aside0 (Below w0.heap.size w0 wr))
    case atStart => exact ⟨0, by omega, by omega, by simp [tot], rfl, ⟨by simpa [marksB] using HS.out⟩, ⟨Fr.refl _ _⟩, HB0⟩
    case round =>
      obtain ⟨i, hi, hg, rfl, rfl, HSr, HFr, HBr⟩ := hrel
      clear HS
      by_cases hlt : i < xs.length
      · have hltz : (i : Int) < (xs.length : Int) := by omega
        have hz : (0 : Int) ≤ (i : Int) := by omega
        obtain ⟨oki, c, hcl, hM, hcc, hoki, hH⟩ := Kd.S_lend HSr.out [] (i : Int) hz hltz
        rw [Int.toNat_natCast, cur_get m xs i hlt] at hM
        obtain ⟨vi, rfl, hRi⟩ := hM
        have hx := hcc 0 _ rfl
        rw [Int.toNat_natCast, show (Kd.slice 5 (Kd.int .u8)).sz = 1 from rfl, Nat.mul_one, Nat.add_zero] at hx
        have hle := tot_take_le xs (i + 1)
        rw [tot_take xs i hlt] at hle
        have hmk := mark_b xs[i] (m + (tot (xs.take i) : Int)) (by omega) (by have := HM.out; omega) (by have := HM.out; omega) (xs[i].length + 1) (by omega)
        have HMK := Aside0.mk hmk
        have HRI := Aside0.mk hRi
        have HH := Aside0.mk hH
        have HOI := Aside0.mk hoki
        have HLE := Aside0.mk hle
        clear hcl hcc hoki hH hRi hmk hle
        go_wp2_with (go_at_call 72; refine (laws_markByteS.calls (xs[i].length + 1) oki vi xs[i] (m + (tot (xs.take i) : Int)) _ _ w0 _ (lq HBr.out) (rq HRI.out) HMK.out).mono ?_; rintro e w1 ⟨rfl, hR1, hB1, hK1⟩; have HR1 := Aside0.mk hR1; have HB1 := Aside0.mk hB1; have HK1 := Aside0.mk hK1; clear hR1 hB1 hK1)
        go_roundg (xs.length - (i + 1))
        case measure => omega
        case rel =>
          have hF := Fr.of_kept HK1.out (lq HBr.out) HB1.out
          have hH1 := Kd.H_step (Kd.H_drewN HH.out 0) (w1 := w1) (fun k hk hn hlt => by
            have := HK1.out.2 k (by simpa using hlt) hn
            simpa using this)
          have hT := Kd.R_tight rfl HR1.out
          have hb := Kd.H_back hH1 (x' := marks (· % 256) (m + (tot (xs.take i) : Int)) xs[i].length) (okp := fun k => some k = vi.ownBlock) ⟨vi, rfl, hT⟩ (fun k hk => HRI.out.1 k hk.symm)
          rw [Int.toNat_natCast, cur_set m xs i hlt] at hb
          exact ⟨i + 1, by omega, by omega, by rw [tot_take xs i hlt]; congr 1; omega, by go_num, ⟨hb⟩, ⟨(fq HFr.out).trans hF (fun k hk => .inl ((HOI.out k hk).1))⟩, HB1⟩
      · have hltz : ¬ (i : Int) < (xs.length : Int) := by omega
        obtain rfl : i = xs.length := by omega
        go_wp2
        go_ret
        have e1 : xs.take xs.length = xs := List.take_length
        have e2 : xs.drop xs.length = [] := List.drop_length
        have hS := HSr.out
        rw [e1, e2, List.append_nil] at hS
        exact ⟨rfl, hS, HFr.out⟩
  · have hx : xs = [] := List.eq_nil_of_length_eq_zero (by omega)
    subst hx
    obtain ⟨A, c, rfl⟩ := Kd.S_slice hS
    have HS := Aside0.mk hS
    clear hS hB hp
    go_enter Try.func49, Try.ntmps49
    go_wp2
    go_loopg [1, 5] 0 (fun gg s1 s5 wr => s1 = .int .i64 m ∧ s5 = .int .i64 0 ∧ W = wr)
    case atStart => exact ⟨rfl, rfl, rfl⟩
    case round =>
      obtain ⟨rfl, rfl, rfl⟩ := hrel
      go_wp2
      go_ret
      exact ⟨by simp [tot], HS.out, Fr.refl _ _⟩
/-- A guest in memory of one's own, made within lo to hi. -/
structure Gst (w0 W : World) (lo hi : Nat) (v0 v2 : Value) (r : List Int) (ram : List (List Int)) : Prop where
  r0 : Kd.R (Kd.int .u32) 23 W w0.heap.size (fun k => lo ≤ k ∧ k < hi) v0 r
  r2 : Kd.S (Kd.slice 5 (Kd.int .u8)) 68 W w0.heap.size (fun k => lo ≤ k ∧ k < hi) v2 ram
  ge : w0.heap.size ≤ lo
  le : hi ≤ W.heap.size
section
variable {w0 W W' : World} {lo hi : Nat} {v0 v2 : Value} {r : List Int} {ram : List (List Int)} {S : Nat → Prop}
theorem Gst.new (h0 : Kd.R (Kd.int .u32) 23 W' W.heap.size (fun _ => True) v0 r) (h2 : Kd.S (Kd.slice 5 (Kd.int .u8)) 68 W' W.heap.size (fun _ => True) v2 ram) (hB : Below w0.heap.size w0 W) : Gst w0 W' W.heap.size W'.heap.size v0 v2 r ram :=
  ⟨Kd.R_lower (Kd.R_mono (R_in h0) (fun k hk => hk.2)) hB.size, Kd.S_lower (Kd.S_mono (Kd.S_bound h2) (fun k hk => ⟨hk.2.1, hk.2.2.1⟩)) hB.size, hB.size, Nat.le_refl _⟩
theorem Gst.fr (h : Gst w0 W lo hi v0 v2 r ram) (f : Fr S W W') (hS : ∀ k, lo ≤ k → k < hi → ¬ S k) : Gst w0 W' lo hi v0 v2 r ram :=
  ⟨f.R h.r0 (fun k hk => hS k hk.1 hk.2), Kd.S_step h.r2 (fun k hk hlt => f.block k hlt (hS k hk.1 hk.2)), h.ge, Nat.le_trans h.le f.size⟩
theorem Gst.below (h : Gst w0 W lo hi v0 v2 r ram) (hb : Below W.heap.size W W') : Gst w0 W' lo hi v0 v2 r ram := h.fr (Fr.of_below (fun _ => False) hb) (fun _ _ _ h => h)
theorem gq (h : Gst w0 W lo hi v0 v2 r ram) [q : Quiet W W'] : Gst w0 W' lo hi v0 v2 r ram := h.below q.go
theorem Gst.form (h : Gst w0 W lo hi v0 v2 r ram) : ∃ A0 c0 A2 c2, v0 = .slice A0 r.length c0 ∧ v2 = .slice A2 ram.length c2 ∧ r.length ≤ c0 ∧ ram.length ≤ c2 ∧ Kd.C (Kd.int .u32) W A0 r.length r ∧ Kd.C (Kd.slice 5 (Kd.int .u8)) W A2 ram.length ram := by
  obtain ⟨A0, c0, rfl⟩ := Kd.R_slice h.r0
  obtain ⟨A2, c2, rfl⟩ := Kd.S_slice h.r2
  exact ⟨A0, c0, A2, c2, rfl, rfl, (Kd.R_reads' h.r0).2.1, (Kd.S_reads' h.r2).2.1, (Kd.R_reads' h.r0).2.2, (Kd.S_reads' h.r2).2.2⟩
end
set_option maxHeartbeats 8000000 in
set_option maxRecDepth 100000 in
theorem markG_calls (w0 W : World) (lo hi : Nat) (v0 v2 : Value) (r : List Int) (p : Int) (ram : List (List Int)) (m : Int) (hB : Below w0.heap.size w0 W) (hG : Gst w0 W lo hi v0 v2 r ram) (h0 : 0 ≤ m) (hm : m + (r.length : Int) + (ram.length : Int) + (tot ram : Int) ≤ 9000000) :
    Calls Try.prog 15 #[.agg #[v0, .int .u32 p, v2], .int .i64 m] W fun e w' => e = .returned (.int .i64 (m + (r.length : Int) + (tot ram : Int))) ∧ Gst w0 w' lo hi v0 v2 (marks (· % 4294967296) m r.length) (marksB (m + (r.length : Int)) ram) ∧ Fr (fun k => lo ≤ k ∧ k < hi) W w' := by
  have hu28 := Try.underlying28
  have HG := Aside0.mk hG
  have HB := Aside0.mk hB
  have HM := Aside0.mk hm
  have hmk := mark_u r m h0 (by omega) (by omega) (r.length + 1) (by omega)
  have HMK := Aside0.mk hmk
  obtain ⟨A0, c0, A2, c2, rfl, rfl, _, _, _, _⟩ := hG.form
  clear hG hB hm hmk
  have hS2 := Kd.S_apart' HG.out.r2 (Kd.R_typed HG.out.r0) (by decide)
  have HS2 := Aside0.mk hS2
  clear hS2
  go_enter Try.func15, Try.ntmps15
  go_wp2_with (first | (go_at_call 48; refine (laws_markUint32S.calls (r.length + 1) (fun k => some k = (Value.slice A0 r.length c0).ownBlock) _ r m _ _ w0 _ (lq HB.out) (rq (Kd.R_tight rfl HG.out.r0)) HMK.out).mono ?_; rintro e w1 ⟨rfl, hR1, hB1, hK1⟩; have HR1 := Aside0.mk (Kd.R_tight rfl hR1); have HB1 := Aside0.mk hB1; have HF1 := Aside0.mk (((Fr.refl (fun k => some k = (Value.slice A0 r.length c0).ownBlock) W).alloc (.cells #[.slice A0 r.length c0, .int .u32 p, .slice A2 ram.length c2] 28)).trans (Fr.of_kept hK1 (lq HB.out) hB1) (fun _ h => .inl h)); have K1 := Aside0.mk ((Fr.of_kept hK1 (lq HB.out) hB1).blk at1_0 (fun h => by have := HG.out.r0.1 _ h.symm; have := HG.out.le; omega)); clear hR1 hB1 hK1; have z0 := kc K1.out 0 rfl; have z1 := kc K1.out 1 rfl; have z2 := kc K1.out 2 rfl) | (go_at_call 49; refine (markSS_calls _ ram (fun k => (lo ≤ k ∧ k < hi) ∧ some k ≠ (Value.slice A0 r.length c0).ownBlock) (m + (r.length : Int)) w0 _ (lq HB1.out) (fun k hk => Nat.le_trans HG.out.ge hk.1.1) (Kd.S_step HS2.out (fun k hk hlt => (fq HF1.out).block k hlt hk.2)) (by omega) (by have := HM.out; omega) (by have := HM.out; omega)).mono ?_; rintro e w2 ⟨rfl, hS, hF⟩; have HS := Aside0.mk hS; have HF := Aside0.mk hF; clear hS hF))
  go_ret
  refine ⟨rfl, ⟨?_, Kd.S_mono HS.out (fun k hk => hk.1), HG.out.ge, Nat.le_trans HG.out.le (Nat.le_trans HF1.out.size HF.out.size)⟩, ?_⟩
  · have h1 := HF.out.R HR1.out (fun k hk hs => hs.2 hk)
    exact Kd.R_mono h1 (fun k hk => HG.out.r0.1 k hk.symm)
  · exact (HF1.out.mono (fun k hk => HG.out.r0.1 k hk.symm)).trans HF.out (fun k hk => .inl hk.1)
end Go.Proofs.Ytbcpkigeginmnaa.GF
end
section
namespace Go.Proofs.Ytbcpkigeginmnaa.GF
open Go.RowKit Go.Proofs.YtbcpkigeginmnaaW.PrintWords Go.Proofs.YtbcpkigeginmnaaW.PrintLast Go.Proofs.YtbcpkigeginmnaaW.PrintMore Go.Proofs.Ytbcpkigeginmnaa.Q Go.Proofs.Ytbcpkigeginmnaa.Hnd Go.Proofs.Ytbcpkigeginmnaa.Lst
set_option linter.unusedVariables false
set_option linter.unusedSimpArgs false
theorem Gst.wide {w0 W : World} {lo hi lo' hi' : Nat} {v0 v2 : Value} {r : List Int} {ram : List (List Int)} (h : Gst w0 W lo hi v0 v2 r ram) (h1 : lo' ≤ lo) (h2 : hi ≤ hi') (h3 : hi' ≤ W.heap.size) (h4 : w0.heap.size ≤ lo') : Gst w0 W lo' hi' v0 v2 r ram :=
  ⟨Kd.R_mono h.r0 (fun k hk => ⟨Nat.le_trans h1 hk.1, Nat.lt_of_lt_of_le hk.2 h2⟩), Kd.S_mono h.r2 (fun k hk => ⟨Nat.le_trans h1 hk.1, Nat.lt_of_lt_of_le hk.2 h2⟩), h4, h3⟩
theorem Fr.put3 {S : Nat → Prop} {a w : World} {g : Nat} (h : Fr S a w) (hg : S g ∨ a.heap.size ≤ g) (u0 u1 u2 : Value) : Fr S a (((w.setCell ⟨g, 0, none⟩ u0).setCell ⟨g, 1, none⟩ u1).setCell ⟨g, 2, none⟩ u2) :=
  ((h.set (p := ⟨g, 0, none⟩) hg u0).set (p := ⟨g, 1, none⟩) hg u1).set (p := ⟨g, 2, none⟩) hg u2
/-- A copy of a guest is the guest. -/
theorem clone_pure (r : List Int) (p : Int) (ram : List (List Int)) (hr : r.length ≤ 9000000) (hl : ram.length ≤ 9000000) (hb : ∀ x ∈ ram, x.length ≤ 9000000) (k : Nat) (hk : ram.length < k) : impl_cloneGuest.f k r p ram = some (r, p, ram) := by
  unfold impl_cloneGuest.f slices_Clone_uint32_uint32.f
  rw [if_pos (by omega), Option.bind_some]
  have main : ∀ (d k i : Nat), i ≤ ram.length → ram.length - i = d → d < k → impl_cloneGuest.l0 k ram (ram.length : Int) (i : Int) r p (ram.take i) = some (r, p, ram) := by
    intro d
    induction d with
    | zero =>
      intro k i hi hd hk
      obtain ⟨k, rfl⟩ : ∃ m, k = m + 1 := ⟨k - 1, by omega⟩
      simp only [impl_cloneGuest.l0]
      rw [if_neg (by omega), List.take_of_length_le (by omega)]
    | succ d ih =>
      intro k i hi hd hk
      obtain ⟨k, rfl⟩ : ∃ m, k = m + 1 := ⟨k - 1, by omega⟩
      have hlt : i < ram.length := by omega
      have e1 : wrap64 ((i : Int) + 1) = ((i + 1 : Nat) : Int) := by rw [wr (by omega) (by omega)]; omega
      have hx := hb ram[i] (List.getElem_mem _)
      have e2 : rd_L2 ram (i : Int) = ram[i] := by
        unfold rd_L2
        rw [Int.toNat_natCast, List.getD_eq_getElem?_getD, List.getElem?_eq_getElem hlt]
        rfl
      have c1 : (i : Int) < (ram.length : Int) := by omega
      have c2 : (0 : Int) ≤ (i : Int) := by omega
      have c3 : ram[i].length < 35184372088832 := by omega
      have c4 : (ram.take i).length < 5864062014805 := by rw [List.length_take]; omega
      simp only [impl_cloneGuest.l0]
      rw [if_pos c1, if_pos c2, if_pos c1, e2]
      unfold slices_Clone_byte_byte.f
      rw [if_pos c3, Option.bind_some, if_pos c4, e1, ← List.take_succ_eq_append_getElem hlt]
      exact ih k (i + 1) (by omega) (by omega) (by omega)
  exact main ram.length k 0 (by omega) (by omega) hk
theorem copy_pure (r : List Int) (p : Int) (ram : List (List Int)) (hr : r.length ≤ 9000000) (hl : ram.length ≤ 9000000) (hb : ∀ x ∈ ram, x.length ≤ 9000000) (k : Nat) (hk : ram.length < k) : spec_l08Copy.f k r p ram = some (r, p, ram) := by
  have main : ∀ (d k i : Nat), i ≤ ram.length → ram.length - i = d → d < k → spec_l08Ram.l0 k ram (ram.take i) (i : Int) = some ram := by
    intro d
    induction d with
    | zero =>
      intro k i hi hd hk
      obtain ⟨k, rfl⟩ : ∃ m, k = m + 1 := ⟨k - 1, by omega⟩
      simp only [spec_l08Ram.l0]
      rw [if_neg (by omega), List.take_of_length_le (by omega)]
    | succ d ih =>
      intro k i hi hd hk
      obtain ⟨k, rfl⟩ : ∃ m, k = m + 1 := ⟨k - 1, by omega⟩
      have hlt : i < ram.length := by omega
      have e1 : wrap64 ((i : Int) + 1) = ((i + 1 : Nat) : Int) := by rw [wr (by omega) (by omega)]; omega
      have hx := hb ram[i] (List.getElem_mem _)
      have e2 : rd_L2 ram (i : Int) = ram[i] := by
        unfold rd_L2
        rw [Int.toNat_natCast, List.getD_eq_getElem?_getD, List.getElem?_eq_getElem hlt]
        rfl
      have c1 : (i : Int) < (ram.length : Int) := by omega
      have c2 : (0 : Int) ≤ (i : Int) := by omega
      have c3 : ([] : List Int).length + ram[i].length < 140737488355328 := by simp; omega
      have c4 : (ram.take i).length < 5864062014805 := by rw [List.length_take]; omega
      simp only [spec_l08Ram.l0]
      rw [if_pos c1, Option.bind_some, if_pos c2, e2, if_pos c3, if_pos c4, e1, List.nil_append, ← List.take_succ_eq_append_getElem hlt]
      exact ih k (i + 1) (by omega) (by omega) (by omega)
  have h0 := main ram.length k 0 (by omega) (by omega) hk
  have c3 : ([] : List Int).length + r.length < 35184372088832 := by simp; omega
  unfold spec_l08Copy.f spec_l08Ram.f
  rw [Option.bind_some, if_pos c3, List.nil_append]
  rw [List.take_zero] at h0
  rw [show (0 : Int) = ((0 : Nat) : Int) from rfl, h0, Option.bind_some]
end Go.Proofs.Ytbcpkigeginmnaa.GF
end
