/- Caches in memory of one's own, and the marks that a law sets in them, walked by hand. -/
import Derived.Test.YtglehilfemfiiaaGUx0
import Derived.Test.YtglehilfemfiiaaGUx15
import Derived.Test.YtglehilfemfiiaaLst
import Derived.Test.YtglehilfemfiiaaLst2
import Derived.Test.YtglehilfemfiiaaHnd
namespace Go.Proofs.Ytglehilfemfiiaa.GU
open Go.RowKit Go.Proofs.YtglehilfemfiiaaW.PrintWords Go.Proofs.YtglehilfemfiiaaW.PrintLast Go.Proofs.YtglehilfemfiiaaW.PrintMore Go.Proofs.Ytglehilfemfiiaa.Q Go.Proofs.Ytglehilfemfiiaa.Hnd Go.Proofs.Ytglehilfemfiiaa.Lst
set_option linter.unusedVariables false
set_option linter.unusedSimpArgs false
/-- The way that the mark m makes. -/
def gW (m : Int) : S118 := ⟨m, (Int.tmod (m + 1) 3) == 0⟩
/-- How many ways rows hold. -/
def tot : List (List S118) → Nat
  | [] => 0
  | x :: t => x.length + tot t
theorem tot_append (a b : List (List S118)) : tot (a ++ b) = tot a + tot b := by
  induction a with
  | nil => simp [tot]
  | cons x t ih => simp [tot, ih]; omega
theorem tot_take (l : List (List S118)) (i : Nat) (hi : i < l.length) : tot (l.take (i + 1)) = tot (l.take i) + l[i].length := by
  rw [List.take_succ_eq_append_getElem hi, tot_append]
  simp [tot]
theorem tot_take_le (l : List (List S118)) (i : Nat) : tot (l.take i) ≤ tot l := by
  have := tot_append (l.take i) (l.drop i)
  rw [List.take_append_drop] at this
  omega
/-- Rows of ways, numbered on: two numbers a way. -/
def marksB (m : Int) : List (List S118) → List (List S118)
  | [] => []
  | x :: t => marksS gW 2 m x.length :: marksB (m + ((2 : Nat) : Int) * (x.length : Int)) t
theorem marksB_length (m : Int) (l : List (List S118)) : (marksB m l).length = l.length := by
  induction l generalizing m with
  | nil => rfl
  | cons x t ih => simp [marksB, ih]
theorem marksB_append (m : Int) (a b : List (List S118)) : marksB m (a ++ b) = marksB m a ++ marksB (m + ((2 : Nat) : Int) * (tot a : Int)) b := by
  induction a generalizing m with
  | nil => simp [marksB, tot]
  | cons x t ih =>
    simp only [List.cons_append, marksB, ih, tot]
    rw [show m + ((2 : Nat) : Int) * (x.length : Int) + ((2 : Nat) : Int) * (tot t : Int) = m + ((2 : Nat) : Int) * ((x.length + tot t : Nat) : Int) by omega]
theorem marksB_take (m : Int) (l : List (List S118)) (i : Nat) (hi : i < l.length) : marksB m (l.take (i + 1)) = marksB m (l.take i) ++ [marksS gW 2 (m + ((2 : Nat) : Int) * (tot (l.take i) : Int)) l[i].length] := by
  rw [List.take_succ_eq_append_getElem hi, marksB_append]
  rfl
theorem cur_set (m : Int) (l : List (List S118)) (i : Nat) (hi : i < l.length) : (marksB m (l.take i) ++ l.drop i).set i (marksS gW 2 (m + ((2 : Nat) : Int) * (tot (l.take i) : Int)) l[i].length) = marksB m (l.take (i + 1)) ++ l.drop (i + 1) := by
  have e : (marksB m (l.take i)).length = i := by rw [marksB_length, List.length_take]; omega
  rw [List.set_append_right _ _ (by omega), e, Nat.sub_self, List.drop_eq_getElem_cons hi, List.set_cons_zero, marksB_take m l i hi, List.append_assoc]
  rfl
theorem cur_get (m : Int) (l : List (List S118)) (i : Nat) (hi : i < l.length) : (marksB m (l.take i) ++ l.drop i).getD i [] = l[i] := by
  have e : (marksB m (l.take i)).length = i := by rw [marksB_length, List.length_take]; omega
  rw [List.getD_eq_getElem?_getD, List.getElem?_append_right (by omega), e, Nat.sub_self, List.getElem?_drop, Nat.add_zero, List.getElem?_eq_getElem hi]
  rfl
theorem mark_w (l : List S118) (m : Int) (h0 : 0 ≤ m) (hm : m ≤ 90000000) (hl : l.length ≤ 9000000) (k : Nat) (hk : l.length < k) : laws_markWayS.f k l m = some (m + ((2 : Nat) : Int) * (l.length : Int), marksS gW 2 m l.length) := by
  refine mark_allS laws_markWayS.l0 gW 2 (by decide) (fun k x0 m i h0 h1 hi hl => ?_) (fun k x0 m i hi => ?_) l m h0 hm hl k hk
  · have e1 : wrap64 (m + 1) = m + 1 := wr (by omega) (by omega)
    have e2 : wrap64 (m + 1 + 1) = m + 1 + 1 := wr (by omega) (by omega)
    have e4 : wrap64 ((i : Int) + 1) = ((i + 1 : Nat) : Int) := by rw [wr (by omega) (by omega)]; omega
    have c1 : (i : Int) < (x0.length : Int) := by omega
    have c2 : (0 : Int) ≤ (i : Int) := by omega
    have g1 : ∀ (y : List S118) (v : S118), i < y.length → rd_T118 (y.set i v) (i : Int) = v := by
      intro y v hy
      unfold rd_T118
      rw [Int.toNat_natCast, List.getD_eq_getElem?_getD, List.getElem?_set_self hy]
      rfl
    simp only [laws_markWayS.l0, Option.bind_some]
    rw [if_pos c1, if_pos c2]
    simp only [Int.toNat_natCast, e1, e2, e4, List.set_set, g1 _ _ hi]
    rw [show m + ((2 : Nat) : Int) = m + 1 + 1 from by omega]
    rfl
  · simp only [laws_markWayS.l0]
    rw [if_neg (by omega)]
theorem Fr.of_kept {S : Nat → Prop} {w0 w w' : World} (hk : Kept w w' S) (h0 : Below w0.heap.size w0 w) (h1 : Below w0.heap.size w0 w') : Fr S w w' :=
  ⟨h1.os.trans h0.os.symm, h1.tape.trans h0.tape.symm, h1.output.trans h0.output.symm, hk.1, hk.2⟩
set_option maxHeartbeats 8000000 in
set_option maxRecDepth 100000 in
theorem markSS_calls (v : Value) (xs : List (List S118)) (ok : Nat → Prop) (m : Int) (w0 W : World) (hB : Below w0.heap.size w0 W) (hok : ∀ k, ok k → w0.heap.size ≤ k) (hS : Kd.S (Kd.slice 118 k118) 116 W w0.heap.size ok v xs) (h0 : 0 ≤ m) (hm : m + ((2 : Nat) : Int) * (tot xs : Int) ≤ 9000000) (hlen : xs.length ≤ 9000000) :
    Calls Try.prog 91 #[v, .int .i64 m] W fun e w' => e = .returned (.int .i64 (m + ((2 : Nat) : Int) * (tot xs : Int))) ∧ Kd.S (Kd.slice 118 k118) 116 w' w0.heap.size ok v (marksB m xs) ∧ Fr ok W w' := by
  have HOK := Aside0.mk hok
  have HM := Aside0.mk hm
  have HB0 := Aside0.mk hB
  clear hok hm
  by_cases hp : 0 < xs.length
  · obtain ⟨g, cap, rfl, _, _, _⟩ := Kd.S_form hS hp
    have HS := Aside0.mk hS
    have hli : (xs.length : Int) ≤ 9000000 := by omega
    clear hS hB hp
    go_enter Try.func91, Try.ntmps91
    go_wp2
    go_loopg [1, 5] xs.length (fun gg s1 s5 wr => ∃ i : Nat, i ≤ xs.length ∧ xs.length - i ≤ gg ∧ s1 = .int .i64 (m + ((2 : Nat) : Int) * (tot (xs.take i) : Int)) ∧ s5 = .int .i64 (i : Int) ∧ Aside0 (Kd.S (Kd.slice 118 k118) 116 wr w0.heap.size ok (.slice (some ⟨g, 0, none⟩) xs.length cap) (marksB m (xs.take i) ++ xs.drop i)) ∧ Aside0 (Fr ok W wr) ∧ Aside0 (Below w0.heap.size w0 wr))
    case atStart => exact ⟨0, by omega, by omega, by simp [tot], rfl, ⟨by simpa [marksB] using HS.out⟩, ⟨Fr.refl _ _⟩, HB0⟩
    case round =>
      obtain ⟨i, hi, hg, rfl, rfl, HSr, HFr, HBr⟩ := hrel
      clear HS
      by_cases hlt : i < xs.length
      · have hltz : (i : Int) < (xs.length : Int) := by omega
        have hz : (0 : Int) ≤ (i : Int) := by omega
        obtain ⟨oki, c, hcl, hM, hcc, hoki, hH⟩ := Kd.S_lend HSr.out [] (i : Int) hz hltz
        rw [Int.toNat_natCast, cur_get m xs i hlt] at hM
        obtain ⟨vi, rfl, hRi⟩ := hM
        have hx := hcc 0 _ rfl
        rw [Int.toNat_natCast, show (Kd.slice 118 k118).sz = 1 from rfl, Nat.mul_one, Nat.add_zero] at hx
        have hle := tot_take_le xs (i + 1)
        rw [tot_take xs i hlt] at hle
        have hmk := mark_w xs[i] (m + ((2 : Nat) : Int) * (tot (xs.take i) : Int)) (by omega) (by have := HM.out; omega) (by have := HM.out; omega) (xs[i].length + 1) (by omega)
        have HMK := Aside0.mk hmk
        have HRI := Aside0.mk hRi
        have HH := Aside0.mk hH
        have HOI := Aside0.mk hoki
        have HLE := Aside0.mk hle
        clear hcl hcc hoki hH hRi hmk hle
        go_wp2_with (go_at_call 109; refine (laws_markWayS.calls (xs[i].length + 1) oki vi xs[i] (m + ((2 : Nat) : Int) * (tot (xs.take i) : Int)) _ _ w0 _ (lq HBr.out) (rq HRI.out) HMK.out).mono ?_; rintro e w1 ⟨rfl, hR1, hB1, hK1⟩; have HR1 := Aside0.mk hR1; have HB1 := Aside0.mk hB1; have HK1 := Aside0.mk hK1; clear hR1 hB1 hK1)
        go_roundg (xs.length - (i + 1))
        case measure => omega
        case rel =>
          have hF := Fr.of_kept HK1.out (lq HBr.out) HB1.out
          have hH1 := Kd.H_step (Kd.H_drewN HH.out 0) (w1 := w1) (fun k hk hn hlt => by
            have := HK1.out.2 k (by simpa using hlt) hn
            simpa using this)
          have hT := Kd.R_tight rfl HR1.out
          have hb := Kd.H_back hH1 (x' := marksS gW 2 (m + ((2 : Nat) : Int) * (tot (xs.take i) : Int)) xs[i].length) (okp := fun k => some k = vi.ownBlock) ⟨vi, rfl, hT⟩ (fun k hk => HRI.out.1 k hk.symm)
          rw [Int.toNat_natCast, cur_set m xs i hlt] at hb
          exact ⟨i + 1, by omega, by omega, by rw [tot_take xs i hlt]; congr 1; omega, by go_num, ⟨hb⟩, ⟨(fq HFr.out).trans hF (fun k hk => .inl ((HOI.out k hk).1))⟩, HB1⟩
      · have hltz : ¬ (i : Int) < (xs.length : Int) := by omega
        obtain rfl : i = xs.length := by omega
        go_wp2
        go_ret
        have e1 : xs.take xs.length = xs := List.take_length
        have e2 : xs.drop xs.length = [] := List.drop_length
        have hS := HSr.out
        rw [e1, e2, List.append_nil] at hS
        exact ⟨rfl, hS, HFr.out⟩
  · have hx : xs = [] := List.eq_nil_of_length_eq_zero (by omega)
    subst hx
    obtain ⟨A, c, rfl⟩ := Kd.S_slice hS
    have HS := Aside0.mk hS
    clear hS hB hp
    go_enter Try.func91, Try.ntmps91
    go_wp2
    go_loopg [1, 5] 0 (fun gg s1 s5 wr => s1 = .int .i64 m ∧ s5 = .int .i64 0 ∧ W = wr)
    case atStart => exact ⟨rfl, rfl, rfl⟩
    case round =>
      obtain ⟨rfl, rfl, rfl⟩ := hrel
      go_wp2
      go_ret
      exact ⟨by simp [tot], HS.out, Fr.refl _ _⟩
/-- Rows of a cache in memory of one's own, made within lo to hi. -/
structure Cst (w0 W : World) (lo hi : Nat) (v : Value) (rows : List (List S118)) : Prop where
  r : Kd.S (Kd.slice 118 k118) 116 W w0.heap.size (fun k => lo ≤ k ∧ k < hi) v rows
  ge : w0.heap.size ≤ lo
  le : hi ≤ W.heap.size
section
variable {w0 W W' : World} {lo hi lo' hi' : Nat} {v : Value} {rows : List (List S118)} {S : Nat → Prop}
theorem Cst.new (h : Kd.S (Kd.slice 118 k118) 116 W' W.heap.size (fun _ => True) v rows) (hB : Below w0.heap.size w0 W) : Cst w0 W' W.heap.size W'.heap.size v rows :=
  ⟨Kd.S_lower (Kd.S_mono (Kd.S_bound h) (fun k hk => ⟨hk.2.1, hk.2.2.1⟩)) hB.size, hB.size, Nat.le_refl _⟩
theorem Cst.fr (h : Cst w0 W lo hi v rows) (f : Fr S W W') (hS : ∀ k, lo ≤ k → k < hi → ¬ S k) : Cst w0 W' lo hi v rows :=
  ⟨Kd.S_step h.r (fun k hk hlt => f.block k hlt (hS k hk.1 hk.2)), h.ge, Nat.le_trans h.le f.size⟩
theorem Cst.below (h : Cst w0 W lo hi v rows) (hb : Below W.heap.size W W') : Cst w0 W' lo hi v rows := h.fr (Fr.of_below (fun _ => False) hb) (fun _ _ _ h => h)
theorem gq (h : Cst w0 W lo hi v rows) [q : Quiet W W'] : Cst w0 W' lo hi v rows := h.below q.go
theorem Cst.form (h : Cst w0 W lo hi v rows) : ∃ A c, v = .slice A rows.length c ∧ rows.length ≤ c ∧ Kd.C (Kd.slice 118 k118) W A rows.length rows := by
  obtain ⟨A, c, rfl⟩ := Kd.S_slice h.r
  exact ⟨A, c, rfl, (Kd.S_reads' h.r).2.1, (Kd.S_reads' h.r).2.2⟩
theorem Cst.wide (h : Cst w0 W lo hi v rows) (h1 : lo' ≤ lo) (h2 : hi ≤ hi') (h3 : hi' ≤ W.heap.size) (h4 : w0.heap.size ≤ lo') : Cst w0 W lo' hi' v rows :=
  ⟨Kd.S_mono h.r (fun k hk => ⟨Nat.le_trans h1 hk.1, Nat.lt_of_lt_of_le hk.2 h2⟩), h4, h3⟩
end
set_option maxHeartbeats 8000000 in
set_option maxRecDepth 100000 in
theorem markC_calls (w0 W : World) (lo hi : Nat) (p0 p1 p2 : Int) (v : Value) (rows : List (List S118)) (m : Int) (hB : Below w0.heap.size w0 W) (hG : Cst w0 W lo hi v rows) (h0 : 0 ≤ m) (hm : m + ((2 : Nat) : Int) * (tot rows : Int) ≤ 9000000) (hl : rows.length ≤ 9000000) :
    Calls Try.prog 41 #[.agg #[.int .i64 p0, .int .i64 p1, .int .i64 p2, v], .int .i64 m] W fun e w' => e = .returned (.int .i64 (m + ((2 : Nat) : Int) * (tot rows : Int))) ∧ Cst w0 w' lo hi v (marksB m rows) ∧ Fr (fun k => lo ≤ k ∧ k < hi) W w' := by
  have hu70 := Try.underlying70
  have HG := Aside0.mk hG
  have HB := Aside0.mk hB
  have HM := Aside0.mk hm
  have HL := Aside0.mk hl
  obtain ⟨A, c, rfl, _, _⟩ := hG.form
  clear hG hB hm hl
  go_enter Try.func41, Try.ntmps41
  go_wp2_with (go_at_call 91; refine (markSS_calls _ rows (fun k => lo ≤ k ∧ k < hi) m w0 _ (lq HB.out) (fun k hk => Nat.le_trans HG.out.ge hk.1) (gq HG.out).r h0 HM.out HL.out).mono ?_; rintro e w2 ⟨rfl, hS, hF⟩; have HS := Aside0.mk hS; have HF := Aside0.mk hF; clear hS hF)
  go_ret
  exact ⟨rfl, ⟨HS.out, HG.out.ge, Nat.le_trans (gq HG.out).le HF.out.size⟩, (fq (Fr.refl (fun k => lo ≤ k ∧ k < hi) W)).trans HF.out (fun k hk => .inl hk)⟩
end Go.Proofs.Ytglehilfemfiiaa.GU
