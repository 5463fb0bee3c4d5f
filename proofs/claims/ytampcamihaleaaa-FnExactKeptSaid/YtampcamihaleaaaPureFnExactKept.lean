/- The pure statement of the law FnExactKept: what the given program's function and the reference's come to is the same, for all plain data. No condition. -/
import Derived.Test.YtampcamihaleaaaAidWJ
import Derived.Test.YtampcamihaleaaaGJx7
import Derived.Test.YtampcamihaleaaaGJx8
import Derived.Test.YtampcamihaleaaaKepJ
import Derived.Test.YtampcamihaleaaaLst2
namespace Go.Proofs.Ytampcamihaleaaa.Pure
open Go.RowKit Go.Proofs.Ytampcamihaleaaa Go.Proofs.Ytampcamihaleaaa.AidWJ Go.Proofs.Ytampcamihaleaaa.GJ Go.Proofs.Ytampcamihaleaaa.Lst Go.Proofs.YtampcamihaleaaaW.PrintWords Go.Proofs.YtampcamihaleaaaW.PrintLast Go.Proofs.YtampcamihaleaaaW.PrintMore
set_option linter.unusedVariables false
set_option linter.unusedSimpArgs false
def winM (m : Int) : S41 := ⟨m, m + 1, m + 2⟩
theorem mark_w (l : List S41) (hl : l.length ≤ 9000000) (k : Nat) (hk : l.length < k) : laws_markWindowS.f k l 1 = some (1 + ((3 : Nat) : Int) * (l.length : Int), marksS winM 3 1 l.length) := by
  refine mark_allS laws_markWindowS.l0 winM 3 (by decide) (fun k x0 m i h0 h1 hi hl => ?_) (fun k x0 m i hi => ?_) l 1 (by decide) (by decide) hl k hk
  · have e1 : wrap64 (m + 1) = m + 1 := wr (by omega) (by omega)
    have e2 : wrap64 (m + 1 + 1) = m + 1 + 1 := wr (by omega) (by omega)
    have e3 : wrap64 (m + 1 + 1 + 1) = m + 1 + 1 + 1 := wr (by omega) (by omega)
    have e4 : wrap64 ((i : Int) + 1) = ((i + 1 : Nat) : Int) := by rw [wr (by omega) (by omega)]; omega
    have c1 : (i : Int) < (x0.length : Int) := by omega
    have c2 : (0 : Int) ≤ (i : Int) := by omega
    have g1 : ∀ (y : List S41) (v : S41), i < y.length → rd_T41 (y.set i v) (i : Int) = v := by
      intro y v hy
      unfold rd_T41
      rw [Int.toNat_natCast, List.getD_eq_getElem?_getD, List.getElem?_set_self hy]
      rfl
    unfold winM
    simp only [laws_markWindowS.l0, Option.bind_some]
    rw [if_pos c1, if_pos c2]
    simp only [Int.toNat_natCast, e1, e2, e3, e4, List.set_set, List.length_set, g1 _ _ hi]
    first
    | (rw [show m + ((3 : Nat) : Int) = m + 1 + 1 + 1 from by omega, show m + 2 = m + 1 + 1 from by omega]; done)
    | (rw [show m + ((3 : Nat) : Int) = m + 1 + 1 + 1 from by omega, show m + 2 = m + 1 + 1 from by omega]; simp [g1, hi, List.set_set])
  · simp only [laws_markWindowS.l0]
    rw [if_neg (by omega)]
theorem held_w (n : Nat) (hl : n ≤ 9000000) (k : Nat) (hk : n < k) : laws_heldWindowS.f k (marksS winM 3 1 n) 1 = some (1 + ((3 : Nat) : Int) * (n : Int)) := by
  refine held_allS laws_heldWindowS.l0 winM 3 (by decide) (fun k x0 m i h0 h1 hi hl => ?_) (fun k x0 m i hi => ?_) 1 n (by decide) (by decide) hl k hk
  · have hlt : i < x0.length := (List.getElem?_eq_some_iff.1 hi).1
    have e : rd_T41 x0 (i : Int) = winM m := by
      unfold rd_T41
      rw [Int.toNat_natCast, List.getD_eq_getElem?_getD, hi]
      rfl
    have e1 : wrap64 (m + 1) = m + 1 := wr (by omega) (by omega)
    have e2 : wrap64 (m + 1 + 1) = m + 1 + 1 := wr (by omega) (by omega)
    have e3 : wrap64 (m + 1 + 1 + 1) = m + 1 + 1 + 1 := wr (by omega) (by omega)
    have e4 : wrap64 ((i : Int) + 1) = ((i + 1 : Nat) : Int) := by rw [wr (by omega) (by omega)]; omega
    have c1 : (i : Int) < (x0.length : Int) := by omega
    have c2 : (0 : Int) ≤ (i : Int) := by omega
    have c3 : (winM m).f2 = m + 1 + 1 := by show m + 2 = m + 1 + 1; omega
    simp only [laws_heldWindowS.l0]
    rw [if_pos c1, if_pos c2, e1, e2, e3, e4, e, if_pos (show (winM m).f0 = m from rfl), if_pos (show (winM m).f1 = m + 1 from rfl), if_pos c3, show m + 1 + 1 + 1 = m + ((3 : Nat) : Int) from by omega]
  · simp only [laws_heldWindowS.l0]
    rw [if_neg (by omega)]
/-- The kind's bit of weight b is asked, and the window lacks it. -/
def bad (kind perm b : Int) : Bool := decide (Int.tmod (wrap64 (Int.tdiv kind b)) 2 = 1) && decide (Int.tmod (wrap64 (Int.tdiv perm b)) 2 = 0)
theorem l1_one (k : Nat) (x0 : List S41) (kind : Int) (acc : List S41) (i : Nat) (hi : i < x0.length) (a : Bool) (b : Int) (h4 : b ≤ 4) (h0 : b ≠ 0) :
    spec_Kept.l1 (k + 1) x0 kind acc (i : Int) a b = spec_Kept.l1 k x0 kind acc (i : Int) (a && !(bad kind (rd_T41 x0 (i : Int)).f2 b)) (wrap64 (2 * b)) := by
  have c1 : (i : Int) < (x0.length : Int) := by omega
  have c2 : (0 : Int) ≤ (i : Int) := by omega
  simp only [spec_Kept.l1]
  rw [if_pos h4, if_neg h0]
  unfold bad
  by_cases h1 : Int.tmod (wrap64 (Int.tdiv kind b)) 2 = 1
  · rw [if_pos h1, if_pos c2, if_pos c1]
    by_cases h2 : Int.tmod (wrap64 (Int.tdiv (rd_T41 x0 (i : Int)).f2 b)) 2 = 0
    · rw [if_pos h2, decide_eq_true h1, decide_eq_true h2]
      simp
    · rw [if_neg h2, decide_eq_true h1, decide_eq_false h2]
      simp
  · rw [if_neg h1, decide_eq_false h1]
    simp
theorem bad_all (kind perm : Int) (hk : 1 ≤ kind ∧ kind ≤ 7) (hp : 1 ≤ perm ∧ perm ≤ 7) : (((true && !(bad kind perm 1)) && !(bad kind perm 2)) && !(bad kind perm 4)) = !(bits .and .i64 perm kind != kind) := by
  have k7 : kind = 1 ∨ kind = 2 ∨ kind = 3 ∨ kind = 4 ∨ kind = 5 ∨ kind = 6 ∨ kind = 7 := by omega
  have p7 : perm = 1 ∨ perm = 2 ∨ perm = 3 ∨ perm = 4 ∨ perm = 5 ∨ perm = 6 ∨ perm = 7 := by omega
  rcases k7 with rfl | rfl | rfl | rfl | rfl | rfl | rfl <;> rcases p7 with rfl | rfl | rfl | rfl | rfl | rfl | rfl
  all_goals clear hk hp
  all_goals (refine Eq.trans (b := _) ?_ rfl; kernel_rfl)
theorem kept_l0 (l : List S41) (kind : Int) (hk : 1 ≤ kind ∧ kind ≤ 7) (hw : ∀ x ∈ l, 1 ≤ x.f2 ∧ x.f2 ≤ 7) (hl : l.length ≤ 4) : ∀ (d k i : Nat) (acc : List S41), i ≤ l.length → l.length - i = d → 6 * d < k → acc.length ≤ i → spec_Kept.l0 k l kind acc (i : Int) = some (acc ++ (l.drop i).filter (fun v => !(lacks kind v))) := by
  intro d
  induction d with
  | zero =>
    intro k i acc hi hd hk ha
    obtain ⟨k, rfl⟩ : ∃ m, k = m + 1 := ⟨k - 1, by omega⟩
    have hz : ¬ (i : Int) < (l.length : Int) := by omega
    simp only [spec_Kept.l0]
    rw [if_neg hz, List.drop_of_length_le (by omega)]
    simp
  | succ d ih =>
    intro k i acc hi hd hk' ha
    obtain ⟨k, rfl⟩ : ∃ m, k = m + 5 := ⟨k - 5, by omega⟩
    have hlt : i < l.length := by omega
    have c1 : (i : Int) < (l.length : Int) := by omega
    have c2 : (0 : Int) ≤ (i : Int) := by omega
    have c3 : acc.length < 5864062014805 := by omega
    have hd2 : l.drop i = rd_T41 l (i : Int) :: l.drop (i + 1) := by
      rw [List.drop_eq_getElem_cons hlt]
      congr 1
      have := rd41 l i hlt
      rw [List.getElem?_eq_getElem hlt] at this
      exact Option.some.inj this
    have hp := hw _ (List.mem_of_getElem? (rd41 l i hlt))
    have hba := bad_all kind (rd_T41 l (i : Int)).f2 hk hp
    have r1 := ih k (i + 1) (acc ++ [rd_T41 l (i : Int)]) (by omega) (by omega) (by omega) (by simp; omega)
    have r2 := ih k (i + 1) acc (by omega) (by omega) (by omega) (by omega)
    have hlk : lacks kind (rd_T41 l (i : Int)) = (bits .and .i64 (rd_T41 l (i : Int)).f2 kind != kind) := rfl
    have w1 : wrap64 (2 * 1) = 2 := wr (by decide) (by decide)
    have w2 : wrap64 (2 * 2) = 4 := wr (by decide) (by decide)
    have w4 : wrap64 (2 * 4) = 8 := wr (by decide) (by decide)
    have hwi : wrap64 ((i : Int) + 1) = ((i + 1 : Nat) : Int) := wr_succ i (by omega)
    simp only [spec_Kept.l0]
    rw [if_pos c1, l1_one (k + 3) l kind acc i hlt true 1 (by decide) (by decide), w1, l1_one (k + 2) l kind acc i hlt _ 2 (by decide) (by decide), w2, l1_one (k + 1) l kind acc i hlt _ 4 (by decide) (by decide), w4, hba, ← hlk, hd2, List.filter_cons]
    simp only [spec_Kept.l1]
    rw [if_neg (by decide)]
    by_cases h : lacks kind (rd_T41 l (i : Int)) = true
    · rw [h, if_neg (by decide), hwi, r2, if_neg (by decide)]
    · have h' : lacks kind (rd_T41 l (i : Int)) = false := by simpa using h
      rw [h', if_pos (by decide), if_pos c2, if_pos c1, if_pos c3, hwi, if_pos (by decide)]
      rw [r1]
      simp
theorem kept_s (l : List S41) (hl : ∀ x ∈ l, WfW x) (kind : Int) (k : Nat) (hk : 5000 ≤ k) : spec_Kept.f k l kind = impl_Kept.f l kind := by
  obtain ⟨k, rfl⟩ : ∃ m, k = m + 1 := ⟨k - 1, by omega⟩
  unfold spec_Kept.f impl_Kept.f
  rw [Option.bind_some, windows_s l hl (k + 1) (by omega), Option.bind_some]
  by_cases hA : areWB l = true
  · rw [if_pos hA, in_s, Option.bind_some]
    simp only [spec_Kept.j0]
    by_cases hk : 1 ≤ kind ∧ kind ≤ 7
    · have hb : ¬ (!decide (1 ≤ kind ∧ kind ≤ 7)) = true := by simp [hk]
      have hw := areW_win hl hA
      have hl4 := areW_len hA
      rw [if_neg hb, if_pos ⟨hA, hk⟩]
      have hm := kept_l0 l kind hk (fun x hx => ⟨(hw x hx).2.2.2.2.2.1, (hw x hx).2.2.2.2.2.2⟩) hl4 l.length k 0 [] (Nat.zero_le _) (by omega) (by omega) (Nat.le_refl _)
      rw [show ((0 : Nat) : Int) = 0 from rfl] at hm
      rw [hm]
      simp
    · have hb : (!decide (1 ≤ kind ∧ kind ≤ 7)) = true := by simp [hk]
      rw [if_pos hb, if_neg (fun x => hk x.2)]
  · rw [if_neg hA]
    simp only [spec_Kept.j0]
    rw [if_pos trivial, if_neg (fun x => hA x.1)]
theorem FnExactKept : ∀ (l0 : List (GJ.S45)) (a1 : Int), (l0.length ≤ maxLen ∧ ∀ x_ ∈ l0, ((Lit.int .i64 x_.f0).wf = true) ∧ (((Lit.int .i64 x_.f1).wf = true) ∧ ((Lit.int .i64 x_.f2).wf = true))) → ((Lit.int .i64 a1).wf = true) → ∃ k, GJ.laws_FnExactKept.f k l0 a1 = some true := by
  intro l0 kind ⟨hlen, hwf⟩ _
  obtain ⟨K, hK⟩ : ∃ K : Nat, K = 4000000 := ⟨_, rfl⟩
  refine ⟨K + 9, ?_⟩
  unfold laws_FnExactKept.f
  rw [sz_w l0 hlen 1048576 (by decide) (by decide), Option.bind_some]
  by_cases h : (1048576 : Int) < (l0.length : Int)
  · rw [if_pos h, if_pos (by decide)]
  · rw [if_neg h, if_neg (by omega)]
    have hto : ∀ k, laws_toWindowS.f (K + k) l0 = some (l0.map toW) := fun k => to_w l0 (by omega) (K + k) (by omega)
    obtain ⟨L, hL⟩ : ∃ L, L = l0.map toW := ⟨_, rfl⟩
    have hLl : L.length ≤ 1048576 := by rw [hL, List.length_map]; omega
    have hLw : ∀ x ∈ L, WfW x := hL ▸ map_wf l0 hwf
    rw [← hL] at hto
    obtain ⟨r, hr, hrl⟩ : ∃ r, impl_Kept.f L kind = some r ∧ r.length ≤ 1048576 := by
      refine ⟨_, rfl, ?_⟩
      split
      · exact Nat.le_trans (List.length_filter_le _ _) hLl
      · simp
    have hs : ∀ k, spec_Kept.f (K + k) L kind = some r := fun k => by rw [kept_s L hLw kind (K + k) (by omega), hr]
    have heq : ∀ k, laws_eqWindowS.f (K + k) r r = some true := fun k => eq_w r (by omega) (K + k) (by omega)
    have heo : ∀ k, laws_eqWindowS.f (K + k) L L = some true := fun k => eq_w L (by omega) (K + k) (by omega)
    have hmo : ∀ k, laws_markWindowS.f (K + k) L 1 = some (1 + ((3 : Nat) : Int) * (L.length : Int), marksS winM 3 1 L.length) := fun k => mark_w L (by omega) (K + k) (by omega)
    have hmr : ∀ k, laws_markWindowS.f (K + k) r 1 = some (1 + ((3 : Nat) : Int) * (r.length : Int), marksS winM 3 1 r.length) := fun k => mark_w r (by omega) (K + k) (by omega)
    have hhr : ∀ k, laws_heldWindowS.f (K + k) (marksS winM 3 1 r.length) 1 = some (1 + ((3 : Nat) : Int) * (r.length : Int)) := fun k => held_w r.length (by omega) (K + k) (by omega)
    have n1 : ¬ (1 + ((3 : Nat) : Int) * (L.length : Int) < 0) := by omega
    have n2 : ¬ (1 + ((3 : Nat) : Int) * (r.length : Int) < 0) := by omega
    simp only [hto, Option.bind_some, hs, hr, heq, if_true, heo, hmo, n1, if_false, laws_FnExactKept.j0, hmr, hhr, n2, Bool.not_true, Bool.false_eq_true]
end Go.Proofs.Ytampcamihaleaaa.Pure
