/- Plain laws of the health functions as they were told: what each of them comes to. No program in sight. -/
import Derived.Test.YtpdfihapnnnglaaGBx1
import Derived.Test.YtpdfihapnnnglaaGBx10
import Derived.Test.YtpdfihapnnnglaaGBx11
import Derived.Test.YtpdfihapnnnglaaGBx2
import Derived.Test.YtpdfihapnnnglaaGBx3
import Derived.Test.YtpdfihapnnnglaaGBx9
import Derived.Test.YtpdfihapnnnglaaLst
namespace Go.Proofs.Ytpdfihapnnnglaa.AidHB
open Go.RowKit Go.Proofs.Ytpdfihapnnnglaa Go.Proofs.Ytpdfihapnnnglaa.GB Go.Proofs.Ytpdfihapnnnglaa.Lst Go.Proofs.YtpdfihapnnnglaaW.PrintWords Go.Proofs.YtpdfihapnnnglaaW.PrintLast Go.Proofs.YtpdfihapnnnglaaW.PrintMore
theorem in_s (a b c : Int) : spec_l01In.f a b c = some (decide (b ≤ a ∧ a ≤ c)) := by
  unfold spec_l01In.f; split <;> simp_all <;> omega
theorem in_i (a b c : Int) : impl_within.f a b c = some (decide (b ≤ a ∧ a ≤ c)) := by
  unfold impl_within.f; split <;> simp_all <;> omega

/-! Health -/
def PolB (a b : Int) : Prop := a = 1 ∧ 0 ≤ b ∧ b ≤ 100 ∨ (a = 0 ∨ a = 2) ∧ b = 0
instance (a b : Int) : Decidable (PolB a b) := by unfold PolB; infer_instance
theorem pol_s (a b : Int) : spec_PolicyOk.f a b = some (decide (PolB a b)) := by
  unfold spec_PolicyOk.f
  simp only [in_s, Option.bind_some]
  by_cases h1 : a = 1
  · rw [if_pos h1]; refine congrArg some (decide_eq_decide.2 ?_); unfold PolB; omega
  · rw [if_neg h1]
    by_cases h2 : a = 0
    · rw [if_pos h2]; refine congrArg some ?_; rw [show (b == 0) = decide (b = 0) from rfl, decide_eq_decide]; unfold PolB; omega
    · rw [if_neg h2]
      by_cases h3 : a = 2
      · rw [if_pos h3]; refine congrArg some ?_; rw [show (b == 0) = decide (b = 0) from rfl, decide_eq_decide]; unfold PolB; omega
      · rw [if_neg h3]; refine congrArg some (decide_eq_false ?_).symm; unfold PolB; omega
theorem pol_i (a b : Int) : impl_isPolicy.f a b = some (decide (PolB a b)) := by
  have : impl_isPolicy.f a b = spec_PolicyOk.f a b := by
    unfold impl_isPolicy.f spec_PolicyOk.f
    simp only [in_s, in_i]
  rw [this, pol_s]
def HokB (f r l : Int) : Prop := 0 ≤ f ∧ f ≤ 1000000000 ∧ 0 ≤ r ∧ r ≤ 1000000000 ∧ 0 ≤ l ∧ l ≤ 9
instance (f r l : Int) : Decidable (HokB f r l) := by unfold HokB; infer_instance
theorem hok_s (f r l : Int) (h : Bool) : spec_HealthOk.f f r l h = some (decide (HokB f r l)) := by
  unfold spec_HealthOk.f
  simp only [in_s, Option.bind_some, decide_eq_true_eq]
  by_cases h1 : 0 ≤ f ∧ f ≤ 1000000000
  · rw [if_pos h1]
    by_cases h2 : 0 ≤ r ∧ r ≤ 1000000000
    · rw [if_pos h2]; refine congrArg some (decide_eq_decide.2 ?_); unfold HokB; omega
    · rw [if_neg h2]; refine congrArg some (decide_eq_false ?_).symm; unfold HokB; omega
  · rw [if_neg h1]; refine congrArg some (decide_eq_false ?_).symm; unfold HokB; omega
theorem hok_i (f r l : Int) (h : Bool) : impl_isHealth.f f r l h = some (decide (HokB f r l)) := by
  have : impl_isHealth.f f r l h = spec_HealthOk.f f r l h := by
    unfold impl_isHealth.f spec_HealthOk.f
    simp only [in_s, in_i]
  rw [this, hok_s]
/-- What a fault makes of a health, and the act. -/
def onF (a b f r l : Int) (h : Bool) (x : Int) : Int × Int × Int × Bool × Int :=
  if PolB a b ∧ HokB f r l ∧ (1 ≤ x ∧ x ≤ 9) ∧ h = false then
    if a = 2 then (if f < 1000000000 then f + 1 else f, r, x, false, 3)
    else if a = 1 ∧ r < b then (if f < 1000000000 then f + 1 else f, r + 1, x, false, 2)
    else (if f < 1000000000 then f + 1 else f, r, x, true, 1)
  else (f, r, l, h, 0)
theorem onF_s (a b f r l : Int) (h : Bool) (x : Int) (k : Nat) (hk : 2 ≤ k) : spec_OnFault.f k a b f r l h x = some (onF a b f r l h x) := by
  obtain ⟨k, rfl⟩ : ∃ m, k = m + 2 := ⟨k - 2, by omega⟩
  unfold spec_OnFault.f onF
  simp only [pol_s, hok_s, in_s, Option.bind_some, decide_eq_true_eq]
  by_cases h1 : PolB a b
  · rw [if_pos h1]
    by_cases h2 : HokB f r l
    · rw [if_pos h2]
      have h2' := h2
      unfold HokB at h2'
      by_cases h3 : 1 ≤ x ∧ x ≤ 9
      · rw [if_pos h3]
        cases h with
        | true => simp [spec_OnFault.j0]
        | false =>
          rw [if_pos ⟨h1, h2, h3, rfl⟩]
          have w1 : wrap64 (f + 1) = f + 1 := wr (by omega) (by omega)
          have w2 : wrap64 (r + 1) = r + 1 := wr (by omega) (by omega)
          simp only [spec_OnFault.j0, spec_OnFault.j1, Bool.false_eq_true, if_false, w1, w2]
          by_cases h4 : a = 2
          · simp only [h4, if_true]
            split <;> rfl
          · simp only [h4, if_false]
            by_cases h5 : a = 1
            · by_cases h6 : r < b
              · simp only [h5, h6, if_true, and_self]
                split <;> rfl
              · simp only [h5, h6, if_true, if_false, and_false]
                split <;> rfl
            · simp only [h5, if_false, false_and]
              split <;> rfl
      · rw [if_neg h3, if_neg (fun h => h3 h.2.2.1)]
        simp [spec_OnFault.j0]
    · rw [if_neg h2, if_neg (fun h => h2 h.2.1)]
      simp [spec_OnFault.j0]
  · rw [if_neg h1, if_neg (fun h => h1 h.1)]
    simp [spec_OnFault.j0]
theorem onF_i (a b f r l : Int) (h : Bool) (x : Int) : impl_OnFault.f a b f r l h x = some (onF a b f r l h x) := by
  unfold impl_OnFault.f onF
  simp only [pol_i, hok_i, in_i, Option.bind_some, decide_eq_true_eq]
  by_cases h1 : PolB a b
  · rw [if_pos h1]
    by_cases h2 : HokB f r l
    · rw [if_pos h2]
      have h2' := h2
      unfold HokB at h2'
      by_cases h3 : 1 ≤ x ∧ x ≤ 9
      · rw [if_pos h3]
        cases h with
        | true => simp
        | false =>
          rw [if_neg (by decide), if_pos ⟨h1, h2, h3, rfl⟩]
          have w1 : wrap64 (f + 1) = f + 1 := wr (by omega) (by omega)
          have w2 : wrap64 (r + 1) = r + 1 := wr (by omega) (by omega)
          have w3 : mn (f + 1) 1000000000 = if f < 1000000000 then f + 1 else f := by unfold mn; split <;> split <;> omega
          unfold impl_onFault.f
          simp only [w1, w2, w3]
          by_cases h4 : a = 2
          · simp only [h4, if_true, Option.bind_some]
          · simp only [h4, if_false]
            by_cases h5 : a = 1
            · by_cases h6 : r < b
              · simp only [h5, h6, if_true, and_self, Option.bind_some]
              · simp only [h5, h6, if_true, if_false, and_false, Option.bind_some]
            · simp only [h5, if_false, false_and, Option.bind_some]
      · rw [if_neg h3, if_neg (fun h => h3 h.2.2.1)]
    · rw [if_neg h2, if_neg (fun h => h2 h.2.1)]
  · rw [if_neg h1, if_neg (fun h => h1 h.1)]
/-- A run of faults: the health behind it, and the acts. -/
def runH (a b : Int) : Int × Int × Int × Bool → List Int → (Int × Int × Int × Bool) × List Int
  | s, [] => (s, [])
  | s, x :: xs =>
    ((runH a b ((onF a b s.1 s.2.1 s.2.2.1 s.2.2.2 x).1, (onF a b s.1 s.2.1 s.2.2.1 s.2.2.2 x).2.1, (onF a b s.1 s.2.1 s.2.2.1 s.2.2.2 x).2.2.1, (onF a b s.1 s.2.1 s.2.2.1 s.2.2.2 x).2.2.2.1) xs).1,
     (onF a b s.1 s.2.1 s.2.2.1 s.2.2.2 x).2.2.2.2 :: (runH a b ((onF a b s.1 s.2.1 s.2.2.1 s.2.2.2 x).1, (onF a b s.1 s.2.1 s.2.2.1 s.2.2.2 x).2.1, (onF a b s.1 s.2.1 s.2.2.1 s.2.2.2 x).2.2.1, (onF a b s.1 s.2.1 s.2.2.1 s.2.2.2 x).2.2.2.1) xs).2)
theorem runH_length (a b : Int) (xs : List Int) : ∀ s, (runH a b s xs).2.length = xs.length := by
  induction xs with
  | nil => intro s; rfl
  | cons x xs ih => intro s; simp [runH, ih]
def tellH (t : (Int × Int × Int × Bool) × List Int) (acc : List Int) : Int × Int × Int × Bool × List Int := (t.1.1, t.1.2.1, t.1.2.2.1, t.1.2.2.2, acc ++ t.2)
theorem drop_cons_rd (xs : List Int) (i : Nat) (hi : i < xs.length) : xs.drop i = rd xs (i : Int) :: xs.drop (i + 1) := by
  rw [List.drop_eq_getElem_cons hi]
  congr 1
  unfold rd
  rw [Int.toNat_natCast, List.getD_eq_getElem?_getD, List.getElem?_eq_getElem hi]
  rfl
theorem hrun_s (a b : Int) (xs : List Int) (hx : xs.length ≤ 9000000) (d : Nat) : ∀ (k i : Nat) (acc : List Int) (f r l : Int) (h : Bool), i ≤ xs.length → xs.length - i = d → d + 3 ≤ k → acc.length ≤ i →
    spec_HealthRun.l0 k xs acc (i : Int) a b f r l h = some (tellH (runH a b (f, r, l, h) (xs.drop i)) acc) := by
  induction d with
  | zero =>
    intro k i acc f r l h hi hd hk ha
    obtain ⟨k, rfl⟩ : ∃ m, k = m + 1 := ⟨k - 1, by omega⟩
    simp only [spec_HealthRun.l0]
    rw [if_neg (by omega), List.drop_of_length_le (by omega)]
    simp [runH, tellH]
  | succ d ih =>
    intro k i acc f r l h hi hd hk ha
    obtain ⟨k, rfl⟩ : ∃ m, k = m + 1 := ⟨k - 1, by omega⟩
    have hlt : i < xs.length := by omega
    have e1 : wrap64 ((i : Int) + 1) = ((i + 1 : Nat) : Int) := by rw [wr (by omega) (by omega)]; omega
    simp only [spec_HealthRun.l0]
    rw [if_pos (by omega), if_pos (by omega), onF_s _ _ _ _ _ _ _ k (by omega)]
    simp only [Option.bind_some]
    rw [if_pos (by omega), e1, ih k (i + 1) _ _ _ _ _ (by omega) (by omega) (by omega) (by simp; omega), drop_cons_rd xs i hlt]
    simp [runH, tellH]
theorem hrun_i (a b : Int) (xs : List Int) (hx : xs.length ≤ 9000000) (d : Nat) : ∀ (k i : Nat) (acc : List Int) (f r l : Int) (h : Bool), i ≤ xs.length → xs.length - i = d → d + 3 ≤ k → acc.length ≤ i →
    impl_HealthRun.l0 k acc xs (xs.length : Int) (i : Int) a b f r l h = some (tellH (runH a b (f, r, l, h) (xs.drop i)) acc) := by
  induction d with
  | zero =>
    intro k i acc f r l h hi hd hk ha
    obtain ⟨k, rfl⟩ : ∃ m, k = m + 1 := ⟨k - 1, by omega⟩
    simp only [impl_HealthRun.l0]
    rw [if_neg (by omega), List.drop_of_length_le (by omega)]
    simp [runH, tellH]
  | succ d ih =>
    intro k i acc f r l h hi hd hk ha
    obtain ⟨k, rfl⟩ : ∃ m, k = m + 1 := ⟨k - 1, by omega⟩
    have hlt : i < xs.length := by omega
    have e1 : wrap64 ((i : Int) + 1) = ((i + 1 : Nat) : Int) := by rw [wr (by omega) (by omega)]; omega
    simp only [impl_HealthRun.l0]
    rw [if_pos (by omega), if_pos (by omega), if_pos (by omega), onF_i]
    simp only [Option.bind_some]
    rw [if_pos (by omega), e1, ih k (i + 1) _ _ _ _ _ (by omega) (by omega) (by omega) (by simp; omega), drop_cons_rd xs i hlt]
    simp [runH, tellH]
/-- What HealthRun tells. -/
def hrun (a b : Int) (xs : List Int) : Int × Int × Int × Bool × List Int := if PolB a b ∧ xs.length ≤ 1000 then tellH (runH a b (0, 0, 0, false) xs) [] else (0, 0, 0, false, [])
theorem hall_s (a b : Int) (xs : List Int) (hx : xs.length ≤ 9000000) (k : Nat) (hk : 2000 ≤ k) : spec_HealthRun.f k a b xs = some (hrun a b xs) := by
  obtain ⟨k, rfl⟩ : ∃ m, k = m + 1 := ⟨k - 1, by omega⟩
  unfold spec_HealthRun.f hrun
  simp only [Option.bind_some, pol_s, decide_eq_true_eq]
  by_cases hp : PolB a b
  · rw [if_pos hp]
    by_cases hl : xs.length ≤ 1000
    · rw [if_pos ⟨hp, hl⟩]
      have hd : decide ((xs.length : Int) > 1000) = false := decide_eq_false (by omega)
      rw [hd]
      simp only [spec_HealthRun.j0, Bool.false_eq_true, if_false]
      have := hrun_s a b xs hx xs.length k 0 [] 0 0 0 false (by omega) (by omega) (by omega) (by simp)
      simpa using this
    · rw [if_neg (fun h => hl h.2)]
      have hd : decide ((xs.length : Int) > 1000) = true := decide_eq_true (by omega)
      rw [hd]
      simp [spec_HealthRun.j0]
  · rw [if_neg hp, if_neg (fun h => hp h.1)]
    simp [spec_HealthRun.j0]
theorem hall_i (a b : Int) (xs : List Int) (hx : xs.length ≤ 9000000) (k : Nat) (hk : 2000 ≤ k) : impl_HealthRun.f k a b xs = some (hrun a b xs) := by
  obtain ⟨k, rfl⟩ : ∃ m, k = m + 1 := ⟨k - 1, by omega⟩
  unfold impl_HealthRun.f hrun
  simp only [Option.bind_some, pol_i, decide_eq_true_eq]
  by_cases hp : PolB a b
  · rw [if_pos hp]
    by_cases hl : xs.length ≤ 1000
    · rw [if_pos ⟨hp, hl⟩]
      have hd : decide ((xs.length : Int) > 1000) = false := decide_eq_false (by omega)
      rw [hd]
      simp only [impl_HealthRun.j0, Bool.false_eq_true, if_false]
      have := hrun_i a b xs hx xs.length k 0 [] 0 0 0 false (by omega) (by omega) (by omega) (by simp)
      simpa using this
    · rw [if_neg (fun h => hl h.2)]
      have hd : decide ((xs.length : Int) > 1000) = true := decide_eq_true (by omega)
      rw [hd]
      simp [impl_HealthRun.j0]
  · rw [if_neg hp, if_neg (fun h => hp h.1)]
    simp [impl_HealthRun.j0]
theorem hrun_len (a b : Int) (xs : List Int) : (hrun a b xs).2.2.2.2.length ≤ 1000 := by
  unfold hrun
  split
  · rename_i h; simp [tellH, runH_length]; exact h.2
  · simp
theorem to_int_s (l : List Int) (hl : l.length ≤ 9000000) (k : Nat) (hk : l.length < k) : laws_toIntS.f k l = some l := by
  unfold laws_toIntS.f
  rw [if_pos (by omega), if_pos (by omega)]
  exact to_int laws_toIntS.l0 (fun _ _ _ _ => rfl) l (by omega) k hk
theorem eq_int_s (l : List Int) (hl : l.length ≤ 9000000) (k : Nat) (hk : l.length < k) : laws_eqIntS.f k l l = some true := by
  unfold laws_eqIntS.f
  rw [if_pos rfl]
  exact eq_int laws_eqIntS.l0 (fun _ _ _ _ => rfl) l (by omega) k hk
theorem mark_int_s (l : List Int) (m : Int) (h0 : 0 ≤ m) (hm : m ≤ 90000000) (hl : l.length ≤ 9000000) (k : Nat) (hk : l.length < k) : laws_markIntS.f k l m = some (m + (l.length : Int), marks (fun x => x) m l.length) := by
  unfold laws_markIntS.f
  exact mark_all laws_markIntS.l0 (fun x => x) (fun _ _ _ _ => rfl) l m h0 (by omega) k hk
theorem held_int_s (m : Int) (n : Nat) (h0 : 0 ≤ m) (hm : m ≤ 90000000) (hl : n ≤ 9000000) (k : Nat) (hk : n < k) : laws_heldIntS.f k (marks (fun x => x) m n) m = some (m + (n : Int)) := by
  unfold laws_heldIntS.f
  exact held_int laws_heldIntS.l0 (fun x => x) (fun _ _ _ _ => rfl) m n h0 (by omega) k hk
theorem eq_health (f r l : Int) (h : Bool) : laws_eqHealth.f f r l h f r l h = some true := by
  unfold laws_eqHealth.f; simp
end Go.Proofs.Ytpdfihapnnnglaa.AidHB
