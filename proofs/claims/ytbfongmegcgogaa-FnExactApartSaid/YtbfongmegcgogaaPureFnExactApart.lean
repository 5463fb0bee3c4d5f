/- The pure statement of the law FnExactApart: what the given program's function and the reference's come to is the same, for all plain data. No condition. -/
import Derived.Test.YtbfongmegcgogaaPFnExactApartx2
namespace Go.Proofs.Ytbfongmegcgogaa.Pure
open Go.RowKit Go.Proofs.Ytbfongmegcgogaa Go.Proofs.Ytbfongmegcgogaa.PFnExactApart Go.Proofs.YtbfongmegcgogaaW.PrintWords Go.Proofs.YtbfongmegcgogaaW.PrintLast
namespace FnExactApartAid
theorem w64 {n : Int} (h : (Lit.int .i64 n).wf = true) : -9223372036854775808 ≤ n ∧ n ≤ 9223372036854775807 := by
  simp only [Lit.wf, IntKind.min, IntKind.max, IntKind.signed, IntKind.bits, Bool.and_eq_true, decide_eq_true_eq, if_true] at h
  omega
theorem w32 {n : Int} (h : (Lit.int .u32 n).wf = true) : 0 ≤ n ∧ n ≤ 4294967295 := by
  simp only [Lit.wf, IntKind.min, IntKind.max, IntKind.signed, IntKind.bits, Bool.and_eq_true, decide_eq_true_eq, Bool.false_eq_true, if_false] at h
  omega
theorem in_s (a b c : Int) : spec_l01In.f a b c = some (decide (b ≤ a ∧ a ≤ c)) := by
  unfold spec_l01In.f; split <;> simp_all <;> omega
theorem in_i (a b c : Int) : impl_within.f a b c = some (decide (b ≤ a ∧ a ≤ c)) := by
  unfold impl_within.f; split <;> simp_all <;> omega
theorem tm4 (a : Int) : (Int.tmod a 4 = 0) = (a % 4 = 0) := by
  apply propext
  rw [← Int.dvd_iff_tmod_eq_zero, ← Int.dvd_iff_emod_eq_zero]
theorem win_s (a b c : Int) (ha : (Lit.int .i64 a).wf = true) (hb : (Lit.int .i64 b).wf = true) : spec_WindowOk.f a b c = some (decide (0 ≤ a ∧ 4 ≤ b ∧ a % 4 = 0 ∧ b % 4 = 0 ∧ a + b ≤ 2048 ∧ 1 ≤ c ∧ c ≤ 7)) := by
  have := w64 ha; have := w64 hb
  unfold spec_WindowOk.f
  simp only [in_s, Option.bind_some, decide_eq_true_eq, tm4]
  unfold wrap64
  repeat' split
  all_goals (simp only [Option.some.injEq]; first | (rw [decide_eq_decide]; omega) | (symm; rw [decide_eq_false_iff_not]; omega))
theorem win_i (a b c : Int) (ha : (Lit.int .i64 a).wf = true) (hb : (Lit.int .i64 b).wf = true) : impl_isWindow.f a b c = some (decide (0 ≤ a ∧ 4 ≤ b ∧ a % 4 = 0 ∧ b % 4 = 0 ∧ a + b ≤ 2048 ∧ 1 ≤ c ∧ c ≤ 7)) := by
  have := w64 ha; have := w64 hb
  unfold impl_isWindow.f
  simp only [in_i, Option.bind_some, decide_eq_true_eq, tm4]
  unfold wrap64
  repeat' split
  all_goals (simp only [Option.some.injEq]; first | (rw [decide_eq_decide]; omega) | (symm; rw [decide_eq_false_iff_not]; omega))
theorem apart_l (a b c d e f : Int) (ha : 0 ≤ a) (hb : 4 ≤ b) (ha4 : a % 4 = 0) (hb4 : b % 4 = 0) (hab : a + b ≤ 2048) (hd : 0 ≤ d) (he : 4 ≤ e) (hd4 : d % 4 = 0) (he4 : e % 4 = 0) (hde : d + e ≤ 2048) (n : Nat) :
    ∀ (k : Nat) (x : Int), 0 ≤ x → x % 4 = 0 → 2048 - x = 4 * n → n < k → spec_Apart.l0 k x a b c d e f = some (decide (a + b ≤ d ∨ d + e ≤ a ∨ a + b ≤ x ∨ d + e ≤ x)) := by
  have w1 : wrap64 (a + b) = a + b := by unfold wrap64; omega
  have w2 : wrap64 (d + e) = d + e := by unfold wrap64; omega
  induction n with
  | zero =>
    intro k x h0 h4 hx hk
    obtain ⟨k, rfl⟩ : ∃ m, k = m + 1 := ⟨k - 1, by omega⟩
    simp only [spec_Apart.l0]
    rw [if_neg (by omega)]
    simp only [Option.some.injEq]
    symm
    rw [decide_eq_true_iff]
    omega
  | succ n ih =>
    intro k x h0 h4 hx hk
    obtain ⟨k, rfl⟩ : ∃ m, k = m + 1 := ⟨k - 1, by omega⟩
    have w3 : wrap64 (x + 4) = x + 4 := by unfold wrap64; omega
    have ih' := ih k (x + 4) (by omega) (by omega) (by omega) (by omega)
    simp only [spec_Apart.l0]
    unfold spec_l07Has.f
    rw [if_pos (by omega), w1, w2, w3, ih']
    have hn : (2048 : Int) - (x + 4) = 4 * n := by omega
    clear ih ih' hx
    have fin : ∀ (p q : Prop) [Decidable p] [Decidable q], (p ↔ q) → some (decide p) = some (decide q) := fun p q _ _ h => by rw [decide_eq_decide.2 h]
    have fls : ∀ (q : Prop) [Decidable q], ¬ q → some false = some (decide q) := fun q _ h => by rw [decide_eq_false h]
    by_cases h1 : x ≥ a
    · rw [if_pos h1]
      simp only [Option.bind_some, decide_eq_true_eq]
      by_cases h2 : x < a + b
      · rw [if_pos h2]
        by_cases h3 : x ≥ d
        · rw [if_pos h3]
          simp only [Option.bind_some, decide_eq_true_eq]
          by_cases h5 : x < d + e
          · rw [if_pos h5]
            exact fls _ (by omega)
          · rw [if_neg h5]
            exact fin _ _ (by omega)
        · rw [if_neg h3]
          simp only [Option.bind_some, Bool.false_eq_true, if_false]
          exact fin _ _ (by omega)
      · rw [if_neg h2]
        exact fin _ _ (by omega)
    · rw [if_neg h1]
      simp only [Option.bind_some, Bool.false_eq_true, if_false]
      exact fin _ _ (by omega)
end FnExactApartAid
open FnExactApartAid
theorem FnExactApart : ∀ (a0_0 : Int) (a0_1 : Int) (a0_2 : Int) (a1_0 : Int) (a1_1 : Int) (a1_2 : Int), ((Lit.int .i64 a0_0).wf = true) → ((Lit.int .i64 a0_1).wf = true) → ((Lit.int .i64 a0_2).wf = true) → ((Lit.int .i64 a1_0).wf = true) → ((Lit.int .i64 a1_1).wf = true) → ((Lit.int .i64 a1_2).wf = true) → ∃ k, PFnExactApart.laws_FnExactApart.f k a0_0 a0_1 a0_2 a1_0 a1_1 a1_2 = some true := by
  intro a b c d e f ha hb hc hd he hf
  refine ⟨600, ?_⟩
  have key : spec_Apart.f 600 a b c d e f = impl_Apart.f a b c d e f ∧ ∃ r, impl_Apart.f a b c d e f = some r := by
    unfold spec_Apart.f impl_Apart.f
    rw [win_s a b c ha hb, win_s d e f hd he, win_i a b c ha hb, win_i d e f hd he]
    simp only [Option.bind_some]
    by_cases h1 : 0 ≤ a ∧ 4 ≤ b ∧ a % 4 = 0 ∧ b % 4 = 0 ∧ a + b ≤ 2048 ∧ 1 ≤ c ∧ c ≤ 7
    · by_cases h2 : 0 ≤ d ∧ 4 ≤ e ∧ d % 4 = 0 ∧ e % 4 = 0 ∧ d + e ≤ 2048 ∧ 1 ≤ f ∧ f ≤ 7
      · obtain ⟨p1, p2, p3, p4, p5, p6, p7⟩ := h1
        obtain ⟨q1, q2, q3, q4, q5, q6, q7⟩ := h2
        have hl := apart_l a b c d e f p1 p2 p3 p4 p5 q1 q2 q3 q4 q5 512 599 0 (by omega) (by omega) (by omega) (by omega)
        have w1 : wrap64 (a + b) = a + b := by unfold wrap64; omega
        have w2 : wrap64 (d + e) = d + e := by unfold wrap64; omega
        simp only [p1, p2, p3, p4, p5, p6, p7, q1, q2, q3, q4, q5, q6, q7, and_self, decide_true, if_true, Bool.not_true, spec_Apart.j0, Bool.false_eq_true, if_false]
        rw [hl]
        unfold impl_areApart.f
        rw [w1, w2]
        by_cases g : a + b ≤ d
        · simp [g]
        · simp [g]; omega
      · simp [h1, h2, spec_Apart.j0]
    · simp [h1, spec_Apart.j0]
  obtain ⟨e1, r, e2⟩ := key
  unfold laws_FnExactApart.f laws_toWindow.f
  simp [e1, e2]
end Go.Proofs.Ytbfongmegcgogaa.Pure
