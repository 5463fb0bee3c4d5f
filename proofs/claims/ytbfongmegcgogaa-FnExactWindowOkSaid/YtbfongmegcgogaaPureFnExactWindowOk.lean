/- The pure statement of the law FnExactWindowOk: what the given program's function and the reference's come to is the same, for all plain data. No condition. -/
import Derived.Test.YtbfongmegcgogaaPFnExactWindowOkx1
namespace Go.Proofs.Ytbfongmegcgogaa.Pure
open Go.RowKit Go.Proofs.Ytbfongmegcgogaa Go.Proofs.Ytbfongmegcgogaa.PFnExactWindowOk Go.Proofs.YtbfongmegcgogaaW.PrintWords Go.Proofs.YtbfongmegcgogaaW.PrintLast
namespace FnExactWindowOkAid
theorem w64 {n : Int} (h : (Lit.int .i64 n).wf = true) : -9223372036854775808 ≤ n ∧ n ≤ 9223372036854775807 := by
  simp only [Lit.wf, IntKind.min, IntKind.max, IntKind.signed, IntKind.bits, Bool.and_eq_true, decide_eq_true_eq, if_true] at h
  omega
theorem w32 {n : Int} (h : (Lit.int .u32 n).wf = true) : 0 ≤ n ∧ n ≤ 4294967295 := by
  simp only [Lit.wf, IntKind.min, IntKind.max, IntKind.signed, IntKind.bits, Bool.and_eq_true, decide_eq_true_eq, Bool.false_eq_true, if_false] at h
  omega
theorem in_s (a b c : Int) : spec_l01In.f a b c = some (decide (b ≤ a ∧ a ≤ c)) := by
  unfold spec_l01In.f; split <;> simp_all <;> omega
theorem in_i (a b c : Int) : impl_within.f a b c = some (decide (b ≤ a ∧ a ≤ c)) := by
  unfold impl_within.f; split <;> simp_all <;> omega
theorem tm4 (a : Int) : (Int.tmod a 4 = 0) = (a % 4 = 0) := by
  apply propext
  rw [← Int.dvd_iff_tmod_eq_zero, ← Int.dvd_iff_emod_eq_zero]
theorem win_s (a b c : Int) (ha : (Lit.int .i64 a).wf = true) (hb : (Lit.int .i64 b).wf = true) : spec_WindowOk.f a b c = some (decide (0 ≤ a ∧ 4 ≤ b ∧ a % 4 = 0 ∧ b % 4 = 0 ∧ a + b ≤ 2048 ∧ 1 ≤ c ∧ c ≤ 7)) := by
  have := w64 ha; have := w64 hb
  unfold spec_WindowOk.f
  simp only [in_s, Option.bind_some, decide_eq_true_eq, tm4]
  unfold wrap64
  repeat' split
  all_goals (simp only [Option.some.injEq]; first | (rw [decide_eq_decide]; omega) | (symm; rw [decide_eq_false_iff_not]; omega))
theorem win_i (a b c : Int) (ha : (Lit.int .i64 a).wf = true) (hb : (Lit.int .i64 b).wf = true) : impl_isWindow.f a b c = some (decide (0 ≤ a ∧ 4 ≤ b ∧ a % 4 = 0 ∧ b % 4 = 0 ∧ a + b ≤ 2048 ∧ 1 ≤ c ∧ c ≤ 7)) := by
  have := w64 ha; have := w64 hb
  unfold impl_isWindow.f
  simp only [in_i, Option.bind_some, decide_eq_true_eq, tm4]
  unfold wrap64
  repeat' split
  all_goals (simp only [Option.some.injEq]; first | (rw [decide_eq_decide]; omega) | (symm; rw [decide_eq_false_iff_not]; omega))
end FnExactWindowOkAid
open FnExactWindowOkAid
theorem FnExactWindowOk : ∀ (a0_0 : Int) (a0_1 : Int) (a0_2 : Int), ((Lit.int .i64 a0_0).wf = true) → ((Lit.int .i64 a0_1).wf = true) → ((Lit.int .i64 a0_2).wf = true) → PFnExactWindowOk.laws_FnExactWindowOk.f a0_0 a0_1 a0_2 = some true := by
  intro a b c ha hb hc
  unfold laws_FnExactWindowOk.f impl_WindowOk.f laws_toWindow.f
  simp only [Option.bind_some, win_s _ _ _ ha hb, win_i _ _ _ ha hb]
  simp
end Go.Proofs.Ytbfongmegcgogaa.Pure
