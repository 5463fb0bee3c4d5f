/- The pure statement of the law FnExactOperator: what the given program's function and the reference's come to is the same, for all plain data. No condition. -/
import Derived.Test.YtbfongmegcgogaaPFnExactOperatorx1
namespace Go.Proofs.Ytbfongmegcgogaa.Pure
open Go.RowKit Go.Proofs.Ytbfongmegcgogaa Go.Proofs.Ytbfongmegcgogaa.PFnExactOperator Go.Proofs.YtbfongmegcgogaaW.PrintWords Go.Proofs.YtbfongmegcgogaaW.PrintLast
namespace FnExactOperatorAid
theorem w64 {n : Int} (h : (Lit.int .i64 n).wf = true) : -9223372036854775808 ≤ n ∧ n ≤ 9223372036854775807 := by
  simp only [Lit.wf, IntKind.min, IntKind.max, IntKind.signed, IntKind.bits, Bool.and_eq_true, decide_eq_true_eq, if_true] at h
  omega
theorem w32 {n : Int} (h : (Lit.int .u32 n).wf = true) : 0 ≤ n ∧ n ≤ 4294967295 := by
  simp only [Lit.wf, IntKind.min, IntKind.max, IntKind.signed, IntKind.bits, Bool.and_eq_true, decide_eq_true_eq, Bool.false_eq_true, if_false] at h
  omega
theorem in_s (a b c : Int) : spec_l01In.f a b c = some (decide (b ≤ a ∧ a ≤ c)) := by
  unfold spec_l01In.f; split <;> simp_all <;> omega
theorem in_i (a b c : Int) : impl_within.f a b c = some (decide (b ≤ a ∧ a ≤ c)) := by
  unfold impl_within.f; split <;> simp_all <;> omega
end FnExactOperatorAid
open FnExactOperatorAid
theorem FnExactOperator : ∀ (a0_0 : Int) (a0_1 : Int) (a0_2 : Int) (a0_3 : Bool), ((Lit.int .i64 a0_0).wf = true) → ((Lit.int .i64 a0_1).wf = true) → ((Lit.int .i64 a0_2).wf = true) → PFnExactOperator.laws_FnExactOperator.f a0_0 a0_1 a0_2 a0_3 = some true := by
  intro a b c d ha hb hc
  have e : impl_Operator.f a b c d = spec_Operator.f a b c d := by
    unfold impl_Operator.f spec_Operator.f impl_isHealth.f spec_HealthOk.f
    simp only [in_s, in_i]
  obtain ⟨⟨x, y, z, u⟩, hr⟩ : ∃ r, spec_Operator.f a b c d = some r := by
    unfold spec_Operator.f spec_HealthOk.f
    simp only [in_s, Option.bind_some]
    repeat' (first | split | simp only [Option.bind_some])
    all_goals exact ⟨_, rfl⟩
  unfold laws_FnExactOperator.f laws_toHealth.f laws_eqHealth.f
  simp [e, hr]
end Go.Proofs.Ytbfongmegcgogaa.Pure
