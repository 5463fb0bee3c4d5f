/- The pure statement of the law FnExactPolicyOk: what the given program's function and the reference's come to is the same, for all plain data. No condition. -/
import Derived.Test.YtbfongmegcgogaaPFnExactPolicyOkx1
namespace Go.Proofs.Ytbfongmegcgogaa.Pure
open Go.RowKit Go.Proofs.Ytbfongmegcgogaa Go.Proofs.Ytbfongmegcgogaa.PFnExactPolicyOk Go.Proofs.YtbfongmegcgogaaW.PrintWords Go.Proofs.YtbfongmegcgogaaW.PrintLast
namespace FnExactPolicyOkAid
theorem w64 {n : Int} (h : (Lit.int .i64 n).wf = true) : -9223372036854775808 ≤ n ∧ n ≤ 9223372036854775807 := by
  simp only [Lit.wf, IntKind.min, IntKind.max, IntKind.signed, IntKind.bits, Bool.and_eq_true, decide_eq_true_eq, if_true] at h
  omega
theorem w32 {n : Int} (h : (Lit.int .u32 n).wf = true) : 0 ≤ n ∧ n ≤ 4294967295 := by
  simp only [Lit.wf, IntKind.min, IntKind.max, IntKind.signed, IntKind.bits, Bool.and_eq_true, decide_eq_true_eq, Bool.false_eq_true, if_false] at h
  omega
theorem in_s (a b c : Int) : spec_l01In.f a b c = some (decide (b ≤ a ∧ a ≤ c)) := by
  unfold spec_l01In.f; split <;> simp_all <;> omega
theorem in_i (a b c : Int) : impl_within.f a b c = some (decide (b ≤ a ∧ a ≤ c)) := by
  unfold impl_within.f; split <;> simp_all <;> omega
end FnExactPolicyOkAid
open FnExactPolicyOkAid
theorem FnExactPolicyOk : ∀ (a0_0 : Int) (a0_1 : Int), ((Lit.int .i64 a0_0).wf = true) → ((Lit.int .i64 a0_1).wf = true) → PFnExactPolicyOk.laws_FnExactPolicyOk.f a0_0 a0_1 = some true := by
  intro a b ha hb
  unfold laws_FnExactPolicyOk.f impl_PolicyOk.f impl_isPolicy.f spec_PolicyOk.f laws_toPolicy.f
  simp only [Option.bind_some, in_s, in_i]
  repeat' split
  all_goals simp_all
end Go.Proofs.Ytbfongmegcgogaa.Pure
