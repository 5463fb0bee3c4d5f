/- The pure statement of the law FnExactChanOk: what the given program's function and the reference's come to is the same, for all plain data. No condition. -/
import Derived.Test.YtbfongmegcgogaaPFnExactChanOkx1
namespace Go.Proofs.Ytbfongmegcgogaa.Pure
open Go.RowKit Go.Proofs.Ytbfongmegcgogaa Go.Proofs.Ytbfongmegcgogaa.PFnExactChanOk Go.Proofs.YtbfongmegcgogaaW.PrintWords Go.Proofs.YtbfongmegcgogaaW.PrintLast
namespace FnExactChanOkAid
theorem w64 {n : Int} (h : (Lit.int .i64 n).wf = true) : -9223372036854775808 ≤ n ∧ n ≤ 9223372036854775807 := by
  simp only [Lit.wf, IntKind.min, IntKind.max, IntKind.signed, IntKind.bits, Bool.and_eq_true, decide_eq_true_eq, if_true] at h
  omega
theorem w32 {n : Int} (h : (Lit.int .u32 n).wf = true) : 0 ≤ n ∧ n ≤ 4294967295 := by
  simp only [Lit.wf, IntKind.min, IntKind.max, IntKind.signed, IntKind.bits, Bool.and_eq_true, decide_eq_true_eq, Bool.false_eq_true, if_false] at h
  omega
theorem in_s (a b c : Int) : spec_l01In.f a b c = some (decide (b ≤ a ∧ a ≤ c)) := by
  unfold spec_l01In.f; split <;> simp_all <;> omega
theorem in_i (a b c : Int) : impl_within.f a b c = some (decide (b ≤ a ∧ a ≤ c)) := by
  unfold impl_within.f; split <;> simp_all <;> omega
end FnExactChanOkAid
open FnExactChanOkAid
theorem FnExactChanOk : ∀ (a0_0 : Int) (a0_1 : Int) (a0_2 : Int) (a0_3 : Int), ((Lit.int .i64 a0_0).wf = true) → ((Lit.int .i64 a0_1).wf = true) → ((Lit.int .i64 a0_2).wf = true) → ((Lit.int .i64 a0_3).wf = true) → PFnExactChanOk.laws_FnExactChanOk.f a0_0 a0_1 a0_2 a0_3 = some true := by
  intro a b c d ha hb hc hd
  unfold laws_FnExactChanOk.f impl_ChanOk.f laws_toChanRow.f
  have e : impl_isChan.f a b c d = spec_ChanOk.f a b c d := by
    unfold impl_isChan.f spec_ChanOk.f
    simp only [in_s, in_i]
  obtain ⟨r, hr⟩ : ∃ r, spec_ChanOk.f a b c d = some r := by
    unfold spec_ChanOk.f
    simp only [in_s, Option.bind_some]
    repeat' split
    all_goals exact ⟨_, rfl⟩
  simp only [Option.bind_some, e, hr]
  simp
end Go.Proofs.Ytbfongmegcgogaa.Pure
