/- The pure statement of the law FnExactTaken: what the given program's function and the reference's come to is the same, for all plain data. No condition. -/
import Derived.Test.YtbfongmegcgogaaPFnExactTakenx1
namespace Go.Proofs.Ytbfongmegcgogaa.Pure
open Go.RowKit Go.Proofs.Ytbfongmegcgogaa Go.Proofs.Ytbfongmegcgogaa.PFnExactTaken Go.Proofs.YtbfongmegcgogaaW.PrintWords Go.Proofs.YtbfongmegcgogaaW.PrintLast
namespace FnExactTakenAid
theorem w64 {n : Int} (h : (Lit.int .i64 n).wf = true) : -9223372036854775808 ≤ n ∧ n ≤ 9223372036854775807 := by
  simp only [Lit.wf, IntKind.min, IntKind.max, IntKind.signed, IntKind.bits, Bool.and_eq_true, decide_eq_true_eq, if_true] at h
  omega
theorem w32 {n : Int} (h : (Lit.int .u32 n).wf = true) : 0 ≤ n ∧ n ≤ 4294967295 := by
  simp only [Lit.wf, IntKind.min, IntKind.max, IntKind.signed, IntKind.bits, Bool.and_eq_true, decide_eq_true_eq, Bool.false_eq_true, if_false] at h
  omega
theorem less (a b : Int) (ha : (Lit.int .u32 a).wf = true) (hb : (Lit.int .u32 b).wf = true) : spec_LessWord.f a b = impl_LessWord.f a b := by
  have := w32 ha; have := w32 hb
  unfold spec_LessWord.f impl_LessWord.f spec_l01Signed.f wrap64 wrap32
  repeat' split
  all_goals (simp only [Option.bind_some, Option.some.injEq]; rw [decide_eq_decide]; omega)
end FnExactTakenAid
open FnExactTakenAid
theorem FnExactTaken : laws_FnExactTaken.Pure := by
  intro a b c ha hb hc
  have e : impl_Taken.f a b c = spec_Taken.f a b c := by
    unfold impl_Taken.f impl_taken.f spec_Taken.f
    rw [less b c hb hc]
    simp
  obtain ⟨r, hr⟩ : ∃ r, spec_Taken.f a b c = some r := by
    unfold spec_Taken.f
    rw [less b c hb hc]
    unfold impl_LessWord.f
    simp only [Option.bind_some]
    repeat' split
    all_goals exact ⟨_, rfl⟩
  unfold laws_FnExactTaken.f
  simp [e, hr]
end Go.Proofs.Ytbfongmegcgogaa.Pure
