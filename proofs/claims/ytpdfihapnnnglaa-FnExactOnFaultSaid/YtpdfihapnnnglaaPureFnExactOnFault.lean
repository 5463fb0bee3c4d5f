/- The pure statement of the law FnExactOnFault of the given program, for all plain data. No condition. -/
import Derived.Test.YtpdfihapnnnglaaGBx6
import Derived.Test.YtpdfihapnnnglaaGBx8
import Derived.Test.YtpdfihapnnnglaaAidHB
namespace Go.Proofs.Ytpdfihapnnnglaa.Pure
open Go.RowKit Go.Proofs.Ytpdfihapnnnglaa Go.Proofs.Ytpdfihapnnnglaa.GB Go.Proofs.Ytpdfihapnnnglaa.Lst Go.Proofs.YtpdfihapnnnglaaW.PrintWords Go.Proofs.YtpdfihapnnnglaaW.PrintLast Go.Proofs.YtpdfihapnnnglaaW.PrintMore Go.Proofs.Ytpdfihapnnnglaa.AidHB
theorem FnExactOnFault : ∀ (a0_0 : Int) (a0_1 : Int) (a1_0 : Int) (a1_1 : Int) (a1_2 : Int) (a1_3 : Bool) (a2 : Int), ((Lit.int .i64 a0_0).wf = true) → ((Lit.int .i64 a0_1).wf = true) → ((Lit.int .i64 a1_0).wf = true) → ((Lit.int .i64 a1_1).wf = true) → ((Lit.int .i64 a1_2).wf = true) → ((Lit.int .i64 a2).wf = true) → ∃ k, GB.laws_FnExactOnFault.f k a0_0 a0_1 a1_0 a1_1 a1_2 a1_3 a2 = some true := by
  intro a b f r l h x _ _ _ _ _ _
  refine ⟨2, ?_⟩
  unfold laws_FnExactOnFault.f laws_toPolicy.f laws_toHealth.f
  simp only [Option.bind_some, onF_s _ _ _ _ _ _ _ 2 (Nat.le_refl _), onF_i]
  rw [eq_health]
  simp
end Go.Proofs.Ytpdfihapnnnglaa.Pure
