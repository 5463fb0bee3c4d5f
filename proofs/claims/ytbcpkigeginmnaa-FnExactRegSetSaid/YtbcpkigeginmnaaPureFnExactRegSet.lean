/- The pure statement of the law FnExactRegSet: what came in is plain data, and so the law's one path is walked. -/
import Derived.Test.YtbcpkigeginmnaaLrsF
namespace Go.Proofs.Ytbcpkigeginmnaa.Pure
open Go.RowKit Go.Proofs.Ytbcpkigeginmnaa Go.Proofs.Ytbcpkigeginmnaa.GF Go.Proofs.YtbcpkigeginmnaaW.PrintWords Go.Proofs.YtbcpkigeginmnaaW.PrintLast
theorem FnExactRegSet : ∀ (l0_0 : List (Int)) (a0_1 : Int) (l0_2 : List (List (Int))) (a1 : Int) (a2 : Int), (l0_0.length ≤ maxLen ∧ ∀ x_ ∈ l0_0, (Lit.int .u32 x_).wf = true) → ((Lit.int .u32 a0_1).wf = true) → (l0_2.length ≤ maxLen ∧ ∀ x_ ∈ l0_2, x_.length ≤ maxLen ∧ ∀ x__ ∈ x_, (Lit.int .u8 x__).wf = true) → ((Lit.int .i64 a1).wf = true) → ((Lit.int .u32 a2).wf = true) → ∃ k, GF.laws_FnExactRegSet.f k l0_0 a0_1 l0_2 a1 a2 = some true := by
  intro r p ram n x hr hp hram hn hx
  refine ⟨0, ?_⟩
  unfold laws_FnExactRegSet.f
  rw [if_pos ⟨hr.1, hram.1, fun y hy => (hram.2 y hy).1⟩]
end Go.Proofs.Ytbcpkigeginmnaa.Pure
