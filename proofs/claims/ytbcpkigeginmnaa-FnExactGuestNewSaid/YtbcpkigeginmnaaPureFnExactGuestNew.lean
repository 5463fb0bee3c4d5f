/- The pure statement of the law FnExactGuestNew: what came in is plain data, and so the law's one path is walked. -/
import Derived.Test.YtbcpkigeginmnaaLgnF
namespace Go.Proofs.Ytbcpkigeginmnaa.Pure
open Go.RowKit Go.Proofs.Ytbcpkigeginmnaa Go.Proofs.Ytbcpkigeginmnaa.GF Go.Proofs.Ytbcpkigeginmnaa.AidFW Go.Proofs.YtbcpkigeginmnaaW.PrintWords Go.Proofs.YtbcpkigeginmnaaW.PrintLast
theorem FnExactGuestNew : ∀ (l0 : List (GF.S72)) (a1 : Int), (l0.length ≤ maxLen ∧ ∀ x_ ∈ l0, ((Lit.int .i64 x_.f0).wf = true) ∧ (((Lit.int .i64 x_.f1).wf = true) ∧ ((Lit.int .i64 x_.f2).wf = true))) → ((Lit.int .i64 a1).wf = true) → ∃ k, GF.laws_FnExactGuestNew.f k l0 a1 = some true := by
  intro l e hl he
  refine ⟨0, ?_⟩
  unfold laws_FnExactGuestNew.f
  rw [if_pos ⟨hl.1, fun x hx => by
    obtain ⟨y, hy, rfl⟩ := List.mem_map.1 hx
    exact hl.2 y hy⟩]
end Go.Proofs.Ytbcpkigeginmnaa.Pure
