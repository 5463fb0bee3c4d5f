/- The pure statement of the law FnExactInOk: what the given program's function and the reference's come to is the same, for all plain data. No condition. -/
import Derived.Test.YtioifcanipijhaaAidC1
namespace Go.Proofs.Ytioifcanipijhaa.Pure
open Go.RowKit Go.Proofs.Ytioifcanipijhaa Go.Proofs.Ytioifcanipijhaa.GC1 Go.Proofs.Ytioifcanipijhaa.AidC1 Go.Proofs.Ytioifcanipijhaa.Lst Go.Proofs.YtioifcanipijhaaW.PrintWords Go.Proofs.YtioifcanipijhaaW.PrintLast
theorem FnExactInOk : ∀ (a0_0 : Int) (a0_1 : Int) (a0_2 : Int) (a0_3 : Int) (l1_0 : List (Int)), ((Lit.int .i64 a0_0).wf = true) → ((Lit.int .i64 a0_1).wf = true) → ((Lit.int .i64 a0_2).wf = true) → ((Lit.int .i64 a0_3).wf = true) → (l1_0.length ≤ maxLen ∧ ∀ x_ ∈ l1_0, (Lit.int .u32 x_).wf = true) → ∃ k, GC1.laws_FnExactInOk.f k a0_0 a0_1 a0_2 a0_3 l1_0 = some true := by
  intro a b c d l ha hb hc hd hl
  refine ⟨2000000, ?_⟩
  unfold laws_FnExactInOk.f laws_szInEnd.f laws_toInEnd.f laws_toChanRow.f laws_eqInEnd.f impl_InOk.f
  rw [sz_u l hl.1 1048576 (by omega) (by omega)]
  by_cases hn : (1048576 : Int) < (l.length : Int)
  · simp [hn]
  · have ht := to_u l (by omega) 2000000 (by omega)
    have he := eq_u l (by omega) 2000000 (by omega)
    have h0 : ¬ (1048576 - (l.length : Int) < 0) := by omega
    simp [hn, h0, ht, he, in_end_s, in_end_i]
end Go.Proofs.Ytioifcanipijhaa.Pure
