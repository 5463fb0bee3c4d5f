/- The pure statement of the laws FnExactWindowsOk and FnExactWindowAt: the program's function and the reference's come to the same. -/
import Derived.Test.YtampcamihaleaaaAidWD
import Derived.Test.YtampcamihaleaaaGDx3
namespace Go.Proofs.Ytampcamihaleaaa.Pure
open Go.RowKit Go.Proofs.Ytampcamihaleaaa Go.Proofs.Ytampcamihaleaaa.AidWD Go.Proofs.Ytampcamihaleaaa.GD Go.Proofs.YtampcamihaleaaaW.PrintWords Go.Proofs.YtampcamihaleaaaW.PrintLast
theorem FnExactWindowsOk : ∀ (l0 : List (GD.S45)), (l0.length ≤ maxLen ∧ ∀ x_ ∈ l0, ((Lit.int .i64 x_.f0).wf = true) ∧ (((Lit.int .i64 x_.f1).wf = true) ∧ ((Lit.int .i64 x_.f2).wf = true))) → ∃ k, GD.laws_FnExactWindowsOk.f k l0 = some true := by
  intro l0 ⟨hlen, hwf⟩
  refine ⟨l0.length + 5000, ?_⟩
  generalize hk : l0.length + 5000 = k
  unfold laws_FnExactWindowsOk.f
  rw [sz_w l0 hlen 1048576 (by decide) (by decide), Option.bind_some]
  by_cases h : (1048576 : Int) < (l0.length : Int)
  · rw [if_pos h, if_pos (by decide)]
  · rw [if_neg h, if_neg (by omega)]
    have hm : (l0.map toW).length ≤ 9000000 := by rw [List.length_map]; omega
    have hmk : (l0.map toW).length < k := by rw [List.length_map]; omega
    rw [to_w l0 (by omega) k (by omega), Option.bind_some, windows_s _ (map_wf l0 hwf) k (by omega), Option.bind_some, Option.bind_some]
    show (if (areWB (l0.map toW) != areWB (l0.map toW)) = true then _ else _) = _
    rw [if_neg (by simp), Option.bind_some, eq_w _ hm k hmk, Option.bind_some, if_pos rfl]
end Go.Proofs.Ytampcamihaleaaa.Pure
