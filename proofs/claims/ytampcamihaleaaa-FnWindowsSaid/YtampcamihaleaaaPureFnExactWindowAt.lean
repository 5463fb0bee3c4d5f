/- The pure statement of the laws FnExactWindowsOk and FnExactWindowAt: the program's function and the reference's come to the same. -/
import Derived.Test.YtampcamihaleaaaAidWD
import Derived.Test.YtampcamihaleaaaGDx4
namespace Go.Proofs.Ytampcamihaleaaa.Pure
open Go.RowKit Go.Proofs.Ytampcamihaleaaa Go.Proofs.Ytampcamihaleaaa.AidWD Go.Proofs.Ytampcamihaleaaa.GD Go.Proofs.YtampcamihaleaaaW.PrintWords Go.Proofs.YtampcamihaleaaaW.PrintLast
theorem wat_s (l : List S41) (hl : ∀ x ∈ l, WfW x) (hm : l.length ≤ 9000000) (a : Int) (k : Nat) (hk : 2000 ≤ k) (hk2 : l.length < k) : spec_WindowAt.f k l a = some (if areWB l = true then idxB (hasB a) l else -1) := by
  unfold spec_WindowAt.f
  rw [windows_s l hl k hk, Option.bind_some]
  by_cases h : areWB l = true
  · rw [if_pos h, if_pos h, at_s l a hm k hk2, Option.bind_some]
  · rw [if_neg h, if_neg h]
theorem wat_i (l : List S41) (a : Int) : impl_WindowAt.f l a = some (if areWB l = true then idxB (hasB a) l else -1) := by
  unfold impl_WindowAt.f
  show (if areWB l = true then _ else _) = _
  by_cases h : areWB l = true
  · rw [if_pos h, if_pos h, at_i, Option.bind_some]
  · rw [if_neg h, if_neg h]
theorem FnExactWindowAt : ∀ (l0 : List (GD.S45)) (a1 : Int), (l0.length ≤ maxLen ∧ ∀ x_ ∈ l0, ((Lit.int .i64 x_.f0).wf = true) ∧ (((Lit.int .i64 x_.f1).wf = true) ∧ ((Lit.int .i64 x_.f2).wf = true))) → ((Lit.int .i64 a1).wf = true) → ∃ k, GD.laws_FnExactWindowAt.f k l0 a1 = some true := by
  intro l0 a1 ⟨hlen, hwf⟩ _
  refine ⟨l0.length + 5000, ?_⟩
  generalize hk : l0.length + 5000 = k
  unfold laws_FnExactWindowAt.f
  rw [sz_w l0 hlen 1048576 (by decide) (by decide), Option.bind_some]
  by_cases h : (1048576 : Int) < (l0.length : Int)
  · rw [if_pos h, if_pos (by decide)]
  · rw [if_neg h, if_neg (by omega)]
    have hm : (l0.map toW).length ≤ 9000000 := by rw [List.length_map]; omega
    have hmk : (l0.map toW).length < k := by rw [List.length_map]; omega
    rw [to_w l0 (by omega) k (by omega), Option.bind_some, wat_s _ (map_wf l0 hwf) hm a1 k (by omega) hmk, Option.bind_some, Option.bind_some, wat_i, Option.bind_some, if_pos rfl, Option.bind_some, eq_w _ hm k hmk, Option.bind_some, if_pos rfl]
end Go.Proofs.Ytampcamihaleaaa.Pure
