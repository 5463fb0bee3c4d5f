/- The pure statement of the law FnExactSendOn: what the given program's function and the reference's come to is the same, for all plain data. No condition. -/
import Derived.Test.YtioifcanipijhaaGCx0
import Derived.Test.YtioifcanipijhaaGCx4
import Derived.Test.YtioifcanipijhaaGCx5
import Derived.Test.YtioifcanipijhaaGCx7
import Derived.Test.YtioifcanipijhaaGCx8
import Derived.Test.YtioifcanipijhaaAidC
import Derived.Test.YtioifcanipijhaaAidU
namespace Go.Proofs.Ytioifcanipijhaa.Pure
open Go.RowKit Go.Proofs.Ytioifcanipijhaa Go.Proofs.Ytioifcanipijhaa.GC Go.Proofs.Ytioifcanipijhaa.AidC Go.Proofs.Ytioifcanipijhaa.AidU Go.Proofs.Ytioifcanipijhaa.Lst Go.Proofs.YtioifcanipijhaaW.PrintWords Go.Proofs.YtioifcanipijhaaW.PrintLast
theorem sendF_len (a d h : Int) (l : List Int) (x : Int) : (sendF a d h l x).2.length ≤ l.length + 1 := by
  unfold sendF
  split
  · simp
  · split <;> simp
theorem FnExactSendOn : ∀ (a0_0 : Int) (a0_1 : Int) (a0_2 : Int) (a0_3 : Int) (a1_0 : Int) (l1_1 : List (Int)) (a2 : Int), ((Lit.int .i64 a0_0).wf = true) → ((Lit.int .i64 a0_1).wf = true) → ((Lit.int .i64 a0_2).wf = true) → ((Lit.int .i64 a0_3).wf = true) → ((Lit.int .i64 a1_0).wf = true) → (l1_1.length ≤ maxLen ∧ ∀ x_ ∈ l1_1, (Lit.int .u32 x_).wf = true) → ((Lit.int .u32 a2).wf = true) → ∃ k, GC.laws_FnExactSendOn.f k a0_0 a0_1 a0_2 a0_3 a1_0 l1_1 a2 = some true := by
  intro a b c d h l x ha hb hc hd hh hl hx
  obtain ⟨K, hK⟩ : ∃ K : Nat, K = 4000000 := ⟨_, rfl⟩
  refine ⟨K + 9, ?_⟩
  have hl1 := hl.1
  unfold laws_FnExactSendOn.f laws_toChanRow.f
  rw [sz_out h l hl1 1048576 (by decide) (by decide), Option.bind_some]
  by_cases hn : (1048576 : Int) < (l.length : Int)
  · rw [if_pos hn, if_pos (by decide)]
  · rw [if_neg hn, if_neg (by omega), Option.bind_some]
    have hlen : l.length ≤ 1048576 := by omega
    have hto : ∀ k, laws_toOutEnd.f (K + k) h l = some (h, l) := fun k => to_out h l (by omega) (K + k) (by omega)
    obtain ⟨r, hr, hrl⟩ : ∃ r : Int × List Int × Int, r = (if OutB a b c d h l.length then (h, (sendF a d h l x).2, (sendF a d h l x).1) else (0, [], 3)) ∧ r.2.1.length ≤ 1048577 := by
      refine ⟨_, rfl, ?_⟩
      have := sendF_len a d h l x
      split
      · dsimp only; omega
      · simp
    have hs : spec_SendOn.f a b c d h l x = some r := by rw [send_s a b c d h l x (by omega), hr]
    have hi : impl_SendOn.f a b c d h l x = some r := by
      unfold impl_SendOn.f
      rw [if_pos (by omega), out_i a b c d h l (by omega), Option.bind_some, hr]
      simp only [decide_eq_true_eq]
    obtain ⟨r1, r2, r3⟩ := r
    dsimp only at hrl
    have heq : ∀ k, laws_eqOutEnd.f (K + k) r1 r2 r1 r2 = some true := fun k => eq_out r1 r2 (by omega) (K + k) (by omega)
    have heo : ∀ k, laws_eqOutEnd.f (K + k) h l h l = some true := fun k => eq_out h l (by omega) (K + k) (by omega)
    have hmo := mark_out h l 1 (by decide) (by decide) (by omega) (K + 8) (by omega)
    have hmr := mark_out r1 r2 1 (by decide) (by decide) (by omega) (K + 7) (by omega)
    have hhr : ∀ k, laws_heldOutEnd.f (K + k) r1 (marks (· % 4294967296) 1 r2.length) 1 = some (1 + (r2.length : Int)) := fun k => held_out r1 1 r2.length (by decide) (by decide) (by omega) (K + k) (by omega)
    have n1 : ¬ (1 + (l.length : Int) < 0) := by omega
    have n2 : ¬ (1 + (r2.length : Int) < 0) := by omega
    simp only [hto, Option.bind_some, hs, hi, heq, if_true, bne_self_eq_false, laws_FnExactSendOn.j0, Bool.false_eq_true, if_false, heo, hmo, n1, laws_FnExactSendOn.j1, hmr, hhr, n2, laws_toChanRow.f, laws_FnExactSendOn.j2]
end Go.Proofs.Ytioifcanipijhaa.Pure
