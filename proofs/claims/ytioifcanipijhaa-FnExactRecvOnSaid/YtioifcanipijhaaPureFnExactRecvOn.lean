/- The pure statement of the law FnExactRecvOn: what the given program's function and the reference's come to is the same, for all plain data. No condition. -/
import Derived.Test.YtioifcanipijhaaGCx0
import Derived.Test.YtioifcanipijhaaGCx12
import Derived.Test.YtioifcanipijhaaGCx13
import Derived.Test.YtioifcanipijhaaGCx4
import Derived.Test.YtioifcanipijhaaGCx5
import Derived.Test.YtioifcanipijhaaGCx7
import Derived.Test.YtioifcanipijhaaAidRC
import Derived.Test.YtioifcanipijhaaAidVC
namespace Go.Proofs.Ytioifcanipijhaa.Pure
open Go.RowKit Go.Proofs.Ytioifcanipijhaa Go.Proofs.Ytioifcanipijhaa.GC Go.Proofs.Ytioifcanipijhaa.AidRC Go.Proofs.Ytioifcanipijhaa.AidVC Go.Proofs.Ytioifcanipijhaa.Lst Go.Proofs.YtioifcanipijhaaW.PrintWords Go.Proofs.YtioifcanipijhaaW.PrintLast
theorem recvF_len (a : Int) (l : List Int) : (recvF a l).2.2.length ≤ l.length := by
  cases l with
  | nil => simp [recvF]
  | cons x t =>
    show (if a = 1 then t else x :: t).length ≤ _
    split <;> simp
theorem FnExactRecvOn : ∀ (a0_0 : Int) (a0_1 : Int) (a0_2 : Int) (a0_3 : Int) (l1_0 : List (Int)), ((Lit.int .i64 a0_0).wf = true) → ((Lit.int .i64 a0_1).wf = true) → ((Lit.int .i64 a0_2).wf = true) → ((Lit.int .i64 a0_3).wf = true) → (l1_0.length ≤ maxLen ∧ ∀ x_ ∈ l1_0, (Lit.int .u32 x_).wf = true) → ∃ k, GC.laws_FnExactRecvOn.f k a0_0 a0_1 a0_2 a0_3 l1_0 = some true := by
  intro a b c d l ha hb hc hd hl
  obtain ⟨K, hK⟩ : ∃ K : Nat, K = 4000000 := ⟨_, rfl⟩
  refine ⟨K + 9, ?_⟩
  have hl1 := hl.1
  unfold laws_FnExactRecvOn.f laws_toChanRow.f
  rw [sz_in l hl1 1048576 (by decide) (by decide), Option.bind_some]
  by_cases hn : (1048576 : Int) < (l.length : Int)
  · rw [if_pos hn, if_pos (by decide)]
  · rw [if_neg hn, if_neg (by omega), Option.bind_some]
    have hlen : l.length ≤ 1048576 := by omega
    have hto : ∀ k, laws_toInEnd.f (K + k) l = some l := fun k => to_in l (by omega) (K + k) (by omega)
    obtain ⟨r, hr, hrl⟩ : ∃ r : List Int × Int × Int, r = (if InB a b c d l.length then ((recvF a l).2.2, (recvF a l).1, (recvF a l).2.1) else ([], 0, 3)) ∧ r.1.length ≤ 1048577 := by
      refine ⟨_, rfl, ?_⟩
      have := recvF_len a l
      split
      · dsimp only; omega
      · simp
    have hs : spec_RecvOn.f a b c d l = some r := by rw [recv_s a b c d l (by omega), hr]
    have hi : impl_RecvOn.f a b c d l = some r := by
      unfold impl_RecvOn.f
      rw [if_pos (by omega), in_i' a b c d l, Option.bind_some, hr]
      simp only [decide_eq_true_eq]
    obtain ⟨r1, r2, r3⟩ := r
    dsimp only at hrl
    have heq : ∀ k, laws_eqInEnd.f (K + k) r1 r1 = some true := fun k => eq_in r1 (by omega) (K + k) (by omega)
    have heo : ∀ k, laws_eqInEnd.f (K + k) l l = some true := fun k => eq_in l (by omega) (K + k) (by omega)
    have hmo := mark_in l 1 (by decide) (by decide) (by omega) (K + 8) (by omega)
    have hmr := mark_in r1 1 (by decide) (by decide) (by omega) (K + 7) (by omega)
    have hhr : ∀ k, laws_heldInEnd.f (K + k) (marks (· % 4294967296) 1 r1.length) 1 = some (1 + (r1.length : Int)) := fun k => held_in 1 r1.length (by decide) (by decide) (by omega) (K + k) (by omega)
    have n1 : ¬ (1 + (l.length : Int) < 0) := by omega
    have n2 : ¬ (1 + (r1.length : Int) < 0) := by omega
    simp only [hto, Option.bind_some, hs, hi, heq, if_true, bne_self_eq_false, laws_FnExactRecvOn.j0, Bool.false_eq_true, if_false, heo, hmo, n1, laws_FnExactRecvOn.j1, hmr, hhr, n2, laws_toChanRow.f, laws_FnExactRecvOn.j2]
end Go.Proofs.Ytioifcanipijhaa.Pure
