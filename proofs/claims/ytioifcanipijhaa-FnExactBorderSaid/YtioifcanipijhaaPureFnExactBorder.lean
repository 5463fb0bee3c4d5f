/- The pure statement of the law FnExactBorder: what the given program's function and the reference's come to is the same, for all plain data. No condition. -/
import Derived.Test.YtioifcanipijhaaAidBC
import Derived.Test.YtioifcanipijhaaLboC
namespace Go.Proofs.Ytioifcanipijhaa.Pure
open Go.RowKit Go.Proofs.Ytioifcanipijhaa Go.Proofs.Ytioifcanipijhaa.GC Go.Proofs.Ytioifcanipijhaa.AidBC Go.Proofs.Ytioifcanipijhaa.Lst Go.Proofs.YtioifcanipijhaaW.PrintWords Go.Proofs.YtioifcanipijhaaW.PrintLast
theorem goodBorder (a b c d h : Int) (l m : List Int) (hl : l.length ≤ maxLen) (hm : m.length ≤ maxLen) : GoodBo a b c d h l m := by
  refine ⟨_, sz_out h l hl 1048576 (by decide) (by decide), ?_⟩
  by_cases n1 : (1048576 : Int) < (l.length : Int)
  · rw [if_pos n1]
    exact .inl (by decide)
  rw [if_neg n1]
  refine .inr ⟨by omega, _, sz_in m hm _ (by omega) (by omega), ?_⟩
  by_cases n2 : (1048576 : Int) - (l.length : Int) < (m.length : Int)
  · rw [if_pos n2]
    exact .inl (by decide)
  rw [if_neg n2]
  refine .inr ⟨by omega, ?_⟩
  have hlen : l.length + m.length ≤ 1048576 := by omega
  obtain ⟨K, hK⟩ : ∃ K : Nat, K = 4000000 := ⟨_, rfl⟩
  have hB := bordB_len a b c d h l m
  have hs := bordB_s a b c d h l m (by omega) (by omega) K
  have hi := bordB_i a b c d h l m (by omega) (by omega)
  generalize bordB a b c d h l m = q at hB hs hi
  obtain ⟨r, V1, V2, V3⟩ := q
  dsimp only at hB
  obtain ⟨i1, i2, i3⟩ := hB
  exact ⟨K + 1, r, V1, V2, V3, _, _, _, _, _, _, _, _, _, _,
    to_out h l (by omega) (K + 1) (by omega), to_in m (by omega) (K + 1) (by omega), hs, hi,
    eq_out r V1 (by omega) (K + 1) (by omega), eq_in V2 (by omega) (K + 1) (by omega), eq_u V3 (by omega) (K + 1) (by omega), eq_out h l (by omega) (K + 1) (by omega), eq_in m (by omega) (K + 1) (by omega),
    mark_out h l 1 (by decide) (by decide) (by omega) (K + 1) (by omega), mark_in m _ (by omega) (by omega) (by omega) (K + 1) (by omega),
    mark_out r V1 1 (by decide) (by decide) (by omega) (K + 1) (by omega), mark_in V2 _ (by omega) (by omega) (by omega) (K + 1) (by omega), mark_u V3 _ (by omega) (by omega) (by omega) (K + 1) (by omega),
    held_out r 1 V1.length (by decide) (by decide) (by omega) (K + 1) (by omega), held_in _ V2.length (by omega) (by omega) (by omega) (K + 1) (by omega), held_u _ V3.length (by omega) (by omega) (by omega) (K + 1) (by omega),
    by omega, by omega, by omega, by omega⟩
theorem FnExactBorder : ∀ (a0_0 : Int) (a0_1 : Int) (a0_2 : Int) (a0_3 : Int) (a1_0 : Int) (l1_1 : List (Int)) (l2_0 : List (Int)), ((Lit.int .i64 a0_0).wf = true) → ((Lit.int .i64 a0_1).wf = true) → ((Lit.int .i64 a0_2).wf = true) → ((Lit.int .i64 a0_3).wf = true) → ((Lit.int .i64 a1_0).wf = true) → (l1_1.length ≤ maxLen ∧ ∀ x_ ∈ l1_1, (Lit.int .u32 x_).wf = true) → (l2_0.length ≤ maxLen ∧ ∀ x_ ∈ l2_0, (Lit.int .u32 x_).wf = true) → GC.laws_FnExactBorder.f a0_0 a0_1 a0_2 a0_3 a1_0 l1_1 l2_0 = some true := by
  intro a b c d h l m _ _ _ _ _ hl hm
  unfold laws_FnExactBorder.f
  exact if_pos (goodBorder a b c d h l m hl.1 hm.1)
end Go.Proofs.Ytioifcanipijhaa.Pure
