/- The pure statement of the law FnExactDiscard: what the given program's function and the reference's come to is the same, for all plain data. No condition. -/
import Derived.Test.YtioifcanipijhaaAidC1
namespace Go.Proofs.Ytioifcanipijhaa.Pure
open Go.RowKit Go.Proofs.Ytioifcanipijhaa Go.Proofs.Ytioifcanipijhaa.GC1 Go.Proofs.Ytioifcanipijhaa.AidC1 Go.Proofs.Ytioifcanipijhaa.Lst Go.Proofs.YtioifcanipijhaaW.PrintWords Go.Proofs.YtioifcanipijhaaW.PrintLast
theorem FnExactDiscard : ∀ (a0_0 : Int) (a0_1 : Int) (a0_2 : Int) (a0_3 : Int) (a1_0 : Int) (l1_1 : List (Int)), ((Lit.int .i64 a0_0).wf = true) → ((Lit.int .i64 a0_1).wf = true) → ((Lit.int .i64 a0_2).wf = true) → ((Lit.int .i64 a0_3).wf = true) → ((Lit.int .i64 a1_0).wf = true) → (l1_1.length ≤ maxLen ∧ ∀ x_ ∈ l1_1, (Lit.int .u32 x_).wf = true) → ∃ k, GC1.laws_FnExactDiscard.f k a0_0 a0_1 a0_2 a0_3 a1_0 l1_1 = some true := by
  intro a b c d h l ha hb hc hd hh hl
  obtain ⟨K, hK⟩ : ∃ K : Nat, K = 2000000 := ⟨_, rfl⟩
  refine ⟨K + 9, ?_⟩
  unfold laws_FnExactDiscard.f laws_szOutEnd.f laws_toChanRow.f
  rw [sz_u l hl.1 1048576 (by omega) (by omega)]
  by_cases hn : (1048576 : Int) < (l.length : Int)
  · simp [hn]
  · have h0 : ¬ (1048576 - (l.length : Int) < 0) := by omega
    have ht : ∀ k, laws_toOutEnd.f (K + k) h l = some (h, l) := fun k => by
      unfold laws_toOutEnd.f
      rw [to_u l (by omega) (K + k) (by omega)]
      rfl
    have he : ∀ k (x : Int), laws_eqOutEnd.f (K + k) x l x l = some true := fun k x => by
      unfold laws_eqOutEnd.f
      rw [if_pos rfl, eq_u l (by omega) (K + k) (by omega)]
      rfl
    have hez : ∀ k (x : Int), laws_eqOutEnd.f (K + k) x [] x [] = some true := fun k x => by
      unfold laws_eqOutEnd.f
      rw [if_pos rfl, eq_u [] (by simp) (K + k) (by simp; omega)]
      rfl
    have hm : ∀ k, ∃ z, laws_markOutEnd.f (K + k) h l 1 = some (1 + (l.length : Int), z) := fun k => by
      unfold laws_markOutEnd.f
      rw [mark_u l 1 (by omega) (by omega) (by omega) (K + k) (by omega)]
      exact ⟨_, rfl⟩
    have hmz : ∀ k (x : Int), laws_markOutEnd.f (K + k) x [] 1 = some (1, []) := fun k x => by
      unfold laws_markOutEnd.f
      rw [mark_u [] 1 (by omega) (by omega) (by simp) (K + k) (by simp; omega)]
      rfl
    have hhz : ∀ k (x : Int), laws_heldOutEnd.f (K + k) x [] 1 = some 1 := fun k x => by
      unfold laws_heldOutEnd.f
      have := held_u 1 0 (by omega) (by omega) (by omega) (K + k) (by omega)
      rw [show marks (· % 4294967296) 1 0 = ([] : List Int) from rfl] at this
      rw [this]
      rfl
    obtain ⟨z, hz⟩ := hm 9
    have es := out_s a b c d h l (by omega)
    have ei := out_i a b c d h l (by omega)
    have h1 : ¬ (1 + (l.length : Int) < 0) := by omega
    by_cases ho : OutB a b c d h l.length
    · simp [hn, h0, ht, he, hez, hz, h1, es, ei, ho, spec_Discard.f, impl_Discard.f, laws_FnExactDiscard.j0, laws_toChanRow.f, hmz, hhz]
    · simp [hn, h0, ht, he, hez, hz, h1, es, ei, ho, spec_Discard.f, impl_Discard.f, laws_FnExactDiscard.j0, laws_toChanRow.f, hmz, hhz]
end Go.Proofs.Ytioifcanipijhaa.Pure
