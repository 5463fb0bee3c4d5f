/- The pure statement of the law FnExactRoom: what the given program's function and the reference's come to is the same, for all plain data. No condition. -/
import Derived.Test.YtioifcanipijhaaAidC1
namespace Go.Proofs.Ytioifcanipijhaa.Pure
open Go.RowKit Go.Proofs.Ytioifcanipijhaa Go.Proofs.Ytioifcanipijhaa.GC1 Go.Proofs.Ytioifcanipijhaa.AidC1 Go.Proofs.Ytioifcanipijhaa.Lst Go.Proofs.YtioifcanipijhaaW.PrintWords Go.Proofs.YtioifcanipijhaaW.PrintLast
theorem FnExactRoom : ∀ (a0_0 : Int) (a0_1 : Int) (a0_2 : Int) (a0_3 : Int) (a1_0 : Int) (l1_1 : List (Int)), ((Lit.int .i64 a0_0).wf = true) → ((Lit.int .i64 a0_1).wf = true) → ((Lit.int .i64 a0_2).wf = true) → ((Lit.int .i64 a0_3).wf = true) → ((Lit.int .i64 a1_0).wf = true) → (l1_1.length ≤ maxLen ∧ ∀ x_ ∈ l1_1, (Lit.int .u32 x_).wf = true) → ∃ k, GC1.laws_FnExactRoom.f k a0_0 a0_1 a0_2 a0_3 a1_0 l1_1 = some true := by
  intro a b c d h l ha hb hc hd hh hl
  refine ⟨2000000, ?_⟩
  unfold laws_FnExactRoom.f laws_szOutEnd.f laws_toOutEnd.f laws_toChanRow.f laws_eqOutEnd.f impl_Room.f spec_Room.f impl_room.f
  rw [sz_u l hl.1 1048576 (by omega) (by omega)]
  by_cases hn : (1048576 : Int) < (l.length : Int)
  · simp [hn]
  · have ht := to_u l (by omega) 2000000 (by omega)
    have he := eq_u l (by omega) 2000000 (by omega)
    have h0 : ¬ (1048576 - (l.length : Int) < 0) := by omega
    have es := out_s a b c d h l (by omega)
    have ei := out_i a b c d h l (by omega)
    generalize decide (OutB a b c d h l.length) = o at es ei
    obtain ⟨r, hr⟩ : ∃ r, (if o = true then (if a = 0 then some (1 : Int) else some (wrap64 (wrap64 (d - h) - (l.length : Int)))) else some 0) = some r := by
      repeat' split
      all_goals exact ⟨_, rfl⟩
    simp [hn, h0, ht, he, es, ei]
    simp [hr]
end Go.Proofs.Ytioifcanipijhaa.Pure
