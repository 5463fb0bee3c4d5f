/- The pure statement of the law FnExactHealthRun of the given program, for all plain data. No condition. -/
import Derived.Test.YtpdfihapnnnglaaGBx10
import Derived.Test.YtpdfihapnnnglaaGBx11
import Derived.Test.YtpdfihapnnnglaaGBx12
import Derived.Test.YtpdfihapnnnglaaGBx6
import Derived.Test.YtpdfihapnnnglaaGBx9
import Derived.Test.YtpdfihapnnnglaaAidHB
namespace Go.Proofs.Ytpdfihapnnnglaa.Pure
open Go.RowKit Go.Proofs.Ytpdfihapnnnglaa Go.Proofs.Ytpdfihapnnnglaa.GB Go.Proofs.Ytpdfihapnnnglaa.Lst Go.Proofs.YtpdfihapnnnglaaW.PrintWords Go.Proofs.YtpdfihapnnnglaaW.PrintLast Go.Proofs.YtpdfihapnnnglaaW.PrintMore Go.Proofs.Ytpdfihapnnnglaa.AidHB
theorem FnExactHealthRun : ∀ (a0_0 : Int) (a0_1 : Int) (l1 : List (Int)), ((Lit.int .i64 a0_0).wf = true) → ((Lit.int .i64 a0_1).wf = true) → (l1.length ≤ maxLen ∧ ∀ x_ ∈ l1, (Lit.int .i64 x_).wf = true) → ∃ k, GB.laws_FnExactHealthRun.f k a0_0 a0_1 l1 = some true := by
  intro a b l _ _ hl
  have hl1 := hl.1
  obtain ⟨K, hK⟩ : ∃ K : Nat, K = 2000000 := ⟨_, rfl⟩
  refine ⟨K + 9, ?_⟩
  unfold laws_FnExactHealthRun.f
  by_cases hn : (l.length : Int) > 1048576
  · rw [if_pos hn]
  · rw [if_neg hn]
    have ht : ∀ k, laws_toIntS.f (K + k) l = some l := fun k => to_int_s l (by omega) (K + k) (by omega)
    have he : ∀ k, laws_eqIntS.f (K + k) l l = some true := fun k => eq_int_s l (by omega) (K + k) (by omega)
    have hs : ∀ k, spec_HealthRun.f (K + k) a b l = some (hrun a b l) := fun k => hall_s a b l (by omega) (K + k) (by omega)
    have hi : ∀ k, impl_HealthRun.f (K + k) a b l = some (hrun a b l) := fun k => hall_i a b l (by omega) (K + k) (by omega)
    have hlen := hrun_len a b l
    generalize hrun a b l = z at hs hi hlen
    obtain ⟨f, r, la, h, acts⟩ := z
    simp only at hlen
    have ha : ∀ k, laws_eqIntS.f (K + k) acts acts = some true := fun k => eq_int_s acts (by omega) (K + k) (by omega)
    have hm : ∀ k, laws_markIntS.f (K + k) l 1 = some (1 + (l.length : Int), marks (fun x => x) 1 l.length) := fun k => mark_int_s l 1 (by omega) (by omega) (by omega) (K + k) (by omega)
    have hma : ∀ k, laws_markIntS.f (K + k) acts 1 = some (1 + (acts.length : Int), marks (fun x => x) 1 acts.length) := fun k => mark_int_s acts 1 (by omega) (by omega) (by omega) (K + k) (by omega)
    have hh : ∀ k, laws_heldIntS.f (K + k) (marks (fun x => x) 1 acts.length) 1 = some (1 + (acts.length : Int)) := fun k => held_int_s 1 acts.length (by omega) (by omega) (by omega) (K + k) (by omega)
    have h1 : ¬ (1 + (l.length : Int) < 0) := by omega
    have h2 : ¬ (1 + (acts.length : Int) < 0) := by omega
    simp [laws_toPolicy.f, ht, hs, hi, eq_health, ha, he, hm, h1, hma, hh, h2, laws_FnExactHealthRun.j0, laws_FnExactHealthRun.j1, laws_FnExactHealthRun.j2]
end Go.Proofs.Ytpdfihapnnnglaa.Pure
