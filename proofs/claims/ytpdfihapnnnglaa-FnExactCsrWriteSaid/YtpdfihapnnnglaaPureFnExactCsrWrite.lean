/- The pure statement of the law FnExactCsrWrite: what the given program's function and the reference's come to is the same, for all plain data. No condition. -/
import Derived.Test.YtpdfihapnnnglaaPFnExactCsrWritex1
import Derived.Test.YtpdfihapnnnglaaBit
namespace Go.Proofs.Ytpdfihapnnnglaa.Pure
open Go.RowKit Go.Proofs.Ytpdfihapnnnglaa Go.Proofs.Ytpdfihapnnnglaa.PFnExactCsrWrite Go.Proofs.YtpdfihapnnnglaaW.PrintWords Go.Proofs.YtpdfihapnnnglaaW.PrintLast
theorem FnExactCsrWrite : ∀ (a0_0 : Bool) (a0_1 : Int) (a0_2 : Int) (a0_3 : Int) (a0_4 : Int) (a0_5 : Bool) (a0_6 : Bool) (a0_7 : Int) (a1 : Int) (a2 : Int), ((Lit.int .u32 a0_1).wf = true) → ((Lit.int .u32 a0_2).wf = true) → ((Lit.int .u32 a0_3).wf = true) → ((Lit.int .u32 a0_4).wf = true) → ((Lit.int .u32 a0_7).wf = true) → ((Lit.int .i64 a1).wf = true) → ((Lit.int .u32 a2).wf = true) → PFnExactCsrWrite.laws_FnExactCsrWrite.f a0_0 a0_1 a0_2 a0_3 a0_4 a0_5 a0_6 a0_7 a1 a2 = some true := by
  intro a b c d e f g h i j hb hc hd he hh hi hj
  obtain ⟨j0, j1⟩ := Bit.w32 hj
  obtain ⟨n, rfl⟩ := Int.eq_ofNat_of_zero_le j0
  have hbit : bits .and .u32 (n : Int) 1 = Int.tmod (n : Int) 2 := by
    rw [Bit.and_one_u32 n (by omega), Int.tmod_eq_emod_of_nonneg j0]
    omega
  have key : ∃ r, spec_CsrWrite.f a b c d e f g h i n = some r ∧ impl_CsrWrite.f a b c d e f g h i n = some r := by
    unfold spec_CsrWrite.f impl_CsrWrite.f
    rw [hbit]
    repeat' split
    all_goals exact ⟨_, rfl, rfl⟩
  obtain ⟨⟨x0, x1, x2, x3, x4, x5, x6, x7, x8⟩, e1, e2⟩ := key
  unfold laws_FnExactCsrWrite.f laws_toVirt.f laws_eqVirt.f
  simp [e1, e2]
end Go.Proofs.Ytpdfihapnnnglaa.Pure
