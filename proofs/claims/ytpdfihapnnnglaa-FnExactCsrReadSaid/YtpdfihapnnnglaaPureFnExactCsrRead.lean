/- The pure statement of the law FnExactCsrRead: what the given program's function and the reference's come to is the same, for all plain data. No condition. -/
import Derived.Test.YtpdfihapnnnglaaPFnExactCsrReadx1
import Derived.Test.YtpdfihapnnnglaaBit
namespace Go.Proofs.Ytpdfihapnnnglaa.Pure
open Go.RowKit Go.Proofs.Ytpdfihapnnnglaa Go.Proofs.Ytpdfihapnnnglaa.PFnExactCsrRead Go.Proofs.YtpdfihapnnnglaaW.PrintWords Go.Proofs.YtpdfihapnnnglaaW.PrintLast
theorem FnExactCsrRead : ∀ (a0_0 : Bool) (a0_1 : Int) (a0_2 : Int) (a0_3 : Int) (a0_4 : Int) (a0_5 : Bool) (a0_6 : Bool) (a0_7 : Int) (a1 : Int) (a2 : Int), ((Lit.int .u32 a0_1).wf = true) → ((Lit.int .u32 a0_2).wf = true) → ((Lit.int .u32 a0_3).wf = true) → ((Lit.int .u32 a0_4).wf = true) → ((Lit.int .u32 a0_7).wf = true) → ((Lit.int .i64 a1).wf = true) → ((Lit.int .i64 a2).wf = true) → PFnExactCsrRead.laws_FnExactCsrRead.f a0_0 a0_1 a0_2 a0_3 a0_4 a0_5 a0_6 a0_7 a1 a2 = some true := by
  intro a b c d e f g h i j hb hc hd he hh hi hj
  have hw := Bit.w64 hj
  have hmod : ∃ r, spec_l01Mod.f j 4294967296 = some r ∧ r % 4294967296 = j % 4294967296 := by
    unfold spec_l01Mod.f
    rw [if_neg (by decide)]
    rcases Int.le_total 0 j with h0 | h0
    · rw [Int.tmod_eq_emod_of_nonneg h0, if_neg (by omega)]
      exact ⟨_, rfl, by omega⟩
    · obtain ⟨m, rfl⟩ : ∃ m : Int, j = -m := ⟨-j, by omega⟩
      rw [Int.neg_tmod, Int.tmod_eq_emod_of_nonneg (by omega)]
      split
      · refine ⟨_, rfl, ?_⟩
        unfold wrap64
        omega
      · exact ⟨_, rfl, by omega⟩
  obtain ⟨r, hr, hm⟩ := hmod
  have key : ∃ r, spec_CsrRead.f a b c d e f g h i j = some r ∧ impl_CsrRead.f a b c d e f g h i j = some r := by
    unfold spec_CsrRead.f impl_CsrRead.f spec_l08One.f impl_bitOf.f
    rw [hr]
    simp only [Option.bind_some, hm]
    cases a <;> cases f <;> (repeat' split) <;> exact ⟨_, rfl, rfl⟩
  obtain ⟨⟨x0, x1⟩, e1, e2⟩ := key
  unfold laws_FnExactCsrRead.f laws_toVirt.f
  simp [e1, e2]
end Go.Proofs.Ytpdfihapnnnglaa.Pure
