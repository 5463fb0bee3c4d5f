/- The pure statement of the law FnExactDue: what the given program's function and the reference's come to is the same, for all plain data. No condition. -/
import Derived.Test.YtnegmikmcccaeaaDoorAidT
namespace Go.Proofs.YtnegmikmcccaeaaDoor.Pure
open Go.RowKit Go.Proofs.YtnegmikmcccaeaaDoor Go.Proofs.YtnegmikmcccaeaaDoor.GT Go.Proofs.YtnegmikmcccaeaaDoor.AidT Go.Proofs.YtnegmikmcccaeaaDoorW.PrintWords Go.Proofs.YtnegmikmcccaeaaDoorW.PrintLast
theorem FnExactDue : ∀ (a0_0 : Bool) (a0_1 : Int) (a0_2 : Int) (a0_3 : Int) (a0_4 : Int) (a0_5 : Bool) (a0_6 : Bool) (a0_7 : Int) (a1 : Int), ((Lit.int .u32 a0_1).wf = true) → ((Lit.int .u32 a0_2).wf = true) → ((Lit.int .u32 a0_3).wf = true) → ((Lit.int .u32 a0_4).wf = true) → ((Lit.int .u32 a0_7).wf = true) → ((Lit.int .i64 a1).wf = true) → ∃ k, GT.laws_FnExactDue.f k a0_0 a0_1 a0_2 a0_3 a0_4 a0_5 a0_6 a0_7 a1 = some true := by
  intro a b c d e f g p i hb hc hd he hp hi
  have h1 := Bit.w32 hp
  have h2 := Bit.w32 he
  refine ⟨100, ?_⟩
  unfold laws_FnExactDue.f laws_toVirt.f
  have hs := due_same a b c d e f g p i h1.1 h1.2 h2.1 h2.2 100 (by decide)
  obtain ⟨r, hr⟩ : ∃ r, impl_Due.f a b c d e f g p i = some r := by
    unfold impl_Due.f
    rw [if_pos h1]
    exact ⟨_, rfl⟩
  rw [Option.bind_some]
  dsimp only
  rw [bs (hs.trans hr), Option.bind_some]
  dsimp only
  rw [bs hr, if_pos rfl]
end Go.Proofs.YtnegmikmcccaeaaDoor.Pure
