/- The pure statement of the law FnExactAlu of the given program, for all plain data. No condition. -/
import Derived.Test.YtpdfihapnnnglaaGBx2
import Derived.Test.YtpdfihapnnnglaaAidB
namespace Go.Proofs.Ytpdfihapnnnglaa.Pure
open Go.RowKit Go.Proofs.Ytpdfihapnnnglaa Go.Proofs.Ytpdfihapnnnglaa.GB Go.Proofs.Ytpdfihapnnnglaa.Lst Go.Proofs.YtpdfihapnnnglaaW.PrintWords Go.Proofs.YtpdfihapnnnglaaW.PrintLast Go.Proofs.YtpdfihapnnnglaaW.PrintMore Go.Proofs.Ytpdfihapnnnglaa.AidB
theorem FnExactAlu : laws_FnExactAlu.Pure := by
  intro a b c ha hb hc
  obtain ⟨b0, b1⟩ := w32 hb
  obtain ⟨c0, c1⟩ := w32 hc
  obtain ⟨p, rfl⟩ := Int.eq_ofNat_of_zero_le b0
  obtain ⟨n, rfl⟩ := Int.eq_ofNat_of_zero_le c0
  have hp : p < 2 ^ 32 := by omega
  have hn : n < 2 ^ 32 := by omega
  obtain ⟨K, hK⟩ : ∃ K : Nat, 40 ≤ K := ⟨40, Nat.le_refl _⟩
  refine ⟨K, ?_⟩
  have e1 := alu_eq a p n hp hn K hK
  obtain ⟨r, e2⟩ := alu_some a p n
  unfold laws_FnExactAlu.f
  rw [e1, e2]
  simp only [Option.bind_some, if_true]
end Go.Proofs.Ytpdfihapnnnglaa.Pure
