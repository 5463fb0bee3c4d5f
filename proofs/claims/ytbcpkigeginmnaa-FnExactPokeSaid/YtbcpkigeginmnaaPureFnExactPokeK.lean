/- The pure statement of the law FnExactPoke: the program's function and the reference's come to the same. No condition. -/
import Derived.Test.YtbcpkigeginmnaaAidxK
import Derived.Test.YtbcpkigeginmnaaLawxK
namespace Go.Proofs.Ytbcpkigeginmnaa.Pure
open Go.RowKit Go.Proofs.Ytbcpkigeginmnaa Go.Proofs.Ytbcpkigeginmnaa.AidFW Go.Proofs.Ytbcpkigeginmnaa.AidFG Go.Proofs.Ytbcpkigeginmnaa.AidFK Go.Proofs.Ytbcpkigeginmnaa.GF Go.Proofs.YtbcpkigeginmnaaW.PrintWords Go.Proofs.YtbcpkigeginmnaaW.PrintLast
theorem FnExactPoke : ∀ (l0 : List (GF.S72)) (l1_0 : List (Int)) (a1_1 : Int) (l1_2 : List (List (Int))) (a2 : Int) (a3 : Int) (a4 : Int), (l0.length ≤ maxLen ∧ ∀ x_ ∈ l0, ((Lit.int .i64 x_.f0).wf = true) ∧ (((Lit.int .i64 x_.f1).wf = true) ∧ ((Lit.int .i64 x_.f2).wf = true))) → (l1_0.length ≤ maxLen ∧ ∀ x_ ∈ l1_0, (Lit.int .u32 x_).wf = true) → ((Lit.int .u32 a1_1).wf = true) → (l1_2.length ≤ maxLen ∧ ∀ x_ ∈ l1_2, x_.length ≤ maxLen ∧ ∀ x__ ∈ x_, (Lit.int .u8 x__).wf = true) → ((Lit.int .u32 a2).wf = true) → ((Lit.int .i64 a3).wf = true) → ((Lit.int .u32 a4).wf = true) → ∃ k, GF.laws_FnExactPoke.f k l0 l1_0 a1_1 l1_2 a2 a3 a4 = some true := by
  intro l0 r p ram a2 a3 a4 ⟨hlen, hwf⟩ ⟨hr, hrw⟩ hp ⟨hram, hramw⟩ ha2 ha3 ha4
  refine ⟨0, ?_⟩
  unfold laws_FnExactPoke.f
  rw [if_pos]
  have hq := sz_w l0 hlen 1048576 (by decide) (by decide)
  by_cases h : (1048576 : Int) < (l0.length : Int)
  · rw [if_pos h] at hq
    exact ⟨_, hq, .inl (by decide)⟩
  · rw [if_neg h] at hq
    refine ⟨_, hq, .inr ⟨by omega, ?_⟩⟩
    obtain ⟨q, hq, hq2⟩ := sz_g r p ram hr hram (fun x hx => (hramw x hx).1) (1048576 - (l0.length : Int)) (by omega) (by omega) 30000000 (by omega)
    refine ⟨q, hq, ?_⟩
    by_cases c : q < 0
    · exact .inl c
    · have ht := hq2.resolve_left c
      rw [AidFH.tot_eq] at ht
      obtain ⟨R, P, M, F, hP, e1, e2, e3⟩ := poke_f (l0.map toW) (map_wf l0 hwf) r p ram (by rw [List.length_map]; omega) a2 a3 a4 ha2 ha4 30000000 (by rw [List.length_map]; omega)
      exact .inr ⟨by omega, by omega, by omega, 30000000, R, P, M, F, hP, by omega⟩
end Go.Proofs.Ytbcpkigeginmnaa.Pure
