/- The pure statement of the law FnExactFetch: the program's function and the reference's come to the same. -/
import Derived.Test.YtbcpkigeginmnaaGFx0
import Derived.Test.YtbcpkigeginmnaaGFx15
import Derived.Test.YtbcpkigeginmnaaAidFP
namespace Go.Proofs.Ytbcpkigeginmnaa.Pure
open Go.RowKit Go.Proofs.Ytbcpkigeginmnaa Go.Proofs.Ytbcpkigeginmnaa.AidFW Go.Proofs.Ytbcpkigeginmnaa.AidFG Go.Proofs.Ytbcpkigeginmnaa.AidFP Go.Proofs.Ytbcpkigeginmnaa.GF Go.Proofs.YtbcpkigeginmnaaW.PrintWords Go.Proofs.YtbcpkigeginmnaaW.PrintLast
theorem FnExactFetch : ∀ (l0 : List (GF.S72)) (l1_0 : List (Int)) (a1_1 : Int) (l1_2 : List (List (Int))), (l0.length ≤ maxLen ∧ ∀ x_ ∈ l0, ((Lit.int .i64 x_.f0).wf = true) ∧ (((Lit.int .i64 x_.f1).wf = true) ∧ ((Lit.int .i64 x_.f2).wf = true))) → (l1_0.length ≤ maxLen ∧ ∀ x_ ∈ l1_0, (Lit.int .u32 x_).wf = true) → ((Lit.int .u32 a1_1).wf = true) → (l1_2.length ≤ maxLen ∧ ∀ x_ ∈ l1_2, x_.length ≤ maxLen ∧ ∀ x__ ∈ x_, (Lit.int .u8 x__).wf = true) → ∃ k, GF.laws_FnExactFetch.f k l0 l1_0 a1_1 l1_2 = some true := by
  intro l0 r p ram  ⟨hlen, hwf⟩ ⟨hr, hrw⟩ hp ⟨hram, hramw⟩ 
  refine ⟨30000000, ?_⟩
  generalize hk : (30000000 : Nat) = k
  obtain ⟨k', hk'⟩ : ∃ m, k = m + 1 := ⟨k - 1, by omega⟩
  unfold laws_FnExactFetch.f
  rw [sz_w l0 hlen 1048576 (by decide) (by decide), Option.bind_some]
  by_cases h : (1048576 : Int) < (l0.length : Int)
  · rw [if_pos h, if_pos (by decide)]
  · rw [if_neg h, if_neg (by omega)]
    obtain ⟨q, hq, hq2⟩ := sz_g r p ram hr hram (fun x hx => (hramw x hx).1) (1048576 - (l0.length : Int)) (by omega) (by omega) k (by omega)
    rw [hq, Option.bind_some]
    by_cases c : q < 0
    · rw [if_pos c]
    · rw [if_neg c]
      have ht : (r.length : Int) + (ram.length : Int) + (tot ram : Int) ≤ 1048576 - (l0.length : Int) := hq2.resolve_left c
      have hb : ∀ x ∈ ram, x.length ≤ 9000000 := fun x hx => by have := tot_mem hx; omega
      have hm : (l0.map toW).length ≤ 9000000 := by rw [List.length_map]; omega
      have hmk : (l0.map toW).length + 3000 < k := by rw [List.length_map]; omega
      have hmk' : (l0.map toW).length < k' := by rw [List.length_map]; omega
      have tw := to_w l0 (by omega) k (by omega)
      have tw' := to_w l0 (by omega) k' (by omega)
      have tg := to_g r p ram (by omega) (by omega) hb k (by omega)
      have tg' := to_g r p ram (by omega) (by omega) hb k' (by omega)
      have ew := eq_w _ hm k' (by omega)
      have eg := eq_g r p ram (by omega) (by omega) hb k' (by omega)
      obtain ⟨x, t, hs, hi⟩ := fetch_eq (l0.map toW) (map_wf l0 hwf) r p ram (ram_bytes ram hramw) hm hp k hmk
      rw [tw, Option.bind_some, tg, Option.bind_some, hs, Option.bind_some, Option.bind_some, Option.bind_some, hi, Option.bind_some, if_pos rfl]
      subst hk'
      have e : (t != t) = false := by simp
      show laws_FnExactFetch.j0 (k' + 1) l0 (l0.map toW) (t != t) r p ram r p ram = _
      rw [e]
      simp only [laws_FnExactFetch.j0]
      rw [if_neg (by decide), tw', Option.bind_some, ew, Option.bind_some, if_pos rfl, tg', Option.bind_some, eg, Option.bind_some, if_pos rfl]
end Go.Proofs.Ytbcpkigeginmnaa.Pure
