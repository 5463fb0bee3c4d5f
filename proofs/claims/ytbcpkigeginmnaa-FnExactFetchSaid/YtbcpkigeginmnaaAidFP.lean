/- Plain laws: the reference's and the program's Peek and Fetch agree. No program in sight. -/
import Derived.Test.YtbcpkigeginmnaaGFx0
import Derived.Test.YtbcpkigeginmnaaGFx14
import Derived.Test.YtbcpkigeginmnaaGFx16
import Derived.Test.YtbcpkigeginmnaaFepF
import Derived.Test.YtbcpkigeginmnaaAidFL
namespace Go.Proofs.Ytbcpkigeginmnaa.AidFP
open Go.RowKit Go.Proofs.Ytbcpkigeginmnaa Go.Proofs.Ytbcpkigeginmnaa.AidFW Go.Proofs.Ytbcpkigeginmnaa.AidFF Go.Proofs.Ytbcpkigeginmnaa.AidFG Go.Proofs.Ytbcpkigeginmnaa.AidFL Go.Proofs.Ytbcpkigeginmnaa.GF Go.Proofs.Ytbcpkigeginmnaa.Lst Go.Proofs.YtbcpkigeginmnaaW.PrintWords Go.Proofs.YtbcpkigeginmnaaW.PrintLast
theorem ram_bytes (ram : List (List Int)) (h : ∀ x ∈ ram, x.length ≤ maxLen ∧ ∀ y ∈ x, (Lit.int .u8 y).wf = true) : ∀ x ∈ ram, Bytes x := fun x hx y hy => w8 ((h x hx).2 y hy)
theorem peek_eq (l : List S70) (hwf : ∀ x ∈ l, WfW x) (r : List Int) (p : Int) (ram : List (List Int)) (hby : ∀ x ∈ ram, Bytes x) (hlen : l.length ≤ 9000000) (a s : Int) (ha : (Lit.int .u32 a).wf = true) (k : Nat) (hk : l.length + 3000 < k) :
    ∃ x t, spec_Peek.f k l r p ram a s = some (x, t) ∧ impl_Peek.f k l r p ram a s = some (x, t) := by
  obtain ⟨b, hs, hi, hb⟩ := gok l hwf r p ram hlen k (by omega)
  unfold spec_Peek.f impl_Peek.f
  rw [hs, hi, Option.bind_some, Option.bind_some]
  cases b with
  | false => rw [if_neg (by decide), if_neg (by decide)]; exact ⟨_, _, rfl, rfl⟩
  | true =>
    rw [if_pos rfl, if_pos rfl]
    obtain ⟨hW, hr, h0, hram, hfit⟩ := hb rfl
    have hw : wrap64 a = a := by have := Bit.w32 ha; exact wr (by omega) (by omega)
    rw [flt_s l hwf hlen a s 1 ha k (by omega), Option.bind_some]
    by_cases ht : fltT l a s 1 = 0
    · rw [if_pos ht]
      unfold fltT at ht
      rw [if_pos hW] at ht
      by_cases hc : (s = 1 ∨ s = 4) ∧ ((1 : Int) = 1 ∨ (1 : Int) = 2 ∨ (1 : Int) = 4)
      · rw [if_pos hc] at ht
        obtain ⟨i, o, hi2, he, ho, hos, hf1, _, _⟩ := place l hwf hW a s 1 ha hc.1 ht
        rw [hw, get_s l r p ram hram hfit hby hlen a s hc.1 i o hi2 he ho hos hf1 k (by omega), load_i l r p ram hram hfit hby a s 1 ha hc.1 hc.2 ht i o hi2 he ho hos hf1 k (by omega)]
        exact ⟨_, _, rfl, rfl⟩
      · rw [if_neg hc] at ht
        exact absurd ht (by decide)
    · rw [if_neg ht, load_f l r p ram a s 1 ha k (by omega) (fltT l a s 1) (by unfold fltT; rw [if_pos hW]) ht]
      exact ⟨_, _, rfl, rfl⟩
theorem fetch_eq (l : List S70) (hwf : ∀ x ∈ l, WfW x) (r : List Int) (p : Int) (ram : List (List Int)) (hby : ∀ x ∈ ram, Bytes x) (hlen : l.length ≤ 9000000) (hp : (Lit.int .u32 p).wf = true) (k : Nat) (hk : l.length + 3000 < k) :
    ∃ x t, spec_Fetch.f k l r p ram = some (x, t) ∧ impl_Fetch.f k l r p ram = some (x, t) := by
  obtain ⟨b, hs, hi, hb⟩ := gok l hwf r p ram hlen k (by omega)
  unfold spec_Fetch.f impl_Fetch.f spec_l08Fetch.f
  rw [hs, hi, Option.bind_some, Option.bind_some]
  cases b with
  | false => rw [if_neg (by decide), if_neg (by decide)]; exact ⟨_, _, rfl, rfl⟩
  | true =>
    rw [if_pos rfl, if_pos rfl]
    obtain ⟨hW, hr, h0, hram, hfit⟩ := hb rfl
    have hw : wrap64 p = p := by have := Bit.w32 hp; exact wr (by omega) (by omega)
    have h4 : (4 : Int) = 1 ∨ (4 : Int) = 4 := .inr rfl
    have hk4 : (4 : Int) = 1 ∨ (4 : Int) = 2 ∨ (4 : Int) = 4 := .inr (.inr rfl)
    rw [fault_s l (areW_win hwf hW) hlen p 4 4 hp h4 hk4 k (by omega), Option.bind_some]
    by_cases ht : fltB l p 4 4 = 0
    · rw [if_pos ht]
      obtain ⟨i, o, hi2, he, ho, hos, hf1, _, _⟩ := place l hwf hW p 4 4 hp h4 ht
      rw [hw, get_s l r p ram hram hfit hby hlen p 4 h4 i o hi2 he ho hos hf1 k (by omega), load_i l r p ram hram hfit hby p 4 4 hp h4 hk4 ht i o hi2 he ho hos hf1 k (by omega)]
      exact ⟨_, _, rfl, rfl⟩
    · rw [if_neg ht, load_f l r p ram p 4 4 hp k (by omega) (fltB l p 4 4) (if_pos ⟨h4, hk4⟩) ht]
      exact ⟨_, _, rfl, rfl⟩
end Go.Proofs.Ytbcpkigeginmnaa.AidFP
