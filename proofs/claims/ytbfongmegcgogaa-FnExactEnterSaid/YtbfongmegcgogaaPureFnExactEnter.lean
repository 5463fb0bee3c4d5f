/- The pure statement of the law FnExactEnter: what the given program's function and the reference's come to is the same, for all plain data. No condition. -/
import Derived.Test.YtbfongmegcgogaaGHl
import Derived.Test.YtbfongmegcgogaaBitB
namespace Go.Proofs.Ytbfongmegcgogaa.Pure
open Go.RowKit Go.Proofs.Ytbfongmegcgogaa Go.Proofs.Ytbfongmegcgogaa.GH Go.Proofs.YtbfongmegcgogaaW.PrintWords Go.Proofs.YtbfongmegcgogaaW.PrintLast
namespace FnExactEnterAid
theorem w64 {n : Int} (h : (Lit.int .i64 n).wf = true) : -9223372036854775808 ≤ n ∧ n ≤ 9223372036854775807 := by
  simp only [Lit.wf, IntKind.min, IntKind.max, IntKind.signed, IntKind.bits, Bool.and_eq_true, decide_eq_true_eq, if_true] at h
  omega
theorem w32 {n : Int} (h : (Lit.int .u32 n).wf = true) : 0 ≤ n ∧ n ≤ 4294967295 := by
  simp only [Lit.wf, IntKind.min, IntKind.max, IntKind.signed, IntKind.bits, Bool.and_eq_true, decide_eq_true_eq, Bool.false_eq_true, if_false] at h
  omega
theorem in_s (a b c : Int) : spec_l01In.f a b c = some (decide (b ≤ a ∧ a ≤ c)) := by
  unfold spec_l01In.f; split <;> simp_all <;> omega
theorem in_i (a b c : Int) : impl_within.f a b c = some (decide (b ≤ a ∧ a ≤ c)) := by
  unfold impl_within.f; split <;> simp_all <;> omega
theorem wrap64_of {n : Int} (h0 : -9223372036854775808 ≤ n) (h1 : n ≤ 9223372036854775807) : wrap64 n = n := by
  unfold wrap64; omega
theorem bit_s (p d : Nat) (hp : p < 2 ^ 32) (hd : d < 32) : spec_l01Bit.f (p : Int) (d : Int) = some ((p / 2 ^ d % 2 : Nat) : Int) := by
  have hlt : p / 2 ^ d ≤ p := Nat.div_le_self _ _
  unfold spec_l01Bit.f
  rw [Bit.wu64 d (by omega), if_pos (by omega), Bit.shr_nat p d hd]
  generalize p / 2 ^ d = q at hlt ⊢
  rw [wrap64_of (by omega) (by omega), Bit.and_one q (by omega)]
end FnExactEnterAid
open FnExactEnterAid
theorem FnExactEnter : ∀ (a0_0 : Bool) (a0_1 : Int) (a0_2 : Int) (a0_3 : Int) (a0_4 : Int) (a0_5 : Bool) (a0_6 : Bool) (a0_7 : Int) (a1 : Int) (a2 : Int), ((Lit.int .u32 a0_1).wf = true) → ((Lit.int .u32 a0_2).wf = true) → ((Lit.int .u32 a0_3).wf = true) → ((Lit.int .u32 a0_4).wf = true) → ((Lit.int .u32 a0_7).wf = true) → ((Lit.int .i64 a1).wf = true) → ((Lit.int .u32 a2).wf = true) → GH.laws_FnExactEnter.f a0_0 a0_1 a0_2 a0_3 a0_4 a0_5 a0_6 a0_7 a1 a2 = some true := by
  intro a b c d e f g h i j hb hc hd he hh hi hj
  obtain ⟨h0, h1⟩ := Bit.w32 hh
  obtain ⟨p, rfl⟩ := Int.eq_ofNat_of_zero_le h0
  have hp : p < 2 ^ 32 := by omega
  have key : ∃ r, spec_Enter.f a b c d e f g p i j = some r ∧ impl_Enter.f a b c d e f g p i j = some r := by
    unfold spec_Enter.f impl_Enter.f
    simp only [in_s, in_i, Option.bind_some, decide_eq_true_eq]
    by_cases hin : 1 ≤ i ∧ i ≤ 33
    · rw [if_pos hin, if_pos hin]
      by_cases hone : i = 1
      · rw [if_pos hone, if_pos hone]
        exact ⟨_, rfl, rfl⟩
      · rw [if_neg hone, if_neg hone, wrap64_of (by omega) (by omega)]
        obtain ⟨n, hn0⟩ := Int.eq_ofNat_of_zero_le (show 0 ≤ i - 2 by omega)
        rw [hn0]
        have hn : n < 32 := by omega
        have g0 : (0 : Int) ≤ (n : Int) := by omega
        simp only [bit_s p n hp hn, Bit.wu64 n (by omega), Bit.shl_one n hn, Bit.andNot_u32 p n, if_pos g0, Option.bind_some]
        rcases Nat.mod_two_eq_zero_or_one (p / 2 ^ n) with hz | hz
        · rw [hz, if_neg (by decide), Bit.strike_none p n hp hz]
          exact ⟨_, rfl, rfl⟩
        · obtain ⟨hs, hle⟩ := Bit.strike_some p n hp hz
          rw [hz, if_pos (by decide), hs]
          refine ⟨_, rfl, ?_⟩
          have : (((p - 2 ^ n : Nat)) : Int) = ((p : Int) - ((2 ^ n : Nat) : Int)) % 4294967296 := by omega
          rw [this]
    · rw [if_neg hin, if_neg hin]
      exact ⟨_, rfl, rfl⟩
  obtain ⟨⟨x0, x1, x2, x3, x4, x5, x6, x7, x8⟩, e1, e2⟩ := key
  unfold laws_FnExactEnter.f laws_toVirt.f laws_eqVirt.f
  simp [e1, e2]
end Go.Proofs.Ytbfongmegcgogaa.Pure
