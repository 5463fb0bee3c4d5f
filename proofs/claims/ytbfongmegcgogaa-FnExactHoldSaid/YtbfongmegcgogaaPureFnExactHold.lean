/- The pure statement of the law FnExactHold: what the given program's function and the reference's come to is the same, for all plain data. No condition. -/
import Derived.Test.YtbfongmegcgogaaGHx1
import Derived.Test.YtbfongmegcgogaaBitB
namespace Go.Proofs.Ytbfongmegcgogaa.Pure
open Go.RowKit Go.Proofs.Ytbfongmegcgogaa Go.Proofs.Ytbfongmegcgogaa.GH Go.Proofs.YtbfongmegcgogaaW.PrintWords Go.Proofs.YtbfongmegcgogaaW.PrintLast
namespace FnExactHoldAid
theorem w64 {n : Int} (h : (Lit.int .i64 n).wf = true) : -9223372036854775808 ≤ n ∧ n ≤ 9223372036854775807 := by
  simp only [Lit.wf, IntKind.min, IntKind.max, IntKind.signed, IntKind.bits, Bool.and_eq_true, decide_eq_true_eq, if_true] at h
  omega
theorem w32 {n : Int} (h : (Lit.int .u32 n).wf = true) : 0 ≤ n ∧ n ≤ 4294967295 := by
  simp only [Lit.wf, IntKind.min, IntKind.max, IntKind.signed, IntKind.bits, Bool.and_eq_true, decide_eq_true_eq, Bool.false_eq_true, if_false] at h
  omega
theorem in_s (a b c : Int) : spec_l01In.f a b c = some (decide (b ≤ a ∧ a ≤ c)) := by
  unfold spec_l01In.f; split <;> simp_all <;> omega
theorem in_i (a b c : Int) : impl_within.f a b c = some (decide (b ≤ a ∧ a ≤ c)) := by
  unfold impl_within.f; split <;> simp_all <;> omega
theorem wrap64_of {n : Int} (h0 : -9223372036854775808 ≤ n) (h1 : n ≤ 9223372036854775807) : wrap64 n = n := by
  unfold wrap64; omega
theorem bit_s (p d : Nat) (hp : p < 2 ^ 32) (hd : d < 32) : spec_l01Bit.f (p : Int) (d : Int) = some ((p / 2 ^ d % 2 : Nat) : Int) := by
  have hlt : p / 2 ^ d ≤ p := Nat.div_le_self _ _
  unfold spec_l01Bit.f
  rw [Bit.wu64 d (by omega), if_pos (by omega), Bit.shr_nat p d hd]
  generalize p / 2 ^ d = q at hlt ⊢
  rw [wrap64_of (by omega) (by omega), Bit.and_one q (by omega)]
end FnExactHoldAid
open FnExactHoldAid
theorem FnExactHold : ∀ (a0_0 : Bool) (a0_1 : Int) (a0_2 : Int) (a0_3 : Int) (a0_4 : Int) (a0_5 : Bool) (a0_6 : Bool) (a0_7 : Int) (a1 : Int), ((Lit.int .u32 a0_1).wf = true) → ((Lit.int .u32 a0_2).wf = true) → ((Lit.int .u32 a0_3).wf = true) → ((Lit.int .u32 a0_4).wf = true) → ((Lit.int .u32 a0_7).wf = true) → ((Lit.int .i64 a1).wf = true) → GH.laws_FnExactHold.f a0_0 a0_1 a0_2 a0_3 a0_4 a0_5 a0_6 a0_7 a1 = some true := by
  intro a b c d e f g h i hb hc hd he hh hi
  obtain ⟨h0, h1⟩ := Bit.w32 hh
  obtain ⟨p, rfl⟩ := Int.eq_ofNat_of_zero_le h0
  have hp : p < 2 ^ 32 := by omega
  have key : ∃ r, spec_Hold.f a b c d e f g p i = some r ∧ impl_Hold.f a b c d e f g p i = some r := by
    unfold spec_Hold.f impl_Hold.f
    simp only [in_s, in_i, Option.bind_some, decide_eq_true_eq]
    by_cases hin : 0 ≤ i ∧ i ≤ 31
    · rw [if_pos hin, if_pos hin]
      obtain ⟨n, rfl⟩ := Int.eq_ofNat_of_zero_le hin.1
      have hn : n < 32 := by omega
      have g0 : (0 : Int) ≤ (n : Int) := by omega
      simp only [bit_s p n hp hn, Bit.wu64 n (by omega), Bit.shl_one n hn, Bit.or_u32 p n hp hn, if_pos g0, Option.bind_some]
      have hpw := Bit.pow_lt n hn
      rcases Nat.mod_two_eq_zero_or_one (p / 2 ^ n) with hz | hz
      · have ho := Bit.or_new p n hz
        have hlt : p ||| 2 ^ n < 2 ^ 32 := Nat.or_lt_two_pow hp hpw
        rw [hz, if_pos (show ((0 : Nat) : Int) = 0 from rfl)]
        refine ⟨_, rfl, ?_⟩
        have : (((p ||| 2 ^ n : Nat)) : Int) = ((p : Int) + ((2 ^ n : Nat) : Int)) % 4294967296 := by rw [ho] at hlt ⊢; omega
        rw [this]
      · rw [hz, if_neg (by decide)]
        refine ⟨_, rfl, ?_⟩
        rw [Bit.or_old p n hz]
    · rw [if_neg hin, if_neg hin]
      exact ⟨_, rfl, rfl⟩
  obtain ⟨⟨x0, x1, x2, x3, x4, x5, x6, x7⟩, e1, e2⟩ := key
  unfold laws_FnExactHold.f laws_toVirt.f laws_eqVirt.f
  simp [e1, e2]
end Go.Proofs.Ytbfongmegcgogaa.Pure
