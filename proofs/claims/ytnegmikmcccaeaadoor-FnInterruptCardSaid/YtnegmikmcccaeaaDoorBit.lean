/- Bits of 32-bit words, told by division: a bit read, set and struck; masks; shifts. Plain laws of whole numbers, no program in sight. -/
import Derived.Laws.BitsLemmas
import Derived.WalkKit
import Derived.Test.YtnegmikmcccaeaaDoorWMore
namespace Go.Proofs.YtnegmikmcccaeaaDoor.Bit
open Go.RowKit Go.Proofs.YtnegmikmcccaeaaDoorW.PrintWords

theorem parts (p d : Nat) : p = 2 ^ (d + 1) * (p / 2 ^ (d + 1)) + (2 ^ d * (p / 2 ^ d % 2) + p % 2 ^ d) := by
  have h1 : p / 2 ^ (d + 1) = p / 2 ^ d / 2 := by rw [Nat.pow_succ, Nat.div_div_eq_div_mul]
  have h2 := Nat.div_add_mod p (2 ^ d)
  have h3 := Nat.div_add_mod (p / 2 ^ d) 2
  rw [h1]
  have h4 : 2 ^ (d + 1) * (p / 2 ^ d / 2) = 2 ^ d * (2 * (p / 2 ^ d / 2)) := by rw [Nat.pow_succ, Nat.mul_assoc]
  rw [h4, ← Nat.add_assoc, ← Nat.mul_add, h3, h2]

theorem or_new (p d : Nat) (h : p / 2 ^ d % 2 = 0) : p ||| 2 ^ d = p + 2 ^ d := by
  have hp := parts p d
  rw [h, Nat.mul_zero, Nat.zero_add] at hp
  have hr : p % 2 ^ d < 2 ^ d := Nat.mod_lt _ (Nat.two_pow_pos d)
  generalize p / 2 ^ (d + 1) = q at hp
  generalize p % 2 ^ d = r at hp hr
  have hd : 2 ^ d + r < 2 ^ (d + 1) := by rw [Nat.pow_succ]; omega
  have e1 : 2 ^ (d + 1) * q + r = 2 ^ (d + 1) * q ||| r := Nat.two_pow_add_eq_or_of_lt (by omega) q
  have e2 : 2 ^ (d + 1) * q + (2 ^ d + r) = 2 ^ (d + 1) * q ||| (2 ^ d + r) := Nat.two_pow_add_eq_or_of_lt hd q
  have e3 : 2 ^ d + r = 2 ^ d ||| r := by simpa using Nat.two_pow_add_eq_or_of_lt hr 1
  rw [hp, show 2 ^ (d + 1) * q + r + 2 ^ d = 2 ^ (d + 1) * q + (2 ^ d + r) by omega, e2, e3, e1, Nat.or_assoc, Nat.or_comm r]

theorem or_old (p d : Nat) (h : p / 2 ^ d % 2 = 1) : p ||| 2 ^ d = p := by
  have hp := parts p d
  rw [h, Nat.mul_one] at hp
  have hr : p % 2 ^ d < 2 ^ d := Nat.mod_lt _ (Nat.two_pow_pos d)
  generalize p / 2 ^ (d + 1) = q at hp
  generalize p % 2 ^ d = r at hp hr
  have hd : 2 ^ d + r < 2 ^ (d + 1) := by rw [Nat.pow_succ]; omega
  have e2 : 2 ^ (d + 1) * q + (2 ^ d + r) = 2 ^ (d + 1) * q ||| (2 ^ d + r) := Nat.two_pow_add_eq_or_of_lt hd q
  have e3 : 2 ^ d + r = 2 ^ d ||| r := by simpa using Nat.two_pow_add_eq_or_of_lt hr 1
  rw [hp, e2, e3, Nat.or_assoc, Nat.or_assoc, Nat.or_comm r, ← Nat.or_assoc (2 ^ d) (2 ^ d), Nat.or_self]

/-- A bit struck that is not there. -/
theorem strike_none (p d : Nat) (hp : p < 2 ^ 32) (h : p / 2 ^ d % 2 = 0) : (BitVec.ofNat 32 p &&& ~~~ BitVec.ofNat 32 (2 ^ d)).toNat = p := by
  have hb : p.testBit d = false := by rw [Nat.testBit_eq_decide_div_mod_eq, h]; rfl
  have : BitVec.ofNat 32 p &&& ~~~ BitVec.ofNat 32 (2 ^ d) = BitVec.ofNat 32 p := by
    apply BitVec.eq_of_getLsbD_eq
    intro i hi
    simp only [BitVec.getLsbD_and, BitVec.getLsbD_not, BitVec.getLsbD_ofNat, hi, decide_true, Bool.true_and, Nat.testBit_two_pow]
    by_cases e : d = i
    · subst e; simp [hb]
    · simp [e]
  rw [this, BitVec.toNat_ofNat, Nat.mod_eq_of_lt hp]

/-- A bit struck that is there. -/
theorem strike_some (p d : Nat) (hp : p < 2 ^ 32) (h : p / 2 ^ d % 2 = 1) : (BitVec.ofNat 32 p &&& ~~~ BitVec.ofNat 32 (2 ^ d)).toNat = p - 2 ^ d ∧ 2 ^ d ≤ p := by
  have h0 := parts p d
  rw [h, Nat.mul_one] at h0
  have hle : 2 ^ d ≤ p := by omega
  have hz : (p - 2 ^ d) / 2 ^ d % 2 = 0 := by
    have e : (p - 2 ^ d) / 2 ^ d = p / 2 ^ d - 1 := by
      have := Nat.sub_mul_div p (2 ^ d) 1
      rw [Nat.mul_one] at this
      exact this
    rw [e]
    have : 1 ≤ p / 2 ^ d := (Nat.le_div_iff_mul_le (Nat.two_pow_pos d)).2 (by omega)
    omega
  have ho := or_new (p - 2 ^ d) d hz
  rw [Nat.sub_add_cancel hle] at ho
  refine ⟨?_, hle⟩
  have hs := strike_none (p - 2 ^ d) d (by omega) hz
  have : BitVec.ofNat 32 p &&& ~~~ BitVec.ofNat 32 (2 ^ d) = BitVec.ofNat 32 (p - 2 ^ d) &&& ~~~ BitVec.ofNat 32 (2 ^ d) := by
    apply BitVec.eq_of_getLsbD_eq
    intro i hi
    rw [← ho]
    simp only [BitVec.getLsbD_and, BitVec.getLsbD_not, BitVec.getLsbD_ofNat, hi, decide_true, Bool.true_and, Nat.testBit_or, Nat.testBit_two_pow]
    rw [ho]
    by_cases e : d = i
    · subst e; simp
    · simp [e]
  rw [this, hs]

theorem pow_lt (d : Nat) (hd : d < 32) : 2 ^ d < 2 ^ 32 := Nat.pow_lt_pow_right (by decide) hd

theorem w32 {n : Int} (h : (Lit.int .u32 n).wf = true) : 0 ≤ n ∧ n < 4294967296 := by
  simp only [Lit.wf, IntKind.min, IntKind.max, IntKind.signed, IntKind.bits, Bool.and_eq_true, decide_eq_true_eq, Bool.false_eq_true, if_false] at h
  omega
theorem w64 {n : Int} (h : (Lit.int .i64 n).wf = true) : -9223372036854775808 ≤ n ∧ n ≤ 9223372036854775807 := by
  simp only [Lit.wf, IntKind.min, IntKind.max, IntKind.signed, IntKind.bits, Bool.and_eq_true, decide_eq_true_eq, if_true] at h
  omega

theorem wu64 (d : Nat) (hd : d < 64) : IntKind.u64.wrap (d : Int) = d := by
  have e : IntKind.u64.wrap (d : Int) = (d : Int) % 18446744073709551616 := by simp [IntKind.wrap, IntKind.bits, IntKind.signed]
  rw [e]
  omega
/-- '1 << d' of a 32-bit word. -/
theorem shl_one (d : Nat) (hd : d < 32) : shl .u32 1 (d : Int) = ((2 ^ d : Nat) : Int) := by
  unfold shl
  rw [Int.toNat_natCast, show min d (IntKind.bits .u32) = d from Nat.min_eq_left (by show d ≤ 32; omega), IntKind.wrap_u32]
  have := pow_lt d hd
  have e : (1 : Int) * 2 ^ d = ((2 ^ d : Nat) : Int) := by simp
  rw [e]
  generalize 2 ^ d = z at *
  omega
/-- 'x >> d' of a 32-bit word. -/
theorem shr_nat (x d : Nat) (hd : d < 32) : shr .u32 (x : Int) (d : Int) = ((x / 2 ^ d : Nat) : Int) := by
  unfold shr
  rw [Int.toNat_natCast, show min d (IntKind.bits .u32) = d from Nat.min_eq_left (by show d ≤ 32; omega)]
  simp
theorem or_u32 (p d : Nat) (hp : p < 2 ^ 32) (hd : d < 32) : bits .or .u32 (p : Int) ((2 ^ d : Nat) : Int) = ((p ||| 2 ^ d : Nat) : Int) :=
  (bits_nat .u32 32 (by decide) (fun n h0 h1 => by rw [IntKind.wrap_u32]; omega) p (2 ^ d) hp (pow_lt d hd)).2
theorem andNot_u32 (p d : Nat) : bits .andNot .u32 (p : Int) ((2 ^ d : Nat) : Int) = (((BitVec.ofNat 32 p &&& ~~~ BitVec.ofNat 32 (2 ^ d)).toNat : Nat) : Int) := by
  show IntKind.u32.wrap _ = _
  rw [IntKind.wrap_u32, BitVec.ofInt_natCast, BitVec.ofInt_natCast]
  have : (BitVec.ofNat 32 p &&& ~~~ BitVec.ofNat 32 (2 ^ d)).toNat < 2 ^ 32 := BitVec.isLt _
  show ((((BitVec.ofNat 32 p &&& ~~~ BitVec.ofNat 32 (2 ^ d)).toNat : Nat) : Int)) % 4294967296 = _
  omega
/-- 'x & 1' of an int. -/
theorem and_one (x : Nat) (hx : x < 2 ^ 62) : bits .and .i64 (x : Int) 1 = ((x % 2 : Nat) : Int) := by
  have := bits_mask .i64 62 (by decide) (fun n h0 h1 => by rw [IntKind.wrap_i64]; omega) 1 (by decide) (x : Int) (by omega) (by exact_mod_cast hx)
  simpa using this
theorem and_one_u32 (x : Nat) (hx : x < 2 ^ 32) : bits .and .u32 (x : Int) 1 = ((x % 2 : Nat) : Int) := by
  have := bits_mask .u32 32 (by decide) (fun n h0 h1 => by rw [IntKind.wrap_u32]; omega) 1 (by decide) (x : Int) (by omega) (by exact_mod_cast hx)
  simpa using this
end Go.Proofs.YtnegmikmcccaeaaDoor.Bit
