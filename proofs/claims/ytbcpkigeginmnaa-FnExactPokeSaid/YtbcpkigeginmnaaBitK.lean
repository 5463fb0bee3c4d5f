/- Bits of 32-bit words, told by division: a bit read, set and struck; masks; shifts. Plain laws of whole numbers, no program in sight. -/
import Derived.Laws.BitsLemmas
import Derived.WalkKit
import Derived.Test.YtbcpkigeginmnaaWMoreK
namespace Go.Proofs.Ytbcpkigeginmnaa.Bit
open Go.RowKit Go.Proofs.YtbcpkigeginmnaaW.PrintWords

theorem parts (p d : Nat) : p = 2 ^ (d + 1) * (p / 2 ^ (d + 1)) + (2 ^ d * (p / 2 ^ d % 2) + p % 2 ^ d) := by
  have h1 : p / 2 ^ (d + 1) = p / 2 ^ d / 2 := by rw [Nat.pow_succ, Nat.div_div_eq_div_mul]
  have h2 := Nat.div_add_mod p (2 ^ d)
  have h3 := Nat.div_add_mod (p / 2 ^ d) 2
  rw [h1]
  have h4 : 2 ^ (d + 1) * (p / 2 ^ d / 2) = 2 ^ d * (2 * (p / 2 ^ d / 2)) := by rw [Nat.pow_succ, Nat.mul_assoc]
  rw [h4, ← Nat.add_assoc, ← Nat.mul_add, h3, h2]

theorem w32 {n : Int} (h : (Lit.int .u32 n).wf = true) : 0 ≤ n ∧ n < 4294967296 := by
  simp only [Lit.wf, IntKind.min, IntKind.max, IntKind.signed, IntKind.bits, Bool.and_eq_true, decide_eq_true_eq, Bool.false_eq_true, if_false] at h
  omega
theorem w64 {n : Int} (h : (Lit.int .i64 n).wf = true) : -9223372036854775808 ≤ n ∧ n ≤ 9223372036854775807 := by
  simp only [Lit.wf, IntKind.min, IntKind.max, IntKind.signed, IntKind.bits, Bool.and_eq_true, decide_eq_true_eq, if_true] at h
  omega

end Go.Proofs.Ytbcpkigeginmnaa.Bit
