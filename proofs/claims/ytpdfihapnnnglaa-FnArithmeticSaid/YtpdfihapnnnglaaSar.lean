/- Shifting a 32-bit word right with its sign, bit by bit and at once: the same. Plain laws of whole numbers; the loop is any that obeys its equation. -/
import Derived.Test.YtpdfihapnnnglaaBit
import Derived.Test.YtpdfihapnnnglaaLst
namespace Go.Proofs.Ytpdfihapnnnglaa.Sar
open Go.RowKit Go.Proofs.Ytpdfihapnnnglaa.Lst Go.Proofs.YtpdfihapnnnglaaW.PrintWords Go.Proofs.YtpdfihapnnnglaaW.PrintLast Go.Proofs.YtpdfihapnnnglaaW.PrintMore
/-- The word shifted by n. -/
def sarN (a n : Nat) : Nat := ((BitVec.ofNat 32 a).sshiftRight n).toNat
theorem sar_lt (a n : Nat) : sarN a n < 2 ^ 32 := BitVec.isLt _
theorem sar_int (a n : Nat) (ha : a < 2 ^ 32) : (wrap32 (a : Int) / 2 ^ n) % 4294967296 = (sarN a n : Int) := by
  have h1 : (BitVec.ofNat 32 a).toInt = wrap32 (a : Int) := by
    rw [BitVec.toInt_eq_toNat_bmod, BitVec.toNat_ofNat, Nat.mod_eq_of_lt ha]
    rw [Int.bmod_def]
    unfold wrap32
    split <;> omega
  have h2 : ((BitVec.ofNat 32 a).sshiftRight n).toInt = wrap32 (a : Int) / 2 ^ n := by
    rw [BitVec.toInt_sshiftRight, h1, Int.shiftRight_eq_div_pow]
    simp
  rw [← h2, BitVec.toInt_eq_toNat_bmod]
  have : ((2 ^ 32 : Nat) : Int) = 4294967296 := by decide
  rw [← this, Int.bmod_emod]
  have := sar_lt a n
  unfold sarN at *
  omega
theorem sar_bit (a n m : Nat) (hm : m < 32) : sarN a n / 2 ^ m % 2 = if n + m < 32 then a / 2 ^ (n + m) % 2 else a / 2 ^ 31 % 2 := by
  have e : (sarN a n).testBit m = ((BitVec.ofNat 32 a).sshiftRight n).getLsbD m := rfl
  rw [← Nat.toNat_testBit, e, BitVec.getLsbD_sshiftRight]
  have hd : decide (32 ≤ m) = false := by simp; omega
  rw [hd]
  simp only [Bool.not_false, Bool.true_and]
  split
  · rename_i h
    rw [← Nat.toNat_testBit, BitVec.getLsbD_ofNat]
    simp [h]
  · rw [← Nat.toNat_testBit, BitVec.msb_eq_getLsbD_last, BitVec.getLsbD_ofNat]
    simp
theorem sar_loop (F : Nat → Int → Int → Int → Int → Option Int) (B : Int → Int → Option Int)
    (hF : ∀ k x b o i, F (k + 1) x b o i = if i ≥ 0 then (if wrap64 (i + b) > 31 then ((B x 31).bind fun t => F k x b (wrap64 (wrap64 (2 * o) + t)) (wrap64 (i - 1))) else ((B x (wrap64 (i + b))).bind fun t => F k x b (wrap64 (wrap64 (2 * o) + t)) (wrap64 (i - 1)))) else some (o % 4294967296))
    (hB : ∀ (p d : Nat), p < 2 ^ 32 → d < 32 → B (p : Int) (d : Int) = some ((p / 2 ^ d % 2 : Nat) : Int))
    (a n : Nat) (ha : a < 2 ^ 32) (hn : n < 32) (m : Nat) : ∀ (k o : Nat), m ≤ 32 → o < 2 ^ (32 - m) → m < k → F k (a : Int) (n : Int) (o : Int) ((m : Int) - 1) = some (((o * 2 ^ m + sarN a n % 2 ^ m : Nat) : Int) % 4294967296) := by
  induction m with
  | zero =>
    intro k o hm ho hk
    obtain ⟨k, rfl⟩ : ∃ j, k = j + 1 := ⟨k - 1, by omega⟩
    rw [hF, if_neg (by omega)]
    simp [Nat.mod_one]
  | succ m ih =>
    intro k o hm ho hk
    obtain ⟨k, rfl⟩ : ∃ j, k = j + 1 := ⟨k - 1, by omega⟩
    have hlt : 2 ^ (32 - (m + 1)) ≤ 2 ^ 31 := Nat.pow_le_pow_right (by decide) (by omega)
    have hg := sar_bit a n m (by omega)
    have hg2 : sarN a n / 2 ^ m % 2 < 2 := Nat.mod_lt _ (by decide)
    have hpw : 2 ^ (32 - m) = 2 * 2 ^ (32 - (m + 1)) := by rw [show 32 - m = (32 - (m + 1)) + 1 by omega, Nat.pow_succ, Nat.mul_comm]
    have next : F k (a : Int) (n : Int) (wrap64 (wrap64 (2 * (o : Int)) + ((sarN a n / 2 ^ m % 2 : Nat) : Int))) (wrap64 (((m + 1 : Nat) : Int) - 1 - 1)) = some (((o * 2 ^ (m + 1) + sarN a n % 2 ^ (m + 1) : Nat) : Int) % 4294967296) := by
      have i1 := ih k (2 * o + sarN a n / 2 ^ m % 2) (by omega) (by omega) (by omega)
      have e1 : wrap64 (2 * (o : Int)) = 2 * (o : Int) := wr (by omega) (by omega)
      have e2 : wrap64 (2 * (o : Int) + ((sarN a n / 2 ^ m % 2 : Nat) : Int)) = ((2 * o + sarN a n / 2 ^ m % 2 : Nat) : Int) := by rw [wr (by omega) (by omega)]; omega
      have e3 : wrap64 (((m + 1 : Nat) : Int) - 1 - 1) = (m : Int) - 1 := by rw [wr (by omega) (by omega)]; omega
      rw [e1, e2, e3, i1]
      have e4 : (2 * o + sarN a n / 2 ^ m % 2) * 2 ^ m + sarN a n % 2 ^ m = o * 2 ^ (m + 1) + sarN a n % 2 ^ (m + 1) := by
        rw [Nat.mod_pow_succ, Nat.pow_succ, Nat.add_mul, Nat.mul_comm (2 ^ m) (sarN a n / 2 ^ m % 2), Nat.mul_comm 2 o, Nat.mul_assoc, Nat.mul_comm 2 (2 ^ m)]
        omega
      rw [e4]
    rw [hF, if_pos (by omega)]
    have e0 : wrap64 (((m + 1 : Nat) : Int) - 1 + (n : Int)) = ((n + m : Nat) : Int) := by rw [wr (by omega) (by omega)]; omega
    rw [e0]
    by_cases hw : n + m < 32
    · rw [if_neg (by omega), hB a (n + m) ha hw, ← (by rw [hg, if_pos hw] : sarN a n / 2 ^ m % 2 = a / 2 ^ (n + m) % 2)]
      exact next
    · rw [if_pos (by omega), show (31 : Int) = ((31 : Nat) : Int) from rfl, hB a 31 ha (by decide), ← (by rw [hg, if_neg hw] : sarN a n / 2 ^ m % 2 = a / 2 ^ 31 % 2)]
      exact next
end Go.Proofs.Ytpdfihapnnnglaa.Sar
