/- The pure statement of the law FnArithmetic: of whatever two words are drawn. -/
import Derived.Test.YtpdfihapnnnglaaGBx5
import Derived.Test.YtpdfihapnnnglaaGBx6
import Derived.Test.YtpdfihapnnnglaaGBx7
import Derived.Test.YtpdfihapnnnglaaDrwB
import Derived.Test.YtpdfihapnnnglaaAidB
namespace Go.Proofs.Ytpdfihapnnnglaa.Pure
open Go.RowKit Go.Proofs.Ytpdfihapnnnglaa Go.Proofs.Ytpdfihapnnnglaa.GB Go.Proofs.Ytpdfihapnnnglaa.Lst Go.Proofs.Ytpdfihapnnnglaa.AidB Go.Proofs.Ytpdfihapnnnglaa.DrwB Go.Proofs.YtpdfihapnnnglaaW.PrintWords Go.Proofs.YtpdfihapnnnglaaW.PrintLast
set_option linter.unusedVariables false
theorem shl64 (d : Nat) (hd : d < 32) : shl .i64 1 (d : Int) = ((2 ^ d : Nat) : Int) := by
  unfold shl
  rw [Int.toNat_natCast, show min d (IntKind.bits .i64) = d from Nat.min_eq_left (by show d ≤ 64; omega), IntKind.wrap_i64]
  have := Bit.pow_lt d hd
  have e : (1 : Int) * 2 ^ d = ((2 ^ d : Nat) : Int) := by simp
  rw [e]
  generalize 2 ^ d = z at *
  omega
/-- Down, out of the quotient toward zero. -/
theorem floor_neg (s : Int) (P : Nat) (hP : 0 < P) (hs : s < 0) : s / (P : Int) = if Int.tmod s (P : Int) = 0 then Int.tdiv s (P : Int) else Int.tdiv s (P : Int) - 1 := by
  have hd := Int.tdiv_eq_ediv (a := s) (b := (P : Int))
  have hz : (Int.tmod s (P : Int) = 0) ↔ ((P : Int) ∣ s) := (Int.dvd_iff_tmod_eq_zero).symm
  have hsg : Int.sign (P : Int) = 1 := Int.sign_eq_one_of_pos (by omega)
  rw [hsg] at hd
  by_cases c : (P : Int) ∣ s
  · rw [if_pos (hz.2 c), hd, if_pos (.inr c), Int.add_zero]
  · rw [if_neg (fun h => c (hz.1 h)), hd, if_neg (fun h => h.elim (fun h => by omega) c)]
    omega
theorem floor_pos (s : Int) (P : Nat) (hs : 0 ≤ s) : s / (P : Int) = Int.tdiv s (P : Int) := by
  rw [Int.tdiv_eq_ediv_of_nonneg hs]
theorem sar_val (a b : Nat) (ha : a < 2 ^ 32) : impl_SarWord.f (a : Int) (b : Int) = some ((wrap32 (a : Int) / ((2 ^ (b % 32) : Nat) : Int)) % 4294967296) := by
  rw [sar_i a b ha, ← Sar.sar_int a (b % 32) ha]
  simp
theorem quot_in (s : Int) (P : Nat) (hP : 0 < P) (h0 : -4294967296 ≤ s) (h1 : s ≤ 4294967296) : wrap64 (Int.tdiv s (P : Int)) = Int.tdiv s (P : Int) ∧ wrap64 (Int.tdiv s (P : Int) - 1) = Int.tdiv s (P : Int) - 1 := by
  have : (Int.tdiv s (P : Int)).natAbs ≤ s.natAbs := by
    rw [Int.natAbs_tdiv]
    exact Nat.div_le_self _ _
  generalize Int.tdiv s (P : Int) = q at this ⊢
  have h2 : -4294967296 ≤ q := by omega
  have h3 : q ≤ 4294967296 := by omega
  exact ⟨wr (by omega) (by omega), wr (by omega) (by omega)⟩
theorem tm32' (b : Nat) (hb : b < 2 ^ 32) : IntKind.u64.wrap (wrap64 (Int.tmod (b : Int) 32)) = ((b % 32 : Nat) : Int) := by
  have h : b % 32 < 32 := Nat.mod_lt _ (by decide)
  rw [tm32, wr (by omega) (by omega), Bit.wu64 _ (by omega)]
theorem wr_mid (n : Int) (h0 : -9000000000 ≤ n) (h1 : n ≤ 9000000000) : wrap64 n = n := wr (by omega) (by omega)
theorem w32_hi (a : Nat) (h0 : (a : Int) ≥ 2147483648) (h1 : a < 2 ^ 32) : wrap32 (a : Int) = (a : Int) - 4294967296 := by unfold wrap32; omega
theorem w32_lo (a : Nat) (h0 : ¬ (a : Int) ≥ 2147483648) : wrap32 (a : Int) = (a : Int) := by unfold wrap32; omega
theorem j1_yes (a b : Nat) (ha : a < 2 ^ 32) (hb : b < 2 ^ 32) (k : Nat) (hk : 0 < k) : laws_FnArithmetic.j1 k (a : Int) (b : Int) false = some true := by
  obtain ⟨k, rfl⟩ : ∃ m, k = m + 1 := ⟨k - 1, by omega⟩
  have hn : b % 32 < 32 := Nat.mod_lt _ (by decide)
  have hP : 0 < 2 ^ (b % 32) := Nat.two_pow_pos _
  have a1 : -9000000000 ≤ (a : Int) := by omega
  have a2 : (a : Int) ≤ 9000000000 := by omega
  rw [laws_FnArithmetic.j1, if_neg (by decide)]
  by_cases b0 : (b : Int) = 0
  · have e : impl_Alu.f 10 (a : Int) (b : Int) = some (0, 5) := by
      unfold impl_Alu.f impl_alu.f
      simp [b0]
    rw [e, Option.bind_some, if_pos b0, if_pos rfl]
    rfl
  · have bp : 0 < b := by omega
    have e1 : impl_Alu.f 10 (a : Int) (b : Int) = some (((a / b : Nat) : Int), 0) := by
      have hq : a / b ≤ a := Nat.div_le_self _ _
      have hm : ((a / b : Nat) : Int) % 4294967296 = ((a / b : Nat) : Int) := by
        generalize a / b = q at hq ⊢
        omega
      have ht : Int.tdiv (a : Int) (b : Int) = ((a / b : Nat) : Int) := rfl
      unfold impl_Alu.f impl_alu.f
      simp only [if_neg b0, ht, hm]
      rfl
    have hqb : a / b * b ≤ a := Nat.div_mul_le_self a b
    have hrest : a - a / b * b < b := by
      have := Nat.div_add_mod a b
      have h2 := Nat.mod_lt a bp
      rw [Nat.mul_comm] at this
      omega
    have e2 : impl_Alu.f 9 ((a / b : Nat) : Int) (b : Int) = some (((a / b * b : Nat) : Int), 0) := by
      have hm : (((a / b : Nat) : Int) * (b : Int)) % 4294967296 = ((a / b * b : Nat) : Int) := by
        rw [← Int.natCast_mul]
        generalize a / b * b = q at hqb ⊢
        omega
      unfold impl_Alu.f impl_alu.f
      simp only [hm]
      rfl
    generalize hp : a / b * b = p at hqb hrest e2
    have c1 : (((a : Int) - (p : Int)) % 4294967296) < (b : Int) := by omega
    have c2 : (p : Int) ≤ (a : Int) := by omega
    rw [e1, Option.bind_some, if_neg b0]
    have n0 : (0 : Int) ≤ ((b % 32 : Nat) : Int) := by omega
    have pos : ¬ ((a : Int) < 0) := by omega
    have pos' : 0 ≤ (a : Int) := by omega
    have m1 : -9000000000 ≤ (a : Int) - 4294967296 := by omega
    have m2 : (a : Int) - 4294967296 ≤ 9000000000 := by omega
    have m3 : -4294967296 ≤ (a : Int) - 4294967296 := by omega
    have m4 : (a : Int) - 4294967296 ≤ 4294967296 := by omega
    have m5 : -4294967296 ≤ (a : Int) := by omega
    have m6 : (a : Int) ≤ 4294967296 := by omega
    have m7 : (a : Int) - 4294967296 < 0 := by omega
    simp only [e2, Option.bind_some, tm32' b hb, shl64 (b % 32) hn, wr_mid _ a1 a2, sar_val a b ha, if_pos c1, if_pos c2, if_true]
    generalize hPP : 2 ^ (b % 32) = P at hP ⊢
    have p0 : ¬ ((P : Int) = 0) := Int.ne_of_gt (Int.natCast_pos.2 hP)
    by_cases big : (a : Int) ≥ 2147483648
    · have qi := quot_in ((a : Int) - 4294967296) P hP m3 m4
      have fl := floor_neg ((a : Int) - 4294967296) P hP m7
      have w1 := w32_hi a big ha
      have w2 := wr_mid _ m1 m2
      have neg := m7
      rw [if_pos big, if_pos n0, if_neg p0, w1, w2, if_pos neg, qi.1, qi.2]
      by_cases c : Int.tmod ((a : Int) - 4294967296) (P : Int) = 0
      · rw [if_pos c] at fl ⊢
        rw [fl]
        simp
      · rw [if_neg c] at fl ⊢
        rw [fl]
        simp
    · have qi := quot_in (a : Int) P hP m5 m6
      have fl := floor_pos (a : Int) P pos'
      have w1 := w32_lo a big
      rw [if_neg big, if_pos n0, if_neg p0, w1, if_neg pos, qi.1, fl]
      simp
theorem xor32 (a b : Nat) (ha : a < 2 ^ 32) (hb : b < 2 ^ 32) : bits .xor .u32 (a : Int) (b : Int) = ((a ^^^ b : Nat) : Int) := by
  have hx : a ^^^ b < 2 ^ 32 := Nat.xor_lt_two_pow ha hb
  have h1 : (BitVec.ofInt 32 (a : Int)).toNat = a := by
    rw [BitVec.ofInt_natCast, BitVec.toNat_ofNat]; exact Nat.mod_eq_of_lt ha
  have h2 : (BitVec.ofInt 32 (b : Int)).toNat = b := by
    rw [BitVec.ofInt_natCast, BitVec.toNat_ofNat]; exact Nat.mod_eq_of_lt hb
  show IntKind.u32.wrap (((BitVec.ofInt 32 (a : Int) ^^^ BitVec.ofInt 32 (b : Int)).toNat : Nat) : Int) = _
  rw [IntKind.wrap_u32, BitVec.toNat_xor, h1, h2]
  generalize a ^^^ b = z at hx ⊢
  omega
theorem w32_inj (a b : Nat) (ha : a < 2 ^ 32) (hb : b < 2 ^ 32) (h : wrap32 (a : Int) = wrap32 (b : Int)) : a = b := by
  unfold wrap32 at h; omega
theorem j0_yes (a b : Nat) (ha : a < 2 ^ 32) (hb : b < 2 ^ 32) (k : Nat) (hk : 2 ≤ k) (x y : Int) (hx : x = if wrap32 (a : Int) < wrap32 (b : Int) then 1 else 0) (hy : y = if wrap32 (b : Int) < wrap32 (a : Int) then 1 else 0) :
    laws_FnArithmetic.j0 k (a : Int) (b : Int) x y false = some true := by
  obtain ⟨k, rfl⟩ : ∃ m, k = m + 1 := ⟨k - 1, by omega⟩
  have k1 : 0 < k := by omega
  rw [laws_FnArithmetic.j0, if_neg (by decide)]
  by_cases e : (a : Int) = (b : Int)
  · have hx0 : x = 0 := by rw [hx, e, if_neg (Int.lt_irrefl _)]
    have hy0 : y = 0 := by rw [hy, e, if_neg (Int.lt_irrefl _)]
    rw [if_pos e, hx0, hy0, if_pos (by decide)]
    exact j1_yes a b ha hb k k1
  · rw [if_neg e]
    have ne : wrap32 (a : Int) ≠ wrap32 (b : Int) := fun h => e (by rw [w32_inj a b ha hb h])
    have sum : (x + y) % 4294967296 = 1 := by
      rcases Int.lt_or_gt_of_ne ne with h | h
      · rw [hx, hy, if_pos h, if_neg (Int.not_lt.2 (Int.le_of_lt h))]; rfl
      · rw [hx, hy, if_neg (Int.not_lt.2 (Int.le_of_lt h)), if_pos h]; rfl
    rw [sum]
    exact j1_yes a b ha hb k k1
theorem less_i (a b : Int) : impl_Alu.f 11 a b = some (if wrap32 a < wrap32 b then 1 else 0, 0) := by
  unfold impl_Alu.f impl_alu.f impl_LessWord.f impl_bitOf.f
  by_cases h : wrap32 a < wrap32 b <;> simp [h]
theorem add_i (a b : Int) : impl_Alu.f 1 a b = some ((a + b) % 4294967296, 0) := by
  unfold impl_Alu.f impl_alu.f
  simp
theorem sub_i (a b : Int) : impl_Alu.f 2 a b = some ((a - b) % 4294967296, 0) := by
  unfold impl_Alu.f impl_alu.f
  simp
theorem xor_i (a b : Int) : impl_Alu.f 5 a b = some (bits .xor .u32 a b, 0) := by
  unfold impl_Alu.f impl_alu.f
  simp
theorem FnArithmetic : laws_FnArithmetic.Pure := by
  intro l hlen _ hb
  unfold maxLen at hlen
  refine ⟨6000, ?_⟩
  generalize hk : (6000 : Nat) = k
  have k1 : 5000 ≤ k := by omega
  have k2 : 2 ≤ k := by omega
  clear hk
  unfold laws_FnArithmetic.f
  obtain ⟨big, e0⟩ : ∃ b, laws_big.f l = some b := by unfold laws_big.f; exact ⟨_, rfl⟩
  rw [e0, Option.bind_some]
  cases big with
  | true => rw [if_pos rfl]
  | false =>
    obtain ⟨h0, n0⟩ := new_some l k k1
    obtain ⟨a, p1, h1, e1, q1, q1', a0, a1⟩ := word_some l (by omega) 0 h0 (Int.le_refl _) (by omega)
    obtain ⟨b, p2, h2, e2, q2, q2', b0, b1⟩ := word_some l (by omega) p1 h1 q1 q1'
    obtain ⟨a, rfl⟩ := Int.eq_ofNat_of_zero_le a0
    obtain ⟨b, rfl⟩ := Int.eq_ofNat_of_zero_le b0
    have ha : a < 2 ^ 32 := by omega
    have hb2 : b < 2 ^ 32 := by omega
    have ed : spec_DrawAddWord.f k l = some ((a : Int), (b : Int)) := by
      unfold spec_DrawAddWord.f
      rw [n0]
      simp only [Option.bind_some]
      rw [e1]
      simp only [Option.bind_some]
      rw [e2]
      rfl
    have back : ((((a : Int) + (b : Int)) % 4294967296) - (b : Int)) % 4294967296 = (a : Int) := by omega
    have hxx : bits .xor .u32 (bits .xor .u32 (a : Int) (b : Int)) (b : Int) = (a : Int) := by
      rw [xor32 a b ha hb2, xor32 (a ^^^ b) b (Nat.xor_lt_two_pow ha hb2) hb2, Nat.xor_assoc, Nat.xor_self, Nat.xor_zero]
    have hadd : impl_AddWord.f (a : Int) (b : Int) = some (((a : Int) + (b : Int)) % 4294967296, decide ((((a : Int) + (b : Int)) % 4294967296) < (a : Int))) := rfl
    have j0 := j0_yes a b ha hb2 k k2 _ _ rfl rfl
    rw [if_neg (by decide), ed]
    simp only [Option.bind_some, add_i, sub_i, xor_i, less_i, hadd, back, hxx, if_true, bne_self_eq_false]
    exact j0
end Go.Proofs.Ytpdfihapnnnglaa.Pure
