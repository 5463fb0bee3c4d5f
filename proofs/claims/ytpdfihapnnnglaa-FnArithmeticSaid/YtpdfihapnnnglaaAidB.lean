/- Plain laws of the functions of words and health as they were told: what each of them comes to. No program in sight. -/
import Derived.Test.YtpdfihapnnnglaaGBx1
import Derived.Test.YtpdfihapnnnglaaGBx2
import Derived.Test.YtpdfihapnnnglaaGBx5
import Derived.Test.YtpdfihapnnnglaaGBx6
import Derived.Test.YtpdfihapnnnglaaGBx8
import Derived.Test.YtpdfihapnnnglaaSar
namespace Go.Proofs.Ytpdfihapnnnglaa.AidB
open Go.RowKit Go.Proofs.Ytpdfihapnnnglaa Go.Proofs.Ytpdfihapnnnglaa.GB Go.Proofs.Ytpdfihapnnnglaa.Lst Go.Proofs.YtpdfihapnnnglaaW.PrintWords Go.Proofs.YtpdfihapnnnglaaW.PrintLast Go.Proofs.YtpdfihapnnnglaaW.PrintMore
theorem in_s (a b c : Int) : spec_l01In.f a b c = some (decide (b ≤ a ∧ a ≤ c)) := by
  unfold spec_l01In.f; split <;> simp_all <;> omega
theorem in_i (a b c : Int) : impl_within.f a b c = some (decide (b ≤ a ∧ a ≤ c)) := by
  unfold impl_within.f; split <;> simp_all <;> omega
theorem bit_s (p d : Nat) (hp : p < 2 ^ 32) (hd : d < 32) : spec_l01Bit.f (p : Int) (d : Int) = some ((p / 2 ^ d % 2 : Nat) : Int) := by
  have hlt : p / 2 ^ d ≤ p := Nat.div_le_self _ _
  unfold spec_l01Bit.f
  rw [Bit.wu64 d (by omega), if_pos (by omega), Bit.shr_nat p d hd]
  generalize p / 2 ^ d = q at *
  rw [wr (by omega) (by omega), Bit.and_one _ (by omega)]
theorem less (a b : Int) (ha : 0 ≤ a ∧ a < 4294967296) (hb : 0 ≤ b ∧ b < 4294967296) : spec_LessWord.f a b = impl_LessWord.f a b := by
  unfold spec_LessWord.f impl_LessWord.f spec_l01Signed.f wrap64 wrap32
  repeat' split
  all_goals (simp only [Option.bind_some, Option.some.injEq]; rw [decide_eq_decide]; omega)
theorem tm32 (b : Nat) : Int.tmod (b : Int) 32 = ((b % 32 : Nat) : Int) := by
  rw [Int.tmod_eq_emod_of_nonneg (by omega)]; omega
theorem sar_i (a b : Nat) (ha : a < 2 ^ 32) : impl_SarWord.f (a : Int) (b : Int) = some ((Sar.sarN a (b % 32) : Nat) : Int) := by
  unfold impl_SarWord.f
  rw [tm32, if_pos (by omega)]
  have : shr .i32 (wrap32 (a : Int)) ((b % 32 : Nat) : Int) = wrap32 (a : Int) / 2 ^ (b % 32) := by
    unfold shr
    rw [Int.toNat_natCast, show min (b % 32) (IntKind.bits .i32) = b % 32 from Nat.min_eq_left (by show b % 32 ≤ 32; omega)]
  rw [this, Sar.sar_int a (b % 32) ha]
theorem sar_s (a b : Nat) (ha : a < 2 ^ 32) (k : Nat) (hk : 40 ≤ k) : spec_SarWord.f k (a : Int) (b : Int) = some ((Sar.sarN a (b % 32) : Nat) : Int) := by
  unfold spec_SarWord.f
  rw [tm32, wr (by omega) (by omega)]
  have := Sar.sar_loop spec_SarWord.l0 spec_l01Bit.f (fun _ _ _ _ _ => rfl) bit_s a (b % 32) ha (by omega) 32 k 0 (by omega) (by decide) (by omega)
  have h2 := Sar.sar_lt a (b % 32)
  rw [show ((32 : Nat) : Int) - 1 = 31 from rfl] at this
  simp only [Nat.zero_mul, Nat.zero_add] at this
  rw [Nat.mod_eq_of_lt h2] at this
  rw [show (0 : Int) = ((0 : Nat) : Int) from rfl, this]
  congr 1
  omega
theorem alu_eq (a : Int) (p n : Nat) (hp : p < 2 ^ 32) (hn : n < 2 ^ 32) (K : Nat) (hK : 40 ≤ K) : spec_Alu.f K a p n = impl_Alu.f a p n := by
  have hid : ∀ o : Option (Int × Int), (o.bind fun bt => some (bt.1, bt.2)) = o := fun o => by cases o <;> rfl
  have b1 : 0 ≤ (p : Int) ∧ (p : Int) < 4294967296 := by omega
  have c1 : 0 ≤ (n : Int) ∧ (n : Int) < 4294967296 := by omega
  have hw := Bit.wu64 (n % 32) (by omega)
  unfold spec_Alu.f impl_Alu.f impl_alu.f
  rw [hid, sar_s p n hp K hK, sar_i p n hp, less p n b1 c1, tm32, hw]
  unfold spec_l08One.f impl_bitOf.f impl_LessWord.f
  rfl
theorem alu_some (a : Int) (p n : Nat) : ∃ r, impl_Alu.f a p n = some r := by
  have hid : ∀ o : Option (Int × Int), (o.bind fun bt => some (bt.1, bt.2)) = o := fun o => by cases o <;> rfl
  unfold impl_Alu.f impl_alu.f impl_SarWord.f impl_LessWord.f impl_bitOf.f
  rw [hid, tm32]
  have hz : (0 : Int) ≤ ((n % 32 : Nat) : Int) := by omega
  simp only [if_pos hz]
  repeat' (first | refine some_ite ?_ ?_ | refine some_bind ?_ (fun _ => ?_) | exact ⟨_, rfl⟩)

end Go.Proofs.Ytpdfihapnnnglaa.AidB
