/- Plain laws of a word's lowest bit and of what is due. No program in sight. -/
import Derived.Test.YtnegmikmcccaeaaDoorGTx5
import Derived.Test.YtnegmikmcccaeaaDoorBit
namespace Go.Proofs.YtnegmikmcccaeaaDoor.AidT
open Go.RowKit Go.Proofs.YtnegmikmcccaeaaDoor Go.Proofs.YtnegmikmcccaeaaDoor.GT Go.Proofs.YtnegmikmcccaeaaDoorW.PrintWords Go.Proofs.YtnegmikmcccaeaaDoorW.PrintLast
theorem bs {α β : Type} {x : Option α} {r : α} {f : α → Option β} (h : x = some r) : x.bind f = f r := by rw [h]; rfl
theorem wr {n : Int} (h0 : -9223372036854775808 ≤ n) (h1 : n ≤ 9223372036854775807) : wrap64 n = n := by unfold wrap64; omega
theorem bit_s (p d : Nat) (hp : p < 2 ^ 32) (hd : d < 32) : spec_l01Bit.f (p : Int) (d : Int) = some ((p / 2 ^ d % 2 : Nat) : Int) := by
  have hlt : p / 2 ^ d ≤ p := Nat.div_le_self _ _
  unfold spec_l01Bit.f
  rw [Bit.wu64 d (by omega), if_pos (by omega), Bit.shr_nat p d hd]
  generalize p / 2 ^ d = q at hlt ⊢
  rw [wr (by omega) (by omega), Bit.and_one q (by omega)]
theorem mod_s (a : Int) : spec_l01Mod.f a 4294967296 = some (a % 4294967296) := by
  unfold spec_l01Mod.f
  rw [if_neg (by decide)]
  have h := Int.tmod_eq_emod (a := a) (b := 4294967296)
  have h0 : 0 ≤ a % 4294967296 := Int.emod_nonneg _ (by decide)
  have h1 : a % 4294967296 < 4294967296 := Int.emod_lt_of_pos _ (by decide)
  by_cases hc : 0 ≤ a ∨ (4294967296 : Int) ∣ a
  · rw [if_pos hc] at h
    rw [h, if_neg (by omega)]
    congr 1
    omega
  · rw [if_neg hc] at h
    have e : ((4294967296 : Int).natAbs : Int) = 4294967296 := rfl
    rw [e] at h
    rw [h]
    by_cases hz : a % 4294967296 = 0
    · exact absurd (Int.dvd_of_emod_eq_zero hz) (fun d => hc (.inr d))
    · rw [if_pos (by omega), wr (by omega) (by omega)]
      congr 1
      omega
/-- The lowest bit that is set. -/
theorem ctz_bits (x : Nat) (hx : x < 4294967296) (h0 : x ≠ 0) : x / 2 ^ Lib.ctz 32 x % 2 = 1 ∧ (∀ j, j < Lib.ctz 32 x → x / 2 ^ j % 2 = 0) ∧ Lib.ctz 32 x < 32 := by
  obtain ⟨m, hm, hk⟩ := Lib.ctzFrom_spec 32 x (by omega) (by omega)
  have e : Lib.ctz 32 x = Lib.ctzFrom 32 x := by simp [Lib.ctz, h0]
  rw [e]
  generalize Lib.ctzFrom 32 x = d at hm hk
  have hp : 0 < 2 ^ d := Nat.two_pow_pos d
  refine ⟨?_, fun j hj => ?_, hk⟩
  · rw [hm, Nat.mul_div_cancel_left _ hp]
    omega
  · obtain ⟨q, rfl⟩ : ∃ q, d = j + (q + 1) := ⟨d - j - 1, by omega⟩
    have hj0 : 0 < 2 ^ j := Nat.two_pow_pos j
    rw [hm, Nat.pow_add, Nat.mul_assoc, Nat.mul_div_cancel_left _ hj0, Nat.pow_succ, Nat.mul_comm (2 ^ q) 2, Nat.mul_assoc, Nat.mul_mod_right]
theorem due_loop (b : Bool) (c d e f : Int) (g h : Bool) (x : Nat) (hx : x < 4294967296) : ∀ (n k i : Nat), i ≤ 32 → 32 - i = n → n < k → (∀ j, j < i → x / 2 ^ j % 2 = 0) →
    spec_Due.l0 k (i : Int) b c d e f g h (x : Int) = some (if x = 0 then 0 else 2 + (Lib.ctz 32 x : Int)) := by
  intro n
  induction n with
  | zero =>
    intro k i hi hn hk hz
    obtain ⟨k, rfl⟩ : ∃ m, k = m + 1 := ⟨k - 1, by omega⟩
    have c1 : ¬ (i : Int) < 32 := by omega
    simp only [spec_Due.l0]
    rw [if_neg c1]
    by_cases h0 : x = 0
    · rw [if_pos h0]
    · obtain ⟨q1, q2, q3⟩ := ctz_bits x hx h0
      have := hz _ (by omega : Lib.ctz 32 x < i)
      omega
  | succ n ih =>
    intro k i hi hn hk hz
    obtain ⟨k, rfl⟩ : ∃ m, k = m + 1 := ⟨k - 1, by omega⟩
    have c1 : (i : Int) < 32 := by omega
    simp only [spec_Due.l0]
    rw [if_pos c1, bs (bit_s x i (by omega) (by omega))]
    by_cases hb : x / 2 ^ i % 2 = 1
    · have hb' : ((x / 2 ^ i % 2 : Nat) : Int) = 1 := by rw [hb]; rfl
      have h0 : x ≠ 0 := by rintro rfl; simp at hb
      obtain ⟨q1, q2, q3⟩ := ctz_bits x hx h0
      have hd : Lib.ctz 32 x = i := by
        rcases Nat.lt_trichotomy (Lib.ctz 32 x) i with q | q | q
        · have := hz _ q; omega
        · exact q
        · have := q2 i q; omega
      rw [if_pos hb', if_neg h0, hd, wr (by omega) (by omega)]
    · have hb' : ¬ ((x / 2 ^ i % 2 : Nat) : Int) = 1 := by omega
      have e : wrap64 ((i : Int) + 1) = ((i + 1 : Nat) : Int) := by rw [wr (by omega) (by omega)]; omega
      rw [if_neg hb', e]
      refine ih k (i + 1) (by omega) (by omega) (by omega) (fun j hj => ?_)
      by_cases hji : j = i
      · subst hji
        have := Nat.mod_two_eq_zero_or_one (x / 2 ^ j)
        omega
      · exact hz j (by omega)
theorem due_same (b : Bool) (c d e f : Int) (g h : Bool) (p : Int) (a : Int) (h0 : 0 ≤ p) (h1 : p < 4294967296) (hf0 : 0 ≤ f) (hf : f < 4294967296) (k : Nat) (hk : 50 ≤ k) : spec_Due.f k b c d e f g h p a = impl_Due.f b c d e f g h p a := by
  obtain ⟨x, rfl⟩ : ∃ x : Nat, p = (x : Int) := ⟨p.toNat, by omega⟩
  obtain ⟨k, rfl⟩ : ∃ m, k = m + 2 := ⟨k - 2, by omega⟩
  have hl := due_loop b c d e f g h x (by omega) 32 k 0 (by omega) rfl (by omega) (fun j hj => absurd hj (Nat.not_lt_zero _))
  have hl' : spec_Due.l0 k 0 b c d e f g h (x : Int) = _ := hl
  have hI : impl_Due.f b c d e f g h (x : Int) a = some (if b = true ∧ h = false then (if g = true ∧ a % 4294967296 ≥ f then 1 else if (x : Int) = 0 then 0 else 2 + (Lib.ctz 32 x : Int)) else 0) := by
    unfold impl_Due.f
    rw [if_pos ⟨h0, h1⟩, Int.toNat_natCast]
  rw [hI]
  clear hI
  unfold spec_Due.f
  cases b with
  | false =>
    rw [if_neg (by simp), if_neg (fun z => by cases z.1)]
    simp only [spec_Due.j0]
    rw [if_pos trivial]
  | true =>
    rw [if_pos rfl]
    simp only [spec_Due.j0]
    cases h with
    | true => simp
    | false =>
      have hx0 : ((x : Int) = 0) ↔ x = 0 := by omega
      cases g with
      | true =>
        rw [mod_s a, wr (by omega) (by omega)]
        by_cases hc : a % 4294967296 ≥ f
        · simp [spec_Due.j1, hc]
        · simp only [spec_Due.j1, Option.bind_some, hc, decide_false, Bool.false_eq_true, if_false, hl', if_true, and_false, true_and, hx0]
          try simp only [hx0]
      | false =>
        simp only [spec_Due.j1, Bool.false_eq_true, if_false, hl', false_and, true_and, if_true, hx0]
end Go.Proofs.YtnegmikmcccaeaaDoor.AidT
