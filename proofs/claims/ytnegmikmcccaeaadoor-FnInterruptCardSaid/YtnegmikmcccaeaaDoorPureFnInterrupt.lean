/- The pure statement of the law FnInterrupt: a device that waits is due once interrupts are on, is not due inside, and leaving an interrupt leads back to where the guest was. No condition. -/
import Derived.Test.YtnegmikmcccaeaaDoorAidT
import Derived.Test.YtnegmikmcccaeaaDoorDrwT
import Derived.Test.YtnegmikmcccaeaaDoorGTx10
namespace Go.Proofs.YtnegmikmcccaeaaDoor.Pure
open Go.RowKit Go.Proofs.YtnegmikmcccaeaaDoor Go.Proofs.YtnegmikmcccaeaaDoor.GT Go.Proofs.YtnegmikmcccaeaaDoor.AidT Go.Proofs.YtnegmikmcccaeaaDoor.DrwT Go.Proofs.YtnegmikmcccaeaaDoorW.PrintWords Go.Proofs.YtnegmikmcccaeaaDoorW.PrintLast
namespace InterAid
theorem in_i (a b c : Int) : impl_within.f a b c = some (decide (b ≤ a ∧ a ≤ c)) := by
  unfold impl_within.f; split <;> simp_all <;> omega
theorem w8 {n : Int} (h : (Lit.int .u8 n).wf = true) : 0 ≤ n ∧ n < 256 := by
  simp only [Lit.wf, IntKind.min, IntKind.max, IntKind.signed, IntKind.bits, Bool.and_eq_true, decide_eq_true_eq, Bool.false_eq_true, if_false] at h
  omega
theorem at_f (l : List Int) (a : Int) (h0 : 0 ≤ a) : ∃ v, laws_at.f l a = some v := by
  unfold laws_at.f
  by_cases hc : a < (l.length : Int)
  · rw [if_pos hc, if_pos h0]
    exact ⟨_, rfl⟩
  · rw [if_neg hc]
    exact ⟨_, rfl⟩
theorem word_f (l : List Int) (a : Int) (h0 : 0 ≤ a) (h1 : a ≤ 90) : ∃ v : Int, laws_word.f l a = some v := by
  obtain ⟨v0, e0⟩ := at_f l a h0
  obtain ⟨v1, e1⟩ := at_f l (a + 1) (by omega)
  obtain ⟨v2, e2⟩ := at_f l (a + 2) (by omega)
  obtain ⟨v3, e3⟩ := at_f l (a + 3) (by omega)
  unfold laws_word.f
  rw [wr (n := a + 1) (by omega) (by omega), wr (n := a + 2) (by omega) (by omega), wr (n := a + 3) (by omega) (by omega), bs e0, bs e1, bs e2, bs e3]
  exact ⟨_, rfl⟩
theorem u64_nn (n : Int) : 0 ≤ IntKind.u64.wrap n := by rw [IntKind.wrap_u64]; omega
section
variable (s : List Int) (hs : s.length ≤ 9000000000000000)
include hs
theorem virt_end (k : Nat) (hk : 1 ≤ k) (i h : Int) (hi : 0 ≤ i) (hi2 : i ≤ s.length) (a : Bool) (b c d e : Int) (f g : Bool) (p : Int) : ∃ r1 r2 r3 r4 r5 r6 r7 r8 i' h', spec_l09Virt.j0 k s i h a b c d e f g p = some (r1, r2, r3, r4, r5, r6, r7, r8, i', h') ∧ 0 ≤ i' ∧ i' ≤ s.length := by
  obtain ⟨k, rfl⟩ : ∃ m, k = m + 1 := ⟨k - 1, by omega⟩
  obtain ⟨b1, i1, h1, e1, p1, q1⟩ := once_some s hs i h 3 hi hi2
  simp only [spec_l09Virt.j0]
  rw [bs e1]
  cases b1 with
  | true =>
    obtain ⟨v2, i2, h2, e2, p2, q2, _⟩ := word_some s hs i1 h1 p1 q1
    rw [if_pos rfl, bs e2]
    exact ⟨_, _, _, _, _, _, _, _, _, _, rfl, p2, q2⟩
  | false =>
    rw [if_neg (by simp)]
    exact ⟨_, _, _, _, _, _, _, _, _, _, rfl, p1, q1⟩
theorem virt_some (k : Nat) (hk : 5 ≤ k) (i h : Int) (hi : 0 ≤ i) (hi2 : i ≤ s.length) : ∃ r1 r2 r3 r4 r5 r6 r7 r8 i' h', spec_l09Virt.f k s i h = some (r1, r2, r3, r4, r5, r6, r7, r8, i', h') ∧ 0 ≤ i' ∧ i' ≤ s.length := by
  obtain ⟨b1, i1, h1, e1, p1, q1⟩ := once_some s hs i h 4 hi hi2
  obtain ⟨v2, i2, h2, e2, p2, q2, _⟩ := word_some s hs i1 h1 p1 q1
  obtain ⟨v3, i3, h3, e3, p3, q3, _⟩ := word_some s hs i2 h2 p2 q2
  obtain ⟨v4, i4, h4, e4, p4, q4, _⟩ := below_some s hs i3 h3 34 p3 q3
  obtain ⟨v5, i5, h5, e5, p5, q5, _⟩ := below_some s hs i4 h4 500 p4 q4
  obtain ⟨b6, i6, h6, e6, p6, q6⟩ := once_some s hs i5 h5 2 p5 q5
  obtain ⟨b7, i7, h7, e7, p7, q7⟩ := once_some s hs i6 h6 4 p6 q6
  obtain ⟨b8, i8, h8, e8, p8, q8⟩ := once_some s hs i7 h7 2 p7 q7
  unfold spec_l09Virt.f
  rw [bs e1, bs e2, bs e3, bs e4, bs e5, bs e6, bs e7, bs e8]
  cases b8 with
  | true =>
    obtain ⟨v9, i9, h9, e9, p9, q9, _⟩ := below_some s hs i8 h8 32 p8 q8
    rw [if_pos rfl, bs e9, if_pos (u64_nn _)]
    exact virt_end s hs k (by omega) _ _ p9 q9 _ _ _ _ _ _ _ _
  | false =>
    rw [if_neg (by simp)]
    exact virt_end s hs k (by omega) _ _ p8 q8 _ _ _ _ _ _ _ _
theorem hold_some (k : Nat) (hk : 6000 ≤ k) : ∃ r1 r2 r3 r4 r5 r6 r7 r8 d, spec_DrawHold.f k s = some (r1, r2, r3, r4, r5, r6, r7, r8, d) ∧ -1 ≤ d ∧ d ≤ 33 := by
  obtain ⟨h0, e0⟩ := new_some s k (by omega)
  obtain ⟨r1, r2, r3, r4, r5, r6, r7, r8, i1, h1, e1, p1, q1⟩ := virt_some s hs k (by omega) 0 h0 (by omega) (by omega)
  obtain ⟨v2, i2, h2, e2, p2, q2, a2, b2, _⟩ := below_some s hs i1 h1 35 p1 q1
  have b2' := b2 (by decide)
  unfold spec_DrawHold.f
  rw [bs e0, bs e1, bs e2]
  exact ⟨_, _, _, _, _, _, _, _, _, rfl, by rw [wr (by omega) (by omega)]; omega, by rw [wr (by omega) (by omega)]; omega⟩
end
theorem due_eq (b : Bool) (c d e f : Int) (g h : Bool) (x : Nat) (a : Int) (hx : x < 4294967296) : impl_Due.f b c d e f g h (x : Int) a = some (if b = true ∧ h = false then (if g = true ∧ a % 4294967296 ≥ f then 1 else if (x : Int) = 0 then 0 else 2 + (Lib.ctz 32 x : Int)) else 0) := by
  have h0 : 0 ≤ (x : Int) := by omega
  have h1 : (x : Int) < 4294967296 := by omega
  unfold impl_Due.f
  rw [if_pos ⟨h0, h1⟩, Int.toNat_natCast]
theorem ctz_pow (d : Nat) (hd : d < 32) : Lib.ctz 32 (2 ^ d) = d := by
  have h : ∀ d : Fin 32, Lib.ctz 32 (2 ^ d.val) = d.val := by decide +kernel
  exact h ⟨d, hd⟩
theorem pow_le (d : Nat) (hd : d < 32) : 2 ^ d < 4294967296 := by
  have := Bit.pow_lt d hd
  omega
theorem strike (d : Nat) (hd : d < 32) : bits .andNot .u32 ((2 ^ d : Nat) : Int) ((2 ^ d : Nat) : Int) = ((0 : Nat) : Int) := by
  have hp := Bit.pow_lt d hd
  have hp0 : 0 < 2 ^ d := Nat.two_pow_pos d
  rw [Bit.andNot_u32]
  have h := (Bit.strike_some (2 ^ d) d hp (by rw [Nat.div_self hp0])).1
  rw [h, Nat.sub_self]
end InterAid
open InterAid
theorem FnInterrupt : ∀ (l0 : List Int), (l0.length ≤ maxLen ∧ ∀ x ∈ l0, (Lit.int .u8 x).wf = true) → ∃ k, GT.laws_FnInterrupt.f k l0 = some true := by
  intro l hl
  obtain ⟨K, hK⟩ : ∃ K : Nat, K = 10000 := ⟨_, rfl⟩
  refine ⟨K + 2, ?_⟩
  unfold laws_FnInterrupt.f laws_big.f
  rw [Option.bind_some]
  by_cases hbig : (l.length : Int) > 1048576
  · rw [decide_eq_true hbig, if_pos rfl]
  · rw [decide_eq_false hbig, if_neg (by simp)]
    obtain ⟨r1, r2, r3, r4, r5, r6, r7, r8, d, ed, d0, d1⟩ := hold_some l (by omega) (K + 2) (by omega)
    obtain ⟨pc, ep⟩ := word_f l 1 (by decide) (by decide)
    obtain ⟨c, ec⟩ := at_f l 5 (by decide)
    rw [bs ed, bs ep]
    dsimp only
    have out : ¬ (0 ≤ d ∧ d ≤ 31) → laws_FnInterrupt.j0 (K + 2) l d pc true r1 r2 r3 r4 r5 r6 r7 r8 = some true := by
      intro h
      have hh : impl_Hold.f r1 r2 r3 r4 r5 r6 r7 r8 d = some (r1, r2, r3, r4, r5, r6, r7, r8) := by
        unfold impl_Hold.f
        rw [in_i, bs rfl, decide_eq_false h, if_neg (by simp)]
      simp only [laws_FnInterrupt.j0]
      rw [if_pos trivial, bs hh]
      simp
    by_cases hneg : d < 0
    · rw [if_pos hneg]
      exact out (by omega)
    · rw [if_neg hneg]
      by_cases hbg : d > 31
      · rw [decide_eq_true hbg]
        exact out (by omega)
      · rw [decide_eq_false hbg]
        clear out
        obtain ⟨n, rfl⟩ : ∃ n : Nat, d = (n : Int) := ⟨d.toNat, by omega⟩
        have hn : n < 32 := by omega
        have hx := pow_le n hn
        have hx0 : 0 < 2 ^ n := Nat.two_pow_pos n
        have hctz := ctz_pow n hn
        have hst := strike n hn
        have hor : bits .or .u32 0 ((2 ^ n : Nat) : Int) = ((2 ^ n : Nat) : Int) := by
          have h := Bit.or_u32 0 n (by decide) hn
          rw [Nat.zero_or] at h
          exact h
        have hHold : impl_Hold.f true r2 r3 r4 r5 false false 0 (n : Int) = some (true, r2, r3, r4, r5, false, false, ((2 ^ n : Nat) : Int)) := by
          unfold impl_Hold.f
          rw [in_i, bs rfl, decide_eq_true (by omega), if_pos rfl, if_pos (by omega), Bit.shl_one n hn, hor]
        have hw2 : wrap64 ((n : Int) + 2 - 2) = (n : Int) := by rw [wr (by omega) (by omega)]; omega
        have hwc : wrap64 (2 + (n : Int)) = (n : Int) + 2 := by rw [wr (by omega) (by omega)]; omega
        have hEnter : impl_Enter.f true r2 r3 r4 r5 false false ((2 ^ n : Nat) : Int) ((n : Int) + 2) pc = some (true, r2, pc, ((n : Int) + 2) % 4294967296, r5, false, true, ((0 : Nat) : Int), r2) := by
          unfold impl_Enter.f
          rw [in_i, bs rfl, decide_eq_true (by omega), if_pos rfl, if_neg (by omega), hw2, if_pos (by omega), Bit.shl_one n hn, hst]
        have e1 := due_eq true r2 r3 r4 r5 false false (2 ^ n) c hx
        have e2 := due_eq true r2 r3 r4 r5 false false 0 c (by decide)
        have e3 := due_eq true r2 pc (((n : Int) + 2) % 4294967296) r5 false true 0 c (by decide)
        have e4 := due_eq true r2 pc (((n : Int) + 2) % 4294967296) r5 false false 0 c (by decide)
        rw [if_pos ⟨rfl, rfl⟩, if_neg (fun z => by cases z.1), if_neg (by omega), hctz, show 2 + (n : Int) = (n : Int) + 2 by omega] at e1
        rw [if_pos ⟨rfl, rfl⟩, if_neg (fun z => by cases z.1), if_pos (show ((0 : Nat) : Int) = 0 from rfl)] at e2
        rw [if_neg (fun z => by cases z.2)] at e3
        rw [if_pos ⟨rfl, rfl⟩, if_neg (fun z => by cases z.1), if_pos (show ((0 : Nat) : Int) = 0 from rfl)] at e4
        have e2' : impl_Due.f true r2 r3 r4 r5 false false 0 c = some 0 := e2
        have hL1 : impl_Leave.f true r2 pc (((n : Int) + 2) % 4294967296) r5 false true ((0 : Nat) : Int) = some (true, r2, pc, ((n : Int) + 2) % 4294967296, r5, false, false, ((0 : Nat) : Int), pc, true) := by
          unfold impl_Leave.f
          rw [if_pos rfl]
        have hL2 : impl_Leave.f true r2 pc (((n : Int) + 2) % 4294967296) r5 false false ((0 : Nat) : Int) = some (true, r2, pc, ((n : Int) + 2) % 4294967296, r5, false, false, ((0 : Nat) : Int), 0, false) := by
          unfold impl_Leave.f
          rw [if_neg (by simp)]
        have hC : impl_CsrRead.f true r2 pc (((n : Int) + 2) % 4294967296) r5 false true ((0 : Nat) : Int) 3 0 = some (((n : Int) + 2) % 4294967296, true) := by
          unfold impl_CsrRead.f
          rw [if_neg (by decide), if_neg (by decide), if_neg (by decide), if_pos rfl]
        have e0 : (((0 : Nat) : Int) != 0) = false := by decide
        have fin : laws_FnInterrupt.j1 (K + 1) l pc ((n : Int) + 2) false true r2 pc (((n : Int) + 2) % 4294967296) r5 false true ((0 : Nat) : Int) = some true := by
          simp only [laws_FnInterrupt.j1]
          rw [if_neg (by simp), bs hL1]
          dsimp only
          rw [bs hL2]
          dsimp only
          rw [bs hC]
          dsimp only
          rw [if_pos rfl, if_pos rfl, if_neg (by simp), if_pos rfl, if_pos rfl, bs ec, bs e4]
          rfl
        simp only [laws_FnInterrupt.j0]
        rw [if_neg (by simp), bs hHold]
        dsimp only
        rw [bs ec, bs e1, bs hEnter]
        dsimp only
        rw [if_pos hwc.symm, bs ec, bs e2', if_pos rfl, if_pos rfl, bs ec, bs e3, if_pos rfl, e0, fin]
end Go.Proofs.YtnegmikmcccaeaaDoor.Pure
