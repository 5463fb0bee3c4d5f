/- The draws: whatever bytes they start from, each of them tells a number, in the range that was asked. Plain laws of the functions as they were told. -/
import Derived.Test.YtnegmikmcccaeaaDoorGTx8
import Derived.Test.YtnegmikmcccaeaaDoorLst
import Derived.Laws.BitsLemmas
namespace Go.Proofs.YtnegmikmcccaeaaDoor.DrwT
open Go.RowKit Go.Proofs.YtnegmikmcccaeaaDoor Go.Proofs.YtnegmikmcccaeaaDoor.GT Go.Proofs.YtnegmikmcccaeaaDoor.Lst Go.Proofs.YtnegmikmcccaeaaDoorW.PrintWords Go.Proofs.YtnegmikmcccaeaaDoorW.PrintLast

theorem and255 (x : Int) : 0 ≤ bits .and .i64 x 255 ∧ bits .and .i64 x 255 ≤ 255 := by
  have e : bits .and .i64 x 255 = IntKind.i64.wrap (((BitVec.ofInt (IntKind.bits .i64) x &&& BitVec.ofInt (IntKind.bits .i64) 255).toNat : Nat) : Int) := rfl
  have h : (BitVec.ofInt (IntKind.bits .i64) x &&& BitVec.ofInt (IntKind.bits .i64) 255).toNat ≤ 255 := by
    rw [BitVec.toNat_and]
    exact Nat.le_trans Nat.and_le_right (by decide)
  rw [e, IntKind.wrap_i64]
  generalize (BitVec.ofInt (IntKind.bits .i64) x &&& BitVec.ofInt (IntKind.bits .i64) 255).toNat = z at h
  omega

theorem new_some (l : List Int) (k : Nat) (hk : 5000 ≤ k) : ∃ h, spec_l01New.f k l = some (l, 0, h) := by
  have loop : ∀ (d k : Nat) (h i : Int), 0 ≤ i → i ≤ 4000 → 4000 - i = d → d < k → ∃ h', spec_l01New.l0 k l h i = some (l, 0, h') := by
    intro d
    induction d with
    | zero =>
      intro k h i h0 h1 hd hk
      obtain ⟨k, rfl⟩ : ∃ m, k = m + 1 := ⟨k - 1, by omega⟩
      simp only [spec_l01New.l0]
      by_cases h2 : i < (l.length : Int)
      · rw [if_pos h2, if_neg (by omega)]; exact ⟨_, rfl⟩
      · rw [if_neg h2]; exact ⟨_, rfl⟩
    | succ d ih =>
      intro k h i h0 h1 hd hk
      obtain ⟨k, rfl⟩ : ∃ m, k = m + 1 := ⟨k - 1, by omega⟩
      simp only [spec_l01New.l0]
      by_cases h2 : i < (l.length : Int)
      · have e : wrap64 (i + 1) = i + 1 := wr (by omega) (by omega)
        rw [if_pos h2, if_pos (by omega), if_pos h0, e]
        exact ih k _ (i + 1) (by omega) (by omega) (by omega) (by omega)
      · rw [if_neg h2]; exact ⟨_, rfl⟩
  exact loop 4000 k _ 0 (by omega) (by omega) (by omega) (by omega)

theorem byte_some (s : List Int) (hs : s.length ≤ 9000000000000000) (i h : Int) (hi : 0 ≤ i) (hi2 : i ≤ s.length) : ∃ v i' h', spec_l01Byte.f s i h = some (v, i', h') ∧ 0 ≤ i' ∧ i' ≤ s.length ∧ 0 ≤ v ∧ v ≤ 255 := by
  unfold spec_l01Byte.f
  by_cases h2 : i < (s.length : Int)
  · have e : wrap64 (i + 1) = i + 1 := wr (by omega) (by omega)
    rw [if_pos h2, if_pos hi, e]
    exact ⟨_, _, _, rfl, by omega, by omega, (and255 _).1, (and255 _).2⟩
  · rw [if_neg h2]
    exact ⟨_, _, _, rfl, hi, hi2, (and255 _).1, (and255 _).2⟩

theorem below_some (s : List Int) (hs : s.length ≤ 9000000000000000) (i h n : Int) (hi : 0 ≤ i) (hi2 : i ≤ s.length) : ∃ v i' h', spec_l01Below.f s i h n = some (v, i', h') ∧ 0 ≤ i' ∧ i' ≤ s.length ∧ 0 ≤ v ∧ (0 < n → v < n) ∧ (n ≤ 0 → v = 0) := by
  unfold spec_l01Below.f
  by_cases hn : n ≤ 0
  · rw [if_pos hn]
    exact ⟨_, _, _, rfl, hi, hi2, by omega, by omega, fun _ => rfl⟩
  · rw [if_neg hn]
    by_cases hn2 : n ≤ 256
    · rw [if_pos hn2]
      obtain ⟨v, i1, h1, e1, p1, p1', q1, r1⟩ := byte_some s hs i h hi hi2
      rw [e1]
      simp only [Option.bind_some]
      rw [if_neg (by omega), Int.tmod_eq_emod_of_nonneg q1]
      exact ⟨_, _, _, rfl, p1, p1', Int.emod_nonneg _ (by omega), fun _ => Int.emod_lt_of_pos _ (by omega), by omega⟩
    · rw [if_neg hn2]
      obtain ⟨v1, i1, h1, e1, p1, p1', q1, r1⟩ := byte_some s hs i h hi hi2
      obtain ⟨v2, i2, h2, e2, p2, p2', q2, r2⟩ := byte_some s hs i1 h1 p1 p1'
      obtain ⟨v3, i3, h3, e3, p3, p3', q3, r3⟩ := byte_some s hs i2 h2 p2 p2'
      obtain ⟨v4, i4, h4, e4, p4, p4', q4, r4⟩ := byte_some s hs i3 h3 p3 p3'
      rw [e1]; simp only [Option.bind_some]
      rw [e2]; simp only [Option.bind_some]
      rw [e3]; simp only [Option.bind_some]
      rw [e4]; simp only [Option.bind_some]
      have w1 : wrap64 (v1 * 16777216) = v1 * 16777216 := wr (by omega) (by omega)
      have w2 : wrap64 (v2 * 65536) = v2 * 65536 := wr (by omega) (by omega)
      have w3 : wrap64 (v3 * 256) = v3 * 256 := wr (by omega) (by omega)
      rw [w1, w2, w3]
      have w4 : wrap64 (v1 * 16777216 + v2 * 65536) = v1 * 16777216 + v2 * 65536 := wr (by omega) (by omega)
      rw [w4]
      have w5 : wrap64 (v1 * 16777216 + v2 * 65536 + v3 * 256) = v1 * 16777216 + v2 * 65536 + v3 * 256 := wr (by omega) (by omega)
      rw [w5]
      have w6 : wrap64 (v1 * 16777216 + v2 * 65536 + v3 * 256 + v4) = v1 * 16777216 + v2 * 65536 + v3 * 256 + v4 := wr (by omega) (by omega)
      rw [w6, if_neg (by omega), Int.tmod_eq_emod_of_nonneg (by omega)]
      exact ⟨_, _, _, rfl, p4, p4', Int.emod_nonneg _ (by omega), fun _ => Int.emod_lt_of_pos _ (by omega), by omega⟩

theorem once_some (s : List Int) (hs : s.length ≤ 9000000000000000) (i h n : Int) (hi : 0 ≤ i) (hi2 : i ≤ s.length) : ∃ b i' h', spec_l01Once.f s i h n = some (b, i', h') ∧ 0 ≤ i' ∧ i' ≤ s.length := by
  obtain ⟨v, i1, h1, e1, p1, p2, _⟩ := below_some s hs i h n hi hi2
  unfold spec_l01Once.f
  rw [e1]
  exact ⟨_, _, _, rfl, p1, p2⟩
theorem pick_some (s : List Int) (hs : s.length ≤ 9000000000000000) (i h : Int) (l : List Int) (hl : 0 < l.length) (hi : 0 ≤ i) (hi2 : i ≤ s.length) : ∃ v i' h', spec_l01PickInt.f s i h l = some (v, i', h') ∧ 0 ≤ i' ∧ i' ≤ s.length ∧ v ∈ l := by
  obtain ⟨v, i1, h1, e1, p1, p2, p3, p4, _⟩ := below_some s hs i h (l.length : Int) hi hi2
  have hv := p4 (by omega)
  unfold spec_l01PickInt.f
  rw [e1]
  simp only [Option.bind_some]
  rw [if_pos p3, if_pos hv]
  refine ⟨_, _, _, rfl, p1, p2, ?_⟩
  unfold rd
  rw [List.getD_eq_getElem?_getD, List.getElem?_eq_getElem (by omega)]
  exact List.getElem_mem _
theorem word_some (s : List Int) (hs : s.length ≤ 9000000000000000) (i h : Int) (hi : 0 ≤ i) (hi2 : i ≤ s.length) : ∃ v i' h', spec_l01Word.f s i h = some (v, i', h') ∧ 0 ≤ i' ∧ i' ≤ s.length ∧ 0 ≤ v ∧ v < 4294967296 := by
  obtain ⟨v, i1, h1, e1, p1, p2, _⟩ := below_some s hs i h 4 hi hi2
  unfold spec_l01Word.f
  rw [e1]
  simp only [Option.bind_some]
  split
  · obtain ⟨v2, i2, h2, e2, q1, q2, _⟩ := pick_some s hs i1 h1 [0, 1, 2, 31, 32, 255, 256, 2147483647, 2147483648, 4294967295, 4294967294] (by decide) p1 p2
    rw [e2]
    exact ⟨_, _, _, rfl, q1, q2, by omega, by omega⟩
  · split
    · obtain ⟨v2, i2, h2, e2, q1, q2, _⟩ := below_some s hs i1 h1 300 p1 p2
      rw [e2]
      exact ⟨_, _, _, rfl, q1, q2, by omega, by omega⟩
    · obtain ⟨v2, i2, h2, e2, q1, q2, _⟩ := below_some s hs i1 h1 65536 p1 p2
      rw [e2]
      simp only [Option.bind_some]
      obtain ⟨v3, i3, h3, e3, r1, r2, _⟩ := below_some s hs i2 h2 65536 q1 q2
      rw [e3]
      exact ⟨_, _, _, rfl, r1, r2, by omega, by omega⟩
end Go.Proofs.YtnegmikmcccaeaaDoor.DrwT
