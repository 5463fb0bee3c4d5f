/- What is drawn for the laws of the cache: a shape and uses. Plain laws of the draws as they were told. -/
import Derived.Test.YtglehilfemfiiaaGUx10D
import Derived.Test.YtglehilfemfiiaaLstD
import Derived.Laws.BitsLemmas
section
namespace Go.Proofs.Ytglehilfemfiiaa.DrwU
open Go.RowKit Go.Proofs.Ytglehilfemfiiaa Go.Proofs.Ytglehilfemfiiaa.GU Go.Proofs.Ytglehilfemfiiaa.Lst Go.Proofs.YtglehilfemfiiaaW.PrintWords Go.Proofs.YtglehilfemfiiaaW.PrintLast

theorem and255 (x : Int) : 0 ≤ bits .and .i64 x 255 ∧ bits .and .i64 x 255 ≤ 255 := by
  have e : bits .and .i64 x 255 = IntKind.i64.wrap (((BitVec.ofInt (IntKind.bits .i64) x &&& BitVec.ofInt (IntKind.bits .i64) 255).toNat : Nat) : Int) := rfl
  have h : (BitVec.ofInt (IntKind.bits .i64) x &&& BitVec.ofInt (IntKind.bits .i64) 255).toNat ≤ 255 := by
    rw [BitVec.toNat_and]
    exact Nat.le_trans Nat.and_le_right (by decide)
  rw [e, IntKind.wrap_i64]
  generalize (BitVec.ofInt (IntKind.bits .i64) x &&& BitVec.ofInt (IntKind.bits .i64) 255).toNat = z at h
  omega

theorem new_some (l : List Int) (k : Nat) (hk : 5000 ≤ k) : ∃ h, spec_l01New.f k l = some (l, 0, h) := by
  have loop : ∀ (d k : Nat) (h i : Int), 0 ≤ i → i ≤ 4000 → 4000 - i = d → d < k → ∃ h', spec_l01New.l0 k l h i = some (l, 0, h') := by
    intro d
    induction d with
    | zero =>
      intro k h i h0 h1 hd hk
      obtain ⟨k, rfl⟩ : ∃ m, k = m + 1 := ⟨k - 1, by omega⟩
      simp only [spec_l01New.l0]
      by_cases h2 : i < (l.length : Int)
      · rw [if_pos h2, if_neg (by omega)]; exact ⟨_, rfl⟩
      · rw [if_neg h2]; exact ⟨_, rfl⟩
    | succ d ih =>
      intro k h i h0 h1 hd hk
      obtain ⟨k, rfl⟩ : ∃ m, k = m + 1 := ⟨k - 1, by omega⟩
      simp only [spec_l01New.l0]
      by_cases h2 : i < (l.length : Int)
      · have e : wrap64 (i + 1) = i + 1 := wr (by omega) (by omega)
        rw [if_pos h2, if_pos (by omega), if_pos h0, e]
        exact ih k _ (i + 1) (by omega) (by omega) (by omega) (by omega)
      · rw [if_neg h2]; exact ⟨_, rfl⟩
  exact loop 4000 k _ 0 (by omega) (by omega) (by omega) (by omega)

theorem byte_some (s : List Int) (hs : s.length ≤ 9000000000000000) (i h : Int) (hi : 0 ≤ i) (hi2 : i ≤ s.length) : ∃ v i' h', spec_l01Byte.f s i h = some (v, i', h') ∧ 0 ≤ i' ∧ i' ≤ s.length ∧ 0 ≤ v ∧ v ≤ 255 := by
  unfold spec_l01Byte.f
  by_cases h2 : i < (s.length : Int)
  · have e : wrap64 (i + 1) = i + 1 := wr (by omega) (by omega)
    rw [if_pos h2, if_pos hi, e]
    exact ⟨_, _, _, rfl, by omega, by omega, (and255 _).1, (and255 _).2⟩
  · rw [if_neg h2]
    exact ⟨_, _, _, rfl, hi, hi2, (and255 _).1, (and255 _).2⟩

theorem below_some (s : List Int) (hs : s.length ≤ 9000000000000000) (i h n : Int) (hi : 0 ≤ i) (hi2 : i ≤ s.length) : ∃ v i' h', spec_l01Below.f s i h n = some (v, i', h') ∧ 0 ≤ i' ∧ i' ≤ s.length ∧ 0 ≤ v ∧ (0 < n → v < n) ∧ (n ≤ 0 → v = 0) := by
  unfold spec_l01Below.f
  by_cases hn : n ≤ 0
  · rw [if_pos hn]
    exact ⟨_, _, _, rfl, hi, hi2, by omega, by omega, fun _ => rfl⟩
  · rw [if_neg hn]
    by_cases hn2 : n ≤ 256
    · rw [if_pos hn2]
      obtain ⟨v, i1, h1, e1, p1, p1', q1, r1⟩ := byte_some s hs i h hi hi2
      rw [e1]
      simp only [Option.bind_some]
      rw [if_neg (by omega), Int.tmod_eq_emod_of_nonneg q1]
      exact ⟨_, _, _, rfl, p1, p1', Int.emod_nonneg _ (by omega), fun _ => Int.emod_lt_of_pos _ (by omega), by omega⟩
    · rw [if_neg hn2]
      obtain ⟨v1, i1, h1, e1, p1, p1', q1, r1⟩ := byte_some s hs i h hi hi2
      obtain ⟨v2, i2, h2, e2, p2, p2', q2, r2⟩ := byte_some s hs i1 h1 p1 p1'
      obtain ⟨v3, i3, h3, e3, p3, p3', q3, r3⟩ := byte_some s hs i2 h2 p2 p2'
      obtain ⟨v4, i4, h4, e4, p4, p4', q4, r4⟩ := byte_some s hs i3 h3 p3 p3'
      rw [e1]; simp only [Option.bind_some]
      rw [e2]; simp only [Option.bind_some]
      rw [e3]; simp only [Option.bind_some]
      rw [e4]; simp only [Option.bind_some]
      have w1 : wrap64 (v1 * 16777216) = v1 * 16777216 := wr (by omega) (by omega)
      have w2 : wrap64 (v2 * 65536) = v2 * 65536 := wr (by omega) (by omega)
      have w3 : wrap64 (v3 * 256) = v3 * 256 := wr (by omega) (by omega)
      rw [w1, w2, w3]
      have w4 : wrap64 (v1 * 16777216 + v2 * 65536) = v1 * 16777216 + v2 * 65536 := wr (by omega) (by omega)
      rw [w4]
      have w5 : wrap64 (v1 * 16777216 + v2 * 65536 + v3 * 256) = v1 * 16777216 + v2 * 65536 + v3 * 256 := wr (by omega) (by omega)
      rw [w5]
      have w6 : wrap64 (v1 * 16777216 + v2 * 65536 + v3 * 256 + v4) = v1 * 16777216 + v2 * 65536 + v3 * 256 + v4 := wr (by omega) (by omega)
      rw [w6, if_neg (by omega), Int.tmod_eq_emod_of_nonneg (by omega)]
      exact ⟨_, _, _, rfl, p4, p4', Int.emod_nonneg _ (by omega), fun _ => Int.emod_lt_of_pos _ (by omega), by omega⟩

theorem once_some (s : List Int) (hs : s.length ≤ 9000000000000000) (i h n : Int) (hi : 0 ≤ i) (hi2 : i ≤ s.length) : ∃ b i' h', spec_l01Once.f s i h n = some (b, i', h') ∧ 0 ≤ i' ∧ i' ≤ s.length := by
  obtain ⟨v, i1, h1, e1, p1, p2, _⟩ := below_some s hs i h n hi hi2
  unfold spec_l01Once.f
  rw [e1]
  exact ⟨_, _, _, rfl, p1, p2⟩
theorem pick_some (s : List Int) (hs : s.length ≤ 9000000000000000) (i h : Int) (l : List Int) (hl : 0 < l.length) (hi : 0 ≤ i) (hi2 : i ≤ s.length) : ∃ v i' h', spec_l01PickInt.f s i h l = some (v, i', h') ∧ 0 ≤ i' ∧ i' ≤ s.length ∧ v ∈ l := by
  obtain ⟨v, i1, h1, e1, p1, p2, p3, p4, _⟩ := below_some s hs i h (l.length : Int) hi hi2
  have hv := p4 (by omega)
  unfold spec_l01PickInt.f
  rw [e1]
  simp only [Option.bind_some]
  rw [if_pos p3, if_pos hv]
  refine ⟨_, _, _, rfl, p1, p2, ?_⟩
  unfold rd
  rw [List.getD_eq_getElem?_getD, List.getElem?_eq_getElem (by omega)]
  exact List.getElem_mem _
theorem size_some (s : List Int) (hs : s.length ≤ 9000000000000000) (m : Int) (hm : 2 ≤ m) : ∃ v, spec_l01Size.f s m = some v ∧ 2 ≤ v ∧ v ≤ m := by
  unfold spec_l01Size.f
  have w1 : wrap64 ((s.length : Int) / 20) = (s.length : Int) / 20 := wr (by omega) (by omega)
  have w2 : wrap64 (2 + (s.length : Int) / 20) = 2 + (s.length : Int) / 20 := wr (by omega) (by omega)
  rw [w1, w2]
  split
  · exact ⟨_, rfl, by omega, by omega⟩
  · exact ⟨_, rfl, by omega, by omega⟩
end Go.Proofs.Ytglehilfemfiiaa.DrwU
end
section
namespace Go.Proofs.Ytglehilfemfiiaa.DrtU
open Go.RowKit Go.Proofs.Ytglehilfemfiiaa Go.Proofs.Ytglehilfemfiiaa.GU Go.Proofs.Ytglehilfemfiiaa.Lst Go.Proofs.Ytglehilfemfiiaa.DrwU Go.Proofs.YtglehilfemfiiaaW.PrintWords Go.Proofs.YtglehilfemfiiaaW.PrintLast
theorem bs {α β : Type} {x : Option α} {r : α} {f : α → Option β} (h : x = some r) : x.bind f = f r := by rw [h]; rfl
section
variable (s : List Int) (hs : s.length ≤ 9000000000000000)
include hs
theorem uses_some (n : Int) (hn : n ≤ 2001) (k : Nat) (hk : 2100 ≤ k) (i h : Int) (hi : 0 ≤ i) (hi2 : i ≤ s.length) : ∃ r i' h', spec_l05Uses.f k s i h n = some (r, i', h') ∧ 0 ≤ i' ∧ i' ≤ s.length ∧ r.length ≤ 2001 := by
  obtain ⟨v0, i0, h0, e0, p0, q0, _⟩ := below_some s hs i h 400 hi hi2
  have loop : ∀ (d k : Nat) (xs : List S32) (z : Int) (j : Nat) (i h : Int), j ≤ 2001 → 2001 - j = d → d + 2 < k → xs.length = j → 0 ≤ i → i ≤ s.length → ∃ r i' h', spec_l05Uses.l0 k n xs z (j : Int) s i h = some (r, i', h') ∧ 0 ≤ i' ∧ i' ≤ s.length ∧ r.length ≤ 2001 := by
    intro d
    induction d with
    | zero =>
      intro k xs z j i h hj hd hk hl hi hi2
      obtain ⟨k, rfl⟩ : ∃ m, k = m + 1 := ⟨k - 1, by omega⟩
      have hj1 : ¬ (j : Int) < n := by omega
      simp only [spec_l05Uses.l0]
      rw [if_neg hj1]
      exact ⟨_, _, _, rfl, hi, hi2, by omega⟩
    | succ d ih =>
      intro k xs z j i h hj hd hk hl hi hi2
      obtain ⟨k, rfl⟩ : ∃ m, k = m + 1 := ⟨k - 1, by omega⟩
      simp only [spec_l05Uses.l0]
      by_cases hj1 : (j : Int) < n
      · obtain ⟨v1, i1, h1, e1, p1, q1, _⟩ := below_some s hs i h z hi hi2
        obtain ⟨b2, i2, h2, e2, p2, q2⟩ := once_some s hs i1 h1 3 p1 q1
        have hx : xs.length < 8796093022208 := by omega
        have e : wrap64 ((j : Int) + 1) = ((j + 1 : Nat) : Int) := by rw [wr (by omega) (by omega)]; omega
        rw [if_pos hj1, bs e1, bs e2, if_pos hx, e]
        clear e hx
        exact ih k _ z (j + 1) i2 h2 (by omega) (by omega) (by omega) (by simp [hl]) p2 q2
      · rw [if_neg hj1]
        exact ⟨_, _, _, rfl, hi, hi2, by omega⟩
  unfold spec_l05Uses.f
  rw [bs e0]
  exact loop 2001 k [] _ 0 i0 h0 (by omega) (by omega) (by omega) rfl p0 q0
theorem end_some (xs : List S32) (hx : xs.length ≤ 2002) (k : Nat) (hk : 2200 ≤ k) (i h a b c : Int) (hi : 0 ≤ i) (hi2 : i ≤ s.length) : ∃ a' b' c' r, spec_DrawCacheRun.j1 k xs s i h a b c = some (a', b', c', r) ∧ r.length ≤ 2002 := by
  obtain ⟨k, rfl⟩ : ∃ m, k = m + 1 := ⟨k - 1, by omega⟩
  obtain ⟨bb, i1, h1, e1, p1, q1⟩ := once_some s hs i h 60 hi hi2
  simp only [spec_DrawCacheRun.j1]
  rw [bs e1]
  cases bb with
  | true =>
    obtain ⟨v5, i5, h5, e5, p5, q5, a5, b5, _⟩ := below_some s hs i1 h1 2 p1 q1
    have b5' := b5 (by decide)
    have w : wrap64 (2000 + v5) = 2000 + v5 := wr (by omega) (by omega)
    obtain ⟨r, i6, h6, e6, p6, q6, l6⟩ := uses_some s hs (2000 + v5) (by omega) k (by omega) i5 h5 p5 q5
    rw [if_pos rfl, bs e5]
    dsimp only
    rw [w, bs e6]
    exact ⟨_, _, _, _, rfl, by dsimp only; omega⟩
  | false =>
    rw [if_neg (by simp)]
    exact ⟨_, _, _, _, rfl, hx⟩
theorem mid_some (xs : List S32) (hx : xs.length ≤ 2002) (k : Nat) (hk : 2300 ≤ k) (i h a b c : Int) (hi : 0 ≤ i) (hi2 : i ≤ s.length) : ∃ a' b' c' r, spec_DrawCacheRun.j0 k xs s i h a b c = some (a', b', c', r) ∧ r.length ≤ 2002 := by
  obtain ⟨k, rfl⟩ : ∃ m, k = m + 1 := ⟨k - 1, by omega⟩
  obtain ⟨bb, i1, h1, e1, p1, q1⟩ := once_some s hs i h 25 hi hi2
  simp only [spec_DrawCacheRun.j0]
  rw [bs e1]
  cases bb with
  | true =>
    rw [if_pos rfl]
    exact end_some s hs xs hx k (by omega) _ _ _ _ _ p1 q1
  | false =>
    rw [if_neg (by simp)]
    exact end_some s hs xs hx k (by omega) _ _ _ _ _ p1 q1
theorem shape_some (i h : Int) (hi : 0 ≤ i) (hi2 : i ≤ s.length) : ∃ a b c i' h', spec_l05Shape.f s i h = some (a, b, c, i', h') ∧ 0 ≤ i' ∧ i' ≤ s.length := by
  obtain ⟨v1, i1, h1, e1, p1, q1, _⟩ := pick_some s hs i h [1, 2, 2, 4, 8, 16] (by decide) hi hi2
  obtain ⟨v2, i2, h2, e2, p2, q2, _⟩ := below_some s hs i1 h1 4 p1 q1
  obtain ⟨v3, i3, h3, e3, p3, q3, _⟩ := pick_some s hs i2 h2 [4, 8, 8, 16, 32] (by decide) p2 q2
  unfold spec_l05Shape.f
  rw [bs e1, bs e2, bs e3]
  exact ⟨_, _, _, _, _, rfl, p3, q3⟩
theorem run_some (k : Nat) (hk : 9000 ≤ k) : ∃ a b c r, spec_DrawCacheRun.f k s = some (a, b, c, r) ∧ r.length ≤ 2002 := by
  obtain ⟨h0, e0⟩ := new_some s k (by omega)
  obtain ⟨a1, b1, c1, i1, h1, e1, p1, q1⟩ := shape_some s hs 0 h0 (by omega) (by omega)
  obtain ⟨z, ez, z1, z2⟩ := size_some s hs 80 (by decide)
  obtain ⟨v2, i2, h2, e2, p2, q2, a2, b2, _⟩ := below_some s hs i1 h1 z p1 q1
  have b2' := b2 (by omega)
  obtain ⟨r, i3, h3, e3, p3, q3, l3⟩ := uses_some s hs v2 (by omega) k (by omega) i2 h2 p2 q2
  obtain ⟨bb, i4, h4, e4, p4, q4⟩ := once_some s hs i3 h3 15 p3 q3
  unfold spec_DrawCacheRun.f
  rw [bs e0, bs e1, bs ez, bs e2, bs e3, bs e4]
  cases bb with
  | true =>
    obtain ⟨v5, i5, h5, e5, p5, q5, _⟩ := pick_some s hs i4 h4 [(-1), 65535, 65536] (by decide) p4 q4
    have hx : r.length < 8796093022208 := by omega
    rw [if_pos rfl, bs e5, if_pos hx]
    clear hx
    exact mid_some s hs _ (by simp; omega) k (by omega) _ _ _ _ _ p5 q5
  | false =>
    rw [if_neg (by simp)]
    exact mid_some s hs _ (by dsimp only; omega) k (by omega) _ _ _ _ _ p4 q4
end
end Go.Proofs.Ytglehilfemfiiaa.DrtU
end
