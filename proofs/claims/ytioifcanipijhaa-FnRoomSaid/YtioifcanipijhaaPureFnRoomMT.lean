/- The pure statement of the law FnRoom: of a drawn channel, the room told is the room there is, a send takes one, and the border brings the word over; for whatever bytes the draw starts from. No condition. -/
import Derived.Test.YtioifcanipijhaaGCx0T
import Derived.Test.YtioifcanipijhaaGCx14T
import Derived.Test.YtioifcanipijhaaGCx15T
import Derived.Test.YtioifcanipijhaaGCx17T
import Derived.Test.YtioifcanipijhaaLstT
import Derived.Laws.BitsLemmas
import Derived.Test.YtioifcanipijhaaGCx16T
import Derived.Test.YtioifcanipijhaaGCx18T
import Derived.Test.YtioifcanipijhaaGCx19T
import Derived.Test.YtioifcanipijhaaGCx20T
import Derived.Test.YtioifcanipijhaaGCx1T
import Derived.Test.YtioifcanipijhaaGCx10T
import Derived.Test.YtioifcanipijhaaGCx11T
import Derived.Test.YtioifcanipijhaaGCx2T
import Derived.Test.YtioifcanipijhaaGCx3T
import Derived.Test.YtioifcanipijhaaGCx5T
import Derived.Test.YtioifcanipijhaaGCx6T
import Derived.Test.YtioifcanipijhaaGCx7T
import Derived.Test.YtioifcanipijhaaGCx8T
import Derived.Test.YtioifcanipijhaaGCx9T
import Derived.Test.YtioifcanipijhaaChgCT
import Derived.Test.YtioifcanipijhaaGCx21T
import Derived.Test.YtioifcanipijhaaGCx24T
section
namespace Go.Proofs.Ytioifcanipijhaa.DrwC
open Go.RowKit Go.Proofs.Ytioifcanipijhaa Go.Proofs.Ytioifcanipijhaa.GC Go.Proofs.Ytioifcanipijhaa.Lst Go.Proofs.YtioifcanipijhaaW.PrintWords Go.Proofs.YtioifcanipijhaaW.PrintLast

theorem and255 (x : Int) : 0 ≤ bits .and .i64 x 255 ∧ bits .and .i64 x 255 ≤ 255 := by
  have e : bits .and .i64 x 255 = IntKind.i64.wrap (((BitVec.ofInt (IntKind.bits .i64) x &&& BitVec.ofInt (IntKind.bits .i64) 255).toNat : Nat) : Int) := rfl
  have h : (BitVec.ofInt (IntKind.bits .i64) x &&& BitVec.ofInt (IntKind.bits .i64) 255).toNat ≤ 255 := by
    rw [BitVec.toNat_and]
    exact Nat.le_trans Nat.and_le_right (by decide)
  rw [e, IntKind.wrap_i64]
  generalize (BitVec.ofInt (IntKind.bits .i64) x &&& BitVec.ofInt (IntKind.bits .i64) 255).toNat = z at h
  omega

theorem new_some (l : List Int) (k : Nat) (hk : 5000 ≤ k) : ∃ h, spec_l01New.f k l = some (l, 0, h) := by
  have loop : ∀ (d k : Nat) (h i : Int), 0 ≤ i → i ≤ 4000 → 4000 - i = d → d < k → ∃ h', spec_l01New.l0 k l h i = some (l, 0, h') := by
    intro d
    induction d with
    | zero =>
      intro k h i h0 h1 hd hk
      obtain ⟨k, rfl⟩ : ∃ m, k = m + 1 := ⟨k - 1, by omega⟩
      simp only [spec_l01New.l0]
      by_cases h2 : i < (l.length : Int)
      · rw [if_pos h2, if_neg (by omega)]; exact ⟨_, rfl⟩
      · rw [if_neg h2]; exact ⟨_, rfl⟩
    | succ d ih =>
      intro k h i h0 h1 hd hk
      obtain ⟨k, rfl⟩ : ∃ m, k = m + 1 := ⟨k - 1, by omega⟩
      simp only [spec_l01New.l0]
      by_cases h2 : i < (l.length : Int)
      · have e : wrap64 (i + 1) = i + 1 := wr (by omega) (by omega)
        rw [if_pos h2, if_pos (by omega), if_pos h0, e]
        exact ih k _ (i + 1) (by omega) (by omega) (by omega) (by omega)
      · rw [if_neg h2]; exact ⟨_, rfl⟩
  exact loop 4000 k _ 0 (by omega) (by omega) (by omega) (by omega)

theorem byte_some (s : List Int) (hs : s.length ≤ 9000000000000000) (i h : Int) (hi : 0 ≤ i) (hi2 : i ≤ s.length) : ∃ v i' h', spec_l01Byte.f s i h = some (v, i', h') ∧ 0 ≤ i' ∧ i' ≤ s.length ∧ 0 ≤ v ∧ v ≤ 255 := by
  unfold spec_l01Byte.f
  by_cases h2 : i < (s.length : Int)
  · have e : wrap64 (i + 1) = i + 1 := wr (by omega) (by omega)
    rw [if_pos h2, if_pos hi, e]
    exact ⟨_, _, _, rfl, by omega, by omega, (and255 _).1, (and255 _).2⟩
  · rw [if_neg h2]
    exact ⟨_, _, _, rfl, hi, hi2, (and255 _).1, (and255 _).2⟩

theorem below_some (s : List Int) (hs : s.length ≤ 9000000000000000) (i h n : Int) (hi : 0 ≤ i) (hi2 : i ≤ s.length) : ∃ v i' h', spec_l01Below.f s i h n = some (v, i', h') ∧ 0 ≤ i' ∧ i' ≤ s.length ∧ 0 ≤ v ∧ (0 < n → v < n) ∧ (n ≤ 0 → v = 0) := by
  unfold spec_l01Below.f
  by_cases hn : n ≤ 0
  · rw [if_pos hn]
    exact ⟨_, _, _, rfl, hi, hi2, by omega, by omega, fun _ => rfl⟩
  · rw [if_neg hn]
    by_cases hn2 : n ≤ 256
    · rw [if_pos hn2]
      obtain ⟨v, i1, h1, e1, p1, p1', q1, r1⟩ := byte_some s hs i h hi hi2
      rw [e1]
      simp only [Option.bind_some]
      rw [if_neg (by omega), Int.tmod_eq_emod_of_nonneg q1]
      exact ⟨_, _, _, rfl, p1, p1', Int.emod_nonneg _ (by omega), fun _ => Int.emod_lt_of_pos _ (by omega), by omega⟩
    · rw [if_neg hn2]
      obtain ⟨v1, i1, h1, e1, p1, p1', q1, r1⟩ := byte_some s hs i h hi hi2
      obtain ⟨v2, i2, h2, e2, p2, p2', q2, r2⟩ := byte_some s hs i1 h1 p1 p1'
      obtain ⟨v3, i3, h3, e3, p3, p3', q3, r3⟩ := byte_some s hs i2 h2 p2 p2'
      obtain ⟨v4, i4, h4, e4, p4, p4', q4, r4⟩ := byte_some s hs i3 h3 p3 p3'
      rw [e1]; simp only [Option.bind_some]
      rw [e2]; simp only [Option.bind_some]
      rw [e3]; simp only [Option.bind_some]
      rw [e4]; simp only [Option.bind_some]
      have w1 : wrap64 (v1 * 16777216) = v1 * 16777216 := wr (by omega) (by omega)
      have w2 : wrap64 (v2 * 65536) = v2 * 65536 := wr (by omega) (by omega)
      have w3 : wrap64 (v3 * 256) = v3 * 256 := wr (by omega) (by omega)
      rw [w1, w2, w3]
      have w4 : wrap64 (v1 * 16777216 + v2 * 65536) = v1 * 16777216 + v2 * 65536 := wr (by omega) (by omega)
      rw [w4]
      have w5 : wrap64 (v1 * 16777216 + v2 * 65536 + v3 * 256) = v1 * 16777216 + v2 * 65536 + v3 * 256 := wr (by omega) (by omega)
      rw [w5]
      have w6 : wrap64 (v1 * 16777216 + v2 * 65536 + v3 * 256 + v4) = v1 * 16777216 + v2 * 65536 + v3 * 256 + v4 := wr (by omega) (by omega)
      rw [w6, if_neg (by omega), Int.tmod_eq_emod_of_nonneg (by omega)]
      exact ⟨_, _, _, rfl, p4, p4', Int.emod_nonneg _ (by omega), fun _ => Int.emod_lt_of_pos _ (by omega), by omega⟩

theorem once_some (s : List Int) (hs : s.length ≤ 9000000000000000) (i h n : Int) (hi : 0 ≤ i) (hi2 : i ≤ s.length) : ∃ b i' h', spec_l01Once.f s i h n = some (b, i', h') ∧ 0 ≤ i' ∧ i' ≤ s.length := by
  obtain ⟨v, i1, h1, e1, p1, p2, _⟩ := below_some s hs i h n hi hi2
  unfold spec_l01Once.f
  rw [e1]
  exact ⟨_, _, _, rfl, p1, p2⟩
theorem pick_some (s : List Int) (hs : s.length ≤ 9000000000000000) (i h : Int) (l : List Int) (hl : 0 < l.length) (hi : 0 ≤ i) (hi2 : i ≤ s.length) : ∃ v i' h', spec_l01PickInt.f s i h l = some (v, i', h') ∧ 0 ≤ i' ∧ i' ≤ s.length ∧ v ∈ l := by
  obtain ⟨v, i1, h1, e1, p1, p2, p3, p4, _⟩ := below_some s hs i h (l.length : Int) hi hi2
  have hv := p4 (by omega)
  unfold spec_l01PickInt.f
  rw [e1]
  simp only [Option.bind_some]
  rw [if_pos p3, if_pos hv]
  refine ⟨_, _, _, rfl, p1, p2, ?_⟩
  unfold rd
  rw [List.getD_eq_getElem?_getD, List.getElem?_eq_getElem (by omega)]
  exact List.getElem_mem _
theorem word_some (s : List Int) (hs : s.length ≤ 9000000000000000) (i h : Int) (hi : 0 ≤ i) (hi2 : i ≤ s.length) : ∃ v i' h', spec_l01Word.f s i h = some (v, i', h') ∧ 0 ≤ i' ∧ i' ≤ s.length ∧ 0 ≤ v ∧ v < 4294967296 := by
  obtain ⟨v, i1, h1, e1, p1, p2, _⟩ := below_some s hs i h 4 hi hi2
  unfold spec_l01Word.f
  rw [e1]
  simp only [Option.bind_some]
  split
  · obtain ⟨v2, i2, h2, e2, q1, q2, _⟩ := pick_some s hs i1 h1 [0, 1, 2, 31, 32, 255, 256, 2147483647, 2147483648, 4294967295, 4294967294] (by decide) p1 p2
    rw [e2]
    exact ⟨_, _, _, rfl, q1, q2, by omega, by omega⟩
  · split
    · obtain ⟨v2, i2, h2, e2, q1, q2, _⟩ := below_some s hs i1 h1 300 p1 p2
      rw [e2]
      exact ⟨_, _, _, rfl, q1, q2, by omega, by omega⟩
    · obtain ⟨v2, i2, h2, e2, q1, q2, _⟩ := below_some s hs i1 h1 65536 p1 p2
      rw [e2]
      simp only [Option.bind_some]
      obtain ⟨v3, i3, h3, e3, r1, r2, _⟩ := below_some s hs i2 h2 65536 q1 q2
      rw [e3]
      exact ⟨_, _, _, rfl, r1, r2, by omega, by omega⟩
end Go.Proofs.Ytioifcanipijhaa.DrwC
end
section
namespace Go.Proofs.Ytioifcanipijhaa.DrcC
open Go.RowKit Go.Proofs.Ytioifcanipijhaa Go.Proofs.Ytioifcanipijhaa.GC Go.Proofs.Ytioifcanipijhaa.Lst Go.Proofs.Ytioifcanipijhaa.DrwC Go.Proofs.YtioifcanipijhaaW.PrintWords Go.Proofs.YtioifcanipijhaaW.PrintLast
theorem bs {α β : Type} {x : Option α} {r : α} {f : α → Option β} (h : x = some r) : x.bind f = f r := by rw [h]; rfl
section
variable (s : List Int) (hs : s.length ≤ 9000000000000000)
include hs
theorem row_some (i h : Int) (hi : 0 ≤ i) (hi2 : i ≤ s.length) : ∃ a b c d i' h', spec_l11Row.f s i h 6 = some (a, b, c, d, i', h') ∧ 0 ≤ i' ∧ i' ≤ s.length ∧ 0 ≤ d ∧ d ≤ 8 := by
  obtain ⟨v1, i1, h1, e1, p1, q1, _⟩ := below_some s hs i h 2 hi hi2
  obtain ⟨v2, i2, h2, e2, p2, q2, _⟩ := below_some s hs i1 h1 6 p1 q1
  obtain ⟨v3, i3, h3, e3, p3, q3, _⟩ := below_some s hs i2 h2 5 p2 q2
  have w5 : wrap64 (6 - 1) = 5 := wr (by decide) (by decide)
  unfold spec_l11Row.f
  rw [bs e1, bs e2, w5, bs e3, if_neg (by decide)]
  by_cases c1 : v1 = 1
  · rw [if_pos c1]
    obtain ⟨v4, i4, h4, e4, p4, q4, a4, b4, _⟩ := below_some s hs i3 h3 4 p3 q3
    obtain ⟨b, i5, h5, e5, p5, q5⟩ := once_some s hs i4 h4 6 p4 q4
    rw [bs e4, bs e5]
    have hb4 := b4 (by decide)
    cases b with
    | true => rw [if_pos rfl]; exact ⟨_, _, _, _, _, _, rfl, p5, q5, by decide, by decide⟩
    | false =>
      rw [if_neg (by simp)]
      have : wrap64 (1 + v4) = 1 + v4 := wr (by omega) (by omega)
      exact ⟨_, _, _, _, _, _, rfl, p5, q5, by (try dsimp only); rw [this]; omega, by (try dsimp only); rw [this]; omega⟩
  · rw [if_neg c1]
    exact ⟨_, _, _, _, _, _, rfl, p3, q3, by decide, by decide⟩
theorem any_some (i h : Int) (hi : 0 ≤ i) (hi2 : i ≤ s.length) : ∃ a b c d i' h', spec_l11Any.f s i h = some (a, b, c, d, i', h') ∧ 0 ≤ i' ∧ i' ≤ s.length ∧ -1 ≤ d ∧ d ≤ 9 := by
  obtain ⟨a, b, c, d, i1, h1, e1, p1, q1, d1, d2⟩ := row_some s hs i h hi hi2
  obtain ⟨v2, i2, h2, e2, p2, q2, _⟩ := below_some s hs i1 h1 22 p1 q1
  unfold spec_l11Any.f
  rw [bs e1, bs e2]
  by_cases c0 : v2 = 0
  · obtain ⟨v3, i3, h3, e3, p3, q3, _⟩ := pick_some s hs i2 h2 [(-1), 2] (by decide) p2 q2
    rw [if_pos c0, bs e3]
    exact ⟨_, _, _, _, _, _, rfl, p3, q3, by (try dsimp only); omega, by (try dsimp only); omega⟩
  · rw [if_neg c0]
    by_cases c1 : v2 = 1
    · obtain ⟨v3, i3, h3, e3, p3, q3, _⟩ := pick_some s hs i2 h2 [(-1), 6, c] (by simp) p2 q2
      rw [if_pos c1, bs e3]
      exact ⟨_, _, _, _, _, _, rfl, p3, q3, by (try dsimp only); omega, by (try dsimp only); omega⟩
    · rw [if_neg c1]
      by_cases c2 : v2 = 2
      · obtain ⟨v3, i3, h3, e3, p3, q3, _⟩ := pick_some s hs i2 h2 [(-1), 6] (by decide) p2 q2
        rw [if_pos c2, bs e3]
        exact ⟨_, _, _, _, _, _, rfl, p3, q3, by (try dsimp only); omega, by (try dsimp only); omega⟩
      · rw [if_neg c2]
        by_cases c3 : v2 = 3
        · obtain ⟨v3, i3, h3, e3, p3, q3, m3⟩ := pick_some s hs i2 h2 [(-1), 0, 1, 9] (by decide) p2 q2
          rw [if_pos c3, bs e3]
          have : v3 = -1 ∨ v3 = 0 ∨ v3 = 1 ∨ v3 = 9 := by simpa using m3
          exact ⟨_, _, _, _, _, _, rfl, p3, q3, by (try dsimp only); omega, by (try dsimp only); omega⟩
        · rw [if_neg c3]
          exact ⟨_, _, _, _, _, _, rfl, p2, q2, by (try dsimp only); omega, by (try dsimp only); omega⟩
end
end Go.Proofs.Ytioifcanipijhaa.DrcC
end
section
namespace Go.Proofs.Ytioifcanipijhaa.DrbC
open Go.RowKit Go.Proofs.Ytioifcanipijhaa Go.Proofs.Ytioifcanipijhaa.GC Go.Proofs.Ytioifcanipijhaa.Lst Go.Proofs.Ytioifcanipijhaa.DrwC Go.Proofs.Ytioifcanipijhaa.DrcC Go.Proofs.YtioifcanipijhaaW.PrintWords Go.Proofs.YtioifcanipijhaaW.PrintLast
set_option linter.unusedSectionVars false
set_option linter.unusedVariables false
section
variable (s : List Int) (hs : s.length ≤ 9000000000000000)
include hs
theorem words_loop (n : Nat) (hn : n ≤ 2000) : ∀ (d k : Nat) (xs : List Int) (j : Nat) (i h : Int), j ≤ n → n - j = d → d < k → xs.length = j → 0 ≤ i → i ≤ s.length → ∃ r i' h', spec_l01Words.l0 k (n : Int) xs (j : Int) s i h = some (r, i', h') ∧ r.length = n ∧ 0 ≤ i' ∧ i' ≤ s.length := by
  intro d
  induction d with
  | zero =>
    intro k xs j i h hj hd hk hl hi hi2
    obtain ⟨k, rfl⟩ : ∃ m, k = m + 1 := ⟨k - 1, by omega⟩
    simp only [spec_l01Words.l0]
    rw [if_neg (by omega)]
    exact ⟨_, _, _, rfl, by omega, hi, hi2⟩
  | succ d ih =>
    intro k xs j i h hj hd hk hl hi hi2
    obtain ⟨k, rfl⟩ : ∃ m, k = m + 1 := ⟨k - 1, by omega⟩
    have e : wrap64 ((j : Int) + 1) = ((j + 1 : Nat) : Int) := by rw [wr (by omega) (by omega)]; omega
    obtain ⟨v1, i1, h1, e1, p1, q1, _⟩ := word_some s hs i h hi hi2
    simp only [spec_l01Words.l0]
    rw [if_pos (by omega), bs e1, if_pos (by omega), e]
    exact ih k _ (j + 1) i1 h1 (by omega) (by omega) (by omega) (by simp [hl]) p1 q1
theorem words_some (m : Int) (h0 : 0 ≤ m) (hm : m ≤ 2000) (k : Nat) (hk : 3000 ≤ k) (i h : Int) (hi : 0 ≤ i) (hi2 : i ≤ s.length) : ∃ r i' h', spec_l01Words.f k s i h m = some (r, i', h') ∧ (r.length : Int) = m ∧ 0 ≤ i' ∧ i' ≤ s.length := by
  obtain ⟨n, rfl⟩ : ∃ n : Nat, m = n := ⟨m.toNat, by omega⟩
  obtain ⟨r, i', h', e, hr, p, q⟩ := words_loop s hs n (by omega) n k [] 0 i h (by omega) (by omega) (by omega) rfl hi hi2
  exact ⟨r, i', h', e, by omega, p, q⟩
theorem out_some (a b c d : Int) (hd1 : -1 ≤ d) (hd2 : d ≤ 9) (k : Nat) (hk : 4000 ≤ k) (i h : Int) (hi : 0 ≤ i) (hi2 : i ≤ s.length) : ∃ x r i' h', spec_l11Out.f k s i h a b c d = some (x, r, i', h') ∧ -1 ≤ x ∧ x ≤ 100 ∧ r.length ≤ 100 ∧ 0 ≤ i' ∧ i' ≤ s.length := by
  have join : ∀ (i h x : Int) (r : List Int), 0 ≤ i → i ≤ s.length → -1 ≤ x → x ≤ 50 → r.length ≤ 50 → ∃ x' r' i' h', spec_l11Out.j0 k s i h x r = some (x', r', i', h') ∧ -1 ≤ x' ∧ x' ≤ 100 ∧ r'.length ≤ 100 ∧ 0 ≤ i' ∧ i' ≤ s.length := by
    intro i h x r hi hi2 hx1 hx2 hr
    obtain ⟨k, rfl⟩ : ∃ m, k = m + 1 := ⟨k - 1, by omega⟩
    obtain ⟨v1, i1, h1, e1, p1, q1, _⟩ := below_some s hs i h 20 hi hi2
    have w1 : wrap64 (x + 1) = x + 1 := wr (by omega) (by omega)
    simp only [spec_l11Out.j0]
    rw [bs e1]
    by_cases c0 : v1 = 0
    · obtain ⟨v2, i2, h2, e2, p2, q2, m2⟩ := pick_some s hs i1 h1 [(-1), 9, wrap64 (x + 1)] (by simp) p1 q1
      rw [if_pos c0, bs e2]
      have hv : v2 = -1 ∨ v2 = 9 ∨ v2 = x + 1 := by rw [w1] at m2; simpa using m2
      exact ⟨_, _, _, _, rfl, by dsimp only; omega, by dsimp only; omega, by omega, p2, q2⟩
    · rw [if_neg c0]
      by_cases c1 : v1 = 1
      · rw [if_pos c1, Option.bind_some, if_pos (by simp; omega)]
        exact ⟨_, _, _, _, rfl, by omega, by omega, by simp; omega, p1, q1⟩
      · rw [if_neg c1]
        exact ⟨_, _, _, _, rfl, by omega, by omega, by omega, p1, q1⟩
  obtain ⟨v1, i1, h1, e1, p1, q1, a1, b1, _⟩ := below_some s hs i h 2 hi hi2
  have b1' := b1 (by decide)
  obtain ⟨r1, i2, h2, e2, l2, p2, q2⟩ := words_some s hs v1 a1 (by omega) k (by omega) i1 h1 p1 q1
  unfold spec_l11Out.f
  rw [bs e1, bs e2]
  by_cases ha : a = 1
  · have w1 : wrap64 (d + 1) = d + 1 := wr (by omega) (by omega)
    obtain ⟨v3, i3, h3, e3, p3, q3, a3, b3, c3⟩ := below_some s hs i2 h2 (d + 1) p2 q2
    have hv3 : v3 ≤ 9 := by
      by_cases hd : 0 < d + 1
      · have := b3 hd; omega
      · have := c3 (by omega); omega
    have w2 : wrap64 (wrap64 (d - v3) + 1) = d - v3 + 1 := by rw [wr (n := d - v3) (by omega) (by omega), wr (by omega) (by omega)]
    obtain ⟨v4, i4, h4, e4, p4, q4, a4, b4, c4⟩ := below_some s hs i3 h3 (d - v3 + 1) p3 q3
    have hv4 : v4 ≤ 20 := by
      by_cases hd : 0 < d - v3 + 1
      · have := b4 hd; omega
      · have := c4 (by omega); omega
    obtain ⟨r5, i5, h5, e5, l5, p5, q5⟩ := words_some s hs v4 a4 (by omega) k (by omega) i4 h4 p4 q4
    rw [if_pos ha, w1, bs e3, w2, bs e4, bs e5]
    exact join _ _ _ _ p5 q5 (by dsimp only; omega) (by dsimp only; omega) (by dsimp only; omega)
  · rw [if_neg ha]
    exact join _ _ _ _ p2 q2 (by decide) (by decide) (by dsimp only; omega)
theorem in_some (a b c d x : Int) (hx1 : -1 ≤ x) (hx2 : x ≤ 100) (k : Nat) (hk : 4000 ≤ k) (i h : Int) (hi : 0 ≤ i) (hi2 : i ≤ s.length) : ∃ r i' h', spec_l11In.f k s i h a b c d x = some (r, i', h') ∧ r.length ≤ 200 := by
  obtain ⟨v1, i1, h1, e1, p1, q1, a1, b1, _⟩ := below_some s hs i h 2 hi hi2
  have b1' := b1 (by decide)
  obtain ⟨r1, i2, h2, e2, l2, p2, q2⟩ := words_some s hs v1 a1 (by omega) k (by omega) i1 h1 p1 q1
  unfold spec_l11In.f
  rw [bs e1, bs e2]
  by_cases ha : a = 1
  · have w1 : wrap64 (x + 1) = x + 1 := wr (by omega) (by omega)
    obtain ⟨v3, i3, h3, e3, p3, q3, a3, b3, c3⟩ := below_some s hs i2 h2 (x + 1) p2 q2
    have hv3 : v3 ≤ 101 := by
      by_cases hd : 0 < x + 1
      · have := b3 hd; omega
      · have := c3 (by omega); omega
    obtain ⟨r4, i4, h4, e4, l4, p4, q4⟩ := words_some s hs v3 a3 (by omega) k (by omega) i3 h3 p3 q3
    obtain ⟨b5, i5, h5, e5, p5, q5⟩ := once_some s hs i4 h4 20 p4 q4
    rw [if_pos ha, w1, bs e3, bs e4, bs e5]
    cases b5 with
    | true => rw [if_pos rfl, Option.bind_some, if_pos (by simp; omega)]; exact ⟨_, _, _, rfl, by simp; omega⟩
    | false => rw [if_neg (by simp)]; exact ⟨_, _, _, rfl, by dsimp only; omega⟩
  · rw [if_neg ha]
    obtain ⟨b5, i5, h5, e5, p5, q5⟩ := once_some s hs i2 h2 20 p2 q2
    rw [bs e5]
    cases b5 with
    | true => rw [if_pos rfl, Option.bind_some, if_pos (by simp; omega)]; exact ⟨_, _, _, rfl, by simp; omega⟩
    | false => rw [if_neg (by simp)]; exact ⟨_, _, _, rfl, by dsimp only; omega⟩
theorem border_some (k : Nat) (hk : 9000 ≤ k) : ∃ a b c d x r m, spec_DrawBorder.f k s = some (a, b, c, d, x, r, m) ∧ r.length ≤ 100 ∧ m.length ≤ 200 := by
  obtain ⟨h0, e0⟩ := new_some s k (by omega)
  obtain ⟨a, b, c, d, i1, h1, e1, p1, q1, d1, d2⟩ := any_some s hs 0 h0 (by omega) (by omega)
  obtain ⟨x, r, i2, h2, e2, x1, x2, r2, p2, q2⟩ := out_some s hs a b c d d1 d2 k (by omega) i1 h1 p1 q1
  obtain ⟨m, i3, h3, e3, m3⟩ := in_some s hs a b c d x x1 x2 k (by omega) i2 h2 p2 q2
  unfold spec_DrawBorder.f
  rw [bs e0, bs e1, bs e2, bs e3]
  exact ⟨_, _, _, _, _, _, _, rfl, r2, m3⟩
theorem at_some (j : Int) (h0 : 0 ≤ j) (h1 : j ≤ 100) : ∃ v, laws_at.f s j = some v := by
  unfold laws_at.f
  by_cases c : j < (s.length : Int)
  · rw [if_pos c, if_pos h0]; exact ⟨_, rfl⟩
  · rw [if_neg c]; exact ⟨_, rfl⟩
theorem word3_some : ∃ v, laws_word.f s 3 = some v := by
  obtain ⟨a, ea⟩ := at_some s hs 3 (by decide) (by decide)
  obtain ⟨b, eb⟩ := at_some s hs 4 (by decide) (by decide)
  obtain ⟨c, ec⟩ := at_some s hs 5 (by decide) (by decide)
  obtain ⟨d, ed⟩ := at_some s hs 6 (by decide) (by decide)
  have w1 : wrap64 (3 + 1) = 4 := wr (by decide) (by decide)
  have w2 : wrap64 (3 + 2) = 5 := wr (by decide) (by decide)
  have w3 : wrap64 (3 + 3) = 6 := wr (by decide) (by decide)
  unfold laws_word.f
  rw [bs ea, w1, bs eb, w2, bs ec, w3, bs ed]
  exact ⟨_, rfl⟩
end
end Go.Proofs.Ytioifcanipijhaa.DrbC
end
section
namespace Go.Proofs.Ytioifcanipijhaa.AidC
open Go.RowKit Go.Proofs.Ytioifcanipijhaa Go.Proofs.Ytioifcanipijhaa.GC Go.Proofs.Ytioifcanipijhaa.Lst Go.Proofs.YtioifcanipijhaaW.PrintWords Go.Proofs.YtioifcanipijhaaW.PrintLast
theorem in_s (a b c : Int) : spec_l01In.f a b c = some (decide (b ≤ a ∧ a ≤ c)) := by
  unfold spec_l01In.f; split <;> simp_all <;> omega
theorem in_i (a b c : Int) : impl_within.f a b c = some (decide (b ≤ a ∧ a ≤ c)) := by
  unfold impl_within.f; split <;> simp_all <;> omega
/-- A channel is ok. -/
def ChanB (a b c d : Int) : Prop := 0 ≤ b ∧ b ≤ 5 ∧ 0 ≤ c ∧ c ≤ 5 ∧ b ≠ c ∧ (a = 0 ∧ d = 0 ∨ a = 1 ∧ 1 ≤ d ∧ d ≤ 8)
instance (a b c d : Int) : Decidable (ChanB a b c d) := by unfold ChanB; infer_instance
theorem chan_s (a b c d : Int) : spec_ChanOk.f a b c d = some (decide (ChanB a b c d)) := by
  unfold spec_ChanOk.f
  simp only [in_s, Option.bind_some, decide_eq_true_eq]
  repeat' split
  all_goals (first | (refine congrArg some (decide_eq_decide.2 ?_); (try unfold OutB); (try unfold ChanB); omega) | (refine congrArg some (decide_eq_true ?_).symm; (try unfold OutB); (try unfold ChanB); omega) | (refine congrArg some (decide_eq_false ?_).symm; (try unfold OutB); (try unfold ChanB); omega))
theorem chan_i (a b c d : Int) : impl_isChan.f a b c d = some (decide (ChanB a b c d)) := by
  unfold impl_isChan.f
  simp only [in_i, Option.bind_some, decide_eq_true_eq]
  repeat' split
  all_goals (first | (refine congrArg some (decide_eq_decide.2 ?_); (try unfold OutB); (try unfold ChanB); omega) | (refine congrArg some (decide_eq_true ?_).symm; (try unfold OutB); (try unfold ChanB); omega) | (refine congrArg some (decide_eq_false ?_).symm; (try unfold OutB); (try unfold ChanB); omega))
/-- A sender's end is ok. -/
def OutB (a b c d h : Int) (n : Nat) : Prop := ChanB a b c d ∧ (a = 0 ∧ h = 0 ∧ (n : Int) ≤ 1 ∨ a = 1 ∧ 0 ≤ h ∧ h ≤ d ∧ h + (n : Int) ≤ d)
instance (a b c d h : Int) (n : Nat) : Decidable (OutB a b c d h n) := by unfold OutB; infer_instance
theorem out_s (a b c d h : Int) (l : List Int) (hl : l.length ≤ 9000000) : spec_OutOk.f a b c d h l = some (decide (OutB a b c d h l.length)) := by
  unfold spec_OutOk.f
  simp only [chan_s, in_s, Option.bind_some, decide_eq_true_eq]
  by_cases hc : ChanB a b c d
  · have hc' := hc
    unfold ChanB at hc'
    rw [if_pos hc]
    split
    · split
      all_goals (first | (refine congrArg some (decide_eq_decide.2 ?_); (try unfold OutB); (try unfold ChanB); omega) | (refine congrArg some (decide_eq_true ?_).symm; (try unfold OutB); (try unfold ChanB); omega) | (refine congrArg some (decide_eq_false ?_).symm; (try unfold OutB); (try unfold ChanB); omega))
    · split
      · rw [wr (by omega) (by omega)]
        (first | (refine congrArg some (decide_eq_decide.2 ?_); (try unfold OutB); (try unfold ChanB); omega) | (refine congrArg some (decide_eq_true ?_).symm; (try unfold OutB); (try unfold ChanB); omega) | (refine congrArg some (decide_eq_false ?_).symm; (try unfold OutB); (try unfold ChanB); omega))
      · (first | (refine congrArg some (decide_eq_decide.2 ?_); (try unfold OutB); (try unfold ChanB); omega) | (refine congrArg some (decide_eq_true ?_).symm; (try unfold OutB); (try unfold ChanB); omega) | (refine congrArg some (decide_eq_false ?_).symm; (try unfold OutB); (try unfold ChanB); omega))
  · rw [if_neg hc]
    exact congrArg some (decide_eq_false (fun h => hc h.1)).symm
theorem out_i (a b c d h : Int) (l : List Int) (hl : l.length ≤ 9000000) : impl_isOut.f a b c d h l = some (decide (OutB a b c d h l.length)) := by
  unfold impl_isOut.f impl_depthOf.f
  simp only [chan_i, in_i, Option.bind_some, decide_eq_true_eq]
  by_cases hc : ChanB a b c d
  · have hc' := hc
    unfold ChanB at hc'
    rw [if_pos hc]
    have hm : mx 1 d = if d < 1 then 1 else d := by unfold mx; split <;> split <;> omega
    rw [hm]
    have hw : wrap64 (d - (l.length : Int)) = d - (l.length : Int) := wr (by omega) (by omega)
    rw [hw]
    repeat' split
    all_goals (first | (refine congrArg some (decide_eq_decide.2 ?_); (try unfold OutB); (try unfold ChanB); omega) | (refine congrArg some (decide_eq_true ?_).symm; (try unfold OutB); (try unfold ChanB); omega) | (refine congrArg some (decide_eq_false ?_).symm; (try unfold OutB); (try unfold ChanB); omega))
  · rw [if_neg hc]
    exact congrArg some (decide_eq_false (fun h => hc h.1)).symm
theorem in_end_s (a b c d : Int) (l : List Int) : spec_InOk.f a b c d l = some (decide (ChanB a b c d ∧ (a = 0 ∧ (l.length : Int) ≤ 1 ∨ a = 1 ∧ (l.length : Int) ≤ d))) := by
  unfold spec_InOk.f
  simp only [chan_s, Option.bind_some, decide_eq_true_eq]
  by_cases hc : ChanB a b c d
  · have hc' := hc
    unfold ChanB at hc'
    rw [if_pos hc]
    split
    all_goals (first | (refine congrArg some (decide_eq_decide.2 ?_); (try unfold OutB); (try unfold ChanB); omega) | (refine congrArg some (decide_eq_true ?_).symm; (try unfold OutB); (try unfold ChanB); omega) | (refine congrArg some (decide_eq_false ?_).symm; (try unfold OutB); (try unfold ChanB); omega))
  · rw [if_neg hc]
    exact congrArg some (decide_eq_false (fun h => hc h.1)).symm
theorem in_end_i (a b c d : Int) (l : List Int) : impl_isIn.f a b c d l = some (decide (ChanB a b c d ∧ (a = 0 ∧ (l.length : Int) ≤ 1 ∨ a = 1 ∧ (l.length : Int) ≤ d))) := by
  unfold impl_isIn.f impl_depthOf.f
  simp only [chan_i, Option.bind_some, decide_eq_true_eq]
  by_cases hc : ChanB a b c d
  · have hc' := hc
    unfold ChanB at hc'
    rw [if_pos hc]
    have hm : mx 1 d = if d < 1 then 1 else d := by unfold mx; split <;> split <;> omega
    rw [hm]
    split
    all_goals (first | (refine congrArg some (decide_eq_decide.2 ?_); (try unfold OutB); (try unfold ChanB); omega) | (refine congrArg some (decide_eq_true ?_).symm; (try unfold OutB); (try unfold ChanB); omega) | (refine congrArg some (decide_eq_false ?_).symm; (try unfold OutB); (try unfold ChanB); omega))
  · rw [if_neg hc]
    exact congrArg some (decide_eq_false (fun h => hc h.1)).symm

/-- A receiver's end is ok. -/
def InB (a b c d : Int) (n : Nat) : Prop := ChanB a b c d ∧ (a = 0 ∧ (n : Int) ≤ 1 ∨ a = 1 ∧ (n : Int) ≤ d)
instance (a b c d : Int) (n : Nat) : Decidable (InB a b c d n) := by unfold InB; infer_instance
theorem in_s' (a b c d : Int) (l : List Int) : spec_InOk.f a b c d l = some (decide (InB a b c d l.length)) := in_end_s a b c d l
theorem in_i' (a b c d : Int) (l : List Int) : impl_isIn.f a b c d l = some (decide (InB a b c d l.length)) := in_end_i a b c d l
/-! what the reference's functions come to -/
end Go.Proofs.Ytioifcanipijhaa.AidC
end
section
namespace Go.Proofs.Ytioifcanipijhaa.Pure
open Go.RowKit Go.Proofs.Ytioifcanipijhaa Go.Proofs.Ytioifcanipijhaa.GC Go.Proofs.Ytioifcanipijhaa.AidC Go.Proofs.Ytioifcanipijhaa.Lst Go.Proofs.Ytioifcanipijhaa.DrcC Go.Proofs.Ytioifcanipijhaa.DrbC Go.Proofs.YtioifcanipijhaaW.PrintWords Go.Proofs.YtioifcanipijhaaW.PrintLast
def roomB (a b c d h : Int) (n : Nat) : Int := if OutB a b c d h n then (if a = 0 then 1 else d - h - (n : Int)) else 0
theorem room_wrap {a b c d h : Int} {n : Nat} (ho : OutB a b c d h n) (hn : n ≤ 9000000) (ha : ¬ a = 0) : wrap64 (wrap64 (d - h) - (n : Int)) = d - h - (n : Int) := by
  unfold OutB ChanB at ho
  rw [wr (n := d - h) (by omega) (by omega)]
  exact wr (by omega) (by omega)
theorem room_s (a b c d h : Int) (l : List Int) (hl : l.length ≤ 9000000) : spec_Room.f a b c d h l = some (roomB a b c d h l.length) := by
  unfold spec_Room.f roomB
  rw [out_s a b c d h l hl, Option.bind_some]
  by_cases ho : OutB a b c d h l.length
  · rw [if_pos (decide_eq_true ho), if_pos ho]
    by_cases ha : a = 0
    · rw [if_pos ha, if_pos ha]
    · rw [if_neg ha, if_neg ha, room_wrap ho hl ha]
  · rw [if_neg (by simpa using ho), if_neg ho]
theorem room_i (a b c d h : Int) (l : List Int) (hl : l.length ≤ 9000000) : impl_Room.f a b c d h l = some (roomB a b c d h l.length) := by
  unfold impl_Room.f impl_room.f roomB
  rw [out_i a b c d h l hl, Option.bind_some]
  by_cases ho : OutB a b c d h l.length
  · rw [if_pos (decide_eq_true ho), if_pos ho]
    by_cases ha : a = 0
    · rw [if_pos ha, if_pos ha, Option.bind_some]
    · rw [if_neg ha, if_neg ha, room_wrap ho hl ha, Option.bind_some]
  · rw [if_neg (by simpa using ho), if_neg ho]
theorem rd_last (l : List Int) (x : Int) : rd (l ++ [x]) (l.length : Int) = x := by
  unfold rd
  rw [Int.toNat_natCast, List.getD_eq_getElem?_getD, List.getElem?_append_right (Nat.le_refl _), Nat.sub_self]
  rfl
theorem same_words (l : List Int) (hl : l.length ≤ 9000000) (k : Nat) (hk : l.length < k) : laws_sameWords.f k l l = some true := by
  unfold laws_sameWords.f
  rw [if_pos rfl]
  exact eq_int laws_sameWords.l0 (fun _ _ _ _ => rfl) l (by omega) k hk
set_option maxHeartbeats 1000000 in
theorem room_join (k : Nat) (a b c d h x : Int) (l m : List Int) (hl : l.length ≤ 1000) (hm : m.length ≤ 1000) (ha : ¬ a = 0) (ho2 : OutB a b c d h (l ++ [x]).length) : laws_FnRoom.j0 (k + 1) x (!true) a b c d h l m h (l ++ [x]) = some true := by
  obtain ⟨l2, hl2⟩ : ∃ l2, l2 = l ++ [x] := ⟨_, rfl⟩
  have hn : l2.length = l.length + 1 := by rw [hl2]; simp
  rw [← hl2] at ho2 ⊢
  have ho' := ho2
  unfold OutB ChanB at ho'
  have n1 : (l2.length : Int) = wrap64 ((l.length : Int) + 1) := by rw [wr (by omega) (by omega)]; omega
  have n2 : wrap64 ((l2.length : Int) - 1) = (l.length : Int) := by rw [wr (by omega) (by omega)]; omega
  have hml : (m ++ l2).length = m.length + l2.length := by simp
  have hml2 : (m ++ l).length = m.length + l.length := by simp
  have n3 : wrap64 ((m.length : Int) + (l2.length : Int)) = ((m ++ l2).length : Int) := by rw [wr (by omega) (by omega)]; omega
  have n4 : wrap64 (((m ++ l2).length : Int) - 1) = ((m ++ l).length : Int) := by rw [wr (by omega) (by omega)]; omega
  have n5 : rd (m ++ l2) ((m ++ l).length : Int) = x := by rw [hl2, ← List.append_assoc]; exact rd_last _ _
  have n6 : rd l2 (l.length : Int) = x := by rw [hl2]; exact rd_last _ _
  have q1 : (0 : Int) ≤ (l.length : Int) := by omega
  have q2 : (l.length : Int) < (l2.length : Int) := by omega
  have q3 : (0 : Int) ≤ ((m ++ l).length : Int) := by omega
  have q4 : ((m ++ l).length : Int) < ((m ++ l2).length : Int) := by omega
  have q5 : (m.length : Int) + (l2.length : Int) = ((m ++ l2).length : Int) := by omega
  simp only [laws_FnRoom.j0]
  rw [if_neg (by decide), bs (in_s' a b c d m)]
  by_cases hi : InB a b c d m.length
  · rw [if_pos (decide_eq_true hi)]
    by_cases hm2 : (m.length : Int) > h
    · rw [if_pos hm2]
    · rw [if_neg hm2]
      have ha1 : a = 1 := by omega
      have hbf : bordF a h l2 m = ((m.length : Int) + (l2.length : Int), m ++ l2) := by unfold bordF; rw [if_pos ha1]
      have hbo : impl_Border.f a b c d h l2 m = some ((m.length : Int) + (l2.length : Int), [], m ++ l2, l2) := by
        have c1 : l2.length < 1000000 ∧ m.length < 1000000 := ⟨by omega, by omega⟩
        have c2 : decide (OutB a b c d h l2.length) = true ∧ decide (InB a b c d m.length) = true ∧ ¬ (a = 1 ∧ h < (m.length : Int)) := ⟨decide_eq_true ho2, decide_eq_true hi, fun z => hm2 z.2⟩
        unfold impl_Border.f
        rw [if_pos c1, out_i a b c d h l2 (by omega), Option.bind_some, in_i' a b c d m, Option.bind_some, if_pos c2, hbf]
      rw [bs hbo]
      dsimp only
      rw [if_pos n1, n2, if_pos q1, if_pos q2, n6, if_pos rfl, n3, if_pos rfl, n4, if_pos q3, if_pos q4, n5, if_pos rfl, if_pos q5]
      rfl
  · rw [if_neg (by simpa using hi)]
set_option maxHeartbeats 1000000 in
theorem FnRoom : ∀ (l0 : List Int), (l0.length ≤ maxLen ∧ ∀ x_ ∈ l0, (Lit.int .u8 x_).wf = true) → ∃ k, GC.laws_FnRoom.f k l0 = some true := by
  intro s hl
  have hl1 := hl.1
  unfold maxLen at hl1
  refine ⟨10000, ?_⟩
  unfold laws_FnRoom.f laws_big.f
  rw [Option.bind_some]
  by_cases hb : (s.length : Int) > 1048576
  · rw [if_pos (decide_eq_true hb)]
  · rw [if_neg (by simpa using hb)]
    have hs : s.length ≤ 9000000000000000 := by omega
    obtain ⟨a, b, c, d, h, l, m, e, hl, hm⟩ := border_some s hs 10000 (by decide)
    obtain ⟨x, ex⟩ := word3_some s hs
    have hsend : impl_SendOn.f a b c d h l x = some (if OutB a b c d h l.length then (h, (sendF a d h l x).2, (sendF a d h l x).1) else (0, [], 3)) := by
      unfold impl_SendOn.f
      rw [if_pos (by omega), out_i a b c d h l (by omega), Option.bind_some]
      simp only [decide_eq_true_eq]
    rw [bs e, bs ex, bs (room_s a b c d h l (by omega)), bs (room_i a b c d h l (by omega)), if_pos rfl, bs hsend, bs (out_s a b c d h l (by omega))]
    by_cases ho : OutB a b c d h l.length
    · have ho' := ho
      unfold OutB ChanB at ho'
      rw [if_pos (decide_eq_true ho), if_pos ho]
      dsimp only
      by_cases ha : a = 0
      · have es : sendF a d h l x = (0, [x]) := by unfold sendF; rw [if_pos ha]
        rw [if_pos ha, es, if_pos rfl]
        simp [show rd [x] 0 = x from rfl]
      · have hr : roomB a b c d h l.length = d - h - (l.length : Int) := by unfold roomB; rw [if_pos ho, if_neg ha]
        have hw := room_wrap ho (by omega) ha
        rw [if_neg ha, hr]
        by_cases h0 : d - h - (l.length : Int) = 0
        · have es : sendF a d h l x = (2, l) := by unfold sendF; rw [if_neg ha, hw, if_pos h0]
          rw [if_pos h0, es, if_pos rfl, if_pos rfl, bs (same_words l (by omega) 10000 (by omega))]
        · have es : sendF a d h l x = (0, l ++ [x]) := by unfold sendF; rw [if_neg ha, hw, if_neg h0]
          have hn : (l ++ [x]).length = l.length + 1 := by simp
          have ho2 : OutB a b c d h (l ++ [x]).length := by unfold OutB ChanB; omega
          have hr2 : roomB a b c d h (l ++ [x]).length = d - h - ((l ++ [x]).length : Int) := by unfold roomB; rw [if_pos ho2, if_neg ha]
          have hw1 : wrap64 (d - h - (l.length : Int) - 1) = d - h - ((l ++ [x]).length : Int) := by rw [wr (by omega) (by omega)]; omega
          have hok : impl_OutOk.f a b c d h (l ++ [x]) = some true := by
            unfold impl_OutOk.f
            rw [out_i a b c d h (l ++ [x]) (by omega), Option.bind_some, decide_eq_true ho2]
          rw [if_neg h0, es, if_pos rfl, bs (room_i a b c d h (l ++ [x]) (by omega)), hr2, hw1, if_pos rfl, bs hok]
          exact room_join 9999 a b c d h x l m (by omega) (by omega) ha ho2
    · rw [if_neg (by simpa using ho), if_neg ho]
      rfl
end Go.Proofs.Ytioifcanipijhaa.Pure
end
