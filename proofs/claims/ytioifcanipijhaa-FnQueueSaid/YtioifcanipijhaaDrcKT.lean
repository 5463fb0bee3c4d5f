/- What is drawn for the laws of channels: a channel's row and the two ends, or a script. Plain laws of the draws as they were told. -/
import Derived.Test.YtioifcanipijhaaGKx0T
import Derived.Test.YtioifcanipijhaaGKx10T
import Derived.Test.YtioifcanipijhaaGKx11T
import Derived.Test.YtioifcanipijhaaGKx9T
import Derived.Test.YtioifcanipijhaaDrwKT
namespace Go.Proofs.Ytioifcanipijhaa.DrcK
open Go.RowKit Go.Proofs.Ytioifcanipijhaa Go.Proofs.Ytioifcanipijhaa.GK Go.Proofs.Ytioifcanipijhaa.Lst Go.Proofs.Ytioifcanipijhaa.DrwK Go.Proofs.YtioifcanipijhaaW.PrintWords Go.Proofs.YtioifcanipijhaaW.PrintLast
theorem bs {α β : Type} {x : Option α} {r : α} {f : α → Option β} (h : x = some r) : x.bind f = f r := by rw [h]; rfl
section
variable (s : List Int) (hs : s.length ≤ 9000000000000000)
include hs
theorem row_some (i h : Int) (hi : 0 ≤ i) (hi2 : i ≤ s.length) : ∃ a b c d i' h', spec_l11Row.f s i h 6 = some (a, b, c, d, i', h') ∧ 0 ≤ i' ∧ i' ≤ s.length ∧ 0 ≤ d ∧ d ≤ 8 := by
  obtain ⟨v1, i1, h1, e1, p1, q1, _⟩ := below_some s hs i h 2 hi hi2
  obtain ⟨v2, i2, h2, e2, p2, q2, _⟩ := below_some s hs i1 h1 6 p1 q1
  obtain ⟨v3, i3, h3, e3, p3, q3, _⟩ := below_some s hs i2 h2 5 p2 q2
  have w5 : wrap64 (6 - 1) = 5 := wr (by decide) (by decide)
  unfold spec_l11Row.f
  rw [bs e1, bs e2, w5, bs e3, if_neg (by decide)]
  by_cases c1 : v1 = 1
  · rw [if_pos c1]
    obtain ⟨v4, i4, h4, e4, p4, q4, a4, b4, _⟩ := below_some s hs i3 h3 4 p3 q3
    obtain ⟨b, i5, h5, e5, p5, q5⟩ := once_some s hs i4 h4 6 p4 q4
    rw [bs e4, bs e5]
    have hb4 := b4 (by decide)
    cases b with
    | true => rw [if_pos rfl]; exact ⟨_, _, _, _, _, _, rfl, p5, q5, by decide, by decide⟩
    | false =>
      rw [if_neg (by simp)]
      have : wrap64 (1 + v4) = 1 + v4 := wr (by omega) (by omega)
      exact ⟨_, _, _, _, _, _, rfl, p5, q5, by (try dsimp only); rw [this]; omega, by (try dsimp only); rw [this]; omega⟩
  · rw [if_neg c1]
    exact ⟨_, _, _, _, _, _, rfl, p3, q3, by decide, by decide⟩
theorem any_some (i h : Int) (hi : 0 ≤ i) (hi2 : i ≤ s.length) : ∃ a b c d i' h', spec_l11Any.f s i h = some (a, b, c, d, i', h') ∧ 0 ≤ i' ∧ i' ≤ s.length ∧ -1 ≤ d ∧ d ≤ 9 := by
  obtain ⟨a, b, c, d, i1, h1, e1, p1, q1, d1, d2⟩ := row_some s hs i h hi hi2
  obtain ⟨v2, i2, h2, e2, p2, q2, _⟩ := below_some s hs i1 h1 22 p1 q1
  unfold spec_l11Any.f
  rw [bs e1, bs e2]
  by_cases c0 : v2 = 0
  · obtain ⟨v3, i3, h3, e3, p3, q3, _⟩ := pick_some s hs i2 h2 [(-1), 2] (by decide) p2 q2
    rw [if_pos c0, bs e3]
    exact ⟨_, _, _, _, _, _, rfl, p3, q3, by (try dsimp only); omega, by (try dsimp only); omega⟩
  · rw [if_neg c0]
    by_cases c1 : v2 = 1
    · obtain ⟨v3, i3, h3, e3, p3, q3, _⟩ := pick_some s hs i2 h2 [(-1), 6, c] (by simp) p2 q2
      rw [if_pos c1, bs e3]
      exact ⟨_, _, _, _, _, _, rfl, p3, q3, by (try dsimp only); omega, by (try dsimp only); omega⟩
    · rw [if_neg c1]
      by_cases c2 : v2 = 2
      · obtain ⟨v3, i3, h3, e3, p3, q3, _⟩ := pick_some s hs i2 h2 [(-1), 6] (by decide) p2 q2
        rw [if_pos c2, bs e3]
        exact ⟨_, _, _, _, _, _, rfl, p3, q3, by (try dsimp only); omega, by (try dsimp only); omega⟩
      · rw [if_neg c2]
        by_cases c3 : v2 = 3
        · obtain ⟨v3, i3, h3, e3, p3, q3, m3⟩ := pick_some s hs i2 h2 [(-1), 0, 1, 9] (by decide) p2 q2
          rw [if_pos c3, bs e3]
          have : v3 = -1 ∨ v3 = 0 ∨ v3 = 1 ∨ v3 = 9 := by simpa using m3
          exact ⟨_, _, _, _, _, _, rfl, p3, q3, by (try dsimp only); omega, by (try dsimp only); omega⟩
        · rw [if_neg c3]
          exact ⟨_, _, _, _, _, _, rfl, p2, q2, by (try dsimp only); omega, by (try dsimp only); omega⟩
theorem ops_some (n : Nat) (hn : n ≤ 2000) : ∀ (d k : Nat) (xs : List S70) (j : Nat) (i h : Int), j ≤ n → n - j = d → d < k → xs.length = j → 0 ≤ i → i ≤ s.length → ∃ r i' h', spec_l11Ops.l0 k (n : Int) xs (j : Int) s i h = some (r, i', h') ∧ r.length = n ∧ 0 ≤ i' ∧ i' ≤ s.length := by
  intro d
  induction d with
  | zero =>
    intro k xs j i h hj hd hk hl hi hi2
    obtain ⟨k, rfl⟩ : ∃ m, k = m + 1 := ⟨k - 1, by omega⟩
    simp only [spec_l11Ops.l0]
    rw [if_neg (by omega)]
    exact ⟨_, _, _, rfl, by omega, hi, hi2⟩
  | succ d ih =>
    intro k xs j i h hj hd hk hl hi hi2
    obtain ⟨k, rfl⟩ : ∃ m, k = m + 1 := ⟨k - 1, by omega⟩
    have e : wrap64 ((j : Int) + 1) = ((j + 1 : Nat) : Int) := by rw [wr (by omega) (by omega)]; omega
    obtain ⟨v1, i1, h1, e1, p1, q1, _⟩ := pick_some s hs i h [0, 0, 0, 0, 1, 1, 1, 2, 2, 3] (by decide) hi hi2
    simp only [spec_l11Ops.l0]
    rw [if_pos (by omega), bs e1]
    by_cases c0 : v1 = 0
    · obtain ⟨v2, i2, h2, e2, p2, q2, _⟩ := word_some s hs i1 h1 p1 q1
      rw [if_pos c0, bs e2, if_pos (by omega), e]
      exact ih k _ (j + 1) i2 h2 (by omega) (by omega) (by omega) (by simp [hl]) p2 q2
    · rw [if_neg c0, if_pos (by omega), e]
      exact ih k _ (j + 1) i1 h1 (by omega) (by omega) (by omega) (by simp [hl]) p1 q1
theorem ops_some' (m : Int) (h0 : 0 ≤ m) (hm : m ≤ 2000) (k : Nat) (hk : 3000 ≤ k) (i h : Int) (hi : 0 ≤ i) (hi2 : i ≤ s.length) : ∃ r i' h', spec_l11Ops.f k s i h m = some (r, i', h') ∧ (r.length : Int) = m ∧ 0 ≤ i' ∧ i' ≤ s.length := by
  obtain ⟨n, rfl⟩ : ∃ n : Nat, m = n := ⟨m.toNat, by omega⟩
  obtain ⟨r, i', h', e, hr, p, q⟩ := ops_some s hs n (by omega) n k [] 0 i h (by omega) (by omega) (by omega) rfl hi hi2
  exact ⟨r, i', h', e, by omega, p, q⟩
theorem play_some (k : Nat) (hk : 9000 ≤ k) : ∃ a b c d ops, spec_DrawChanPlay.f k s = some (a, b, c, d, ops) := by
  obtain ⟨h0, e0⟩ := new_some s k (by omega)
  obtain ⟨a, b, c, d, i1, h1, e1, p1, q1, _, _⟩ := any_some s hs 0 h0 (by omega) (by omega)
  obtain ⟨z, ez, z1, z2⟩ := size_some s hs 80 (by decide)
  obtain ⟨v2, i2, h2, e2, p2, q2, a2, b2, _⟩ := below_some s hs i1 h1 z p1 q1
  have b2' := b2 (by omega)
  obtain ⟨ops, i3, h3, e3, l3, p3, q3⟩ := ops_some' s hs v2 a2 (by omega) k (by omega) i2 h2 p2 q2
  obtain ⟨bb, i4, h4, e4, p4, q4⟩ := once_some s hs i3 h3 25 p3 q3
  have join : ∀ (o : List S70) (i h : Int), 0 ≤ i → i ≤ s.length → ∃ a' b' c' d' ops', spec_DrawChanPlay.j0 k o s i h a b c d = some (a', b', c', d', ops') := by
    intro o i h hi hi2
    obtain ⟨k, rfl⟩ : ∃ m, k = m + 1 := ⟨k - 1, by omega⟩
    obtain ⟨b1, j1, g1, f1, r1, t1⟩ := once_some s hs i h 60 hi hi2
    simp only [spec_DrawChanPlay.j0]
    rw [bs f1]
    cases b1 with
    | false => rw [if_neg (by simp)]; exact ⟨_, _, _, _, _, rfl⟩
    | true =>
      obtain ⟨v, j2, g2, f2, r2, t2, x1, x2, _⟩ := below_some s hs j1 g1 2 r1 t1
      have x3 := x2 (by decide)
      have w : wrap64 (1000 + v) = 1000 + v := wr (by omega) (by omega)
      obtain ⟨ops2, j3, g3, f3, _⟩ := ops_some' s hs (1000 + v) (by omega) (by omega) k (by omega) j2 g2 r2 t2
      rw [if_pos rfl, bs f2, w, bs f3]
      exact ⟨_, _, _, _, _, rfl⟩
  unfold spec_DrawChanPlay.f
  rw [bs e0, bs e1, bs ez, bs e2, bs e3, bs e4]
  cases bb with
  | true =>
    obtain ⟨v5, i5, h5, e5, p5, q5, _⟩ := pick_some s hs i4 h4 [(-1), 4] (by decide) p4 q4
    rw [if_pos rfl, bs e5, if_pos (by dsimp only; omega)]
    exact join _ _ _ p5 q5
  | false =>
    rw [if_neg (by simp)]
    exact join _ _ _ p4 q4
end
end Go.Proofs.Ytioifcanipijhaa.DrcK
