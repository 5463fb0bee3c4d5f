/- What is drawn for the law of pages: a size and addresses. Plain laws of the draws as they were told. -/
import Derived.Test.YtglehilfemfiiaaGEx9
import Derived.Test.YtglehilfemfiiaaDrwE
namespace Go.Proofs.Ytglehilfemfiiaa.DrtE
open Go.RowKit Go.Proofs.Ytglehilfemfiiaa Go.Proofs.Ytglehilfemfiiaa.GE Go.Proofs.Ytglehilfemfiiaa.Lst Go.Proofs.Ytglehilfemfiiaa.DrwE Go.Proofs.YtglehilfemfiiaaW.PrintWords Go.Proofs.YtglehilfemfiiaaW.PrintLast
theorem bs {α β : Type} {x : Option α} {r : α} {f : α → Option β} (h : x = some r) : x.bind f = f r := by rw [h]; rfl
section
variable (s : List Int) (hs : s.length ≤ 9000000000000000)
include hs
theorem end_some (z : Int) (xs : List Int) (hx : xs.length ≤ 2002) (k : Nat) (hk : 1 ≤ k) (i h : Int) (hi : 0 ≤ i) (hi2 : i ≤ s.length) : ∃ a r, spec_DrawTlbRun.j2 k z xs s i h = some (a, r) ∧ r.length ≤ 2002 := by
  obtain ⟨k, rfl⟩ : ∃ m, k = m + 1 := ⟨k - 1, by omega⟩
  obtain ⟨b, i1, h1, e1, p1, q1⟩ := once_some s hs i h 20 hi hi2
  simp only [spec_DrawTlbRun.j2]
  rw [bs e1]
  cases b with
  | true =>
    obtain ⟨v, i2, h2, e2, p2, q2, _⟩ := pick_some s hs i1 h1 [0, 9] (by decide) p1 q1
    rw [if_pos rfl, bs e2]
    exact ⟨_, _, rfl, hx⟩
  | false =>
    rw [if_neg (by simp)]
    exact ⟨_, _, rfl, hx⟩
theorem loop_some (z : Int) (n : Nat) (hn : n ≤ 2001) : ∀ (d k : Nat) (xs : List Int) (j : Nat) (i h : Int), j ≤ n → n - j = d → d + 2 < k → xs.length = j → 0 ≤ i → i ≤ s.length → ∃ a r, spec_DrawTlbRun.l0 k z xs (n : Int) (j : Int) s i h = some (a, r) ∧ r.length ≤ 2002 := by
  intro d
  induction d with
  | zero =>
    intro k xs j i h hj hd hk hl hi hi2
    obtain ⟨k, rfl⟩ : ∃ m, k = m + 1 := ⟨k - 1, by omega⟩
    obtain ⟨b, i1, h1, e1, p1, q1⟩ := once_some s hs i h 15 hi hi2
    simp only [spec_DrawTlbRun.l0]
    have hj1 : ¬ (j : Int) < (n : Int) := by omega
    rw [if_neg hj1, bs e1]
    cases b with
    | true =>
      obtain ⟨v, i2, h2, e2, p2, q2, _⟩ := pick_some s hs i1 h1 [(-1), 65535, 65536] (by decide) p1 q1
      have hx : xs.length < 17592186044416 := by omega
      rw [if_pos rfl, bs e2, if_pos hx]
      clear hx
      exact end_some s hs z _ (by simp; omega) k (by omega) _ _ p2 q2
    | false =>
      rw [if_neg (by simp)]
      exact end_some s hs z _ (by omega) k (by omega) _ _ p1 q1
  | succ d ih =>
    intro k xs j i h hj hd hk hl hi hi2
    obtain ⟨k, rfl⟩ : ∃ m, k = m + 1 := ⟨k - 1, by omega⟩
    obtain ⟨v1, i1, h1, e1, p1, q1, _⟩ := below_some s hs i h 900 hi hi2
    simp only [spec_DrawTlbRun.l0]
    have hj1 : (j : Int) < (n : Int) := by omega
    have hx : xs.length < 17592186044416 := by omega
    have e : wrap64 ((j : Int) + 1) = ((j + 1 : Nat) : Int) := by rw [wr (by omega) (by omega)]; omega
    rw [if_pos hj1, bs e1, if_pos hx, e]
    clear e hx
    exact ih k _ (j + 1) i1 h1 (by omega) (by omega) (by omega) (by simp [hl]) p1 q1
theorem run_some (k : Nat) (hk : 9000 ≤ k) : ∃ a r, spec_DrawTlbRun.f k s = some (a, r) ∧ r.length ≤ 2002 := by
  obtain ⟨h0, e0⟩ := new_some s k (by omega)
  obtain ⟨v1, i1, h1, e1, p1, q1, a1, b1, _⟩ := below_some s hs 0 h0 8 (by omega) (by omega)
  obtain ⟨z, ez, z1, z2⟩ := size_some s hs 80 (by decide)
  obtain ⟨v2, i2, h2, e2, p2, q2, a2, b2, _⟩ := below_some s hs i1 h1 z p1 q1
  have b2' := b2 (by omega)
  obtain ⟨bb, i3, h3, e3, p3, q3⟩ := once_some s hs i2 h2 60 p2 q2
  have join : ∀ (m : Int) (i h : Int), 0 ≤ m → m ≤ 2001 → 0 ≤ i → i ≤ s.length → ∃ a r, spec_DrawTlbRun.j0 k (wrap64 (1 + v1)) [] m s i h = some (a, r) ∧ r.length ≤ 2002 := by
    intro m i h hm0 hm hi hi2
    obtain ⟨k, rfl⟩ : ∃ m, k = m + 1 := ⟨k - 1, by omega⟩
    obtain ⟨n, rfl⟩ : ∃ n : Nat, m = n := ⟨m.toNat, by omega⟩
    simp only [spec_DrawTlbRun.j0]
    exact loop_some s hs _ n (by omega) n k [] 0 i h (Nat.zero_le _) (by omega) (by omega) rfl hi hi2
  unfold spec_DrawTlbRun.f
  rw [bs e0, bs e1, Option.bind_some, bs ez, bs e2, bs e3]
  cases bb with
  | true =>
    obtain ⟨v5, i5, h5, e5, p5, q5, a5, b5, _⟩ := below_some s hs i3 h3 2 p3 q3
    have b5' := b5 (by decide)
    have w : wrap64 (2000 + v5) = 2000 + v5 := wr (by omega) (by omega)
    rw [if_pos rfl, bs e5]
    dsimp only
    rw [w]
    exact join _ _ _ (by omega) (by omega) p5 q5
  | false =>
    rw [if_neg (by simp)]
    exact join _ _ _ a2 (by dsimp only; omega) p3 q3
end
end Go.Proofs.Ytglehilfemfiiaa.DrtE
