/- The pure statement of the law FnHealth: of whatever policy and faults are drawn. -/
import Derived.Test.YtpdfihapnnnglaaGBx13
import Derived.Test.YtpdfihapnnnglaaGBx14
import Derived.Test.YtpdfihapnnnglaaGBx3
import Derived.Test.YtpdfihapnnnglaaGBx5
import Derived.Test.YtpdfihapnnnglaaDrwB
import Derived.Test.YtpdfihapnnnglaaAidHB
namespace Go.Proofs.Ytpdfihapnnnglaa.Pure
open Go.RowKit Go.Proofs.Ytpdfihapnnnglaa Go.Proofs.Ytpdfihapnnnglaa.GB Go.Proofs.Ytpdfihapnnnglaa.Lst Go.Proofs.Ytpdfihapnnnglaa.AidHB Go.Proofs.Ytpdfihapnnnglaa.DrwB Go.Proofs.YtpdfihapnnnglaaW.PrintWords Go.Proofs.YtpdfihapnnnglaaW.PrintLast
set_option linter.unusedVariables false
/-- What holds of a health behind i faults. -/
def InvH (a b f r l : Int) (h : Bool) (i : Nat) : Prop := 0 ≤ f ∧ f ≤ i ∧ 0 ≤ r ∧ r ≤ i ∧ 0 ≤ l ∧ l ≤ 9 ∧ (h = true → a ≠ 2) ∧ (r = 0 ∨ r ≤ b)
theorem end_yes (a b f r l : Int) (h : Bool) (i : Nat) (hi : i ≤ 1000) (acts : List Int) (ha : acts.length = i) (I : InvH a b f r l h i) (k : Nat) : laws_FnHealth.l0 (k + 1) acts r f h (i : Int) a b f r l h = some true := by
  obtain ⟨i1, i2, i3, i4, i5, i6, i7, i8⟩ := I
  have hok : impl_isHealth.f f r l h = some true := by
    rw [hok_i, decide_eq_true]
    unfold HokB
    omega
  have hop : impl_Operator.f f r l h = some (f, r, 0, false) := by
    unfold impl_Operator.f
    rw [hok]
    rfl
  simp only [laws_FnHealth.l0]
  rw [if_neg (by omega), hop]
  simp only [Option.bind_some, if_true, beq_self_eq_true, Bool.false_eq_true, if_false]
  by_cases r0 : r = 0
  · rw [if_pos r0]
    cases h with
    | false => rfl
    | true => rw [if_pos rfl, if_neg (i7 rfl)]
  · rw [if_neg r0, if_pos (by omega)]
    cases h with
    | false => rfl
    | true => rw [if_pos rfl, if_neg (i7 rfl)]
theorem rd_drop (acts : List Int) (i : Nat) (x : Int) (xs : List Int) (h : acts.drop i = x :: xs) : rd acts (i : Int) = x ∧ acts.drop (i + 1) = xs := by
  have hi : i < acts.length := by
    rcases Nat.lt_or_ge i acts.length with h1 | h1
    · exact h1
    · rw [List.drop_of_length_le h1] at h; cases h
  rw [drop_cons_rd acts i hi] at h
  injection h with h1 h2
  exact ⟨h1, h2⟩
theorem loop_yes (a b : Int) (acts : List Int) (hl : acts.length ≤ 1000) : ∀ (xs : List Int) (k i : Nat) (f r l : Int) (h : Bool), acts.length = i + xs.length → acts.drop i = (runH a b (f, r, l, h) xs).2 → 2 * xs.length + 2 ≤ k → InvH a b f r l h i →
    laws_FnHealth.l0 k acts r f h (i : Int) a b (runH a b (f, r, l, h) xs).1.1 (runH a b (f, r, l, h) xs).1.2.1 (runH a b (f, r, l, h) xs).1.2.2.1 (runH a b (f, r, l, h) xs).1.2.2.2 = some true := by
  intro xs
  induction xs with
  | nil =>
    intro k i f r l h hlen hd hk I
    obtain ⟨k, rfl⟩ : ∃ m, k = m + 1 := ⟨k - 1, by simp at hk; omega⟩
    simp at hlen
    exact end_yes a b f r l h i (by omega) acts hlen I k
  | cons x xs ih =>
    intro k i f r l h hlen hd hk I
    simp only [List.length_cons] at hlen hk
    obtain ⟨k, rfl⟩ : ∃ m, k = m + 2 := ⟨k - 2, by omega⟩
    simp only [runH] at hd ⊢
    obtain ⟨hx, hd2⟩ := rd_drop acts i _ _ hd
    have e1 : wrap64 ((i : Int) + 1) = ((i + 1 : Nat) : Int) := by rw [wr (by omega) (by omega)]; omega
    have lt1 : (i : Int) < (acts.length : Int) := by omega
    have p0 : (0 : Int) ≤ (i : Int) := by omega
    have I' := I
    obtain ⟨i1, i2, i3, i4, i5, i6, i7, i8⟩ := I
    have wf : wrap64 (f + 1) = f + 1 := wr (by omega) (by omega)
    have wq : wrap64 (r + 1) = r + 1 := wr (by omega) (by omega)
    have flt : f < 1000000000 := by omega
    clear hd
    by_cases c : PolB a b ∧ HokB f r l ∧ (1 ≤ x ∧ x ≤ 9) ∧ h = false
    · obtain ⟨c1, c2, c3, rfl⟩ := c
      have hb : 0 ≤ b := by unfold PolB at c1; omega
      by_cases c4 : a = 2
      · have eo : onF a b f r l false x = (f + 1, r, x, false, 3) := by unfold onF; rw [if_pos ⟨c1, c2, c3, rfl⟩, if_pos c4, if_pos flt]
        rw [eo] at hx hd2 ⊢
        dsimp only at hx hd2 ⊢
        have := ih k (i + 1) (f + 1) r x false (by omega) hd2 (by omega) ⟨by omega, by omega, by omega, by omega, by omega, by omega, (fun hh => by cases hh), i8⟩
        simp only [laws_FnHealth.l0]
        rw [if_pos lt1, if_neg (by decide)]
        simp only [laws_FnHealth.j1]
        rw [if_neg (by decide), if_pos p0, if_pos lt1, hx, if_neg (by decide), if_neg (by decide), if_pos rfl, wf, e1]
        exact this
      · by_cases c5 : a = 1 ∧ r < b
        · have eo : onF a b f r l false x = (f + 1, r + 1, x, false, 2) := by unfold onF; rw [if_pos ⟨c1, c2, c3, rfl⟩, if_neg c4, if_pos c5, if_pos flt]
          rw [eo] at hx hd2 ⊢
          dsimp only at hx hd2 ⊢
          have := ih k (i + 1) (f + 1) (r + 1) x false (by omega) hd2 (by omega) ⟨by omega, by omega, by omega, by omega, by omega, by omega, (fun hh => by cases hh), .inr (by omega)⟩
          simp only [laws_FnHealth.l0]
          rw [if_pos lt1, if_neg (by decide)]
          simp only [laws_FnHealth.j1]
          rw [if_neg (by decide), if_pos p0, if_pos lt1, hx, if_pos rfl, wf, wq, e1]
          exact this
        · have eo : onF a b f r l false x = (f + 1, r, x, true, 1) := by unfold onF; rw [if_pos ⟨c1, c2, c3, rfl⟩, if_neg c4, if_neg c5, if_pos flt]
          rw [eo] at hx hd2 ⊢
          dsimp only at hx hd2 ⊢
          have := ih k (i + 1) (f + 1) r x true (by omega) hd2 (by omega) ⟨by omega, by omega, by omega, by omega, by omega, by omega, (fun _ => c4), i8⟩
          simp only [laws_FnHealth.l0]
          rw [if_pos lt1, if_neg (by decide)]
          simp only [laws_FnHealth.j1]
          rw [if_neg (by decide), if_pos p0, if_pos lt1, hx, if_neg (by decide), if_pos rfl, wf, e1]
          exact this
    · have eo : onF a b f r l h x = (f, r, l, h, 0) := by unfold onF; rw [if_neg c]
      rw [eo] at hx hd2 ⊢
      dsimp only at hx hd2 ⊢
      have := ih k (i + 1) f r l h (by omega) hd2 (by omega) ⟨i1, by omega, i3, by omega, i5, i6, i7, i8⟩
      simp only [laws_FnHealth.l0]
      rw [if_pos lt1]
      have e0 : (rd acts (i : Int) != 0) = false := by rw [hx]; rfl
      have hj : laws_FnHealth.j1 (k + 1) acts r f h (i : Int) false a b (runH a b (f, r, l, h) xs).1.1 (runH a b (f, r, l, h) xs).1.2.1 (runH a b (f, r, l, h) xs).1.2.2.1 (runH a b (f, r, l, h) xs).1.2.2.2 = some true := by
        simp only [laws_FnHealth.j1]
        rw [if_neg (by decide), if_pos p0, if_pos lt1, hx, if_neg (by decide), if_neg (by decide), if_neg (by decide), e1]
        exact this
      cases h with
      | true => rw [if_pos rfl, if_pos p0, e0]; exact hj
      | false => rw [if_neg (by decide)]; exact hj
theorem draws_len (l : List Int) (hl : l.length ≤ 9000000000000000) (a b : Int) (n : Int) (hn : n ≤ 2000) (d : Nat) : ∀ (k : Nat) (acc : List Int) (i j h : Int), 0 ≤ i → i ≤ 2000 → (n - i).toNat = d → acc.length = i.toNat → d < k → 0 ≤ j → j ≤ l.length →
    ∃ xs, spec_DrawHealthRun.l0 k acc n i l j h a b = some (a, b, xs) ∧ xs.length ≤ 4000 := by
  induction d with
  | zero =>
    intro k acc i j h h0 h1 hd ha hk p q
    obtain ⟨k, rfl⟩ : ∃ m, k = m + 1 := ⟨k - 1, by omega⟩
    simp only [spec_DrawHealthRun.l0]
    rw [if_neg (by omega)]
    exact ⟨_, rfl, by omega⟩
  | succ d ih =>
    intro k acc i j h h0 h1 hd ha hk p q
    obtain ⟨k, rfl⟩ : ∃ m, k = m + 1 := ⟨k - 1, by omega⟩
    obtain ⟨v, j', h', e, p', q', _⟩ := below_some l hl j h 11 p q
    simp only [spec_DrawHealthRun.l0]
    rw [if_pos (by omega), e]
    simp only [Option.bind_some]
    rw [if_pos (by omega), wr (by omega) (by omega)]
    exact ih k _ (i + 1) j' h' (by omega) (by omega) (by omega) (by simp [ha]; omega) (by omega) p' q'
/-- What is handed on. -/
theorem bs {α β : Type} {x : Option α} {r : α} (h : x = some r) {f : α → Option β} : x.bind f = f r := by rw [h]; exact Option.bind_some r f
theorem draw_health (l : List Int) (hl : l.length ≤ 9000000000000000) (k : Nat) (hk : 6000 ≤ k) : ∃ a b xs, spec_DrawHealthRun.f k l = some (a, b, xs) ∧ xs.length ≤ 4000 := by
  obtain ⟨h0, n0⟩ := new_some l k (by omega)
  have pol : ∃ a b j h, spec_l10Policy.f l 0 h0 = some (a, b, j, h) ∧ 0 ≤ j ∧ j ≤ l.length := by
    obtain ⟨v, j, h, e, p, q, _⟩ := below_some l hl 0 h0 3 (Int.le_refl _) (by omega)
    unfold spec_l10Policy.f
    rw [e]
    simp only [Option.bind_some]
    split
    · obtain ⟨v2, j2, h2, e2, p2, q2, _⟩ := pick_some l hl j h [0, 1, 2, 3, 100] (by decide) p q
      rw [e2]
      exact ⟨_, _, _, _, rfl, p2, q2⟩
    · exact ⟨_, _, _, _, rfl, p, q⟩
  obtain ⟨a0, b0, j0, g0, e0, p0, q0⟩ := pol
  have any : ∃ a b j h, spec_l10Any.f l 0 h0 = some (a, b, j, h) ∧ 0 ≤ j ∧ j ≤ l.length := by
    obtain ⟨v, j, h, e, p, q, _⟩ := below_some l hl j0 g0 12 p0 q0
    unfold spec_l10Any.f
    rw [e0]
    simp only [Option.bind_some]
    rw [e]
    simp only [Option.bind_some]
    split
    · obtain ⟨v2, j2, h2, e2, p2, q2, _⟩ := pick_some l hl j h [(-1), 3] (by decide) p q
      rw [e2]
      exact ⟨_, _, _, _, rfl, p2, q2⟩
    · split
      · obtain ⟨v2, j2, h2, e2, p2, q2, _⟩ := pick_some l hl j h [(-1), 1, 101] (by decide) p q
        rw [e2]
        exact ⟨_, _, _, _, rfl, p2, q2⟩
      · exact ⟨_, _, _, _, rfl, p, q⟩
  obtain ⟨a, b, j1, g1, e1, p1, q1⟩ := any
  obtain ⟨m, em, m0, m1⟩ := size_some l hl 30 (by decide)
  obtain ⟨v2, j2, g2, e2, p2, q2, v20, v21, _⟩ := below_some l hl j1 g1 m p1 q1
  obtain ⟨o, j3, g3, e3, p3, q3⟩ := once_some l hl j2 g2 40 p2 q2
  have v22 := v21 (by omega)
  obtain ⟨k, rfl⟩ : ∃ m, k = m + 1 := ⟨k - 1, by omega⟩
  unfold spec_DrawHealthRun.f
  rw [bs n0, bs e1, bs rfl, bs em, bs e2, bs e3]
  cases o with
  | false =>
    rw [if_neg (show ¬ ((false : Bool) = true) by decide)]
    simp only [spec_DrawHealthRun.j0]
    obtain ⟨xs, ex, lx⟩ := draws_len l hl a b v2 (by omega) _ k [] 0 j3 g3 (Int.le_refl _) (by decide) rfl rfl (by omega) p3 q3
    exact ⟨_, _, _, ex, lx⟩
  | true =>
    obtain ⟨v4, j4, g4, e4, p4, q4, v40, v41, _⟩ := below_some l hl j3 g3 2 p3 q3
    have v42 := v41 (by decide)
    rw [if_pos rfl, bs e4]
    simp only [spec_DrawHealthRun.j0]
    rw [wr (by omega) (by omega)]
    obtain ⟨xs, ex, lx⟩ := draws_len l hl a b (1000 + v4) (by omega) _ k [] 0 j4 g4 (Int.le_refl _) (by decide) rfl rfl (by omega) p4 q4
    exact ⟨_, _, _, ex, lx⟩
theorem FnHealth : laws_FnHealth.Pure := by
  intro l hlen _ hb
  unfold maxLen at hlen
  refine ⟨7000, ?_⟩
  generalize hk : (7000 : Nat) = k
  have k1 : 6000 ≤ k := by omega
  clear hk
  unfold laws_FnHealth.f
  obtain ⟨big, e0⟩ : ∃ b, laws_big.f l = some b := by unfold laws_big.f; exact ⟨_, rfl⟩
  rw [e0, Option.bind_some]
  cases big with
  | true => rw [if_pos rfl]
  | false =>
    obtain ⟨a, b, xs, ed, lx⟩ := draw_health l (by omega) k k1
    rw [if_neg (by decide), ed]
    simp only [Option.bind_some]
    rw [hall_i a b xs (by omega) k (by omega), hall_s a b xs (by omega) k (by omega)]
    simp only [Option.bind_some, if_true]
    unfold hrun
    by_cases c : PolB a b ∧ xs.length ≤ 1000
    · rw [if_pos c]
      have hl2 := runH_length a b xs (0, 0, 0, false)
      have := loop_yes a b (runH a b (0, 0, 0, false) xs).2 (by omega) xs k 0 0 0 0 false (by omega) rfl (by omega) ⟨by omega, by omega, by omega, by omega, by omega, by omega, (fun hh => by cases hh), .inl rfl⟩
      exact this
    · rw [if_neg c]
      obtain ⟨k, rfl⟩ : ∃ m, k = m + 1 := ⟨k - 1, by omega⟩
      exact end_yes a b 0 0 0 false 0 (by omega) [] rfl ⟨by omega, by omega, by omega, by omega, by omega, by omega, (fun hh => by cases hh), .inl rfl⟩ k
end Go.Proofs.Ytpdfihapnnnglaa.Pure
