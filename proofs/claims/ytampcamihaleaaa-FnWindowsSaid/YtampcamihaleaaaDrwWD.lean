/- What is drawn for the laws of windows: a list of windows whose numbers are ints, an address, a size and a kind. Plain laws of the draws as they were told. -/
import Derived.Test.YtampcamihaleaaaDrwD
import Derived.Test.YtampcamihaleaaaAidWD
namespace Go.Proofs.Ytampcamihaleaaa.DrwWD
open Go.RowKit Go.Proofs.Ytampcamihaleaaa Go.Proofs.Ytampcamihaleaaa.GD Go.Proofs.Ytampcamihaleaaa.Lst Go.Proofs.Ytampcamihaleaaa.AidWD Go.Proofs.Ytampcamihaleaaa.DrwD Go.Proofs.YtampcamihaleaaaW.PrintWords Go.Proofs.YtampcamihaleaaaW.PrintLast
theorem wf_of {n : Int} (h0 : -9223372036854775808 ≤ n) (h1 : n ≤ 9223372036854775807) : (Lit.int .i64 n).wf = true := by
  simp only [Lit.wf, IntKind.min, IntKind.max, IntKind.signed, IntKind.bits, Bool.and_eq_true, decide_eq_true_eq, if_true]
  omega
theorem wf_wrap (n : Int) : (Lit.int .i64 (wrap64 n)).wf = true := by
  apply wf_of <;> (unfold wrap64; omega)
theorem wf_mem {v : Int} {l : List Int} (h : v ∈ l) (hl : ∀ x ∈ l, -9223372036854775808 ≤ x ∧ x ≤ 9223372036854775807) : (Lit.int .i64 v).wf = true := wf_of (hl v h).1 (hl v h).2
theorem set_wf {l : List S41} (h : ∀ x ∈ l, WfW x) (i : Nat) (v : S41) (hv : WfW v) : ∀ x ∈ l.set i v, WfW x := by
  intro x hx
  rcases List.mem_or_eq_of_mem_set hx with h1 | h1
  · exact h x h1
  · rw [h1]; exact hv
theorem app_wf {l m : List S41} (h : ∀ x ∈ l, WfW x) (hm : ∀ x ∈ m, WfW x) : ∀ x ∈ l ++ m, WfW x := by
  intro x hx
  rcases List.mem_append.1 hx with h1 | h1
  · exact h x h1
  · exact hm x h1
theorem one_wf {v : S41} (hv : WfW v) : ∀ x ∈ [v], WfW x := by
  intro x hx
  rw [List.mem_singleton.1 hx]
  exact hv
/-- Windows that are drawn: as many as were asked, of ints. -/
theorem loop_some (s : List Int) (hs : s.length ≤ 9000000000000000) (n : Nat) (hn : n ≤ 100) : ∀ (d k : Nat) (xs : List S41) (at_ : Int) (i : Nat) (p h : Int), i ≤ n → n - i = d → d + 2 ≤ k → xs.length = i → (∀ x ∈ xs, WfW x) → (Lit.int .i64 at_).wf = true → 0 ≤ p → p ≤ s.length →
    ∃ r p' h', spec_l07Windows.l0 k (n : Int) xs at_ (i : Int) s p h = some (r, p', h') ∧ r.length = n ∧ (∀ x ∈ r, WfW x) ∧ 0 ≤ p' ∧ p' ≤ s.length := by
  intro d
  induction d with
  | zero =>
    intro k xs at_ i p h hi hd hk hl hw ha hp hp2
    obtain ⟨k, rfl⟩ : ∃ m, k = m + 1 := ⟨k - 1, by omega⟩
    obtain rfl : i = n := by omega
    simp only [spec_l07Windows.l0]
    rw [if_neg (by omega)]
    by_cases h1 : (i : Int) > 1
    · rw [if_pos h1]
      obtain ⟨b, p1, h1', e1, q1, q1'⟩ := once_some s hs p h 3 hp hp2
      rw [e1]
      simp only [Option.bind_some]
      have c1 : (0 : Int) < (xs.length : Int) := by omega
      have c2 : (0 : Int) ≤ (i : Int) - 1 := by omega
      have c3 : (i : Int) - 1 < (xs.length : Int) := by omega
      have c4 : (i : Int) - 1 = ((i - 1 : Nat) : Int) := by omega
      have c5 : i - 1 < xs.length := by omega
      have c6 : 0 < xs.length := by omega
      have e2 : wrap64 ((i : Int) - 1) = (i : Int) - 1 := wr (by omega) (by omega)
      rw [e2]
      clear e2
      cases b with
      | true =>
        rw [if_pos rfl, if_pos c1, if_pos c2, if_pos c3, c4]
        refine ⟨_, _, _, rfl, ?_, ?_, q1, q1'⟩
        · rw [List.length_set, List.length_set, hl]
        · exact set_wf (set_wf hw _ _ (mem_rd hw (i - 1) c5)) _ _ (mem_rd hw 0 c6)
      | false =>
        rw [if_neg (by decide)]
        exact ⟨_, _, _, rfl, hl, hw, q1, q1'⟩
    · rw [if_neg h1]
      exact ⟨_, _, _, rfl, hl, hw, hp, hp2⟩
  | succ d ih =>
    intro k xs at_ i p h hi hd hk hl hw ha hp hp2
    obtain ⟨k, rfl⟩ : ∃ m, k = m + 1 := ⟨k - 1, by omega⟩
    have c1 : (i : Int) < (n : Int) := by omega
    have c2 : xs.length < 5864062014805 := by omega
    have c3 : i + 1 ≤ n := by omega
    have c4 : n - (i + 1) = d := by omega
    have c5 : d + 2 ≤ k := by omega
    obtain ⟨v1, p1, h1, e1, q1, q1', _⟩ := below_some s hs p h 24 hp hp2
    obtain ⟨v2, p2, h2, e2, q2, q2', m2⟩ := pick_some s hs p1 h1 [3, 5, 1, 7, 4, 2, 6, 3] (by decide) q1 q1'
    obtain ⟨v3, p3, h3, e3, q3, q3', m3⟩ := pick_some s hs p2 h2 [0, 0, 1, 9] (by decide) q2 q2'
    have e4 : wrap64 ((i : Int) + 1) = ((i + 1 : Nat) : Int) := wr_succ i (by omega)
    simp only [spec_l07Windows.l0]
    rw [if_pos c1, e1]
    simp only [Option.bind_some]
    rw [e2]
    simp only [Option.bind_some]
    rw [if_pos c2, e3]
    simp only [Option.bind_some]
    rw [e4]
    refine ih k _ _ (i + 1) p3 h3 c3 c4 c5 ?_ ?_ (wf_wrap _) q3 q3'
    · rw [List.length_append, hl]; rfl
    · exact app_wf hw (one_wf ⟨ha, wf_wrap _, wf_mem m2 (by decide)⟩)
theorem windows_some (s : List Int) (hs : s.length ≤ 9000000000000000) (n : Nat) (hn : n ≤ 100) (k : Nat) (hk : 200 ≤ k) (p h : Int) (hp : 0 ≤ p) (hp2 : p ≤ s.length) :
    ∃ r p' h', spec_l07Windows.f k s p h (n : Int) = some (r, p', h') ∧ r.length = n ∧ (∀ x ∈ r, WfW x) ∧ 0 ≤ p' ∧ p' ≤ s.length := by
  obtain ⟨v1, p1, h1, e1, q1, q1', _⟩ := below_some s hs p h 20 hp hp2
  unfold spec_l07Windows.f
  rw [e1]
  simp only [Option.bind_some]
  exact loop_some s hs n hn n k [] _ 0 p1 h1 (Nat.zero_le _) rfl (by omega) rfl (fun x hx => by cases hx) (wf_wrap _) q1 q1'
theorem any_some (s : List Int) (hs : s.length ≤ 9000000000000000) (k : Nat) (hk : 200 ≤ k) (p h : Int) (hp : 0 ≤ p) (hp2 : p ≤ s.length) :
    ∃ r p' h', spec_l07Any.f k s p h = some (r, p', h') ∧ r.length ≤ 100 ∧ (∀ x ∈ r, WfW x) ∧ 0 ≤ p' ∧ p' ≤ s.length := by
  obtain ⟨v1, p1, h1, e1, q1, q1', n1, l1, _⟩ := below_some s hs p h 4 hp hp2
  have l1 := l1 (by decide)
  obtain ⟨n, hn⟩ := Int.eq_ofNat_of_zero_le n1
  have e2 : wrap64 (1 + v1) = ((n + 1 : Nat) : Int) := by rw [hn]; rw [Int.add_comm]; exact wr_succ n (by omega)
  obtain ⟨r, p2, h2, e3, r1, r2, q2, q2'⟩ := windows_some s hs (n + 1) (by omega) k hk p1 h1 q1 q1'
  obtain ⟨v4, p4, h4, e4, q4, q4', n4, _⟩ := below_some s hs p2 h2 18 q2 q2'
  have c1 : (0 : Int) < (r.length : Int) := by omega
  have c6 : 0 < r.length := by omega
  have cl : r.length ≤ 5 := by omega
  have w0 := mem_rd r2 0 c6
  unfold spec_l07Any.f
  rw [e1]
  simp only [Option.bind_some]
  rw [e2, e3]
  simp only [Option.bind_some]
  rw [e4]
  simp only [Option.bind_some]
  by_cases g0 : v4 = 0
  · obtain ⟨v5, p5, h5, e5, q5, q5', m5⟩ := pick_some s hs p4 h4 [(-4), 2, 2048, 2044] (by decide) q4 q4'
    rw [if_pos g0, e5]
    simp only [Option.bind_some]
    rw [if_pos c1]
    exact ⟨_, _, _, rfl, by rw [List.length_set]; omega, set_wf r2 _ _ ⟨wf_mem m5 (by decide), w0.2.1, w0.2.2⟩, q5, q5'⟩
  rw [if_neg g0]
  by_cases g1 : v4 = 1
  · obtain ⟨v5, p5, h5, e5, q5, q5', m5⟩ := pick_some s hs p4 h4 [0, (-4), 6, 2048, 2052] (by decide) q4 q4'
    rw [if_pos g1, e5]
    simp only [Option.bind_some]
    rw [if_pos c1]
    exact ⟨_, _, _, rfl, by rw [List.length_set]; omega, set_wf r2 _ _ ⟨w0.1, wf_mem m5 (by decide), w0.2.2⟩, q5, q5'⟩
  rw [if_neg g1]
  by_cases g2 : v4 = 2
  · obtain ⟨v5, p5, h5, e5, q5, q5', m5⟩ := pick_some s hs p4 h4 [0, 8, (-1)] (by decide) q4 q4'
    rw [if_pos g2, e5]
    simp only [Option.bind_some]
    rw [if_pos c1]
    exact ⟨_, _, _, rfl, by rw [List.length_set]; omega, set_wf r2 _ _ ⟨w0.1, w0.2.1, wf_mem m5 (by decide)⟩, q5, q5'⟩
  rw [if_neg g2]
  by_cases g3 : v4 = 3
  · rw [if_pos g3, if_pos c1, if_pos (by omega)]
    exact ⟨_, _, _, rfl, by rw [List.length_append, List.length_singleton]; omega, app_wf r2 (one_wf w0), q4, q4'⟩
  rw [if_neg g3]
  by_cases g4 : v4 = 4
  · obtain ⟨r', p5, h5, e5, r1', r2', q5, q5'⟩ := windows_some s hs 4 (by omega) k hk p4 h4 q4 q4'
    have e5 : spec_l07Windows.f k s p4 h4 4 = some (r', p5, h5) := e5
    rw [if_pos g4, e5]
    simp only [Option.bind_some]
    rw [if_pos (by omega)]
    exact ⟨_, _, _, rfl, by rw [List.length_append]; omega, app_wf r2 r2', q5, q5'⟩
  rw [if_neg g4]
  by_cases g5 : v4 = 5
  · rw [if_pos g5]
    exact ⟨_, _, _, rfl, by simp, (fun x hx => by cases hx), q4, q4'⟩
  rw [if_neg g5]
  exact ⟨_, _, _, rfl, by omega, r2, q4, q4'⟩
theorem addr_some (s : List Int) (hs : s.length ≤ 9000000000000000) (l : List S41) (hl : l.length ≤ 100) (k : Nat) (hk : 2 ≤ k) (p h : Int) (hp : 0 ≤ p) (hp2 : p ≤ s.length) :
    ∃ a p' h', spec_l07Addr.f k s p h l = some (a, p', h') ∧ 0 ≤ p' ∧ p' ≤ s.length := by
  obtain ⟨k, rfl⟩ : ∃ m, k = m + 1 := ⟨k - 1, by omega⟩
  have no : ∀ (b : Bool) (p h : Int), (b = false → 0 < l.length) → 0 ≤ p → p ≤ s.length → ∃ a p' h', spec_l07Addr.j0 (k + 1) l b s p h = some (a, p', h') ∧ 0 ≤ p' ∧ p' ≤ s.length := by
    intro b p h hb hp hp2
    simp only [spec_l07Addr.j0]
    cases b with
    | true =>
      obtain ⟨v1, p1, h1, e1, q1, q1', _⟩ := below_some s hs p h 600 hp hp2
      rw [if_pos rfl, e1]
      exact ⟨_, _, _, rfl, q1, q1'⟩
    | false =>
      have hb := hb rfl
      obtain ⟨v1, p1, h1, e1, q1, q1', n1, l1, _⟩ := below_some s hs p h (l.length : Int) hp hp2
      have l1 := l1 (by omega)
      rw [if_neg (by decide), e1]
      simp only [Option.bind_some]
      rw [if_pos n1, if_pos l1]
      obtain ⟨v2, p2, h2, e2, q2, q2', _⟩ := pick_some s hs p1 h1 [0, 0, 4, 1, (-1), wrap64 (((rd_T41 l v1).f1) - 4), wrap64 (((rd_T41 l v1).f1) - 1), (rd_T41 l v1).f1] (by simp) q1 q1'
      rw [e2]
      exact ⟨_, _, _, rfl, q2, q2'⟩
  unfold spec_l07Addr.f
  by_cases h0 : (l.length : Int) = 0
  · rw [if_pos h0]
    exact no true p h (fun h => by cases h) hp hp2
  · rw [if_neg h0]
    obtain ⟨b, p1, h1, e1, q1, q1'⟩ := once_some s hs p h 4 hp hp2
    rw [e1]
    simp only [Option.bind_some]
    exact no b p1 h1 (fun _ => by omega) q1 q1'
/-- What is drawn for an access. -/
theorem fault_some (l : List Int) (hs : l.length ≤ 9000000000000000) (k : Nat) (hk : 5000 ≤ k) :
    ∃ ws a s kd, spec_DrawFaultAt.f k l = some (ws, a, s, kd) ∧ ws.length ≤ 100 ∧ (∀ x ∈ ws, WfW x) ∧ 0 ≤ a ∧ a < 4294967296 := by
  obtain ⟨h0, e0⟩ := new_some l k hk
  obtain ⟨ws, p1, h1, e1, r1, r2, q1, q1'⟩ := any_some l hs k (by omega) 0 h0 (Int.le_refl _) (by omega)
  obtain ⟨a, p2, h2, e2, q2, q2'⟩ := addr_some l hs ws r1 k (by omega) p1 h1 q1 q1'
  obtain ⟨sz, p3, h3, e3, q3, q3', _⟩ := pick_some l hs p2 h2 [1, 4, 4, 4] (by decide) q2 q2'
  obtain ⟨kd, p4, h4, e4, q4, q4', _⟩ := pick_some l hs p3 h3 [1, 2, 4] (by decide) q3 q3'
  obtain ⟨v, p5, h5, e5, q5, q5', _⟩ := below_some l hs p4 h4 20 q4 q4'
  unfold spec_DrawFaultAt.f
  rw [e0]
  simp only [Option.bind_some]
  rw [e1]
  simp only [Option.bind_some]
  rw [e2]
  simp only [Option.bind_some]
  rw [e3]
  simp only [Option.bind_some]
  rw [e4]
  simp only [Option.bind_some]
  rw [e5]
  simp only [Option.bind_some]
  have m0 : 0 ≤ a % 4294967296 := Int.emod_nonneg _ (by decide)
  have m1 : a % 4294967296 < 4294967296 := Int.emod_lt_of_pos _ (by decide)
  by_cases g0 : v = 0
  · obtain ⟨v6, p6, h6, e6, _⟩ := pick_some l hs p5 h5 [0, 2, 8] (by decide) q5 q5'
    rw [if_pos g0, e6]
    exact ⟨_, _, _, _, rfl, r1, r2, m0, m1⟩
  rw [if_neg g0]
  by_cases g1 : v = 1
  · obtain ⟨v6, p6, h6, e6, _⟩ := pick_some l hs p5 h5 [0, 3, 8] (by decide) q5 q5'
    rw [if_pos g1, e6]
    exact ⟨_, _, _, _, rfl, r1, r2, m0, m1⟩
  rw [if_neg g1]
  exact ⟨_, _, _, _, rfl, r1, r2, m0, m1⟩
end Go.Proofs.Ytampcamihaleaaa.DrwWD
