/- The pure statement of the law FnWindows: of whatever windows and access are drawn. -/
import Derived.Test.YtampcamihaleaaaDrwWD
import Derived.Test.YtampcamihaleaaaPureFnExactWindowAt
import Derived.Test.YtampcamihaleaaaPureFnExactFaultAt
import Derived.Test.YtampcamihaleaaaPureFnExactReach
namespace Go.Proofs.Ytampcamihaleaaa.Pure
open Go.RowKit Go.Proofs.Ytampcamihaleaaa Go.Proofs.Ytampcamihaleaaa.GD Go.Proofs.Ytampcamihaleaaa.Lst Go.Proofs.Ytampcamihaleaaa.AidWD Go.Proofs.Ytampcamihaleaaa.DrwWD Go.Proofs.YtampcamihaleaaaW.PrintWords Go.Proofs.YtampcamihaleaaaW.PrintLast
set_option linter.unusedVariables false
theorem t01 (p kd : Int) (h1 : 1 ≤ p) (h7 : p ≤ 7) (hk : kd = 1 ∨ kd = 2 ∨ kd = 4) : Int.tmod (wrap64 (Int.tdiv p kd)) 2 = 0 ∨ Int.tmod (wrap64 (Int.tdiv p kd)) 2 = 1 := by
  have : p = 1 ∨ p = 2 ∨ p = 3 ∨ p = 4 ∨ p = 5 ∨ p = 6 ∨ p = 7 := by omega
  rcases this with rfl | rfl | rfl | rfl | rfl | rfl | rfl <;> rcases hk with rfl | rfl | rfl <;> decide +kernel
/-- The one place that can have an address. -/
theorem only (l : List S41) (hl : ∀ x ∈ l, WfW x) (h : areWB l = true) (a : Int) (i : Nat) (hi : i < l.length) (hb : hasB a (rd_T41 l (i : Int)) = true) : idxB (hasB a) l = (i : Int) := by
  have hw := areW_win hl h
  have bi := hb
  rw [has_b a _ (mem_rd hw i hi)] at bi
  have bi := of_decide_eq_true bi
  rcases idx_range (hasB a) l with e | ⟨j, e, hj, pj⟩
  · have := idx_none (hasB a) l (by rw [e]; decide) _ (mem_rd (P := fun x => x ∈ l) (fun x hx => hx) i hi)
    rw [hb] at this
    cases this
  · rw [e]
    rw [has_b a _ (mem_rd hw j hj)] at pj
    have pj := of_decide_eq_true pj
    by_cases c1 : j < i
    · have := areW_apart hl h i j c1 hi
      omega
    · by_cases c2 : i < j
      · have := areW_apart hl h j i c2 hj
        omega
      · have : j = i := by omega
        rw [this]
def okp (l : List S41) (a s kd : Int) : Prop := a + s ≤ (rd_T41 l (idxB (hasB a) l)).f0 + (rd_T41 l (idxB (hasB a) l)).f1 ∧ Int.tmod (wrap64 (Int.tdiv (rd_T41 l (idxB (hasB a) l)).f2 kd)) 2 = 1
instance (l : List S41) (a s kd : Int) : Decidable (okp l a s kd) := by unfold okp; exact inferInstance
def seen (l : List S41) (a s kd : Int) (i : Nat) : Bool := decide (0 ≤ idxB (hasB a) l ∧ idxB (hasB a) l < (i : Int) ∧ okp l a s kd)
theorem seen_iff (l : List S41) (a s kd : Int) (i : Nat) : seen l a s kd i = true ↔ (0 ≤ idxB (hasB a) l ∧ idxB (hasB a) l < (i : Int) ∧ a + s ≤ (rd_T41 l (idxB (hasB a) l)).f0 + (rd_T41 l (idxB (hasB a) l)).f1 ∧ Int.tmod (wrap64 (Int.tdiv (rd_T41 l (idxB (hasB a) l)).f2 kd)) 2 = 1) := by
  unfold seen
  rw [decide_eq_true_iff]
  exact Iff.rfl
def cnt (l : List S41) (a : Int) (i : Nat) : Int := if 0 ≤ idxB (hasB a) l ∧ idxB (hasB a) l < (i : Int) then 1 else 0
theorem wr_mid (n : Int) (h0 : -9000000 ≤ n) (h1 : n ≤ 9000000000) : wrap64 n = n := by unfold wrap64; omega
theorem ne_no {l : List S41} {a : Int} {i : Nat} (hc : hasB a (rd_T41 l (i : Int)) = false) : idxB (hasB a) l ≠ (i : Int) := by
  intro e
  rcases idx_range (hasB a) l with e2 | ⟨j, e2, hj, pj⟩
  · rw [e2] at e; omega
  · have : j = i := by omega
    rw [this, hc] at pj
    cases pj
theorem seen_same {l : List S41} {a : Int} (s kd : Int) {i : Nat} (ne : idxB (hasB a) l ≠ (i : Int)) : seen l a s kd (i + 1) = seen l a s kd i := by
  unfold seen
  rw [decide_eq_decide]
  constructor <;> (intro ⟨x, y, z⟩; exact ⟨x, by omega, z⟩)
theorem cnt_same {l : List S41} {a : Int} {i : Nat} (ne : idxB (hasB a) l ≠ (i : Int)) : cnt l a (i + 1) = cnt l a i := by
  unfold cnt
  by_cases g : 0 ≤ idxB (hasB a) l ∧ idxB (hasB a) l < (i : Int)
  · rw [if_pos g, if_pos (by omega)]
  · rw [if_neg g, if_neg (by omega)]
theorem seen_at {l : List S41} {a : Int} (s kd : Int) {i : Nat} (ei : idxB (hasB a) l = (i : Int)) : seen l a s kd i = false := by
  unfold seen
  rw [decide_eq_false_iff_not]
  intro ⟨_, y, _⟩
  omega
theorem cnt_at {l : List S41} {a : Int} {i : Nat} (ei : idxB (hasB a) l = (i : Int)) : cnt l a i = 0 ∧ cnt l a (i + 1) = 1 := by
  unfold cnt
  exact ⟨if_neg (by omega), if_pos (by omega)⟩
/-- What stands at the end of the law: the answer is yes. -/
theorem fin (l : List S41) (hl : ∀ x ∈ l, WfW x) (h : areWB l = true) (a s kd : Int) (h0 : 0 ≤ a) (ha : a < 4294967296) (hs : s = 1 ∨ s = 4) (hkd : kd = 1 ∨ kd = 2 ∨ kd = 4) :
    (if seen l a s kd l.length = true then (fltB l a s kd == 0) == (Int.tmod a s == 0) else (fltB l a s kd == 0) == false) = true := by
  have hw := areW_win hl h
  have hS := seen_iff l a s kd l.length
  unfold fltB
  rcases idx_range (hasB a) l with e | ⟨j, e, hj, pj⟩
  · rw [e] at hS ⊢
    rw [if_neg (fun x => absurd (hS.1 x).1 (by decide))]
    by_cases c : Int.tmod a s = 0
    · rw [if_pos c, if_pos (by decide)]; rfl
    · rw [if_neg c]; rfl
  · have bj := mem_rd hw j hj
    rw [has_b a _ bj] at pj
    have pj := of_decide_eq_true pj
    rw [e] at hS ⊢
    obtain ⟨b1, b2, b3, b4, b5, b6, b7⟩ := bj
    simp only [bits_k _ kd b6 b7 hkd]
    have g0 : ¬ ((j : Int) < 0) := by omega
    have g1 : (0 : Int) ≤ (j : Int) := by omega
    have g2 : (j : Int) < (l.length : Int) := by omega
    by_cases c : Int.tmod a s = 0
    · have hfit : a + s ≤ (rd_T41 l (j : Int)).f0 + (rd_T41 l (j : Int)).f1 := by
        rcases hs with rfl | rfl
        · omega
        · rw [tm4] at c
          omega
      rw [if_pos c, if_neg g0]
      rcases t01 _ kd b6 b7 hkd with z | z
      · rw [if_pos z, if_neg (fun x => by have := (hS.1 x).2.2.2; rw [z] at this; cases this)]; rfl
      · rw [if_pos (hS.2 ⟨g1, g2, hfit, z⟩), if_neg (by rw [z]; decide), c]; rfl
    · rw [if_neg c]
      have cb : (Int.tmod a s == 0) = false := beq_eq_false_iff_ne.2 c
      rw [cb]
      split <;> rfl
theorem law_loop (l : List S41) (hl : ∀ x ∈ l, WfW x) (h : areWB l = true) (a s kd : Int) (hu : (Lit.int .u32 a).wf = true) (h0 : 0 ≤ a) (ha : a < 4294967296) (hs : s = 1 ∨ s = 4) (hkd : kd = 1 ∨ kd = 2 ∨ kd = 4) :
    ∀ (d k i : Nat), i ≤ l.length → l.length - i = d → 2 * d + 20 ≤ k → laws_FnWindows.l0 k l a s kd (seen l a s kd i) (cnt l a i) (sumF l - sumF (l.drop i)) (i : Int) = some true := by
  have hw := areW_win hl h
  have h4 := areW_len h
  have a1 : -9000000 ≤ a := by omega
  have a2 : a ≤ 9000000000 := by omega
  intro d
  induction d with
  | zero =>
    intro k i hi hd hk
    obtain ⟨k, rfl⟩ : ∃ m, k = m + 1 := ⟨k - 1, by omega⟩
    obtain rfl : i = l.length := by omega
    have k0 : 0 < k := by omega
    have k1 : l.length < k := by omega
    have n0 : ¬ ((l.length : Int) < (l.length : Int)) := by omega
    have n1 : ¬ (cnt l a l.length > 1) := by unfold cnt; split <;> decide
    have n2 : sumF l - sumF (l.drop l.length) = sumF l := by rw [List.drop_length]; simp [sumF]
    have n3 : s ≠ 0 := by omega
    have n4 : ∀ j : Nat, j < l.length → (0 : Int) ≤ (j : Int) ∧ (j : Int) < (l.length : Int) := fun j hj => by omega
    have wa := wr_mid a a1 a2
    have fn := fin l hl h a s kd h0 ha hs hkd
    have ft : fltT l a s kd = fltB l a s kd := by unfold fltT; rw [if_pos h, if_pos ⟨hs, hkd⟩]
    simp only [laws_FnWindows.l0]
    rw [if_neg n0, flt_i l a s kd hu k k0, Option.bind_some, if_neg n1, rch_i l hl k k1, Option.bind_some, if_pos h, n2, if_pos rfl, ft, wa, wat_i, if_pos h, Option.bind_some]
    have tail : (if seen l a s kd l.length = true then (if s = 0 then (none : Option Bool) else some ((fltB l a s kd == 0) == (Int.tmod a s == 0))) else some ((fltB l a s kd == 0) == false)) = some true := by
      rw [if_neg n3]
      by_cases c : seen l a s kd l.length = true
      · rw [if_pos c] at fn ⊢; rw [fn]
      · rw [if_neg c] at fn ⊢; rw [fn]
    by_cases c : cnt l a l.length = 0
    · have : idxB (hasB a) l = -1 := by
        rcases idx_range (hasB a) l with e | ⟨j, e, hj, pj⟩
        · exact e
        · unfold cnt at c
          rw [if_pos (by rw [e]; exact n4 j hj)] at c
          exact absurd c (by decide)
      rw [if_pos c, if_pos this]
      exact tail
    · rw [if_neg c]
      exact tail
  | succ d ih =>
    intro k i hi hd hk
    obtain ⟨k, rfl⟩ : ∃ m, k = m + 2 := ⟨k - 2, by omega⟩
    have c1 : (i : Int) < (l.length : Int) := by omega
    have c2 : (0 : Int) ≤ (i : Int) := by omega
    have c3 : i < l.length := by omega
    have c4 : i + 1 ≤ l.length := by omega
    have c5 : l.length - (i + 1) = d := by omega
    have c6 : 2 * d + 20 ≤ k := by omega
    have ihn := ih k (i + 1) c4 c5 c6
    clear ih hd hk
    have sd := sum_drop l i c3
    have t1 := (ovs_0 (l.drop (i + 1)) (fun v hv => hw v (List.mem_of_mem_drop hv))).2.1
    have t2 := (ovs_0 l hw).2
    have t0 := (ovs_0 (l.drop i) (fun v hv => hw v (List.mem_of_mem_drop hv))).2
    have t3 : (l.drop i).length ≤ 4 := by rw [List.length_drop]; omega
    have bi := mem_rd hw i c3
    have on := only l hl h a i c3
    have hb := has_b a _ bi
    obtain ⟨b1, b2, b3, b4, b5, b6, b7⟩ := bi
    have s1 : sumF l - sumF (l.drop i) + (rd_T41 l (i : Int)).f1 = sumF l - sumF (l.drop (i + 1)) := by omega
    have s2 : -9000000 ≤ sumF l - sumF (l.drop (i + 1)) := by omega
    have s3 : sumF l - sumF (l.drop (i + 1)) ≤ 9000000 := by omega
    have f1 : -9000000 ≤ (rd_T41 l (i : Int)).f0 + (rd_T41 l (i : Int)).f1 := by omega
    have f2 : (rd_T41 l (i : Int)).f0 + (rd_T41 l (i : Int)).f1 ≤ 9000000000 := by omega
    have f3 : -9000000 ≤ a + s := by omega
    have f4 : a + s ≤ 9000000000 := by omega
    have f5 : i < 9000000 := by omega
    have f6 : sumF l - sumF (l.drop (i + 1)) ≤ 9000000000 := by omega
    have f7 : (i : Int) < ((i + 1 : Nat) : Int) := by omega
    have nk : kd ≠ 0 := by omega
    have w9 : wrap64 (sumF l - sumF (l.drop i) + (rd_T41 l (i : Int)).f1) = sumF l - sumF (l.drop (i + 1)) := by rw [s1]; exact wr_mid _ s2 f6
    have wf := wr_mid _ f1 f2
    have wi : wrap64 ((i : Int) + 1) = ((i + 1 : Nat) : Int) := wr_succ i f5
    have was := wr_mid _ f3 f4
    have wa := wr_mid a a1 a2
    have step : laws_FnWindows.j2 (k + 1) l a s kd (seen l a s kd i) (cnt l a i) (sumF l - sumF (l.drop (i + 1))) (i : Int) (hasB a (rd_T41 l (i : Int))) ((rd_T41 l (i : Int)).f0) ((rd_T41 l (i : Int)).f1) ((rd_T41 l (i : Int)).f2) = some true := by
      simp only [laws_FnWindows.j2]
      cases hc : hasB a (rd_T41 l (i : Int)) with
      | false =>
        have ne := ne_no hc
        have sn := seen_same s kd ne
        have cn := cnt_same ne
        rw [if_neg (by decide), wi, ← sn, ← cn]
        exact ihn
      | true =>
        have ei := on hc
        have sn := seen_at s kd ei
        have cn := (cnt_at ei).1
        have cn1 := (cnt_at ei).2
        have w1 : wrap64 ((0 : Int) + 1) = 1 := wr_mid (0 + 1) (by decide) (by decide)
        rw [if_pos rfl, wat_i, if_pos h, Option.bind_some, wa, if_pos ei, was, wf, wi, sn, cn, w1]
        rw [cn1] at ihn
        by_cases g : a + s ≤ (rd_T41 l (i : Int)).f0 + (rd_T41 l (i : Int)).f1
        · rw [if_pos g, if_neg nk]
          by_cases g2 : Int.tmod (wrap64 (Int.tdiv (rd_T41 l (i : Int)).f2 kd)) 2 = 1
          · have : seen l a s kd (i + 1) = true := by
              rw [seen_iff, ei]
              exact ⟨c2, f7, g, g2⟩
            rw [if_pos g2]
            rw [this] at ihn
            exact ihn
          · have : seen l a s kd (i + 1) = false := by
              rw [← Bool.not_eq_true, seen_iff, ei]
              intro ⟨_, _, _, z⟩
              exact g2 z
            rw [if_neg g2]
            rw [this] at ihn
            exact ihn
        · have : seen l a s kd (i + 1) = false := by
            rw [← Bool.not_eq_true, seen_iff, ei]
            intro ⟨_, _, z, _⟩
            exact g z
          rw [if_neg g]
          rw [this] at ihn
          exact ihn
    have hx : laws_FnWindows.l0 (k + 1 + 1) l a s kd (seen l a s kd i) (cnt l a i) (sumF l - sumF (l.drop i)) (i : Int) = laws_FnWindows.j2 (k + 1) l a s kd (seen l a s kd i) (cnt l a i) (sumF l - sumF (l.drop (i + 1))) (i : Int) (hasB a (rd_T41 l (i : Int))) ((rd_T41 l (i : Int)).f0) ((rd_T41 l (i : Int)).f1) ((rd_T41 l (i : Int)).f2) := by
      rw [laws_FnWindows.l0, if_pos c1, if_pos c2, wa, w9]
      unfold hasB
      by_cases g : a ≥ (rd_T41 l (i : Int)).f0
      · rw [if_pos g, decide_eq_true (show (rd_T41 l (i : Int)).f0 ≤ a from g), Bool.true_and]
      · rw [if_neg g, decide_eq_false (show ¬ (rd_T41 l (i : Int)).f0 ≤ a from g), Bool.false_and]
    rw [hx]
    exact step
theorem j0_t (l : List S41) (a s kd : Int) (k : Nat) (hk : 0 < k) : laws_FnWindows.j0 k l a s kd true = some true := by
  obtain ⟨k, rfl⟩ : ∃ m, k = m + 1 := ⟨k - 1, by omega⟩
  simp only [laws_FnWindows.j0]
  first | rw [if_pos rfl] | rw [if_pos trivial]
theorem j0_f (l : List S41) (hl : ∀ x ∈ l, WfW x) (h : areWB l = true) (a s kd : Int) (hu : (Lit.int .u32 a).wf = true) (h0 : 0 ≤ a) (ha : a < 4294967296) (hs : s = 1 ∨ s = 4) (hkd : kd = 1 ∨ kd = 2 ∨ kd = 4) (k : Nat) (hk : 100 ≤ k) : laws_FnWindows.j0 k l a s kd false = some true := by
  have h4 := areW_len h
  obtain ⟨k, rfl⟩ : ∃ m, k = m + 1 := ⟨k - 1, by omega⟩
  have := law_loop l hl h a s kd hu h0 ha hs hkd l.length k 0 (Nat.zero_le _) (Nat.sub_zero _) (by omega)
  have e1 : seen l a s kd 0 = false := by
    unfold seen
    rw [decide_eq_false_iff_not]
    intro ⟨x, y, _⟩
    omega
  have e2 : cnt l a 0 = 0 := by
    unfold cnt
    rw [if_neg (by omega)]
  rw [e1, e2, List.drop_zero, Int.sub_self] at this
  rw [laws_FnWindows.j0, if_neg (by decide)]
  exact this
theorem FnWindows : laws_FnWindows.Pure := by
  intro l hlen _ hb
  unfold maxLen at hlen
  refine ⟨6000, ?_⟩
  generalize hk : (6000 : Nat) = k
  have k1 : 5000 ≤ k := by omega
  have k2 : 2000 ≤ k := by omega
  have k3 : 100 ≤ k := by omega
  have k4 : 0 < k := by omega
  clear hk
  unfold laws_FnWindows.f
  obtain ⟨b, e0⟩ : ∃ b, laws_big.f l = some b := by unfold laws_big.f; exact ⟨_, rfl⟩
  rw [e0, Option.bind_some]
  cases b with
  | true => rw [if_pos rfl]
  | false =>
    obtain ⟨ws, a, s, kd, e1, _, hw, h0, ha⟩ := fault_some l (by omega) k k1
    have hu : (Lit.int .u32 a).wf = true := by
      simp only [Lit.wf, IntKind.min, IntKind.max, IntKind.signed, IntKind.bits, Bool.and_eq_true, decide_eq_true_eq, Bool.false_eq_true, if_false]
      omega
    rw [if_neg (by decide), e1, Option.bind_some, windows_s ws hw k k2, Option.bind_some]
    by_cases h : areWB ws = true
    · rw [if_pos h]
      by_cases s1 : s = 1
      · rw [if_pos s1]
        by_cases d1 : kd = 1
        · rw [if_pos d1]; exact j0_f ws hw h a s kd hu h0 ha (.inl s1) (.inl d1) k k3
        · rw [if_neg d1]
          by_cases d2 : kd = 2
          · rw [if_pos d2]; exact j0_f ws hw h a s kd hu h0 ha (.inl s1) (.inr (.inl d2)) k k3
          · rw [if_neg d2]
            by_cases d4 : kd = 4
            · rw [show (kd != 4) = false by rw [d4]; rfl]; exact j0_f ws hw h a s kd hu h0 ha (.inl s1) (.inr (.inr d4)) k k3
            · rw [show (kd != 4) = true from bne_iff_ne.2 d4]; exact j0_t ws a s kd k k4
      · rw [if_neg s1]
        by_cases s4 : s = 4
        · rw [if_pos s4]
          by_cases d1 : kd = 1
          · rw [if_pos d1]; exact j0_f ws hw h a s kd hu h0 ha (.inr s4) (.inl d1) k k3
          · rw [if_neg d1]
            by_cases d2 : kd = 2
            · rw [if_pos d2]; exact j0_f ws hw h a s kd hu h0 ha (.inr s4) (.inr (.inl d2)) k k3
            · rw [if_neg d2]
              by_cases d4 : kd = 4
              · rw [show (kd != 4) = false by rw [d4]; rfl]; exact j0_f ws hw h a s kd hu h0 ha (.inr s4) (.inr (.inr d4)) k k3
              · rw [show (kd != 4) = true from bne_iff_ne.2 d4]; exact j0_t ws a s kd k k4
        · rw [if_neg s4]; exact j0_t ws a s kd k k4
    · rw [if_neg h]; exact j0_t ws a s kd k k4
end Go.Proofs.Ytampcamihaleaaa.Pure
