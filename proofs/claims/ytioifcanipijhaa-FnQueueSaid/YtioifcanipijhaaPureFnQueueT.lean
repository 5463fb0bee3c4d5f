/- The pure statement of the law FnQueue: of a drawn script of a queuing channel, the words read are those that crossed, in order, and a send is refused just when the channel is full; for whatever bytes the draw starts from. No condition. -/
import Derived.Test.YtioifcanipijhaaGKx0T
import Derived.Test.YtioifcanipijhaaGKx11T
import Derived.Test.YtioifcanipijhaaGKx12T
import Derived.Test.YtioifcanipijhaaAidKT
import Derived.Test.YtioifcanipijhaaDrcKT
namespace Go.Proofs.Ytioifcanipijhaa.Pure
open Go.RowKit Go.Proofs.Ytioifcanipijhaa Go.Proofs.Ytioifcanipijhaa.GK Go.Proofs.Ytioifcanipijhaa.AidK Go.Proofs.Ytioifcanipijhaa.Lst Go.Proofs.Ytioifcanipijhaa.DrcK Go.Proofs.YtioifcanipijhaaW.PrintWords Go.Proofs.YtioifcanipijhaaW.PrintLast
theorem rd_pre (pre : List S72) (x : S72) (t : List S72) (i : Nat) (h : pre.length = i) : rd_T72 (pre ++ x :: t) (i : Int) = x := by
  subst h
  unfold rd_T72
  rw [Int.toNat_natCast, List.getD_eq_getElem?_getD, List.getElem?_append_right (Nat.le_refl _), Nat.sub_self]
  rfl
theorem queue_loop (b c d : Int) (ops : List S70) (hn : ops.length ≤ 1000) (n : Nat) : ∀ (k i : Nat) (pre : List S72) (h : Int) (xs ys crossed : List Int) (read : Nat), i ≤ ops.length → ops.length - i = n → 2 * n + 2 ≤ k → pre.length = i → read ≤ crossed.length → ys = crossed.drop read → crossed.length + xs.length ≤ i → EndsB 1 b c d (h, xs, ys) →
    laws_FnQueue.l0 k ops (pre ++ playF 1 d (h, xs, ys) (ops.drop i)) crossed xs (read : Int) h (i : Int) 1 b c d = some true := by
  induction n with
  | zero =>
    intro k i pre h xs ys crossed read hi hd hk hp hr hy hc he
    obtain ⟨k, rfl⟩ : ∃ m, k = m + 1 := ⟨k - 1, by omega⟩
    have e : ops.drop i = [] := List.drop_of_length_le (by omega)
    simp only [laws_FnQueue.l0]
    rw [e, if_neg (by simp [playF]; omega)]
  | succ n ih =>
    intro k i pre h xs ys crossed read hi hd hk hp hr hy hc he
    obtain ⟨k, rfl⟩ : ∃ m, k = m + 2 := ⟨k - 2, by omega⟩
    have hlt : i < ops.length := by omega
    have e1 : wrap64 ((i : Int) + 1) = ((i + 1 : Nat) : Int) := by rw [wr (by omega) (by omega)]; omega
    have hnext := ends_ok 1 b c d (h, xs, ys) (rd_T70 ops (i : Int)) he
    obtain ⟨ho, hin, hq⟩ := he
    dsimp only at ho hin hq
    have hq1 := hq rfl
    have ho' := ho
    unfold OutB ChanB at ho'
    have hlen : (i : Int) < ((pre ++ playF 1 d (h, xs, ys) (ops.drop i)).length : Int) := by
      rw [List.length_append, playF_length, List.length_drop]; omega
    have hlo : (i : Int) < (ops.length : Int) := by omega
    have h0i : (0 : Int) ≤ (i : Int) := by omega
    rw [drop_op ops i hlt] at hlen ⊢
    simp only [playF] at hlen ⊢
    generalize hop : rd_T70 ops (i : Int) = op at hnext hlen ⊢
    have hrd := rd_pre pre (saidF 1 d (h, xs, ys) op) (playF 1 d (endsF 1 d (h, xs, ys) op) (ops.drop (i + 1))) i hp
    generalize hP : pre ++ saidF 1 d (h, xs, ys) op :: playF 1 d (endsF 1 d (h, xs, ys) op) (ops.drop (i + 1)) = P at hlen hrd ⊢
    have step : ∀ (k : Nat) (h' : Int) (xs' ys' crossed' : List Int) (read' : Nat), 2 * n + 2 ≤ k → endsF 1 d (h, xs, ys) op = (h', xs', ys') → read' ≤ crossed'.length → ys' = crossed'.drop read' → crossed'.length + xs'.length ≤ i + 1 →
        laws_FnQueue.l0 k ops P crossed' xs' (read' : Int) h' ((i + 1 : Nat) : Int) 1 b c d = some true := by
      intro k h' xs' ys' crossed' read' hk' he hr' hy' hc'
      rw [he] at hnext
      have := ih k (i + 1) (pre ++ [saidF 1 d (h, xs, ys) op]) h' xs' ys' crossed' read' (by omega) (by omega) hk' (by simp [hp]) hr' hy' hc' hnext
      rw [← he, List.append_assoc, List.singleton_append, hP] at this
      exact this
    simp only [laws_FnQueue.l0]
    rw [if_pos hlen, if_pos h0i, if_pos hlo, hop, hrd]
    by_cases k0 : op.f0 = 0
    · have w1 : wrap64 (h + (xs.length : Int)) = h + (xs.length : Int) := wr (by omega) (by omega)
      have w2 : wrap64 (wrap64 (d - h) - (xs.length : Int)) = d - h - (xs.length : Int) := by rw [wr (n := d - h) (by omega) (by omega)]; exact wr (by omega) (by omega)
      rw [if_pos k0, w1]
      by_cases hf : h + (xs.length : Int) = d
      · have es : sendF 1 d h xs op.f1 = (2, xs) := by unfold sendF; rw [if_neg (by decide), w2, if_pos (by omega)]
        have e2 : saidF 1 d (h, xs, ys) op = ⟨2, 0⟩ := by unfold saidF; rw [if_pos k0]; dsimp only; rw [es]
        have e3 : endsF 1 d (h, xs, ys) op = (h, xs, ys) := by unfold endsF; rw [if_pos k0]; dsimp only; rw [es]
        rw [e2, hf]
        have c1 : ¬ ((d == d) != (((⟨2, 0⟩ : S72).f0) == 2)) = true := by simp
        rw [if_neg c1, if_pos rfl]
        simp only [laws_FnQueue.j2]
        rw [if_neg (by decide), if_pos (by simp), e1]
        exact step k h xs ys crossed read (by omega) e3 hr hy (by omega)
      · have es : sendF 1 d h xs op.f1 = (0, xs ++ [op.f1]) := by unfold sendF; rw [if_neg (by decide), w2, if_neg (by omega)]
        have e2 : saidF 1 d (h, xs, ys) op = ⟨0, 0⟩ := by unfold saidF; rw [if_pos k0]; dsimp only; rw [es]
        have e3 : endsF 1 d (h, xs, ys) op = (h, xs ++ [op.f1], ys) := by unfold endsF; rw [if_pos k0]; dsimp only; rw [es]
        rw [e2]
        have c0 : (h + (xs.length : Int) == d) = false := beq_eq_false_iff_ne.mpr hf
        have c1 : ¬ ((h + (xs.length : Int) == d) != (((⟨0, 0⟩ : S72).f0) == 2)) = true := by rw [c0]; decide
        rw [if_neg c1, if_neg hf, c0]
        simp only [laws_FnQueue.j2]
        rw [if_neg (by decide), if_neg (by decide), if_pos h0i, if_pos hlo, if_pos (by omega), e1, hop]
        exact step k h (xs ++ [op.f1]) ys crossed read (by omega) e3 hr hy (by simp; omega)
    · rw [if_neg k0]
      by_cases k1 : op.f0 = 1
      · rw [if_pos k1]
        by_cases hz : read = crossed.length
        · have hy0 : ys = [] := by rw [hy]; exact List.drop_of_length_le (by omega)
          have e2 : saidF 1 d (h, xs, ys) op = ⟨1, 0⟩ := by unfold saidF; rw [if_neg k0, if_pos k1, hy0]; rfl
          have e3 : endsF 1 d (h, xs, ys) op = (h, xs, ys) := by unfold endsF; rw [if_neg k0, if_pos k1, hy0]; rfl
          have c1 : (read : Int) = (crossed.length : Int) := by omega
          rw [if_pos c1, e2, if_pos rfl, if_pos rfl, e1]
          exact step (k + 1) h xs ys crossed read (by omega) e3 hr hy (by omega)
        · have hrl : read < crossed.length := by omega
          have hy1 : ys = crossed[read] :: crossed.drop (read + 1) := by rw [hy]; exact List.drop_eq_getElem_cons hrl
          have e2 : saidF 1 d (h, xs, ys) op = ⟨0, crossed[read]⟩ := by unfold saidF; rw [if_neg k0, if_pos k1, hy1]; rfl
          have e3 : endsF 1 d (h, xs, ys) op = (h, xs, crossed.drop (read + 1)) := by unfold endsF; rw [if_neg k0, if_pos k1, hy1]; rfl
          have e4 : rd crossed (read : Int) = crossed[read] := by
            unfold rd
            rw [Int.toNat_natCast, List.getD_eq_getElem?_getD, List.getElem?_eq_getElem hrl]
            rfl
          have c1 : ¬ ((read : Int) = (crossed.length : Int)) := by omega
          have c2 : (0 : Int) ≤ (read : Int) := by omega
          have c3 : (read : Int) < (crossed.length : Int) := by omega
          have c4 : read + 1 ≤ crossed.length := hrl
          have c5 : crossed.length + xs.length ≤ i + 1 := Nat.le_succ_of_le hc
          have c6 : 2 * n + 2 ≤ k + 1 := by omega
          have e5 : wrap64 ((read : Int) + 1) = ((read + 1 : Nat) : Int) := by rw [wr (by omega) (by omega)]; omega
          rw [if_neg c1, e2, if_pos rfl, if_pos c2, if_pos c3, e4, if_pos rfl, e1, e5]
          exact step (k + 1) h xs (crossed.drop (read + 1)) crossed (read + 1) c6 e3 c4 rfl c5
      · rw [if_neg k1]
        by_cases k2 : op.f0 = 2
        · have e3 : endsF 1 d (h, xs, ys) op = ((ys.length : Int) + (xs.length : Int), [], ys ++ xs) := by unfold endsF; rw [if_neg k0, if_neg k1, if_pos k2]; rfl
          have hyl : ys.length = crossed.length - read := by rw [hy, List.length_drop]
          have e6 : wrap64 (((crossed ++ xs).length : Int) - (read : Int)) = (ys.length : Int) + (xs.length : Int) := by
            rw [List.length_append, wr (by omega) (by omega)]; omega
          rw [if_pos k2, if_pos (by omega), Option.bind_some, e6, e1]
          refine step (k + 1) _ [] (ys ++ xs) (crossed ++ xs) read (by omega) e3 (by rw [List.length_append]; omega) ?_ (by rw [List.length_append, List.length_nil]; omega)
          rw [List.drop_append_of_le_length hr, hy]
        · have e3 : endsF 1 d (h, xs, ys) op = (h, [], ys) := by unfold endsF; rw [if_neg k0, if_neg k1, if_neg k2]
          rw [if_neg k2, e1]
          exact step (k + 1) h [] ys crossed read (by omega) e3 hr hy (by rw [List.length_nil]; omega)
theorem empty_queue (k : Nat) (ops : List S70) (a b c d : Int) : laws_FnQueue.l0 (k + 1) ops [] [] [] 0 0 0 a b c d = some true := by
  simp only [laws_FnQueue.l0]
  rw [if_neg (by simp)]
theorem FnQueue : ∀ (l0 : List Int), (l0.length ≤ maxLen ∧ ∀ x_ ∈ l0, (Lit.int .u8 x_).wf = true) → ∃ k, GK.laws_FnQueue.f k l0 = some true := by
  intro l hl
  have hl1 := hl.1
  unfold maxLen at hl1
  refine ⟨10000, ?_⟩
  unfold laws_FnQueue.f laws_big.f
  rw [Option.bind_some]
  by_cases hb : (l.length : Int) > 1048576
  · rw [if_pos (decide_eq_true hb)]
  · rw [if_neg (by simpa using hb)]
    obtain ⟨a, b, c, d, ops, e⟩ := play_some l (by omega) 10000 (by decide)
    rw [bs e, bs (play_i a b c d ops), bs (play_s a b c d ops 10000 (by decide)), if_pos rfl, bs (chan_s a b c d)]
    by_cases hc : ChanB a b c d
    · rw [if_pos (decide_eq_true hc)]
      simp only [laws_FnQueue.j0]
      by_cases ha : a = 1
      · subst ha
        rw [if_neg (by decide)]
        unfold playB
        by_cases hp : ChanB 1 b c d ∧ ops.length ≤ 1000 ∧ ops.any badOp = false
        · rw [if_pos hp]
          exact queue_loop b c d ops hp.2.1 ops.length 9999 0 [] 0 [] [] [] 0 (by omega) (by omega) (by omega) rfl (by simp) rfl (by simp) (ends_zero 1 b c d hc)
        · rw [if_neg hp]
          exact empty_queue _ _ _ _ _ _
      · have : (a != 1) = true := bne_iff_ne.mpr ha
        rw [this, if_pos rfl]
    · rw [if_neg (by simpa using hc)]
      simp only [laws_FnQueue.j0]
      rw [if_pos trivial]
end Go.Proofs.Ytioifcanipijhaa.Pure
