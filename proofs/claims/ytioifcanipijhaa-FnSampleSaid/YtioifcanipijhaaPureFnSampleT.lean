/- The pure statement of the law FnSample: of a drawn script of a sampling channel, what is read is the last word that crossed, as often as one likes, and a send is never refused; for whatever bytes the draw starts from. No condition. -/
import Derived.Test.YtioifcanipijhaaGKx0T
import Derived.Test.YtioifcanipijhaaGKx11T
import Derived.Test.YtioifcanipijhaaGKx13T
import Derived.Test.YtioifcanipijhaaAidKT
import Derived.Test.YtioifcanipijhaaDrcKT
namespace Go.Proofs.Ytioifcanipijhaa.Pure
open Go.RowKit Go.Proofs.Ytioifcanipijhaa Go.Proofs.Ytioifcanipijhaa.GK Go.Proofs.Ytioifcanipijhaa.AidK Go.Proofs.Ytioifcanipijhaa.Lst Go.Proofs.Ytioifcanipijhaa.DrcK Go.Proofs.YtioifcanipijhaaW.PrintWords Go.Proofs.YtioifcanipijhaaW.PrintLast
theorem rd_pre (pre : List S72) (x : S72) (t : List S72) (i : Nat) (h : pre.length = i) : rd_T72 (pre ++ x :: t) (i : Int) = x := by
  subst h
  unfold rd_T72
  rw [Int.toNat_natCast, List.getD_eq_getElem?_getD, List.getElem?_append_right (Nat.le_refl _), Nat.sub_self]
  rfl
theorem sample_loop (d : Int) (ops : List S70) (hn : ops.length ≤ 1000) (n : Nat) : ∀ (k i : Nat) (pre : List S72) (h : Int) (xs ys : List Int), i ≤ ops.length → ops.length - i = n → n + 1 ≤ k → pre.length = i →
    laws_FnSample.l0 k ops (pre ++ playF 0 d (h, xs, ys) (ops.drop i)) ys xs (i : Int) = some true := by
  induction n with
  | zero =>
    intro k i pre h xs ys hi hd hk hp
    obtain ⟨k, rfl⟩ : ∃ m, k = m + 1 := ⟨k - 1, by omega⟩
    have e : ops.drop i = [] := List.drop_of_length_le (by omega)
    simp only [laws_FnSample.l0]
    rw [e, if_neg (by simp [playF]; omega)]
  | succ n ih =>
    intro k i pre h xs ys hi hd hk hp
    obtain ⟨k, rfl⟩ : ∃ m, k = m + 1 := ⟨k - 1, by omega⟩
    have hlt : i < ops.length := by omega
    have e1 : wrap64 ((i : Int) + 1) = ((i + 1 : Nat) : Int) := by rw [wr (by omega) (by omega)]; omega
    have hlen : (i : Int) < ((pre ++ playF 0 d (h, xs, ys) (ops.drop i)).length : Int) := by
      rw [List.length_append, playF_length, List.length_drop]; omega
    have hlo : (i : Int) < (ops.length : Int) := by omega
    have h0i : (0 : Int) ≤ (i : Int) := by omega
    rw [drop_op ops i hlt] at hlen ⊢
    simp only [playF] at hlen ⊢
    generalize hop : rd_T70 ops (i : Int) = op at hlen ⊢
    have hrd := rd_pre pre (saidF 0 d (h, xs, ys) op) (playF 0 d (endsF 0 d (h, xs, ys) op) (ops.drop (i + 1))) i hp
    generalize hP : pre ++ saidF 0 d (h, xs, ys) op :: playF 0 d (endsF 0 d (h, xs, ys) op) (ops.drop (i + 1)) = P at hlen hrd ⊢
    have step : ∀ (h' : Int) (xs' ys' : List Int), endsF 0 d (h, xs, ys) op = (h', xs', ys') →
        laws_FnSample.l0 k ops P ys' xs' ((i + 1 : Nat) : Int) = some true := by
      intro h' xs' ys' he
      have := ih k (i + 1) (pre ++ [saidF 0 d (h, xs, ys) op]) h' xs' ys' (by omega) (by omega) (by omega) (by simp [hp])
      rw [← he, List.append_assoc, List.singleton_append, hP] at this
      exact this
    simp only [laws_FnSample.l0]
    rw [if_pos hlen, if_pos h0i, if_pos hlo, hop, hrd]
    by_cases k0 : op.f0 = 0
    · have e2 : saidF 0 d (h, xs, ys) op = ⟨0, 0⟩ := by unfold saidF; rw [if_pos k0]; rfl
      have e3 : endsF 0 d (h, xs, ys) op = (h, [op.f1], ys) := by unfold endsF; rw [if_pos k0]; rfl
      rw [if_pos k0, e2, if_pos rfl, e1]
      exact step _ _ _ e3
    · rw [if_neg k0]
      by_cases k1 : op.f0 = 1
      · rw [if_pos k1]
        cases ys with
        | nil =>
          have e2 : saidF 0 d (h, xs, []) op = ⟨1, 0⟩ := by unfold saidF; rw [if_neg k0, if_pos k1]; rfl
          have e3 : endsF 0 d (h, xs, []) op = (h, xs, []) := by unfold endsF; rw [if_neg k0, if_pos k1]; rfl
          rw [if_pos (show ((([] : List Int).length : Int) = 0) from rfl), e2, if_pos rfl, e1]
          exact step _ _ _ e3
        | cons y t =>
          have e2 : saidF 0 d (h, xs, y :: t) op = ⟨0, y⟩ := by unfold saidF; rw [if_neg k0, if_pos k1]; rfl
          have e3 : endsF 0 d (h, xs, y :: t) op = (h, xs, y :: t) := by
            have : recvF 0 (y :: t) = (y, 0, y :: t) := by show (y, 0, if (0 : Int) = 1 then t else y :: t) = _; rw [if_neg (by decide)]
            unfold endsF; rw [if_neg k0, if_pos k1]; dsimp only; rw [this]
          rw [if_neg (by simp <;> omega), e2, if_pos rfl, if_pos (by simp <;> omega), show rd (y :: t) 0 = y from rfl, if_pos rfl, e1]
          exact step _ _ _ e3
      · rw [if_neg k1]
        by_cases k2 : op.f0 = 2
        · rw [if_pos k2]
          by_cases hx : 0 < xs.length
          · have e3 : endsF 0 d (h, xs, ys) op = (h, [], xs) := by
              have : bordF 0 h xs ys = (h, xs) := by unfold bordF; rw [if_neg (by decide), if_pos hx]
              unfold endsF; rw [if_neg k0, if_neg k1, if_pos k2]; dsimp only; rw [this]
            rw [if_pos (by omega), e1]
            exact step _ _ _ e3
          · have e3 : endsF 0 d (h, xs, ys) op = (h, [], ys) := by
              have : bordF 0 h xs ys = (h, ys) := by unfold bordF; rw [if_neg (by decide), if_neg hx]
              unfold endsF; rw [if_neg k0, if_neg k1, if_pos k2]; dsimp only; rw [this]
            rw [if_neg (by omega), e1]
            exact step _ _ _ e3
        · have e3 : endsF 0 d (h, xs, ys) op = (h, [], ys) := by unfold endsF; rw [if_neg k0, if_neg k1, if_neg k2]
          rw [if_neg k2, e1]
          exact step _ _ _ e3
theorem empty_sample (k : Nat) (ops : List S70) : laws_FnSample.l0 (k + 1) ops [] [] [] 0 = some true := by
  simp only [laws_FnSample.l0]
  rw [if_neg (by simp)]
theorem FnSample : ∀ (l0 : List Int), (l0.length ≤ maxLen ∧ ∀ x_ ∈ l0, (Lit.int .u8 x_).wf = true) → ∃ k, GK.laws_FnSample.f k l0 = some true := by
  intro l hl
  have hl1 := hl.1
  unfold maxLen at hl1
  refine ⟨10000, ?_⟩
  unfold laws_FnSample.f laws_big.f
  rw [Option.bind_some]
  by_cases hb : (l.length : Int) > 1048576
  · rw [if_pos (decide_eq_true hb)]
  · rw [if_neg (by simpa using hb)]
    obtain ⟨a, b, c, d, ops, e⟩ := play_some l (by omega) 10000 (by decide)
    rw [bs e, bs (play_i a b c d ops), bs (play_s a b c d ops 10000 (by decide)), if_pos rfl, bs (chan_s a b c d)]
    by_cases hc : ChanB a b c d
    · rw [if_pos (decide_eq_true hc)]
      simp only [laws_FnSample.j0]
      by_cases ha : a = 0
      · subst ha
        rw [if_neg (by decide)]
        unfold playB
        by_cases hp : ChanB 0 b c d ∧ ops.length ≤ 1000 ∧ ops.any badOp = false
        · rw [if_pos hp]
          exact sample_loop d ops hp.2.1 ops.length 9999 0 [] 0 [] [] (by omega) (by omega) (by omega) rfl
        · rw [if_neg hp]
          exact empty_sample _ _
      · have : (a != 0) = true := bne_iff_ne.mpr ha
        rw [this, if_pos rfl]
    · rw [if_neg (by simpa using hc)]
      simp only [laws_FnSample.j0]
      rw [if_pos trivial]
end Go.Proofs.Ytioifcanipijhaa.Pure
