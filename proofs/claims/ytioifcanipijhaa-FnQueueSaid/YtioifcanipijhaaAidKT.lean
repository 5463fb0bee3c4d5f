/- Plain laws, taken out of a longer text of this session. No program in sight. -/
import Derived.Test.YtioifcanipijhaaGKx0T
import Derived.Test.YtioifcanipijhaaGKx1T
import Derived.Test.YtioifcanipijhaaGKx2T
import Derived.Test.YtioifcanipijhaaGKx3T
import Derived.Test.YtioifcanipijhaaGKx4T
import Derived.Test.YtioifcanipijhaaGKx5T
import Derived.Test.YtioifcanipijhaaGKx6T
import Derived.Test.YtioifcanipijhaaGKx7T
import Derived.Test.YtioifcanipijhaaChgKT
import Derived.Test.YtioifcanipijhaaLstKT
namespace Go.Proofs.Ytioifcanipijhaa.AidK
open Go.RowKit Go.Proofs.Ytioifcanipijhaa Go.Proofs.Ytioifcanipijhaa.GK Go.Proofs.Ytioifcanipijhaa.Lst Go.Proofs.YtioifcanipijhaaW.PrintWords Go.Proofs.YtioifcanipijhaaW.PrintLast
theorem in_s (a b c : Int) : spec_l01In.f a b c = some (decide (b ≤ a ∧ a ≤ c)) := by
  unfold spec_l01In.f; split <;> simp_all <;> omega
theorem in_i (a b c : Int) : impl_within.f a b c = some (decide (b ≤ a ∧ a ≤ c)) := by
  unfold impl_within.f; split <;> simp_all <;> omega
/-- A channel is ok. -/
def ChanB (a b c d : Int) : Prop := 0 ≤ b ∧ b ≤ 5 ∧ 0 ≤ c ∧ c ≤ 5 ∧ b ≠ c ∧ (a = 0 ∧ d = 0 ∨ a = 1 ∧ 1 ≤ d ∧ d ≤ 8)
instance (a b c d : Int) : Decidable (ChanB a b c d) := by unfold ChanB; infer_instance
theorem chan_s (a b c d : Int) : spec_ChanOk.f a b c d = some (decide (ChanB a b c d)) := by
  unfold spec_ChanOk.f
  simp only [in_s, Option.bind_some, decide_eq_true_eq]
  repeat' split
  all_goals (first | (refine congrArg some (decide_eq_decide.2 ?_); (try unfold OutB); (try unfold ChanB); omega) | (refine congrArg some (decide_eq_true ?_).symm; (try unfold OutB); (try unfold ChanB); omega) | (refine congrArg some (decide_eq_false ?_).symm; (try unfold OutB); (try unfold ChanB); omega))
theorem chan_i (a b c d : Int) : impl_isChan.f a b c d = some (decide (ChanB a b c d)) := by
  unfold impl_isChan.f
  simp only [in_i, Option.bind_some, decide_eq_true_eq]
  repeat' split
  all_goals (first | (refine congrArg some (decide_eq_decide.2 ?_); (try unfold OutB); (try unfold ChanB); omega) | (refine congrArg some (decide_eq_true ?_).symm; (try unfold OutB); (try unfold ChanB); omega) | (refine congrArg some (decide_eq_false ?_).symm; (try unfold OutB); (try unfold ChanB); omega))
/-- A sender's end is ok. -/
def OutB (a b c d h : Int) (n : Nat) : Prop := ChanB a b c d ∧ (a = 0 ∧ h = 0 ∧ (n : Int) ≤ 1 ∨ a = 1 ∧ 0 ≤ h ∧ h ≤ d ∧ h + (n : Int) ≤ d)
instance (a b c d h : Int) (n : Nat) : Decidable (OutB a b c d h n) := by unfold OutB; infer_instance
theorem out_s (a b c d h : Int) (l : List Int) (hl : l.length ≤ 9000000) : spec_OutOk.f a b c d h l = some (decide (OutB a b c d h l.length)) := by
  unfold spec_OutOk.f
  simp only [chan_s, in_s, Option.bind_some, decide_eq_true_eq]
  by_cases hc : ChanB a b c d
  · have hc' := hc
    unfold ChanB at hc'
    rw [if_pos hc]
    split
    · split
      all_goals (first | (refine congrArg some (decide_eq_decide.2 ?_); (try unfold OutB); (try unfold ChanB); omega) | (refine congrArg some (decide_eq_true ?_).symm; (try unfold OutB); (try unfold ChanB); omega) | (refine congrArg some (decide_eq_false ?_).symm; (try unfold OutB); (try unfold ChanB); omega))
    · split
      · rw [wr (by omega) (by omega)]
        (first | (refine congrArg some (decide_eq_decide.2 ?_); (try unfold OutB); (try unfold ChanB); omega) | (refine congrArg some (decide_eq_true ?_).symm; (try unfold OutB); (try unfold ChanB); omega) | (refine congrArg some (decide_eq_false ?_).symm; (try unfold OutB); (try unfold ChanB); omega))
      · (first | (refine congrArg some (decide_eq_decide.2 ?_); (try unfold OutB); (try unfold ChanB); omega) | (refine congrArg some (decide_eq_true ?_).symm; (try unfold OutB); (try unfold ChanB); omega) | (refine congrArg some (decide_eq_false ?_).symm; (try unfold OutB); (try unfold ChanB); omega))
  · rw [if_neg hc]
    exact congrArg some (decide_eq_false (fun h => hc h.1)).symm
theorem in_end_s (a b c d : Int) (l : List Int) : spec_InOk.f a b c d l = some (decide (ChanB a b c d ∧ (a = 0 ∧ (l.length : Int) ≤ 1 ∨ a = 1 ∧ (l.length : Int) ≤ d))) := by
  unfold spec_InOk.f
  simp only [chan_s, Option.bind_some, decide_eq_true_eq]
  by_cases hc : ChanB a b c d
  · have hc' := hc
    unfold ChanB at hc'
    rw [if_pos hc]
    split
    all_goals (first | (refine congrArg some (decide_eq_decide.2 ?_); (try unfold OutB); (try unfold ChanB); omega) | (refine congrArg some (decide_eq_true ?_).symm; (try unfold OutB); (try unfold ChanB); omega) | (refine congrArg some (decide_eq_false ?_).symm; (try unfold OutB); (try unfold ChanB); omega))
  · rw [if_neg hc]
    exact congrArg some (decide_eq_false (fun h => hc h.1)).symm
theorem list_s (l : List Int) (hl : l.length ≤ 9000000) : spec_l11List.f l = some l := by
  unfold spec_l11List.f
  rw [Option.bind_some, if_pos (by simp; omega)]
  rfl
/-- A receiver's end is ok. -/
def InB (a b c d : Int) (n : Nat) : Prop := ChanB a b c d ∧ (a = 0 ∧ (n : Int) ≤ 1 ∨ a = 1 ∧ (n : Int) ≤ d)
instance (a b c d : Int) (n : Nat) : Decidable (InB a b c d n) := by unfold InB; infer_instance
theorem in_s' (a b c d : Int) (l : List Int) : spec_InOk.f a b c d l = some (decide (InB a b c d l.length)) := in_end_s a b c d l
theorem send_s (a b c d h : Int) (l : List Int) (x : Int) (hl : l.length ≤ 9000000) : spec_SendOn.f a b c d h l x = some (if OutB a b c d h l.length then (h, (sendF a d h l x).2, (sendF a d h l x).1) else (0, [], 3)) := by
  unfold spec_SendOn.f
  rw [out_s a b c d h l hl, Option.bind_some]
  by_cases ho : OutB a b c d h l.length
  · have ho' := ho
    unfold OutB ChanB at ho'
    rw [if_pos (decide_eq_true ho), if_pos ho]
    unfold sendF
    by_cases a0 : a = 0
    · rw [if_pos a0, if_pos a0, show h = 0 by omega]
    · rw [if_neg a0, if_neg a0]
      have hr : spec_Room.f a b c d h l = some (wrap64 (wrap64 (d - h) - (l.length : Int))) := by
        unfold spec_Room.f
        rw [out_s a b c d h l hl, Option.bind_some, if_pos (decide_eq_true ho), if_neg a0]
      rw [hr, Option.bind_some, list_s l hl]
      simp only [Option.bind_some]
      split
      · rfl
      · rw [if_pos (by simp; omega)]
  · rw [if_neg (by simpa using ho), if_neg ho]
theorem recv_s (a b c d : Int) (l : List Int) (hl : l.length ≤ 9000000) : spec_RecvOn.f a b c d l = some (if InB a b c d l.length then ((recvF a l).2.2, (recvF a l).1, (recvF a l).2.1) else ([], 0, 3)) := by
  unfold spec_RecvOn.f
  rw [in_s', Option.bind_some]
  by_cases hi : InB a b c d l.length
  · have hi' := hi
    unfold InB ChanB at hi'
    rw [if_pos (decide_eq_true hi), if_pos hi]
    cases l with
    | nil => rfl
    | cons x t =>
      have hne : ¬ (((x :: t).length : Int) = 0) := by simp; omega
      have hp : (0 : Int) < ((x :: t).length : Int) := by simp <;> omega
      have hp1 : (1 : Int) ≤ ((x :: t).length : Int) := by simp; omega
      rw [if_neg hne]
      by_cases a0 : a = 0
      · have hf : recvF a (x :: t) = (x, 0, x :: t) := by show (x, 0, if a = 1 then t else x :: t) = _; rw [if_neg (by omega)]
        rw [if_pos a0, list_s _ hl, Option.bind_some, if_pos hp, hf]
        rfl
      · have hf : recvF a (x :: t) = (x, 0, t) := by show (x, 0, if a = 1 then t else x :: t) = _; rw [if_pos (by omega)]
        have ht : spec_l11List.f ((x :: t).drop 1) = some t := list_s t (by simp at hl; omega)
        rw [if_neg a0, if_pos hp1, ht, Option.bind_some, if_pos hp, hf]
        rfl
  · rw [if_neg (by simpa using hi), if_neg hi]
theorem bord_s (a b c d h : Int) (l m : List Int) (hl : l.length ≤ 9000000) (hm : m.length ≤ 9000000) (k : Nat) : spec_Border.f (k + 1) a b c d h l m = some (if OutB a b c d h l.length ∧ InB a b c d m.length ∧ ¬ (a = 1 ∧ h < (m.length : Int)) then ((bordF a h l m).1, [], (bordF a h l m).2, l) else (0, [], [], [])) := by
  unfold spec_Border.f
  rw [out_s a b c d h l hl, Option.bind_some]
  by_cases ho : OutB a b c d h l.length
  · rw [if_pos (decide_eq_true ho), in_s', Option.bind_some]
    by_cases hi : InB a b c d m.length
    · have ho' := ho
      unfold OutB ChanB at ho'
      have hi' := hi
      unfold InB ChanB at hi'
      rw [if_pos (decide_eq_true hi)]
      by_cases a1 : a = 1
      · rw [if_pos a1]
        by_cases hq : h < (m.length : Int)
        · rw [if_neg (fun x => x.2.2 ⟨a1, hq⟩)]
          simp only [spec_Border.j0]
          rw [if_pos (decide_eq_true (by omega))]
        · rw [if_pos ⟨ho, hi, fun x => hq x.2⟩]
          have hb : bordF a h l m = ((m.length : Int) + (l.length : Int), m ++ l) := by unfold bordF; rw [if_pos a1]
          simp only [spec_Border.j0]
          rw [if_neg (by simp; omega), if_neg (by omega), list_s m hm, Option.bind_some, if_pos (by omega), Option.bind_some, list_s l hl, Option.bind_some, hb]
          simp
      · have a0 : a = 0 := by omega
        rw [if_neg a1, if_pos ⟨ho, hi, fun x => a1 x.1⟩]
        simp only [spec_Border.j0]
        rw [if_neg (by decide), if_pos a0]
        have h0 : h = 0 := by omega
        cases l with
        | nil =>
          have hb : bordF a h [] m = (h, m) := by unfold bordF; rw [if_neg a1, if_neg (by simp)]
          rw [if_pos (by simp), list_s m hm, Option.bind_some, hb, h0]
        | cons x t =>
          have hb : bordF a h (x :: t) m = (h, x :: t) := by unfold bordF; rw [if_neg a1, if_pos (by simp)]
          rw [if_neg (by simp; omega), list_s _ hl, Option.bind_some, Option.bind_some, hb, h0]
    · rw [if_neg (by simpa using hi), if_neg (fun x => hi x.2.1)]
      simp only [spec_Border.j0]
      rw [if_pos trivial]
  · rw [if_neg (by simpa using ho), if_neg (fun x => ho x.1)]
    simp only [spec_Border.j0]
    rw [if_pos trivial]
/-- The two ends agree. -/
def EndsB (a b c d : Int) (s : Int × List Int × List Int) : Prop := OutB a b c d s.1 s.2.1.length ∧ InB a b c d s.2.2.length ∧ (a = 1 → (s.2.2.length : Int) ≤ s.1)
theorem ends_ok (a b c d : Int) (s : Int × List Int × List Int) (op : S70) (hs : EndsB a b c d s) : EndsB a b c d (endsF a d s op) := by
  obtain ⟨h, xs, ys⟩ := s
  obtain ⟨ho, hi, hq⟩ := hs
  dsimp only at ho hi hq
  unfold OutB ChanB at ho
  unfold InB ChanB at hi
  unfold endsF
  dsimp only
  by_cases k0 : op.f0 = 0
  · rw [if_pos k0]
    unfold sendF
    by_cases a0 : a = 0
    · rw [if_pos a0]
      refine ⟨?_, ?_, ?_⟩
      · unfold OutB ChanB; simp; omega
      · unfold InB ChanB; dsimp only; omega
      · intro e; omega
    · rw [if_neg a0]
      have w1 : wrap64 (d - h) = d - h := wr (by omega) (by omega)
      have w2 : wrap64 (d - h - (xs.length : Int)) = d - h - (xs.length : Int) := wr (by omega) (by omega)
      rw [w1, w2]
      split
      · refine ⟨?_, ?_, ?_⟩
        · unfold OutB ChanB; dsimp only; omega
        · unfold InB ChanB; dsimp only; omega
        · intro e; dsimp only; omega
      · refine ⟨?_, ?_, ?_⟩
        · unfold OutB ChanB; simp; omega
        · unfold InB ChanB; dsimp only; omega
        · intro e; dsimp only; omega
  · rw [if_neg k0]
    by_cases k1 : op.f0 = 1
    · rw [if_pos k1]
      have hle : (recvF a ys).2.2.length ≤ ys.length := by
        cases ys with
        | nil => simp [recvF]
        | cons y t =>
          show (if a = 1 then t else y :: t).length ≤ _
          split <;> simp
      refine ⟨?_, ?_, ?_⟩
      · unfold OutB ChanB; dsimp only; omega
      · unfold InB ChanB; dsimp only; omega
      · intro e; have := hq e; dsimp only; omega
    · rw [if_neg k1]
      by_cases k2 : op.f0 = 2
      · rw [if_pos k2]
        unfold bordF
        by_cases a1 : a = 1
        · rw [if_pos a1]
          have := hq a1
          refine ⟨?_, ?_, ?_⟩
          · unfold OutB ChanB; simp; omega
          · unfold InB ChanB; simp; omega
          · intro e; simp
        · rw [if_neg a1]
          split
          · refine ⟨?_, ?_, ?_⟩
            · unfold OutB ChanB; simp; omega
            · unfold InB ChanB; dsimp only; omega
            · intro e; omega
          · refine ⟨?_, ?_, ?_⟩
            · unfold OutB ChanB; simp; omega
            · unfold InB ChanB; dsimp only; omega
            · intro e; omega
      · rw [if_neg k2]
        refine ⟨?_, ?_, ?_⟩
        · unfold OutB ChanB; simp; omega
        · unfold InB ChanB; dsimp only; omega
        · intro e; have := hq e; dsimp only; omega
theorem play_loop (a b c d : Int) (ops : List S70) (hn : ops.length ≤ 1000) (n : Nat) : ∀ (k i : Nat) (acc : List S72) (h : Int) (xs ys : List Int), EndsB a b c d (h, xs, ys) → i ≤ ops.length → ops.length - i = n → n + 2 ≤ k → acc.length = i →
    spec_ChanPlay.l1 k ops acc (i : Int) a b c d h xs ys = some (acc ++ playF a d (h, xs, ys) (ops.drop i)) := by
  induction n with
  | zero =>
    intro k i acc h xs ys hs hi hd hk ha
    obtain ⟨k, rfl⟩ : ∃ m, k = m + 1 := ⟨k - 1, by omega⟩
    simp only [spec_ChanPlay.l1]
    rw [if_neg (by omega), List.drop_of_length_le (by omega)]
    simp [playF]
  | succ n ih =>
    intro k i acc h xs ys hs hi hd hk ha
    obtain ⟨k, rfl⟩ : ∃ m, k = m + 1 := ⟨k - 1, by omega⟩
    have hlt : i < ops.length := by omega
    have e1 : wrap64 ((i : Int) + 1) = ((i + 1 : Nat) : Int) := by rw [wr (by omega) (by omega)]; omega
    have hs2 := hs
    obtain ⟨ho, hin, hq⟩ := hs2
    dsimp only at ho hin hq
    have hlx : xs.length ≤ 9000000 := by unfold OutB ChanB at ho; omega
    have hly : ys.length ≤ 9000000 := by unfold InB ChanB at hin; omega
    have hnext := ends_ok a b c d (h, xs, ys) (rd_T70 ops (i : Int)) hs
    simp only [spec_ChanPlay.l1]
    rw [if_pos (by omega), if_pos (by omega), drop_op ops i hlt]
    simp only [playF]
    generalize rd_T70 ops (i : Int) = op at hnext ⊢
    have step : ∀ (w : S72) (h' : Int) (xs' ys' : List Int), endsF a d (h, xs, ys) op = (h', xs', ys') → saidF a d (h, xs, ys) op = w →
        spec_ChanPlay.l1 k ops (acc ++ [w]) ((i + 1 : Nat) : Int) a b c d h' xs' ys' = some (acc ++ saidF a d (h, xs, ys) op :: playF a d (endsF a d (h, xs, ys) op) (ops.drop (i + 1))) := by
      intro w h' xs' ys' he hw
      rw [he] at hnext
      rw [ih k (i + 1) (acc ++ [w]) h' xs' ys' hnext (by omega) (by omega) (by omega) (by simp [ha]), he, hw]
      simp
    by_cases k0 : op.f0 = 0
    · rw [if_pos k0, send_s a b c d h xs op.f1 hlx, Option.bind_some, if_pos ho, if_pos (by omega), e1]
      exact step _ _ _ _ (by unfold endsF; rw [if_pos k0]) (by unfold saidF; rw [if_pos k0])
    · rw [if_neg k0]
      by_cases k1 : op.f0 = 1
      · rw [if_pos k1, recv_s a b c d ys hly, Option.bind_some, if_pos hin, if_pos (by omega), e1]
        exact step _ _ _ _ (by unfold endsF; rw [if_neg k0, if_pos k1]) (by unfold saidF; rw [if_neg k0, if_pos k1])
      · rw [if_neg k1]
        by_cases k2 : op.f0 = 2
        · obtain ⟨k, rfl⟩ : ∃ m, k = m + 1 := ⟨k - 1, by omega⟩
          have hcond : OutB a b c d h xs.length ∧ InB a b c d ys.length ∧ ¬ (a = 1 ∧ h < (ys.length : Int)) := ⟨ho, hin, fun x => by have := hq x.1; omega⟩
          rw [if_pos k2, bord_s a b c d h xs ys hlx hly k, Option.bind_some, if_pos hcond, if_pos (by omega), e1]
          exact step _ _ _ _ (by unfold endsF; rw [if_neg k0, if_neg k1, if_pos k2]) (by unfold saidF; rw [if_neg k0, if_neg k1])
        · have hdis : spec_Discard.f a b c d h xs = some (h, []) := by
            unfold spec_Discard.f
            rw [out_s a b c d h xs hlx, Option.bind_some, if_pos (decide_eq_true ho)]
          rw [if_neg k2, hdis, Option.bind_some, if_pos (by omega), e1]
          exact step _ _ _ _ (by unfold endsF; rw [if_neg k0, if_neg k1, if_neg k2]) (by unfold saidF; rw [if_neg k0, if_neg k1])
theorem kinds_loop (a b c d : Int) (ops : List S70) (hn : ops.length ≤ 1000) (r : List S72) (acc : List S72) (K : Nat) (hr : ∀ k, K ≤ k → spec_ChanPlay.l1 k ops acc 0 a b c d 0 [] [] = some r) (n : Nat) : ∀ (k i : Nat), i ≤ ops.length → ops.length - i = n → n + 1 + K ≤ k → (ops.take i).any badOp = false →
    spec_ChanPlay.l0 k ops acc (i : Int) a b c d = some (if ops.any badOp = true then [] else r) := by
  induction n with
  | zero =>
    intro k i hi hd hk ha
    obtain ⟨k, rfl⟩ : ∃ m, k = m + 1 := ⟨k - 1, by omega⟩
    simp only [spec_ChanPlay.l0]
    rw [if_neg (by omega), hr k (by omega)]
    rw [List.take_of_length_le (by omega)] at ha
    rw [if_neg (by rw [ha]; decide)]
  | succ n ih =>
    intro k i hi hd hk ha
    obtain ⟨k, rfl⟩ : ∃ m, k = m + 1 := ⟨k - 1, by omega⟩
    have hlt : i < ops.length := by omega
    have e1 : wrap64 ((i : Int) + 1) = ((i + 1 : Nat) : Int) := by rw [wr (by omega) (by omega)]; omega
    have hget : rd_T70 ops (i : Int) = ops[i] := by
      unfold rd_T70
      rw [Int.toNat_natCast, List.getD_eq_getElem?_getD, List.getElem?_eq_getElem hlt]
      rfl
    have htake : ops.take (i + 1) = ops.take i ++ [ops[i]] := by rw [List.take_succ_eq_append_getElem hlt]
    simp only [spec_ChanPlay.l0]
    rw [if_pos (by omega), if_pos (by omega), hget, in_s, Option.bind_some]
    by_cases hk0 : 0 ≤ ops[i].f0 ∧ ops[i].f0 ≤ 3
    · rw [if_pos (decide_eq_true hk0), e1]
      refine ih k (i + 1) (by omega) (by omega) (by omega) ?_
      rw [htake, List.any_append, ha]
      simp [badOp, hk0]
    · rw [if_neg (by simpa using hk0)]
      have : ops.any badOp = true := List.any_eq_true.2 ⟨ops[i], List.getElem_mem _, by unfold badOp; simp [hk0]⟩
      rw [if_pos this]
/-- The program's ChanPlay and the reference's. -/
def playB (a b c d : Int) (ops : List S70) : List S72 := if ChanB a b c d ∧ ops.length ≤ 1000 ∧ ops.any badOp = false then playF a d (0, [], []) ops else []
theorem play_i (a b c d : Int) (ops : List S70) : impl_ChanPlay.f a b c d ops = some (playB a b c d ops) := by
  unfold impl_ChanPlay.f playB
  rw [chan_i, Option.bind_some]
  simp only [decide_eq_true_eq]
theorem ends_zero (a b c d : Int) (h : ChanB a b c d) : EndsB a b c d (0, [], []) := by
  have h' := h
  unfold ChanB at h'
  refine ⟨⟨h, ?_⟩, ⟨h, ?_⟩, ?_⟩
  · simp; omega
  · simp; omega
  · intro _; simp
theorem play_s (a b c d : Int) (ops : List S70) (k : Nat) (hk : 4000 ≤ k) : spec_ChanPlay.f k a b c d ops = some (playB a b c d ops) := by
  obtain ⟨k, rfl⟩ : ∃ m, k = m + 1 := ⟨k - 1, by omega⟩
  unfold spec_ChanPlay.f playB
  rw [Option.bind_some, chan_s, Option.bind_some]
  by_cases hc : ChanB a b c d
  · rw [if_pos (decide_eq_true hc)]
    by_cases hn : ops.length ≤ 1000
    · simp only [spec_ChanPlay.j0]
      rw [if_neg (by simp; omega)]
      have hl := fun k (hk : ops.length + 2 ≤ k) => play_loop a b c d ops hn ops.length k 0 [] 0 [] [] (ends_zero a b c d hc) (by omega) (by omega) hk rfl
      have := kinds_loop a b c d ops hn (playF a d (0, [], []) ops) [] (ops.length + 2) (fun k hk => by have := hl k hk; simpa using this) ops.length k 0 (by omega) (by omega) (by omega) (by simp)
      have e : ((0 : Nat) : Int) = 0 := rfl
      rw [e] at this
      rw [this]
      by_cases hb : ops.any badOp = true
      · rw [if_pos hb, if_neg (fun x => by rw [hb] at x; cases x.2.2)]
      · have hb' : ops.any badOp = false := by simpa using hb
        rw [if_neg hb, if_pos ⟨hc, hn, hb'⟩]
    · simp only [spec_ChanPlay.j0]
      rw [if_pos (decide_eq_true (by omega)), if_neg (fun x => hn x.2.1)]
  · rw [if_neg (by simpa using hc), if_neg (fun x => hc x.1)]
    simp only [spec_ChanPlay.j0]
    rw [if_pos trivial]

end Go.Proofs.Ytioifcanipijhaa.AidK
