/- Plain laws, taken out of a longer text of this session. No program in sight. -/
import Derived.Test.YtioifcanipijhaaGCx0
import Derived.Test.YtioifcanipijhaaGCx1
import Derived.Test.YtioifcanipijhaaGCx3
import Derived.Test.YtioifcanipijhaaGCx5
import Derived.Test.YtioifcanipijhaaGCx7
import Derived.Test.YtioifcanipijhaaChcC
import Derived.Test.YtioifcanipijhaaLst
namespace Go.Proofs.Ytioifcanipijhaa.AidRC
open Go.RowKit Go.Proofs.Ytioifcanipijhaa Go.Proofs.Ytioifcanipijhaa.GC Go.Proofs.Ytioifcanipijhaa.Lst Go.Proofs.YtioifcanipijhaaW.PrintWords Go.Proofs.YtioifcanipijhaaW.PrintLast
theorem in_s (a b c : Int) : spec_l01In.f a b c = some (decide (b ≤ a ∧ a ≤ c)) := by
  unfold spec_l01In.f; split <;> simp_all <;> omega
theorem in_i (a b c : Int) : impl_within.f a b c = some (decide (b ≤ a ∧ a ≤ c)) := by
  unfold impl_within.f; split <;> simp_all <;> omega
/-- A channel is ok. -/
def ChanB (a b c d : Int) : Prop := 0 ≤ b ∧ b ≤ 5 ∧ 0 ≤ c ∧ c ≤ 5 ∧ b ≠ c ∧ (a = 0 ∧ d = 0 ∨ a = 1 ∧ 1 ≤ d ∧ d ≤ 8)
instance (a b c d : Int) : Decidable (ChanB a b c d) := by unfold ChanB; infer_instance
theorem chan_s (a b c d : Int) : spec_ChanOk.f a b c d = some (decide (ChanB a b c d)) := by
  unfold spec_ChanOk.f
  simp only [in_s, Option.bind_some, decide_eq_true_eq]
  repeat' split
  all_goals (first | (refine congrArg some (decide_eq_decide.2 ?_); (try unfold OutB); (try unfold ChanB); omega) | (refine congrArg some (decide_eq_true ?_).symm; (try unfold OutB); (try unfold ChanB); omega) | (refine congrArg some (decide_eq_false ?_).symm; (try unfold OutB); (try unfold ChanB); omega))
theorem chan_i (a b c d : Int) : impl_isChan.f a b c d = some (decide (ChanB a b c d)) := by
  unfold impl_isChan.f
  simp only [in_i, Option.bind_some, decide_eq_true_eq]
  repeat' split
  all_goals (first | (refine congrArg some (decide_eq_decide.2 ?_); (try unfold OutB); (try unfold ChanB); omega) | (refine congrArg some (decide_eq_true ?_).symm; (try unfold OutB); (try unfold ChanB); omega) | (refine congrArg some (decide_eq_false ?_).symm; (try unfold OutB); (try unfold ChanB); omega))
theorem in_end_s (a b c d : Int) (l : List Int) : spec_InOk.f a b c d l = some (decide (ChanB a b c d ∧ (a = 0 ∧ (l.length : Int) ≤ 1 ∨ a = 1 ∧ (l.length : Int) ≤ d))) := by
  unfold spec_InOk.f
  simp only [chan_s, Option.bind_some, decide_eq_true_eq]
  by_cases hc : ChanB a b c d
  · have hc' := hc
    unfold ChanB at hc'
    rw [if_pos hc]
    split
    all_goals (first | (refine congrArg some (decide_eq_decide.2 ?_); (try unfold OutB); (try unfold ChanB); omega) | (refine congrArg some (decide_eq_true ?_).symm; (try unfold OutB); (try unfold ChanB); omega) | (refine congrArg some (decide_eq_false ?_).symm; (try unfold OutB); (try unfold ChanB); omega))
  · rw [if_neg hc]
    exact congrArg some (decide_eq_false (fun h => hc h.1)).symm
theorem in_end_i (a b c d : Int) (l : List Int) : impl_isIn.f a b c d l = some (decide (ChanB a b c d ∧ (a = 0 ∧ (l.length : Int) ≤ 1 ∨ a = 1 ∧ (l.length : Int) ≤ d))) := by
  unfold impl_isIn.f impl_depthOf.f
  simp only [chan_i, Option.bind_some, decide_eq_true_eq]
  by_cases hc : ChanB a b c d
  · have hc' := hc
    unfold ChanB at hc'
    rw [if_pos hc]
    have hm : mx 1 d = if d < 1 then 1 else d := by unfold mx; split <;> split <;> omega
    rw [hm]
    split
    all_goals (first | (refine congrArg some (decide_eq_decide.2 ?_); (try unfold OutB); (try unfold ChanB); omega) | (refine congrArg some (decide_eq_true ?_).symm; (try unfold OutB); (try unfold ChanB); omega) | (refine congrArg some (decide_eq_false ?_).symm; (try unfold OutB); (try unfold ChanB); omega))
  · rw [if_neg hc]
    exact congrArg some (decide_eq_false (fun h => hc h.1)).symm

theorem list_s (l : List Int) (hl : l.length ≤ 9000000) : spec_l11List.f l = some l := by
  unfold spec_l11List.f
  rw [Option.bind_some, if_pos (by simp; omega)]
  rfl
/-- A receiver's end is ok. -/
def InB (a b c d : Int) (n : Nat) : Prop := ChanB a b c d ∧ (a = 0 ∧ (n : Int) ≤ 1 ∨ a = 1 ∧ (n : Int) ≤ d)
instance (a b c d : Int) (n : Nat) : Decidable (InB a b c d n) := by unfold InB; infer_instance
theorem in_s' (a b c d : Int) (l : List Int) : spec_InOk.f a b c d l = some (decide (InB a b c d l.length)) := in_end_s a b c d l
theorem in_i' (a b c d : Int) (l : List Int) : impl_isIn.f a b c d l = some (decide (InB a b c d l.length)) := in_end_i a b c d l
theorem rd_zero (x : Int) (t : List Int) : rd (x :: t) 0 = x := rfl
theorem recv_s (a b c d : Int) (l : List Int) (hl : l.length ≤ 9000000) : spec_RecvOn.f a b c d l = some (if InB a b c d l.length then ((recvF a l).2.2, (recvF a l).1, (recvF a l).2.1) else ([], 0, 3)) := by
  unfold spec_RecvOn.f
  rw [in_s', Option.bind_some]
  by_cases hi : InB a b c d l.length
  · have hi' := hi
    unfold InB ChanB at hi'
    rw [if_pos (decide_eq_true hi), if_pos hi]
    cases l with
    | nil => rfl
    | cons x t =>
      have hne : ¬ (((x :: t).length : Int) = 0) := by simp; omega
      have hp : (0 : Int) < ((x :: t).length : Int) := by simp <;> omega
      have hp1 : (1 : Int) ≤ ((x :: t).length : Int) := by simp; omega
      rw [if_neg hne]
      by_cases a0 : a = 0
      · have hf : recvF a (x :: t) = (x, 0, x :: t) := by show (x, 0, if a = 1 then t else x :: t) = _; rw [if_neg (by omega)]
        rw [if_pos a0, list_s _ hl, Option.bind_some, if_pos hp, hf]
        rfl
      · have hf : recvF a (x :: t) = (x, 0, t) := by show (x, 0, if a = 1 then t else x :: t) = _; rw [if_pos (by omega)]
        have ht : spec_l11List.f ((x :: t).drop 1) = some t := list_s t (by simp at hl; omega)
        rw [if_neg a0, if_pos hp1, ht, Option.bind_some, if_pos hp, hf]
        rfl
  · rw [if_neg (by simpa using hi), if_neg hi]
end Go.Proofs.Ytioifcanipijhaa.AidRC
