/- Plain laws of the channel functions as they were told: what each of the small ones comes to. No program in sight. -/
import Derived.Test.YtioifcanipijhaaGC1x
import Derived.Test.YtioifcanipijhaaLst
namespace Go.Proofs.Ytioifcanipijhaa.AidC1
open Go.RowKit Go.Proofs.Ytioifcanipijhaa Go.Proofs.Ytioifcanipijhaa.GC1 Go.Proofs.Ytioifcanipijhaa.Lst Go.Proofs.YtioifcanipijhaaW.PrintWords Go.Proofs.YtioifcanipijhaaW.PrintLast
theorem in_s (a b c : Int) : spec_l01In.f a b c = some (decide (b ≤ a ∧ a ≤ c)) := by
  unfold spec_l01In.f; split <;> simp_all <;> omega
theorem in_i (a b c : Int) : impl_within.f a b c = some (decide (b ≤ a ∧ a ≤ c)) := by
  unfold impl_within.f; split <;> simp_all <;> omega
/-- A channel is ok. -/
def ChanB (a b c d : Int) : Prop := 0 ≤ b ∧ b ≤ 5 ∧ 0 ≤ c ∧ c ≤ 5 ∧ b ≠ c ∧ (a = 0 ∧ d = 0 ∨ a = 1 ∧ 1 ≤ d ∧ d ≤ 8)
instance (a b c d : Int) : Decidable (ChanB a b c d) := by unfold ChanB; infer_instance
theorem chan_s (a b c d : Int) : spec_ChanOk.f a b c d = some (decide (ChanB a b c d)) := by
  unfold spec_ChanOk.f
  simp only [in_s, Option.bind_some, decide_eq_true_eq]
  repeat' split
  all_goals (first | (refine congrArg some (decide_eq_decide.2 ?_); (try unfold OutB); (try unfold ChanB); omega) | (refine congrArg some (decide_eq_true ?_).symm; (try unfold OutB); (try unfold ChanB); omega) | (refine congrArg some (decide_eq_false ?_).symm; (try unfold OutB); (try unfold ChanB); omega))
theorem chan_i (a b c d : Int) : impl_isChan.f a b c d = some (decide (ChanB a b c d)) := by
  unfold impl_isChan.f
  simp only [in_i, Option.bind_some, decide_eq_true_eq]
  repeat' split
  all_goals (first | (refine congrArg some (decide_eq_decide.2 ?_); (try unfold OutB); (try unfold ChanB); omega) | (refine congrArg some (decide_eq_true ?_).symm; (try unfold OutB); (try unfold ChanB); omega) | (refine congrArg some (decide_eq_false ?_).symm; (try unfold OutB); (try unfold ChanB); omega))
/-- A sender's end is ok. -/
def OutB (a b c d h : Int) (n : Nat) : Prop := ChanB a b c d ∧ (a = 0 ∧ h = 0 ∧ (n : Int) ≤ 1 ∨ a = 1 ∧ 0 ≤ h ∧ h ≤ d ∧ h + (n : Int) ≤ d)
instance (a b c d h : Int) (n : Nat) : Decidable (OutB a b c d h n) := by unfold OutB; infer_instance
theorem out_s (a b c d h : Int) (l : List Int) (hl : l.length ≤ 9000000) : spec_OutOk.f a b c d h l = some (decide (OutB a b c d h l.length)) := by
  unfold spec_OutOk.f
  simp only [chan_s, in_s, Option.bind_some, decide_eq_true_eq]
  by_cases hc : ChanB a b c d
  · have hc' := hc
    unfold ChanB at hc'
    rw [if_pos hc]
    split
    · split
      all_goals (first | (refine congrArg some (decide_eq_decide.2 ?_); (try unfold OutB); (try unfold ChanB); omega) | (refine congrArg some (decide_eq_true ?_).symm; (try unfold OutB); (try unfold ChanB); omega) | (refine congrArg some (decide_eq_false ?_).symm; (try unfold OutB); (try unfold ChanB); omega))
    · split
      · rw [wr (by omega) (by omega)]
        (first | (refine congrArg some (decide_eq_decide.2 ?_); (try unfold OutB); (try unfold ChanB); omega) | (refine congrArg some (decide_eq_true ?_).symm; (try unfold OutB); (try unfold ChanB); omega) | (refine congrArg some (decide_eq_false ?_).symm; (try unfold OutB); (try unfold ChanB); omega))
      · (first | (refine congrArg some (decide_eq_decide.2 ?_); (try unfold OutB); (try unfold ChanB); omega) | (refine congrArg some (decide_eq_true ?_).symm; (try unfold OutB); (try unfold ChanB); omega) | (refine congrArg some (decide_eq_false ?_).symm; (try unfold OutB); (try unfold ChanB); omega))
  · rw [if_neg hc]
    exact congrArg some (decide_eq_false (fun h => hc h.1)).symm
theorem out_i (a b c d h : Int) (l : List Int) (hl : l.length ≤ 9000000) : impl_isOut.f a b c d h l = some (decide (OutB a b c d h l.length)) := by
  unfold impl_isOut.f impl_depthOf.f
  simp only [chan_i, in_i, Option.bind_some, decide_eq_true_eq]
  by_cases hc : ChanB a b c d
  · have hc' := hc
    unfold ChanB at hc'
    rw [if_pos hc]
    have hm : mx 1 d = if d < 1 then 1 else d := by unfold mx; split <;> split <;> omega
    rw [hm]
    have hw : wrap64 (d - (l.length : Int)) = d - (l.length : Int) := wr (by omega) (by omega)
    rw [hw]
    repeat' split
    all_goals (first | (refine congrArg some (decide_eq_decide.2 ?_); (try unfold OutB); (try unfold ChanB); omega) | (refine congrArg some (decide_eq_true ?_).symm; (try unfold OutB); (try unfold ChanB); omega) | (refine congrArg some (decide_eq_false ?_).symm; (try unfold OutB); (try unfold ChanB); omega))
  · rw [if_neg hc]
    exact congrArg some (decide_eq_false (fun h => hc h.1)).symm
theorem in_end_s (a b c d : Int) (l : List Int) : spec_InOk.f a b c d l = some (decide (ChanB a b c d ∧ (a = 0 ∧ (l.length : Int) ≤ 1 ∨ a = 1 ∧ (l.length : Int) ≤ d))) := by
  unfold spec_InOk.f
  simp only [chan_s, Option.bind_some, decide_eq_true_eq]
  by_cases hc : ChanB a b c d
  · have hc' := hc
    unfold ChanB at hc'
    rw [if_pos hc]
    split
    all_goals (first | (refine congrArg some (decide_eq_decide.2 ?_); (try unfold OutB); (try unfold ChanB); omega) | (refine congrArg some (decide_eq_true ?_).symm; (try unfold OutB); (try unfold ChanB); omega) | (refine congrArg some (decide_eq_false ?_).symm; (try unfold OutB); (try unfold ChanB); omega))
  · rw [if_neg hc]
    exact congrArg some (decide_eq_false (fun h => hc h.1)).symm
theorem in_end_i (a b c d : Int) (l : List Int) : impl_isIn.f a b c d l = some (decide (ChanB a b c d ∧ (a = 0 ∧ (l.length : Int) ≤ 1 ∨ a = 1 ∧ (l.length : Int) ≤ d))) := by
  unfold impl_isIn.f impl_depthOf.f
  simp only [chan_i, Option.bind_some, decide_eq_true_eq]
  by_cases hc : ChanB a b c d
  · have hc' := hc
    unfold ChanB at hc'
    rw [if_pos hc]
    have hm : mx 1 d = if d < 1 then 1 else d := by unfold mx; split <;> split <;> omega
    rw [hm]
    split
    all_goals (first | (refine congrArg some (decide_eq_decide.2 ?_); (try unfold OutB); (try unfold ChanB); omega) | (refine congrArg some (decide_eq_true ?_).symm; (try unfold OutB); (try unfold ChanB); omega) | (refine congrArg some (decide_eq_false ?_).symm; (try unfold OutB); (try unfold ChanB); omega))
  · rw [if_neg hc]
    exact congrArg some (decide_eq_false (fun h => hc h.1)).symm
theorem sz_u (l : List Int) (hl : l.length ≤ maxLen) (m : Int) (h0 : 0 ≤ m) (h1 : m ≤ 9000000) : laws_szUint32S.f l m = some (if m < (l.length : Int) then -1 else m - (l.length : Int)) := by
  unfold maxLen at hl
  unfold laws_szUint32S.f
  rw [wr (by omega) (by omega)]
  split <;> split <;> first | rfl | omega
theorem to_u (l : List Int) (hl : l.length ≤ 9000000) (k : Nat) (hk : l.length < k) : laws_toUint32S.f k l = some l := by
  unfold laws_toUint32S.f
  rw [if_pos (by omega), if_pos (by omega)]
  exact to_int laws_toUint32S.l0 (fun _ _ _ _ => rfl) l (by omega) k hk
theorem eq_u (l : List Int) (hl : l.length ≤ 9000000) (k : Nat) (hk : l.length < k) : laws_eqUint32S.f k l l = some true := by
  unfold laws_eqUint32S.f
  rw [if_pos rfl]
  exact eq_int laws_eqUint32S.l0 (fun _ _ _ _ => rfl) l (by omega) k hk
theorem mark_u (l : List Int) (m : Int) (h0 : 0 ≤ m) (hm : m ≤ 90000000) (hl : l.length ≤ 9000000) (k : Nat) (hk : l.length < k) : laws_markUint32S.f k l m = some (m + (l.length : Int), marks (· % 4294967296) m l.length) := by
  unfold laws_markUint32S.f
  exact mark_all laws_markUint32S.l0 (· % 4294967296) (fun _ _ _ _ => rfl) l m h0 (by omega) k hk
theorem held_u (m : Int) (n : Nat) (h0 : 0 ≤ m) (hm : m ≤ 90000000) (hl : n ≤ 9000000) (k : Nat) (hk : n < k) : laws_heldUint32S.f k (marks (· % 4294967296) m n) m = some (m + (n : Int)) := by
  unfold laws_heldUint32S.f
  exact held_int laws_heldUint32S.l0 (· % 4294967296) (fun _ _ _ _ => rfl) m n h0 (by omega) k hk
end Go.Proofs.Ytioifcanipijhaa.AidC1
