/- Plain laws of Border as it was told: what the reference and the program come to, and the law's own small functions. No program in sight. -/
import Derived.Test.YtioifcanipijhaaGCx0
import Derived.Test.YtioifcanipijhaaGCx1
import Derived.Test.YtioifcanipijhaaGCx2
import Derived.Test.YtioifcanipijhaaGCx3
import Derived.Test.YtioifcanipijhaaGCx4
import Derived.Test.YtioifcanipijhaaGCx5
import Derived.Test.YtioifcanipijhaaGCx6
import Derived.Test.YtioifcanipijhaaGCx12
import Derived.Test.YtioifcanipijhaaGCx14
import Derived.Test.YtioifcanipijhaaCheC
import Derived.Test.YtioifcanipijhaaLst
namespace Go.Proofs.Ytioifcanipijhaa.AidBC
open Go.RowKit Go.Proofs.Ytioifcanipijhaa Go.Proofs.Ytioifcanipijhaa.GC Go.Proofs.Ytioifcanipijhaa.Lst Go.Proofs.YtioifcanipijhaaW.PrintWords Go.Proofs.YtioifcanipijhaaW.PrintLast
theorem in_s (a b c : Int) : spec_l01In.f a b c = some (decide (b ≤ a ∧ a ≤ c)) := by
  unfold spec_l01In.f; split <;> simp_all <;> omega
theorem in_i (a b c : Int) : impl_within.f a b c = some (decide (b ≤ a ∧ a ≤ c)) := by
  unfold impl_within.f; split <;> simp_all <;> omega
/-- A channel is ok. -/
def ChanB (a b c d : Int) : Prop := 0 ≤ b ∧ b ≤ 5 ∧ 0 ≤ c ∧ c ≤ 5 ∧ b ≠ c ∧ (a = 0 ∧ d = 0 ∨ a = 1 ∧ 1 ≤ d ∧ d ≤ 8)
instance (a b c d : Int) : Decidable (ChanB a b c d) := by unfold ChanB; infer_instance
theorem chan_s (a b c d : Int) : spec_ChanOk.f a b c d = some (decide (ChanB a b c d)) := by
  unfold spec_ChanOk.f
  simp only [in_s, Option.bind_some, decide_eq_true_eq]
  repeat' split
  all_goals (first | (refine congrArg some (decide_eq_decide.2 ?_); (try unfold OutB); (try unfold ChanB); omega) | (refine congrArg some (decide_eq_true ?_).symm; (try unfold OutB); (try unfold ChanB); omega) | (refine congrArg some (decide_eq_false ?_).symm; (try unfold OutB); (try unfold ChanB); omega))
theorem chan_i (a b c d : Int) : impl_isChan.f a b c d = some (decide (ChanB a b c d)) := by
  unfold impl_isChan.f
  simp only [in_i, Option.bind_some, decide_eq_true_eq]
  repeat' split
  all_goals (first | (refine congrArg some (decide_eq_decide.2 ?_); (try unfold OutB); (try unfold ChanB); omega) | (refine congrArg some (decide_eq_true ?_).symm; (try unfold OutB); (try unfold ChanB); omega) | (refine congrArg some (decide_eq_false ?_).symm; (try unfold OutB); (try unfold ChanB); omega))
/-- A sender's end is ok. -/
def OutB (a b c d h : Int) (n : Nat) : Prop := ChanB a b c d ∧ (a = 0 ∧ h = 0 ∧ (n : Int) ≤ 1 ∨ a = 1 ∧ 0 ≤ h ∧ h ≤ d ∧ h + (n : Int) ≤ d)
instance (a b c d h : Int) (n : Nat) : Decidable (OutB a b c d h n) := by unfold OutB; infer_instance
theorem out_s (a b c d h : Int) (l : List Int) (hl : l.length ≤ 9000000) : spec_OutOk.f a b c d h l = some (decide (OutB a b c d h l.length)) := by
  unfold spec_OutOk.f
  simp only [chan_s, in_s, Option.bind_some, decide_eq_true_eq]
  by_cases hc : ChanB a b c d
  · have hc' := hc
    unfold ChanB at hc'
    rw [if_pos hc]
    split
    · split
      all_goals (first | (refine congrArg some (decide_eq_decide.2 ?_); (try unfold OutB); (try unfold ChanB); omega) | (refine congrArg some (decide_eq_true ?_).symm; (try unfold OutB); (try unfold ChanB); omega) | (refine congrArg some (decide_eq_false ?_).symm; (try unfold OutB); (try unfold ChanB); omega))
    · split
      · rw [wr (by omega) (by omega)]
        (first | (refine congrArg some (decide_eq_decide.2 ?_); (try unfold OutB); (try unfold ChanB); omega) | (refine congrArg some (decide_eq_true ?_).symm; (try unfold OutB); (try unfold ChanB); omega) | (refine congrArg some (decide_eq_false ?_).symm; (try unfold OutB); (try unfold ChanB); omega))
      · (first | (refine congrArg some (decide_eq_decide.2 ?_); (try unfold OutB); (try unfold ChanB); omega) | (refine congrArg some (decide_eq_true ?_).symm; (try unfold OutB); (try unfold ChanB); omega) | (refine congrArg some (decide_eq_false ?_).symm; (try unfold OutB); (try unfold ChanB); omega))
  · rw [if_neg hc]
    exact congrArg some (decide_eq_false (fun h => hc h.1)).symm
theorem out_i (a b c d h : Int) (l : List Int) (hl : l.length ≤ 9000000) : impl_isOut.f a b c d h l = some (decide (OutB a b c d h l.length)) := by
  unfold impl_isOut.f impl_depthOf.f
  simp only [chan_i, in_i, Option.bind_some, decide_eq_true_eq]
  by_cases hc : ChanB a b c d
  · have hc' := hc
    unfold ChanB at hc'
    rw [if_pos hc]
    have hm : mx 1 d = if d < 1 then 1 else d := by unfold mx; split <;> split <;> omega
    rw [hm]
    have hw : wrap64 (d - (l.length : Int)) = d - (l.length : Int) := wr (by omega) (by omega)
    rw [hw]
    repeat' split
    all_goals (first | (refine congrArg some (decide_eq_decide.2 ?_); (try unfold OutB); (try unfold ChanB); omega) | (refine congrArg some (decide_eq_true ?_).symm; (try unfold OutB); (try unfold ChanB); omega) | (refine congrArg some (decide_eq_false ?_).symm; (try unfold OutB); (try unfold ChanB); omega))
  · rw [if_neg hc]
    exact congrArg some (decide_eq_false (fun h => hc h.1)).symm
theorem in_end_s (a b c d : Int) (l : List Int) : spec_InOk.f a b c d l = some (decide (ChanB a b c d ∧ (a = 0 ∧ (l.length : Int) ≤ 1 ∨ a = 1 ∧ (l.length : Int) ≤ d))) := by
  unfold spec_InOk.f
  simp only [chan_s, Option.bind_some, decide_eq_true_eq]
  by_cases hc : ChanB a b c d
  · have hc' := hc
    unfold ChanB at hc'
    rw [if_pos hc]
    split
    all_goals (first | (refine congrArg some (decide_eq_decide.2 ?_); (try unfold OutB); (try unfold ChanB); omega) | (refine congrArg some (decide_eq_true ?_).symm; (try unfold OutB); (try unfold ChanB); omega) | (refine congrArg some (decide_eq_false ?_).symm; (try unfold OutB); (try unfold ChanB); omega))
  · rw [if_neg hc]
    exact congrArg some (decide_eq_false (fun h => hc h.1)).symm
theorem in_end_i (a b c d : Int) (l : List Int) : impl_isIn.f a b c d l = some (decide (ChanB a b c d ∧ (a = 0 ∧ (l.length : Int) ≤ 1 ∨ a = 1 ∧ (l.length : Int) ≤ d))) := by
  unfold impl_isIn.f impl_depthOf.f
  simp only [chan_i, Option.bind_some, decide_eq_true_eq]
  by_cases hc : ChanB a b c d
  · have hc' := hc
    unfold ChanB at hc'
    rw [if_pos hc]
    have hm : mx 1 d = if d < 1 then 1 else d := by unfold mx; split <;> split <;> omega
    rw [hm]
    split
    all_goals (first | (refine congrArg some (decide_eq_decide.2 ?_); (try unfold OutB); (try unfold ChanB); omega) | (refine congrArg some (decide_eq_true ?_).symm; (try unfold OutB); (try unfold ChanB); omega) | (refine congrArg some (decide_eq_false ?_).symm; (try unfold OutB); (try unfold ChanB); omega))
  · rw [if_neg hc]
    exact congrArg some (decide_eq_false (fun h => hc h.1)).symm

theorem list_s (l : List Int) (hl : l.length ≤ 9000000) : spec_l11List.f l = some l := by
  unfold spec_l11List.f
  rw [Option.bind_some, if_pos (by simp; omega)]
  rfl
/-- A receiver's end is ok. -/
def InB (a b c d : Int) (n : Nat) : Prop := ChanB a b c d ∧ (a = 0 ∧ (n : Int) ≤ 1 ∨ a = 1 ∧ (n : Int) ≤ d)
instance (a b c d : Int) (n : Nat) : Decidable (InB a b c d n) := by unfold InB; infer_instance
theorem in_s' (a b c d : Int) (l : List Int) : spec_InOk.f a b c d l = some (decide (InB a b c d l.length)) := in_end_s a b c d l
theorem in_i' (a b c d : Int) (l : List Int) : impl_isIn.f a b c d l = some (decide (InB a b c d l.length)) := in_end_i a b c d l
theorem bord_s (a b c d h : Int) (l m : List Int) (hl : l.length ≤ 9000000) (hm : m.length ≤ 9000000) (k : Nat) : spec_Border.f (k + 1) a b c d h l m = some (if OutB a b c d h l.length ∧ InB a b c d m.length ∧ ¬ (a = 1 ∧ h < (m.length : Int)) then ((bordF a h l m).1, [], (bordF a h l m).2, l) else (0, [], [], [])) := by
  unfold spec_Border.f
  rw [out_s a b c d h l hl, Option.bind_some]
  by_cases ho : OutB a b c d h l.length
  · rw [if_pos (decide_eq_true ho), in_s', Option.bind_some]
    by_cases hi : InB a b c d m.length
    · have ho' := ho
      unfold OutB ChanB at ho'
      have hi' := hi
      unfold InB ChanB at hi'
      rw [if_pos (decide_eq_true hi)]
      by_cases a1 : a = 1
      · rw [if_pos a1]
        by_cases hq : h < (m.length : Int)
        · rw [if_neg (fun x => x.2.2 ⟨a1, hq⟩)]
          simp only [spec_Border.j0]
          rw [if_pos (decide_eq_true (by omega))]
        · rw [if_pos ⟨ho, hi, fun x => hq x.2⟩]
          have hb : bordF a h l m = ((m.length : Int) + (l.length : Int), m ++ l) := by unfold bordF; rw [if_pos a1]
          simp only [spec_Border.j0]
          rw [if_neg (by simp; omega), if_neg (by omega), list_s m hm, Option.bind_some, if_pos (by omega), Option.bind_some, list_s l hl, Option.bind_some, hb]
          simp
      · have a0 : a = 0 := by omega
        rw [if_neg a1, if_pos ⟨ho, hi, fun x => a1 x.1⟩]
        simp only [spec_Border.j0]
        rw [if_neg (by decide), if_pos a0]
        have h0 : h = 0 := by omega
        cases l with
        | nil =>
          have hb : bordF a h [] m = (h, m) := by unfold bordF; rw [if_neg a1, if_neg (by simp)]
          rw [if_pos (by simp), list_s m hm, Option.bind_some, hb, h0]
        | cons x t =>
          have hb : bordF a h (x :: t) m = (h, x :: t) := by unfold bordF; rw [if_neg a1, if_pos (by simp)]
          rw [if_neg (by simp; omega), list_s _ hl, Option.bind_some, Option.bind_some, hb, h0]
    · rw [if_neg (by simpa using hi), if_neg (fun x => hi x.2.1)]
      simp only [spec_Border.j0]
      rw [if_pos trivial]
  · rw [if_neg (by simpa using ho), if_neg (fun x => ho x.1)]
    simp only [spec_Border.j0]
    rw [if_pos trivial]
theorem sz_u (l : List Int) (hl : l.length ≤ maxLen) (m : Int) (h0 : 0 ≤ m) (h1 : m ≤ 9000000) : laws_szUint32S.f l m = some (if m < (l.length : Int) then -1 else m - (l.length : Int)) := by
  unfold maxLen at hl
  unfold laws_szUint32S.f
  rw [wr (by omega) (by omega)]
  split <;> split <;> first | rfl | omega
theorem to_u (l : List Int) (hl : l.length ≤ 9000000) (k : Nat) (hk : l.length < k) : laws_toUint32S.f k l = some l := by
  unfold laws_toUint32S.f
  rw [if_pos (by omega), if_pos (by omega)]
  exact to_int laws_toUint32S.l0 (fun _ _ _ _ => rfl) l (by omega) k hk
theorem eq_u (l : List Int) (hl : l.length ≤ 9000000) (k : Nat) (hk : l.length < k) : laws_eqUint32S.f k l l = some true := by
  unfold laws_eqUint32S.f
  rw [if_pos rfl]
  exact eq_int laws_eqUint32S.l0 (fun _ _ _ _ => rfl) l (by omega) k hk
theorem mark_u (l : List Int) (m : Int) (h0 : 0 ≤ m) (hm : m ≤ 90000000) (hl : l.length ≤ 9000000) (k : Nat) (hk : l.length < k) : laws_markUint32S.f k l m = some (m + (l.length : Int), marks (· % 4294967296) m l.length) := by
  unfold laws_markUint32S.f
  exact mark_all laws_markUint32S.l0 (· % 4294967296) (fun _ _ _ _ => rfl) l m h0 (by omega) k hk
theorem held_u (m : Int) (n : Nat) (h0 : 0 ≤ m) (hm : m ≤ 90000000) (hl : n ≤ 9000000) (k : Nat) (hk : n < k) : laws_heldUint32S.f k (marks (· % 4294967296) m n) m = some (m + (n : Int)) := by
  unfold laws_heldUint32S.f
  exact held_int laws_heldUint32S.l0 (· % 4294967296) (fun _ _ _ _ => rfl) m n h0 (by omega) k hk

theorem to_in (l : List Int) (hl : l.length ≤ 9000000) (k : Nat) (hk : l.length < k) : laws_toInEnd.f k l = some l := by
  unfold laws_toInEnd.f
  rw [to_u l hl k hk]
  rfl
theorem eq_in (l : List Int) (hl : l.length ≤ 9000000) (k : Nat) (hk : l.length < k) : laws_eqInEnd.f k l l = some true := by
  unfold laws_eqInEnd.f
  rw [eq_u l hl k hk]
  rfl
theorem mark_in (l : List Int) (m : Int) (h0 : 0 ≤ m) (hm : m ≤ 90000000) (hl : l.length ≤ 9000000) (k : Nat) (hk : l.length < k) : laws_markInEnd.f k l m = some (m + (l.length : Int), marks (· % 4294967296) m l.length) := by
  unfold laws_markInEnd.f
  rw [mark_u l m h0 hm hl k hk]
  rfl
theorem held_in (m : Int) (n : Nat) (h0 : 0 ≤ m) (hm : m ≤ 90000000) (hl : n ≤ 9000000) (k : Nat) (hk : n < k) : laws_heldInEnd.f k (marks (· % 4294967296) m n) m = some (m + (n : Int)) := by
  unfold laws_heldInEnd.f
  rw [held_u m n h0 hm hl k hk, Option.bind_some, if_neg (by omega)]
theorem sz_in (l : List Int) (hl : l.length ≤ maxLen) (m : Int) (h0 : 0 ≤ m) (h1 : m ≤ 9000000) : laws_szInEnd.f l m = some (if m < (l.length : Int) then -1 else m - (l.length : Int)) := by
  unfold laws_szInEnd.f
  rw [sz_u l hl m h0 h1, Option.bind_some]
  split
  · rfl
  · rw [if_neg (by omega)]
theorem to_out (h : Int) (l : List Int) (hl : l.length ≤ 9000000) (k : Nat) (hk : l.length < k) : laws_toOutEnd.f k h l = some (h, l) := by
  unfold laws_toOutEnd.f
  rw [to_u l hl k hk]
  rfl
theorem eq_out (h : Int) (l : List Int) (hl : l.length ≤ 9000000) (k : Nat) (hk : l.length < k) : laws_eqOutEnd.f k h l h l = some true := by
  unfold laws_eqOutEnd.f
  rw [if_pos rfl, eq_u l hl k hk]
  rfl
theorem mark_out (h : Int) (l : List Int) (m : Int) (h0 : 0 ≤ m) (hm : m ≤ 90000000) (hl : l.length ≤ 9000000) (k : Nat) (hk : l.length < k) : laws_markOutEnd.f k h l m = some (m + (l.length : Int), marks (· % 4294967296) m l.length) := by
  unfold laws_markOutEnd.f
  rw [mark_u l m h0 hm hl k hk]
  rfl
theorem held_out (h : Int) (m : Int) (n : Nat) (h0 : 0 ≤ m) (hm : m ≤ 90000000) (hl : n ≤ 9000000) (k : Nat) (hk : n < k) : laws_heldOutEnd.f k h (marks (· % 4294967296) m n) m = some (m + (n : Int)) := by
  unfold laws_heldOutEnd.f
  rw [held_u m n h0 hm hl k hk, Option.bind_some, if_neg (by omega)]
theorem sz_out (h : Int) (l : List Int) (hl : l.length ≤ maxLen) (m : Int) (h0 : 0 ≤ m) (h1 : m ≤ 9000000) : laws_szOutEnd.f h l m = some (if m < (l.length : Int) then -1 else m - (l.length : Int)) := by
  unfold laws_szOutEnd.f
  rw [sz_u l hl m h0 h1, Option.bind_some]
  split
  · rfl
  · rw [if_neg (by omega)]
/-- What Border answers. -/
def bordB (a b c d h : Int) (l m : List Int) : Int × List Int × List Int × List Int := if OutB a b c d h l.length ∧ InB a b c d m.length ∧ ¬ (a = 1 ∧ h < (m.length : Int)) then ((bordF a h l m).1, [], (bordF a h l m).2, l) else (0, [], [], [])
theorem bordB_s (a b c d h : Int) (l m : List Int) (hl : l.length ≤ 9000000) (hm : m.length ≤ 9000000) (k : Nat) : spec_Border.f (k + 1) a b c d h l m = some (bordB a b c d h l m) := bord_s a b c d h l m hl hm k
theorem bordB_i (a b c d h : Int) (l m : List Int) (hl : l.length < 2000000) (hm : m.length < 2000000) : impl_Border.f a b c d h l m = some (bordB a b c d h l m) := by
  unfold impl_Border.f bordB
  rw [if_pos ⟨hl, hm⟩, out_i a b c d h l (by omega), Option.bind_some, in_i' a b c d m, Option.bind_some]
  simp only [decide_eq_true_eq]
theorem bordB_len (a b c d h : Int) (l m : List Int) : (bordB a b c d h l m).2.1.length ≤ l.length + m.length ∧ (bordB a b c d h l m).2.2.1.length ≤ l.length + m.length ∧ (bordB a b c d h l m).2.2.2.length ≤ l.length + m.length := by
  unfold bordB
  split
  · refine ⟨Nat.zero_le _, ?_, Nat.le_add_right _ _⟩
    show (bordF a h l m).2.length ≤ _
    unfold bordF
    split
    · simp; omega
    · split
      · simp
      · simp
  · exact ⟨Nat.zero_le _, Nat.zero_le _, Nat.zero_le _⟩
end Go.Proofs.Ytioifcanipijhaa.AidBC
