/- The pure statement of the law FnExactChanPlay: what the given program's function and the reference's come to is the same, for all plain data. No condition. -/
import Derived.Test.YtioifcanipijhaaGCx0
import Derived.Test.YtioifcanipijhaaGCx10
import Derived.Test.YtioifcanipijhaaGCx11
import Derived.Test.YtioifcanipijhaaGCx12
import Derived.Test.YtioifcanipijhaaGCx13
import Derived.Test.YtioifcanipijhaaGCx14
import Derived.Test.YtioifcanipijhaaGCx4
import Derived.Test.YtioifcanipijhaaAidC
import Derived.Test.YtioifcanipijhaaLst2
namespace Go.Proofs.Ytioifcanipijhaa.Pure
open Go.RowKit Go.Proofs.Ytioifcanipijhaa Go.Proofs.Ytioifcanipijhaa.GC Go.Proofs.Ytioifcanipijhaa.AidC Go.Proofs.Ytioifcanipijhaa.Lst Go.Proofs.YtioifcanipijhaaW.PrintWords Go.Proofs.YtioifcanipijhaaW.PrintLast
/-- An operation as it was handed in, and as the program has it. -/
def opOf (x : S104) : S70 := ⟨x.f0, x.f1⟩
theorem to_ops (l : List S104) (hl : l.length ≤ 9000000) (k : Nat) (hk : l.length < k) : laws_toChanOpS.f k l = some (l.map opOf) := by
  unfold laws_toChanOpS.f
  rw [if_pos (by omega), if_pos (by omega)]
  refine to_all laws_toChanOpS.l0 opOf (fun x i => ⟨(rd_T104 x i).f0, (rd_T104 x i).f1⟩) (fun k x0 x3 i => ?_) l (fun j a h => ?_) z70 (by omega) k hk
  · simp only [laws_toChanOpS.l0, laws_toChanOp.f, Option.bind_some]
  · unfold rd_T104
    rw [Int.toNat_natCast, List.getD_eq_getElem?_getD, h]
    rfl
theorem eq_ops (l : List S70) (hl : l.length ≤ 9000000) (k : Nat) (hk : l.length < k) : laws_eqChanOpS.f k l l = some true := by
  unfold laws_eqChanOpS.f
  rw [if_pos rfl]
  exact eq_calls laws_eqChanOpS.l0 (fun _ a b i => laws_eqChanOp.f ((rd_T70 a i).f0) ((rd_T70 a i).f1) ((rd_T70 b i).f0) ((rd_T70 b i).f1)) 0 (fun _ _ _ _ => rfl) l (fun _ _ i _ => by unfold laws_eqChanOp.f; rw [if_pos rfl, if_pos rfl]) (by omega) l.length k 0 (by omega) (by omega) (by omega)
theorem eq_said (l : List S72) (hl : l.length ≤ 9000000) (k : Nat) (hk : l.length < k) : laws_eqChanSaidS.f k l l = some true := by
  unfold laws_eqChanSaidS.f
  rw [if_pos rfl]
  exact eq_calls laws_eqChanSaidS.l0 (fun _ a b i => laws_eqChanSaid.f ((rd_T72 a i).f0) ((rd_T72 a i).f1) ((rd_T72 b i).f0) ((rd_T72 b i).f1)) 0 (fun _ _ _ _ => rfl) l (fun _ _ i _ => by unfold laws_eqChanSaid.f; rw [if_pos rfl, if_pos rfl]) (by omega) l.length k 0 (by omega) (by omega) (by omega)
theorem mark_ops (l : List S70) (hl : l.length ≤ 9000000) (k : Nat) (hk : l.length < k) : ∃ z, laws_markChanOpS.f k l 1 = some (1 + 2 * (l.length : Int), z) := by
  refine ⟨_, mark_allS laws_markChanOpS.l0 (fun m => ⟨m, (m + 1) % 4294967296⟩) 2 (by decide) (fun k x0 m i h0 h1 hi hl => ?_) (fun k x0 m i hi => ?_) l 1 (by decide) (by decide) hl k hk⟩
  · simp only [laws_markChanOpS.l0, Option.bind_some]
    rw [if_pos (by omega), if_pos (by omega), wr (by omega) (by omega), wr (by omega) (by omega), wr (by omega) (by omega), Int.toNat_natCast, List.set_set]
    have e : (rd_T70 (x0.set i ⟨m, (rd_T70 x0 (i : Int)).f1⟩) (i : Int)).f0 = m := by
      unfold rd_T70
      simp [hi]
    rw [e, show m + 1 + 1 = m + ((2 : Nat) : Int) by omega, show (i : Int) + 1 = ((i + 1 : Nat) : Int) by omega]
  · simp only [laws_markChanOpS.l0]
    rw [if_neg (by omega)]
def saidM (m : Int) : S72 := ⟨m, (m + 1) % 4294967296⟩
theorem mark_said (l : List S72) (hl : l.length ≤ 9000000) (k : Nat) (hk : l.length < k) : laws_markChanSaidS.f k l 1 = some (1 + 2 * (l.length : Int), marksS saidM 2 1 l.length) := by
  refine mark_allS laws_markChanSaidS.l0 saidM 2 (by decide) (fun k x0 m i h0 h1 hi hl => ?_) (fun k x0 m i hi => ?_) l 1 (by decide) (by decide) hl k hk
  · simp only [laws_markChanSaidS.l0, Option.bind_some]
    rw [if_pos (by omega), if_pos (by omega), wr (by omega) (by omega), wr (by omega) (by omega), wr (by omega) (by omega), Int.toNat_natCast, List.set_set]
    have e : (rd_T72 (x0.set i ⟨m, (rd_T72 x0 (i : Int)).f1⟩) (i : Int)).f0 = m := by
      unfold rd_T72
      simp [hi]
    rw [e, show m + 1 + 1 = m + ((2 : Nat) : Int) by omega, show (i : Int) + 1 = ((i + 1 : Nat) : Int) by omega]
    rfl
  · simp only [laws_markChanSaidS.l0]
    rw [if_neg (by omega)]
theorem held_said (n : Nat) (hl : n ≤ 9000000) (k : Nat) (hk : n < k) : laws_heldChanSaidS.f k (marksS saidM 2 1 n) 1 = some (1 + 2 * (n : Int)) := by
  refine held_allS laws_heldChanSaidS.l0 saidM 2 (by decide) (fun k x0 m i h0 h1 hi hl => ?_) (fun k x0 m i hi => ?_) 1 n (by decide) (by decide) hl k hk
  · have hlt : i < x0.length := (List.getElem?_eq_some_iff.1 hi).1
    have e : rd_T72 x0 (i : Int) = saidM m := by
      unfold rd_T72
      rw [Int.toNat_natCast, List.getD_eq_getElem?_getD, hi]
      rfl
    simp only [laws_heldChanSaidS.l0]
    rw [if_pos (by omega), if_pos (by omega), wr (by omega) (by omega), wr (by omega) (by omega), wr (by omega) (by omega), e, if_pos (show (saidM m).f0 = m from rfl), if_pos (show (saidM m).f1 = (m + 1) % 4294967296 from rfl), show m + 1 + 1 = m + ((2 : Nat) : Int) by omega, show (i : Int) + 1 = ((i + 1 : Nat) : Int) by omega]
  · simp only [laws_heldChanSaidS.l0]
    rw [if_neg (by omega)]
theorem playB_len (a b c d : Int) (ops : List S70) : (playB a b c d ops).length ≤ 1000 := by
  unfold playB
  split
  · rename_i h
    rw [playF_length]
    exact h.2.1
  · simp
theorem FnExactChanPlay : ∀ (a0_0 : Int) (a0_1 : Int) (a0_2 : Int) (a0_3 : Int) (l1 : List (GC.S104)), ((Lit.int .i64 a0_0).wf = true) → ((Lit.int .i64 a0_1).wf = true) → ((Lit.int .i64 a0_2).wf = true) → ((Lit.int .i64 a0_3).wf = true) → (l1.length ≤ maxLen ∧ ∀ x_ ∈ l1, ((Lit.int .i64 x_.f0).wf = true) ∧ ((Lit.int .u32 x_.f1).wf = true)) → ∃ k, GC.laws_FnExactChanPlay.f k a0_0 a0_1 a0_2 a0_3 l1 = some true := by
  intro a b c d l ha hb hc hd hl
  obtain ⟨K, hK⟩ : ∃ K : Nat, K = 2000000 := ⟨_, rfl⟩
  refine ⟨K + 9, ?_⟩
  have hl1 := hl.1
  unfold maxLen at hl1
  unfold laws_FnExactChanPlay.f laws_szChanOpS.f laws_toChanRow.f
  rw [wr (by omega) (by omega)]
  by_cases hn : (1048576 : Int) - (l.length : Int) < 0
  · rw [if_pos hn, Option.bind_some, if_pos (by decide)]
  · rw [if_neg hn, Option.bind_some, if_neg hn, Option.bind_some]
    have hlen : l.length ≤ 1048576 := by omega
    have hto : ∀ k, laws_toChanOpS.f (K + k) l = some (l.map opOf) := fun k => to_ops l (by omega) (K + k) (by omega)
    have hpl := playB_len a b c d (l.map opOf)
    have hes : ∀ k, laws_eqChanSaidS.f (K + k) (playB a b c d (l.map opOf)) (playB a b c d (l.map opOf)) = some true := fun k => eq_said _ (by omega) (K + k) (by omega)
    have heo : ∀ k, laws_eqChanOpS.f (K + k) (l.map opOf) (l.map opOf) = some true := fun k => eq_ops _ (by simp; omega) (K + k) (by simp; omega)
    obtain ⟨z, hz⟩ := mark_ops (l.map opOf) (by simp; omega) (K + 9) (by simp; omega)
    have hms := mark_said (playB a b c d (l.map opOf)) (by omega) (K + 8) (by omega)
    have hhs := held_said (playB a b c d (l.map opOf)).length (by omega) (K + 8) (by omega)
    have hsp := play_s a b c d (l.map opOf) (K + 9) (by omega)
    have n1 : ¬ (1 + 2 * ((l.map opOf).length : Int) < 0) := by omega
    have n2 : ¬ (1 + 2 * ((playB a b c d (l.map opOf)).length : Int) < 0) := by omega
    simp only [hto, Option.bind_some, hsp, play_i, hes, heo, hz, if_true]
    rw [if_neg n1]
    simp only [laws_FnExactChanPlay.j0, Bool.not_true, Bool.false_eq_true, if_false, hms, hhs, Option.bind_some, laws_toChanRow.f, hto, play_i, hes, if_true]
    rw [if_neg n2, if_neg n2]
end Go.Proofs.Ytioifcanipijhaa.Pure
