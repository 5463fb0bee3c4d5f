/- The pure statement of the law FnExactCacheRun: what the given program's function and the reference's come to is the same, for all plain data. No condition. -/
import Derived.Test.YtglehilfemfiiaaPcaR
import Derived.Test.YtglehilfemfiiaaGRx12
import Derived.Test.YtglehilfemfiiaaLst2
namespace Go.Proofs.Ytglehilfemfiiaa.Pure
open Go.RowKit Go.Proofs.Ytglehilfemfiiaa Go.Proofs.Ytglehilfemfiiaa.GR Go.Proofs.Ytglehilfemfiiaa.PcaR Go.Proofs.Ytglehilfemfiiaa.Lst Go.Proofs.YtglehilfemfiiaaW.PrintWords Go.Proofs.YtglehilfemfiiaaW.PrintLast
def useOf (x : S104) : S32 := ⟨x.f0, x.f1⟩
theorem to_uses (l : List S104) (hl : l.length ≤ 9000000) (k : Nat) (hk : l.length < k) : laws_toUseS.f k l = some (l.map useOf) := by
  unfold laws_toUseS.f
  rw [if_pos (by omega), if_pos (by omega)]
  refine to_all laws_toUseS.l0 useOf (fun x i => ⟨(rd_T104 x i).f0, (rd_T104 x i).f1⟩) (fun k x0 x3 i => ?_) l (fun j a h => ?_) z32 (by omega) k hk
  · simp only [laws_toUseS.l0, laws_toUse.f, Option.bind_some]
  · unfold rd_T104
    rw [Int.toNat_natCast, List.getD_eq_getElem?_getD, h]
    rfl
theorem eq_uses (l : List S32) (hl : l.length ≤ 9000000) (k : Nat) (hk : l.length < k) : laws_eqUseS.f k l l = some true := by
  unfold laws_eqUseS.f
  rw [if_pos rfl]
  exact eq_calls laws_eqUseS.l0 (fun _ a b i => laws_eqUse.f ((rd_T32 a i).f0) ((rd_T32 a i).f1) ((rd_T32 b i).f0) ((rd_T32 b i).f1)) 0 (fun _ _ _ _ => rfl) l (fun _ _ i _ => by unfold laws_eqUse.f; rw [if_pos rfl, bne_self_eq_false, if_neg (by simp)]) (by omega) l.length k 0 (by omega) (by omega) (by omega)
theorem eq_accs (l : List S36) (hl : l.length ≤ 9000000) (k : Nat) (hk : l.length < k) : laws_eqAccessS.f k l l = some true := by
  unfold laws_eqAccessS.f
  rw [if_pos rfl]
  exact eq_calls laws_eqAccessS.l0 (fun _ a b i => laws_eqAccess.f ((rd_T36 a i).f0) ((rd_T36 a i).f1) ((rd_T36 a i).f2) ((rd_T36 b i).f0) ((rd_T36 b i).f1) ((rd_T36 b i).f2)) 0 (fun _ _ _ _ => rfl) l (fun _ _ i _ => by unfold laws_eqAccess.f; simp only [bne_self_eq_false, Bool.false_eq_true, if_false]) (by omega) l.length k 0 (by omega) (by omega) (by omega)
theorem rd32_set (l : List S32) (i : Nat) (x : S32) (hi : i < l.length) : rd_T32 (l.set i x) (i : Int) = x := by
  unfold rd_T32
  simp [hi]
theorem rd36_set (l : List S36) (i : Nat) (x : S36) (hi : i < l.length) : rd_T36 (l.set i x) (i : Int) = x := by
  unfold rd_T36
  simp [hi]
theorem mark_uses (l : List S32) (hl : l.length ≤ 9000000) (k : Nat) (hk : l.length < k) : ∃ z, laws_markUseS.f k l 1 = some (1 + 2 * (l.length : Int), z) := by
  refine ⟨_, mark_allS laws_markUseS.l0 (fun m => ⟨m, Int.tmod (m + 1) 3 == 0⟩) 2 (by decide) (fun k x0 m i h0 h1 hi hl => ?_) (fun k x0 m i hi => ?_) l 1 (by decide) (by decide) hl k hk⟩
  · simp only [laws_markUseS.l0, Option.bind_some]
    rw [if_pos (by omega), if_pos (by omega), wr (by omega) (by omega), wr (by omega) (by omega), wr (by omega) (by omega), Int.toNat_natCast, List.set_set, rd32_set _ _ _ hi, show m + 1 + 1 = m + ((2 : Nat) : Int) by omega, show (i : Int) + 1 = ((i + 1 : Nat) : Int) by omega]
  · simp only [laws_markUseS.l0]
    rw [if_neg (by omega)]
def accM (m : Int) : S36 := ⟨Int.tmod m 3 == 0, Int.tmod (m + 1) 3 == 0, Int.tmod (m + 1 + 1) 3 == 0⟩
theorem mark_accs (l : List S36) (hl : l.length ≤ 9000000) (k : Nat) (hk : l.length < k) : laws_markAccessS.f k l 1 = some (1 + 3 * (l.length : Int), marksS accM 3 1 l.length) := by
  refine mark_allS laws_markAccessS.l0 accM 3 (by decide) (fun k x0 m i h0 h1 hi hl => ?_) (fun k x0 m i hi => ?_) l 1 (by decide) (by decide) hl k hk
  · simp only [laws_markAccessS.l0, Option.bind_some]
    rw [if_pos (by omega), if_pos (by omega), wr (n := m + 1) (by omega) (by omega), wr (n := m + 1 + 1) (by omega) (by omega), wr (n := m + 1 + 1 + 1) (by omega) (by omega), wr (n := (i : Int) + 1) (by omega) (by omega), Int.toNat_natCast]
    simp only [List.set_set, rd36_set _ _ _ hi]
    rw [show m + 1 + 1 + 1 = m + ((3 : Nat) : Int) by omega, show (i : Int) + 1 = ((i + 1 : Nat) : Int) by omega]
    rfl
  · simp only [laws_markAccessS.l0]
    rw [if_neg (by omega)]
theorem held_accs (n : Nat) (hl : n ≤ 9000000) (k : Nat) (hk : n < k) : laws_heldAccessS.f k (marksS accM 3 1 n) 1 = some (1 + 3 * (n : Int)) := by
  refine held_allS laws_heldAccessS.l0 accM 3 (by decide) (fun k x0 m i h0 h1 hi hl => ?_) (fun k x0 m i hi => ?_) 1 n (by decide) (by decide) hl k hk
  · have hlt : i < x0.length := (List.getElem?_eq_some_iff.1 hi).1
    have e : rd_T36 x0 (i : Int) = accM m := by
      unfold rd_T36
      rw [Int.toNat_natCast, List.getD_eq_getElem?_getD, hi]
      rfl
    simp only [laws_heldAccessS.l0]
    rw [if_pos (by omega), if_pos (by omega), wr (n := m + 1) (by omega) (by omega), wr (n := m + 1 + 1) (by omega) (by omega), wr (n := m + 1 + 1 + 1) (by omega) (by omega), wr (n := (i : Int) + 1) (by omega) (by omega), e, show (accM m).f0 = (Int.tmod m 3 == 0) from rfl, show (accM m).f1 = (Int.tmod (m + 1) 3 == 0) from rfl, show (accM m).f2 = (Int.tmod (m + 1 + 1) 3 == 0) from rfl]
    simp only [bne_self_eq_false, Bool.false_eq_true, if_false]
    rw [show m + 1 + 1 + 1 = m + ((3 : Nat) : Int) by omega, show (i : Int) + 1 = ((i + 1 : Nat) : Int) by omega]
  · simp only [laws_heldAccessS.l0]
    rw [if_neg (by omega)]
theorem runC_len (s0 s1 s2 : Int) : ∀ (us : List S32) (rows : List (List S118)), (runC s0 s1 s2 rows us).length = us.length
  | [], _ => rfl
  | u :: us, rows => by rw [runC, List.length_cons, runC_len s0 s1 s2 us, List.length_cons]
theorem FnExactCacheRun : ∀ (a0_0 : Int) (a0_1 : Int) (a0_2 : Int) (l1 : List (GR.S104)), ((Lit.int .i64 a0_0).wf = true) → ((Lit.int .i64 a0_1).wf = true) → ((Lit.int .i64 a0_2).wf = true) → (l1.length ≤ maxLen ∧ ∀ x_ ∈ l1, ((Lit.int .i64 x_.f0).wf = true)) → ∃ k, GR.laws_FnExactCacheRun.f k a0_0 a0_1 a0_2 l1 = some true := by
  intro a b c l ha hb hc hl
  obtain ⟨K, hK⟩ : ∃ K : Nat, K = 4000000 := ⟨_, rfl⟩
  refine ⟨K + 9, ?_⟩
  have hl1 := hl.1
  unfold maxLen at hl1
  unfold laws_FnExactCacheRun.f laws_szUseS.f laws_toShape.f
  rw [wr (by omega) (by omega)]
  by_cases hn : (1048576 : Int) - (l.length : Int) < 0
  · rw [if_pos hn, Option.bind_some, if_pos (by decide)]
  · rw [if_neg hn, Option.bind_some, if_neg hn, Option.bind_some]
    have hlen : l.length ≤ 1048576 := by omega
    have hto : ∀ k, laws_toUseS.f (K + k) l = some (l.map useOf) := fun k => to_uses l (by omega) (K + k) (by omega)
    obtain ⟨r, hr, hrl⟩ : ∃ r, impl_CacheRun.f a b c (l.map useOf) = some r ∧ r.length ≤ 2000 := by
      refine ⟨_, rfl, ?_⟩
      split
      · rename_i h
        rw [runC_len]
        exact h.2.1
      · simp
    have hsp : spec_CacheRun.f (K + 9) a b c (l.map useOf) = some r := (spec_run a b c (l.map useOf) (by simp; omega) (K + 9) (by simp; omega)).trans hr
    have hes : ∀ k, laws_eqAccessS.f (K + k) r r = some true := fun k => eq_accs _ (by omega) (K + k) (by omega)
    have heo : ∀ k, laws_eqUseS.f (K + k) (l.map useOf) (l.map useOf) = some true := fun k => eq_uses _ (by simp; omega) (K + k) (by simp; omega)
    obtain ⟨z, hz⟩ := mark_uses (l.map useOf) (by simp; omega) (K + 9) (by simp; omega)
    have hms := mark_accs r (by omega) (K + 8) (by omega)
    have hhs := held_accs r.length (by omega) (K + 8) (by omega)
    have n1 : ¬ (1 + 2 * ((l.map useOf).length : Int) < 0) := by omega
    have n2 : ¬ (1 + 3 * (r.length : Int) < 0) := by omega
    simp only [hto, Option.bind_some, hsp, hr, hes, heo, hz, if_true]
    rw [if_neg n1]
    simp only [laws_FnExactCacheRun.j0, Bool.not_true, Bool.false_eq_true, if_false, hms, hhs, Option.bind_some, laws_toShape.f, hto, hr, hes, if_true]
    rw [if_neg n2, if_neg n2]
end Go.Proofs.Ytglehilfemfiiaa.Pure
