/- The pure statement of the law FnExactReach: the program's function and the reference's come to the same. -/
import Derived.Test.YtampcamihaleaaaAidWD
import Derived.Test.YtampcamihaleaaaGDx4
namespace Go.Proofs.Ytampcamihaleaaa.Pure
open Go.RowKit Go.Proofs.Ytampcamihaleaaa Go.Proofs.Ytampcamihaleaaa.AidWD Go.Proofs.Ytampcamihaleaaa.Lst Go.Proofs.Ytampcamihaleaaa.GD Go.Proofs.YtampcamihaleaaaW.PrintWords Go.Proofs.YtampcamihaleaaaW.PrintLast
/-- What of a window lies at x or beyond it. -/
def ov (x : Int) (v : S41) : Int := if x ≤ v.f0 then v.f1 else if x < v.f0 + v.f1 then v.f0 + v.f1 - x else 0
def ovs (x : Int) : List S41 → Int
  | [] => 0
  | v :: t => ov x v + ovs x t
def sumF : List S41 → Int
  | [] => 0
  | v :: t => v.f1 + sumF t
def Ap (v u : S41) : Prop := v.f0 + v.f1 ≤ u.f0 ∨ u.f0 + u.f1 ≤ v.f0
theorem has_b (x : Int) (v : S41) (h : WinB v) : hasB x v = decide (v.f0 ≤ x ∧ x < v.f0 + v.f1) := by
  obtain ⟨h1, h2, _, _, h5, _⟩ := h
  unfold hasB
  rw [show wrap64 (v.f0 + v.f1) = v.f0 + v.f1 by unfold wrap64; omega]
  exact (Bool.decide_and _ _).symm
theorem ovs_0 : ∀ l : List S41, (∀ v ∈ l, WinB v) → ovs 0 l = sumF l ∧ 0 ≤ sumF l ∧ sumF l ≤ 2048 * l.length
  | [], _ => ⟨rfl, Int.le_refl _, by simp [sumF]⟩
  | v :: t, h => by
    have hv := h v (by simp)
    obtain ⟨h1, h2, _, _, h5, _⟩ := hv
    have ⟨i1, i2, i3⟩ := ovs_0 t (fun u hu => h u (by simp [hu]))
    simp only [ovs, sumF, List.length_cons, ov]
    rw [if_pos h1, i1]
    refine ⟨rfl, by omega, ?_⟩
    rw [Int.natCast_add]
    omega
theorem ovs_pos (x : Int) : ∀ l : List S41, (∀ v ∈ l, WinB v) → 0 ≤ ovs x l
  | [], _ => Int.le_refl _
  | v :: t, h => by
    have hv := h v (by simp)
    obtain ⟨h1, h2, _, _, h5, _⟩ := hv
    have := ovs_pos x t (fun u hu => h u (by simp [hu]))
    simp only [ovs, ov]
    split
    · omega
    · split <;> omega
theorem ovs_end : ∀ l : List S41, (∀ v ∈ l, WinB v) → ovs 2048 l = 0
  | [], _ => rfl
  | v :: t, h => by
    have hv := h v (by simp)
    obtain ⟨h1, h2, _, _, h5, _⟩ := hv
    have := ovs_end t (fun u hu => h u (by simp [hu]))
    simp only [ovs, ov]
    rw [if_neg (by omega), if_neg (by omega), this]
    rfl
theorem ovs_step (x : Int) : ∀ l : List S41, (∀ v ∈ l, WinB v) → l.Pairwise Ap → ovs x l = ovs (x + 1) l + (if l.any (hasB x) = true then 1 else 0)
  | [], _, _ => rfl
  | v :: t, h, hp => by
    have hv := h v (by simp)
    have ht : ∀ u ∈ t, WinB u := fun u hu => h u (by simp [hu])
    have ih := ovs_step x t ht (List.Pairwise.of_cons hp)
    have hap := (List.pairwise_cons.1 hp).1
    simp only [ovs]
    have hb := has_b x v hv
    obtain ⟨h1, h2, _, _, h5, _⟩ := hv
    by_cases c : v.f0 ≤ x ∧ x < v.f0 + v.f1
    · have hb : hasB x v = true := by rw [hb]; exact decide_eq_true c
      have hn : t.any (hasB x) = false := by
        rw [List.any_eq_false]
        intro u hu
        rw [has_b x u (ht u hu)]
        have := hap u hu
        unfold Ap at this
        simp only [decide_eq_true_eq]
        omega
      rw [hn, if_neg (by decide)] at ih
      rw [if_pos (show (v :: t).any (hasB x) = true by rw [List.any_cons, hb, Bool.true_or]), ih]
      unfold ov
      by_cases e : x ≤ v.f0
      · rw [if_pos e, if_neg (by omega)]
        split <;> omega
      · rw [if_neg e, if_pos c.2, if_neg (by omega)]
        split <;> omega
    · have hb : hasB x v = false := by rw [hb]; exact decide_eq_false c
      have e2 : (v :: t).any (hasB x) = t.any (hasB x) := by rw [List.any_cons, hb, Bool.false_or]
      simp only [e2]
      rw [ih]
      have : ov x v = ov (x + 1) v := by
        unfold ov
        by_cases e : x ≤ v.f0
        · rw [if_pos e, if_pos (by omega)]
        · rw [if_neg e, if_neg (by omega), if_neg (by omega), if_neg (by omega)]
      omega
theorem pair_ap (l : List S41) (hl : ∀ x ∈ l, WfW x) (h : areWB l = true) : l.Pairwise Ap := by
  rw [List.pairwise_iff_getElem]
  intro i j hi hj hij
  have := areW_apart hl h j i hij hj
  have e1 := rd_at l i hi
  have e2 := rd_at l j hj
  rw [List.getElem?_eq_getElem hi] at e1
  rw [List.getElem?_eq_getElem hj] at e2
  injection e1 with e1
  injection e2 with e2
  rw [e1, e2]
  exact this
theorem wr_sum (n : Int) (h : 0 ≤ n) (h2 : n ≤ 100000) : wrap64 n = n := by unfold wrap64; omega
theorem reach_s (l : List S41) (hw : ∀ v ∈ l, WinB v) (hp : l.Pairwise Ap) (h4 : l.length ≤ 4) : ∀ (d k : Nat) (s x : Int), 0 ≤ x → 2048 - x = d → d + 10 ≤ k → 0 ≤ s → s + ovs x l ≤ 100000 →
    spec_Reach.l0 k l s x = some (s + ovs x l) := by
  intro d
  induction d with
  | zero =>
    intro k s x h0 hd hk hs hb
    obtain ⟨k, rfl⟩ : ∃ m, k = m + 1 := ⟨k - 1, by omega⟩
    obtain rfl : x = 2048 := by omega
    simp only [spec_Reach.l0]
    rw [if_neg (by decide), ovs_end l hw, Int.add_zero]
  | succ d ih =>
    intro k s x h0 hd hk hs hb
    obtain ⟨k, rfl⟩ : ∃ m, k = m + 1 := ⟨k - 1, by omega⟩
    have st := ovs_step x l hw hp
    have hn := ovs_pos (x + 1) l hw
    have c0 : x < 2048 := by omega
    have c1 : 0 ≤ x + 1 := by omega
    have c2 : 2048 - (x + 1) = (d : Int) := by omega
    have c3 : d + 10 ≤ k := by omega
    have c4 : l.length < k := by omega
    have c5 : l.length ≤ 9000000 := by omega
    have c6 : 0 ≤ s + 1 := by omega
    have ha := idxB_any (hasB x) l
    by_cases c : idxB (hasB x) l ≥ 0
    · have ha : l.any (hasB x) = true := by rw [← idxB_any]; exact decide_eq_true c
      rw [if_pos ha] at st
      have c7 : s + 1 + ovs (x + 1) l ≤ 100000 := by omega
      have c8 : s + 1 + ovs (x + 1) l = s + ovs x l := by omega
      have c9 : s + 1 ≤ 100000 := by omega
      simp only [spec_Reach.l0]
      rw [if_pos c0, at_s l x c5 k c4, Option.bind_some, wr_sum (x + 1) c1 (by omega), if_pos c, wr_sum (s + 1) c6 c9, ih k (s + 1) (x + 1) c1 c2 c3 c6 c7, c8]
    · have ha : ¬ l.any (hasB x) = true := by rw [← idxB_any]; intro h; exact c (of_decide_eq_true h)
      rw [if_neg ha] at st
      have c7 : s + ovs (x + 1) l ≤ 100000 := by omega
      have c8 : s + ovs (x + 1) l = s + ovs x l := by omega
      simp only [spec_Reach.l0]
      rw [if_pos c0, at_s l x c5 k c4, Option.bind_some, wr_sum (x + 1) c1 (by omega), if_neg c, ih k s (x + 1) c1 c2 c3 hs c7, c8]
theorem sum_drop (l : List S41) (i : Nat) (hi : i < l.length) : sumF (l.drop i) = (rd_T41 l (i : Int)).f1 + sumF (l.drop (i + 1)) := by
  have e1 := rd_at l i hi
  rw [List.getElem?_eq_getElem hi] at e1
  injection e1 with e1
  rw [List.drop_eq_getElem_cons hi, e1]
  rfl
theorem reach_i (l : List S41) (hw : ∀ v ∈ l, WinB v) (h4 : l.length ≤ 4) : ∀ (d k i : Nat) (s : Int), i ≤ l.length → l.length - i = d → d < k → 0 ≤ s → s + sumF (l.drop i) ≤ 100000 →
    impl_Reach.l0 k s l (l.length : Int) (i : Int) = some (s + sumF (l.drop i)) := by
  intro d
  induction d with
  | zero =>
    intro k i s hi hd hk hs hb
    obtain ⟨k, rfl⟩ : ∃ m, k = m + 1 := ⟨k - 1, by omega⟩
    simp only [impl_Reach.l0]
    rw [if_neg (by omega), List.drop_eq_nil_of_le (by omega)]
    simp [sumF]
  | succ d ih =>
    intro k i s hi hd hk hs hb
    obtain ⟨k, rfl⟩ : ∃ m, k = m + 1 := ⟨k - 1, by omega⟩
    have hlt : i < l.length := by omega
    have sd := sum_drop l i hlt
    have hn := (ovs_0 (l.drop (i + 1)) (fun v hv => hw v (List.mem_of_mem_drop hv))).2.1
    obtain ⟨h1, h2, _, _, h5, _⟩ := mem_rd hw i hlt
    have c1 : (i : Int) < (l.length : Int) := by omega
    have c2 : (0 : Int) ≤ (i : Int) := by omega
    have c3 : i + 1 ≤ l.length := by omega
    have c4 : l.length - (i + 1) = d := by omega
    have c5 : d < k := by omega
    have c6 : 0 ≤ s + (rd_T41 l (i : Int)).f1 := by omega
    have c7 : s + (rd_T41 l (i : Int)).f1 + sumF (l.drop (i + 1)) ≤ 100000 := by omega
    have c8 : s + (rd_T41 l (i : Int)).f1 ≤ 100000 := by omega
    have hx : wrap64 ((i : Int) + 1) = ((i + 1 : Nat) : Int) := wr_succ i (by omega)
    have hs1 : wrap64 (s + (rd_T41 l (i : Int)).f1) = s + (rd_T41 l (i : Int)).f1 := wr_sum _ c6 c8
    simp only [impl_Reach.l0]
    rw [if_pos c1, if_pos c2, if_pos c1, hx, hs1, ih k (i + 1) _ c3 c4 c5 c6 c7, sd, Int.add_assoc]
theorem rch_s (l : List S41) (hl : ∀ x ∈ l, WfW x) (k : Nat) (hk : 3000 ≤ k) : spec_Reach.f k l = some (if areWB l = true then sumF l else 0) := by
  unfold spec_Reach.f
  rw [windows_s l hl k (by omega), Option.bind_some]
  by_cases h : areWB l = true
  · have hw := areW_win hl h
    have h4 := areW_len h
    have ⟨e, _, e3⟩ := ovs_0 l hw
    rw [if_pos h, if_pos h, reach_s l hw (pair_ap l hl h) h4 2048 k 0 0 (by omega) (by omega) (by omega) (by omega) (by omega), e, Int.zero_add]
  · rw [if_neg h, if_neg h]
theorem rch_i (l : List S41) (hl : ∀ x ∈ l, WfW x) (k : Nat) (hk : l.length < k) : impl_Reach.f k l = some (if areWB l = true then sumF l else 0) := by
  unfold impl_Reach.f
  show (if areWB l = true then _ else _) = _
  by_cases h : areWB l = true
  · have hw := areW_win hl h
    have h4 := areW_len h
    have ⟨e, _, e3⟩ := ovs_0 l hw
    have := reach_i l hw h4 l.length k 0 0 (by omega) (by omega) hk (by omega) (by rw [List.drop_zero]; omega)
    rw [if_pos h, if_pos h]
    simpa using this
  · rw [if_neg h, if_neg h]
theorem FnExactReach : ∀ (l0 : List (GD.S45)), (l0.length ≤ maxLen ∧ ∀ x_ ∈ l0, ((Lit.int .i64 x_.f0).wf = true) ∧ (((Lit.int .i64 x_.f1).wf = true) ∧ ((Lit.int .i64 x_.f2).wf = true))) → ∃ k, GD.laws_FnExactReach.f k l0 = some true := by
  intro l0  ⟨hlen, hwf⟩ 
  refine ⟨l0.length + 5000, ?_⟩
  generalize hk : l0.length + 5000 = k
  unfold laws_FnExactReach.f
  rw [sz_w l0 hlen 1048576 (by decide) (by decide), Option.bind_some]
  by_cases h : (1048576 : Int) < (l0.length : Int)
  · rw [if_pos h, if_pos (by decide)]
  · rw [if_neg h, if_neg (by omega)]
    have hm : (l0.map toW).length ≤ 9000000 := by rw [List.length_map]; omega
    have hmk : (l0.map toW).length + 2000 < k := by rw [List.length_map]; omega
    rw [to_w l0 (by omega) k (by omega), Option.bind_some]
    have hs := rch_s (l0.map toW) (map_wf l0 hwf) k (by omega)
    have hi := rch_i (l0.map toW) (map_wf l0 hwf) k (by omega)
    rw [hs, Option.bind_some, Option.bind_some, hi, Option.bind_some, if_pos rfl, Option.bind_some, eq_w _ hm k (by omega), Option.bind_some, if_pos rfl]
end Go.Proofs.Ytampcamihaleaaa.Pure
