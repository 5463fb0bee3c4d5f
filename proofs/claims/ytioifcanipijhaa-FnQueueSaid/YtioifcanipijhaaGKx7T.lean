/- Told by a program of this session, out of the translation: each function of the group as a plain Lean function, and that Go's call comes to just its answer. Lean checks it. -/
import Derived.Test.YtioifcanipijhaaGKx0T
import Derived.Test.YtioifcanipijhaaGKx1T
import Derived.Test.YtioifcanipijhaaGKx2T
import Derived.Test.YtioifcanipijhaaGKx3T
import Derived.Test.YtioifcanipijhaaGKx5T
import Derived.Test.YtioifcanipijhaaGKx6T
namespace Go.Proofs.Ytioifcanipijhaa.GK
open Go.RowKit Go.Proofs.YtioifcanipijhaaW.PrintWords Go.Proofs.YtioifcanipijhaaW.PrintLast Go.Proofs.YtioifcanipijhaaW.PrintMore Go.Proofs.Ytioifcanipijhaa.Q
attribute [local go_sem] max2_int min2_int max_two min_two max_three min_three max_four min_four   -- for this text's walks alone
set_option linter.unusedVariables false
set_option linter.unusedSimpArgs false

/-! ### spec_ChanPlay: function 48 -/
mutual
def spec_ChanPlay.j0 : Nat → List (S70) → List (S72) → Bool → Int → Int → Int → Int → Option ((List (S72)))
 | 0, _, _, _, _, _, _, _ => none
 | k + 1, x1, x5, x27, x198000, x198001, x198002, x198003 => if x27 = true then (some x5) else (spec_ChanPlay.l0 k x1 x5 0 x198000 x198001 x198002 x198003)
def spec_ChanPlay.l0 : Nat → List (S70) → List (S72) → Int → Int → Int → Int → Int → Option ((List (S72)))
 | 0, _, _, _, _, _, _, _ => none
 | k + 1, x1, x5, x6, x198000, x198001, x198002, x198003 => if x6 < (x1.length : Int) then (if 0 ≤ x6 then ((spec_l01In.f ((rd_T70 x1 x6).f0) 0 3).bind fun t203 => (if t203 = true then (spec_ChanPlay.l0 k x1 x5 (wrap64 (x6 + 1)) x198000 x198001 x198002 x198003) else (some (([] : List (S72)))))) else (none)) else (spec_ChanPlay.l1 k x1 x5 0 x198000 x198001 x198002 x198003 0 ([] : List Int) ([] : List Int))
def spec_ChanPlay.l1 : Nat → List (S70) → List (S72) → Int → Int → Int → Int → Int → Int → List Int → List Int → Option ((List (S72)))
 | 0, _, _, _, _, _, _, _, _, _, _ => none
 | k + 1, x1, x5, x9, x198000, x198001, x198002, x198003, x208000, x208001, x209000 => if x9 < (x1.length : Int) then (if 0 ≤ x9 then (if ((rd_T70 x1 x9).f0) = 0 then ((spec_SendOn.f x198000 x198001 x198002 x198003 x208000 x208001 ((rd_T70 x1 x9).f1)).bind fun bt212 => (if x5.length < 8796093022208 then (spec_ChanPlay.l1 k x1 (x5 ++ [(⟨bt212.2.2, 0⟩ : S72)]) (wrap64 (x9 + 1)) x198000 x198001 x198002 x198003 bt212.1 bt212.2.1 x209000) else (none))) else (if ((rd_T70 x1 x9).f0) = 1 then ((spec_RecvOn.f x198000 x198001 x198002 x198003 x209000).bind fun bt221 => (if x5.length < 8796093022208 then (spec_ChanPlay.l1 k x1 (x5 ++ [(⟨bt221.2.2, bt221.2.1⟩ : S72)]) (wrap64 (x9 + 1)) x198000 x198001 x198002 x198003 x208000 x208001 bt221.1) else (none))) else (if ((rd_T70 x1 x9).f0) = 2 then ((spec_Border.f k x198000 x198001 x198002 x198003 x208000 x208001 x209000).bind fun bt230 => (if x5.length < 8796093022208 then (spec_ChanPlay.l1 k x1 (x5 ++ [(⟨0, 0⟩ : S72)]) (wrap64 (x9 + 1)) x198000 x198001 x198002 x198003 bt230.1 bt230.2.1 bt230.2.2.1) else (none))) else ((spec_Discard.f x198000 x198001 x198002 x198003 x208000 x208001).bind fun bt245 => (if x5.length < 8796093022208 then (spec_ChanPlay.l1 k x1 (x5 ++ [(⟨0, 0⟩ : S72)]) (wrap64 (x9 + 1)) x198000 x198001 x198002 x198003 bt245.1 bt245.2 x209000) else (none)))))) else (none)) else (some x5)
end
def spec_ChanPlay.f (k : Nat) (a0_0 : Int) (a0_1 : Int) (a0_2 : Int) (a0_3 : Int) (l1 : List (S70)) : Option ((List (S72))) := (some (([] : List (S72)) : List (S72))).bind fun y198 => ((spec_ChanOk.f a0_0 a0_1 a0_2 a0_3).bind fun t201 => (if t201 = true then (spec_ChanPlay.j0 k l1 y198 (decide ((l1.length : Int) > 1000)) a0_0 a0_1 a0_2 a0_3) else (spec_ChanPlay.j0 k l1 y198 true a0_0 a0_1 a0_2 a0_3)))
def spec_ChanPlay.T17 : Bool × List (List Nat × List Nat) := (true, [([], []), ([], []), ([], []), ([], []), ([2, 3], [2, 3]), ([4], [4]), ([5], [5]), ([0, 1, 6], [0, 1, 6]), ([7], [7]), ([8], [8]), ([8], [8]), ([], []), ([11, 9, 7, 0, 1, 2, 3, 4, 5, 6, 7, 8, 9, 11], [9, 11]), ([10, 12, 0, 1, 2, 3, 4, 5, 6, 7, 8, 9, 10, 11, 12], [10])])
def spec_ChanPlay.B17 : List Nat := [0, 0, 0, 0, 12, 28, 60, 127, 255, 511, 511, 0, 3071, 8191]
theorem spec_ChanPlay.tab17 : rtab .any (opsOf Try.f48 17) = spec_ChanPlay.T17 := by kernel_rfl
theorem spec_ChanPlay.bits17 : waitsOk spec_ChanPlay.T17.2 spec_ChanPlay.B17 = true := by kernel_rfl
set_option maxHeartbeats 8000000 in
set_option maxRecDepth 100000 in
theorem spec_ChanPlay.calls (k : Nat) (a0_0 : Int) (a0_1 : Int) (a0_2 : Int) (a0_3 : Int) (A1 : Option Addr) (c1 : Nat) (l1 : List (S70)) (r : List (S72)) (w : World) (hr1 : Kd.C k70 w A1 l1.length l1) (hc1 : l1.length ≤ c1) (h : spec_ChanPlay.f k a0_0 a0_1 a0_2 a0_3 l1 = some r) :
  Calls Try.prog 48 #[.agg #[.int .i64 a0_0, .int .i64 a0_1, .int .i64 a0_2, .int .i64 a0_3], .slice A1 l1.length c1] w fun e w' => ∃ v0_ : Value, e = .returned (v0_) ∧ Kd.R k72 72 w' w.heap.size (fun _ => True) v0_ r ∧ Below w.heap.size w w' := by
 have hu29 := Try.underlying29
 have hu39 := Try.underlying39
 have hu31 := Try.underlying31
 have hu72 := Try.underlying72
 have HR1 := Aside0.mk hr1
 have HC1 := Aside0.mk hc1
 clear hr1 hc1
 have HB := Aside0.mk (Below.refl w.heap.size w)
 have H : ((some (([] : List (S72)) : List (S72))).bind fun y198 => ((spec_ChanOk.f a0_0 a0_1 a0_2 a0_3).bind fun t201 => (if t201 = true then (spec_ChanPlay.j0 k l1 y198 (decide ((l1.length : Int) > 1000)) a0_0 a0_1 a0_2 a0_3) else (spec_ChanPlay.j0 k l1 y198 true a0_0 a0_1 a0_2 a0_3)))) = some r := h
 clear h
 obtain ⟨y198, hy198⟩ : ∃ y_ : List (S72), y_ = (([] : List (S72))) := ⟨_, rfl⟩
 replace H : ((spec_ChanOk.f a0_0 a0_1 a0_2 a0_3).bind fun t201 => (if t201 = true then (spec_ChanPlay.j0 k l1 y198 (decide ((l1.length : Int) > 1000)) a0_0 a0_1 a0_2 a0_3) else (spec_ChanPlay.j0 k l1 y198 true a0_0 a0_1 a0_2 a0_3))) = some r := by first | (rw [hy198]; with_reducible exact H) | (have H2_ := (Option.bind_some _ _).symm.trans H; rw [hy198]; with_reducible exact H2_) | (have H2_ := (Option.bind_some _ _).symm.trans H; with_reducible exact H2_) | with_reducible exact H | (rw [hy198]; exact H) | exact H
 have Ny198 := Aside0.mk hy198
 clear hy198
 have HC3 := Aside0.mk H
 clear H
 go_enter Try.func48, Try.ntmps48
 go_upto_region 2 with (first | ((with_reducible refine gate_dst (N := 2) rfl ?_); (try (refine gate_guard (by rfl) ?_; dsimp only)); refine box_event ?hg (N := 2) ?hd (cs := #[.int .i64 a0_0, .int .i64 a0_1, .int .i64 a0_2, .int .i64 a0_3]) (t := 29) ?hr ?_; (case hd => rfl); (case hg => rfl); (case hr => first | (go_simp; done) | (go_simp; rfl)); intro gb197 hg w4 hbox hb; have n0_ := Aside0.mk (below_step (lq HB.out) hb); have n1_ := Aside0.mk (hbox); have n2_ := Aside0.mk ((ge_new hg (lq HB.out) : w.heap.size ≤ gb197)); have n3_ := Aside0.mk ((ge_new hg (lq HB.out) : w.heap.size ≤ gb197)); clear HB; have HB := n0_; have BK197 := n1_; have GW197 := n2_; have GE197 := n3_; clear n0_ n1_ n2_ n3_; clear hb hbox hg) | ((with_reducible refine gate_dst (N := 19) rfl ?_); (try (refine gate_guard (by rfl) ?_; dsimp only)); refine Kd.R_lit k72 _ 72 ?hg (N := 19) ?hd (xs := ([] : List (S72))) (inner := []) (ok := fun _ => True) (okp := fun _ => True) ?hr ?hp (fun _ hk => hk) trivial (Below.refl _ _) (Nat.le_refl _) (by simp) ?_; (case hd => rfl); (case hg => rfl); (case hr => first | (go_simp; done) | (go_simp; rfl)); (case hp => exact (Reps.none _ _)); intro v199 w5 ho6 hb hg_ hnew_; clear hg_ hnew_; (first | rw [← Ny198.out] at ho6 | (simp only [Int.reduceToNat] at ho6; rw [← Ny198.out] at ho6)); have n0_ := Aside0.mk (Kd.R_lower ho6 (below_size (lq HB.out))); have n1_ := Aside0.mk (blk_below (bq BK197.out) hb); have n2_ := Aside0.mk (below_step (lq HB.out) hb); clear BK197; clear HB; have HO200 := n0_; have BK197 := n1_; have HB := n2_; clear n0_ n1_ n2_; clear hb ho6))
 (try simp only [Act.put, List.setIfInBounds_toArray, List.set_cons_zero, List.set_cons_succ])
 go_cut [27] (fun v27 wc => ∃ (kq : Nat) (x27_2 : Bool), v27 = .bool x27_2 ∧ Aside0 (spec_ChanPlay.j0 kq l1 y198 x27_2 a0_0 a0_1 a0_2 a0_3 = some r) ∧ Aside0 (kq ≤ k) ∧ Aside0 (Kd.R k72 72 wc w.heap.size (fun _ => True) v199 y198) ∧ Aside0 (wc.heap[gb197]? = some (.cells #[.int .i64 a0_0, .int .i64 a0_1, .int .i64 a0_2, .int .i64 a0_3] 29 (0, 0))) ∧ Aside0 (Below w.heap.size w wc))
 case first =>
  have H := HC3.out
  clear HC3
  replace H := Option.bind_eq_some_iff.mp H
  obtain ⟨t201, A70, H⟩ := H
  (try dsimp only at H)
  have A7 := Aside0.mk A70
  clear A70
  by_cases c8 : t201 = true
  ·subst c8
   rw [if_pos rfl] at H
   have H' := Aside0.mk H
   clear H
   have hcz9_0 : w5.cell? ⟨gb197, 0, none⟩ = some (.int .i64 a0_0) := (blk_cell BK197.out 0).trans rfl
   have hcz9_1 : w5.cell? ⟨gb197, 1, none⟩ = some (.int .i64 a0_1) := (blk_cell BK197.out 1).trans rfl
   have hcz9_2 : w5.cell? ⟨gb197, 2, none⟩ = some (.int .i64 a0_2) := (blk_cell BK197.out 2).trans rfl
   have hcz9_3 : w5.cell? ⟨gb197, 3, none⟩ = some (.int .i64 a0_3) := (blk_cell BK197.out 3).trans rfl
   have hfz9_0 := blk_frozen BK197.out 0
   have hfz9_1 := blk_frozen BK197.out 1
   have hfz9_2 := blk_frozen BK197.out 2
   have hfz9_3 := blk_frozen BK197.out 3
   go_wp2_with (first | ((with_reducible refine gate_callee (f := 49) rfl ?_); refine goesL_ (some 21) rfl rfl Try.func49 (by kernel_rfl) rfl #[.agg #[.int .i64 a0_0, .int .i64 a0_1, .int .i64 a0_2, .int .i64 a0_3]] rfl (by (try simp only [List.map_toArray, List.map_cons, List.map_nil]); first | done | rfl | (simp only [List.length_drop, List.length_take]; rfl)) ?_; (with_reducible refine (spec_ChanOk.calls a0_0 a0_1 a0_2 a0_3 true _ A7.out).mono ?_); rintro e w10 ⟨rfl, hb⟩; refine ⟨_, rfl, ?_⟩; have n0_ := Aside0.mk (Kd.R_below (rq HO200.out) hb); have n1_ := Aside0.mk (blk_below (bq BK197.out) hb); have n2_ := Aside0.mk (below_step (lq HB.out) hb); clear HO200; clear BK197; clear HB; have HO200 := n0_; have BK197 := n1_; have HB := n2_; clear n0_ n1_ n2_; (try clear hb); (try clear hb2); (try clear hk); (try clear hi)))
   go_meet
   case rel => exact ⟨_, (decide ((l1.length : Int) > 1000)), (by first | rfl | (simp; done) | (simp [*]; done)), H', ⟨by first | omega | exact Nat.le_refl _⟩, ⟨by (with_reducible repeat (first | apply Kd.R_alloc | apply Kd.R_drewN | apply Kd.R_drew)); exact HO200.out⟩, ⟨by (with_reducible repeat (first | refine blk_drewN ?_ _ | refine blk_drew ?_ | refine blk_alloc ?_ _)); exact BK197.out⟩, ⟨by exact lq HB.out⟩⟩
  ·replace c8 := Bool.eq_false_iff.mpr c8
   subst c8
   rw [if_neg (show ¬ (false = true) by decide)] at H
   have H' := Aside0.mk H
   clear H
   have hcz11_0 : w5.cell? ⟨gb197, 0, none⟩ = some (.int .i64 a0_0) := (blk_cell BK197.out 0).trans rfl
   have hcz11_1 : w5.cell? ⟨gb197, 1, none⟩ = some (.int .i64 a0_1) := (blk_cell BK197.out 1).trans rfl
   have hcz11_2 : w5.cell? ⟨gb197, 2, none⟩ = some (.int .i64 a0_2) := (blk_cell BK197.out 2).trans rfl
   have hcz11_3 : w5.cell? ⟨gb197, 3, none⟩ = some (.int .i64 a0_3) := (blk_cell BK197.out 3).trans rfl
   have hfz11_0 := blk_frozen BK197.out 0
   have hfz11_1 := blk_frozen BK197.out 1
   have hfz11_2 := blk_frozen BK197.out 2
   have hfz11_3 := blk_frozen BK197.out 3
   go_wp2_with (first | ((with_reducible refine gate_callee (f := 49) rfl ?_); refine goesL_ (some 21) rfl rfl Try.func49 (by kernel_rfl) rfl #[.agg #[.int .i64 a0_0, .int .i64 a0_1, .int .i64 a0_2, .int .i64 a0_3]] rfl (by (try simp only [List.map_toArray, List.map_cons, List.map_nil]); first | done | rfl | (simp only [List.length_drop, List.length_take]; rfl)) ?_; (with_reducible refine (spec_ChanOk.calls a0_0 a0_1 a0_2 a0_3 false _ A7.out).mono ?_); rintro e w12 ⟨rfl, hb⟩; refine ⟨_, rfl, ?_⟩; have n0_ := Aside0.mk (Kd.R_below (rq HO200.out) hb); have n1_ := Aside0.mk (blk_below (bq BK197.out) hb); have n2_ := Aside0.mk (below_step (lq HB.out) hb); clear HO200; clear BK197; clear HB; have HO200 := n0_; have BK197 := n1_; have HB := n2_; clear n0_ n1_ n2_; (try clear hb); (try clear hb2); (try clear hk); (try clear hi)))
   go_meet
   case rel => exact ⟨_, (true), (by first | rfl | (simp; done) | (simp [*]; done)), H', ⟨by first | omega | exact Nat.le_refl _⟩, ⟨by (with_reducible repeat (first | apply Kd.R_alloc | apply Kd.R_drewN | apply Kd.R_drew)); exact HO200.out⟩, ⟨by (with_reducible repeat (first | refine blk_drewN ?_ _ | refine blk_drew ?_ | refine blk_alloc ?_ _)); exact BK197.out⟩, ⟨by exact lq HB.out⟩⟩
 case rest =>
  clear HC3
  try clear c1
  try clear p2
  try clear c4
  try clear c8
  try clear hcz11_0
  try clear hcz11_1
  try clear hcz11_2
  try clear hcz11_3
  try clear hcz9_0
  try clear hcz9_1
  try clear hcz9_2
  try clear hcz9_3
  try clear hfz11_0
  try clear hfz11_1
  try clear hfz11_2
  try clear hfz11_3
  try clear hfz9_0
  try clear hfz9_1
  try clear hfz9_2
  try clear hfz9_3
  obtain ⟨kq, x27_2, rfl, HA, HJ2, HO_5, BK197, HB⟩ := hcut
  cases kq with
  | zero => exact absurd HA.out (by simp [spec_ChanPlay.j0])
  | succ kj2 =>
   have H := HA.out
   clear HA
   simp only [spec_ChanPlay.j0] at H
   by_cases c13 : x27_2 = true
   ·subst c13
    rw [if_pos rfl] at H
    obtain rfl := Option.some.inj H
    go_wp2
    go_ret
    exact ⟨_, by first | rfl | (simp [errW_none, errW_some] <;> rfl) | (simp [*, errW_none, errW_some] <;> rfl), by (with_reducible repeat (first | apply Kd.R_alloc | apply Kd.R_drewN | apply Kd.R_drew)); exact HO_5.out, by exact lq HB.out⟩
   ·replace c13 := Bool.eq_false_iff.mpr c13
    subst c13
    rw [if_neg (show ¬ (false = true) by decide)] at H
    have H' := Aside0.mk H
    clear H
    go_wp2
    go_loopg [6] kj2 (fun kq v6 w' => ∃ (x6_2 : Int), v6 = .int .i64 x6_2 ∧ Aside0 (spec_ChanPlay.l0 kq l1 y198 x6_2 a0_0 a0_1 a0_2 a0_3 = some r) ∧ Aside0 (kq ≤ kj2) ∧ Aside0 (Kd.R k72 72 w' w.heap.size (fun _ => True) v199 y198) ∧ Aside0 (w'.heap[gb197]? = some (.cells #[.int .i64 a0_0, .int .i64 a0_1, .int .i64 a0_2, .int .i64 a0_3] 29 (0, 0))) ∧ Aside0 (Below w.heap.size w w'))
    case atStart => exact ⟨(0), (by first | rfl | (simp; done) | (simp [*]; done)), H', ⟨Nat.le_refl _⟩, ⟨by (with_reducible repeat (first | apply Kd.R_alloc | apply Kd.R_drewN | apply Kd.R_drew)); exact HO_5.out⟩, ⟨by (with_reducible repeat (first | refine blk_drewN ?_ _ | refine blk_drew ?_ | refine blk_alloc ?_ _)); exact BK197.out⟩, ⟨by exact lq HB.out⟩⟩
    case round =>
     clear H'
     try clear c1
     try clear p2
     try clear c4
     try clear c8
     try clear c13
     try clear hcz11_0
     try clear hcz11_1
     try clear hcz11_2
     try clear hcz11_3
     try clear hcz9_0
     try clear hcz9_1
     try clear hcz9_2
     try clear hcz9_3
     try clear hfz11_0
     try clear hfz11_1
     try clear hfz11_2
     try clear hfz11_3
     try clear hfz9_0
     try clear hfz9_1
     try clear hfz9_2
     try clear hfz9_3
     try clear p2
     obtain ⟨x6_2, rfl, HA, HK2, HO_5, BK197, HB⟩ := hrel
     cases gk with
     | zero => exact absurd HA.out (by simp [spec_ChanPlay.l0])
     | succ k2 =>
      have H := HA.out
      clear HA
      simp only [spec_ChanPlay.l0] at H
      by_cases c14 : x6_2 < (l1.length : Int)
      ·rw [if_pos c14] at H
       have c14b0 : decide (x6_2 < (l1.length : Int)) = true := decide_eq_true c14
       clear c14
       by_cases c15 : 0 ≤ x6_2
       ·rw [if_pos c15] at H
        have c15b0 : decide (0 ≤ x6_2) = true := decide_eq_true c15
        clear c15
        replace H := Option.bind_eq_some_iff.mp H
        obtain ⟨t203, A160, H⟩ := H
        (try dsimp only at H)
        have A16 := Aside0.mk A160
        clear A160
        by_cases c17 : t203 = true
        ·subst c17
         rw [if_pos rfl] at H
         have H' := Aside0.mk H
         clear H
         have p202 : 0 ≤ (x6_2 : Int) := of_decide_eq_true (by first | (with_reducible assumption) | assumption)
         have q202 : x6_2 < (l1.length : Int) := of_decide_eq_true (by first | (with_reducible assumption) | assumption)
         obtain ⟨ad202, e202, hx202_0, hx202_1⟩ := at_T70 HR1.out x6_2 p202 q202
         cases e202
         replace hx202_0 := (HB.out.cell (World.block_lt_of_cell? w _ hx202_0)).trans hx202_0
         replace hx202_1 := (HB.out.cell (World.block_lt_of_cell? w _ hx202_1)).trans hx202_1
         replace p202 := eq_true p202
         replace q202 := eq_true q202
         go_wp2_with (first | ((with_reducible refine gate_callee (f := 60) rfl ?_); refine goesL_ (some 40) rfl rfl Try.func60 (by kernel_rfl) rfl #[.int .i64 ((rd_T70 l1 x6_2).f0), .int .i64 0, .int .i64 3] rfl (by (try simp only [List.map_toArray, List.map_cons, List.map_nil]); first | done | rfl | (simp only [List.length_drop, List.length_take]; rfl)) ?_; (with_reducible refine (spec_l01In.calls ((rd_T70 l1 x6_2).f0) 0 3 true _ A16.out).mono ?_); rintro e w' ⟨rfl, ⟨nd, rfl⟩⟩; refine ⟨_, rfl, ?_⟩))
         go_roundg k2
         case measure => have := HJ2.out; have := HK2.out; omega
         case rel => exact ⟨(wrap64 (x6_2 + 1)), (by first | rfl | (simp; done) | (simp [*]; done)), H', ⟨by have := HJ2.out; have := HK2.out; omega⟩, ⟨by (with_reducible repeat (first | apply Kd.R_alloc | apply Kd.R_drewN | apply Kd.R_drew)); exact HO_5.out⟩, ⟨by (with_reducible repeat (first | refine blk_drewN ?_ _ | refine blk_drew ?_ | refine blk_alloc ?_ _)); exact BK197.out⟩, ⟨by exact lq HB.out⟩⟩
        ·replace c17 := Bool.eq_false_iff.mpr c17
         subst c17
         rw [if_neg (show ¬ (false = true) by decide)] at H
         obtain ⟨y204, hy204⟩ : ∃ y_ : List (S72), y_ = (([] : List (S72))) := ⟨_, rfl⟩
         replace H : (some y204) = some r := by first | (rw [hy204]; with_reducible exact H) | (have H2_ := (Option.bind_some _ _).symm.trans H; rw [hy204]; with_reducible exact H2_) | (have H2_ := (Option.bind_some _ _).symm.trans H; with_reducible exact H2_) | with_reducible exact H | (rw [hy204]; exact H) | exact H
         have Ny204 := Aside0.mk hy204
         clear hy204
         obtain rfl := Option.some.inj H
         have p202 : 0 ≤ (x6_2 : Int) := of_decide_eq_true (by first | (with_reducible assumption) | assumption)
         have q202 : x6_2 < (l1.length : Int) := of_decide_eq_true (by first | (with_reducible assumption) | assumption)
         obtain ⟨ad202, e202, hx202_0, hx202_1⟩ := at_T70 HR1.out x6_2 p202 q202
         cases e202
         replace hx202_0 := (HB.out.cell (World.block_lt_of_cell? w _ hx202_0)).trans hx202_0
         replace hx202_1 := (HB.out.cell (World.block_lt_of_cell? w _ hx202_1)).trans hx202_1
         replace p202 := eq_true p202
         replace q202 := eq_true q202
         go_wp2_with (first | ((with_reducible refine gate_callee (f := 60) rfl ?_); refine goesL_ (some 40) rfl rfl Try.func60 (by kernel_rfl) rfl #[.int .i64 ((rd_T70 l1 x6_2).f0), .int .i64 0, .int .i64 3] rfl (by (try simp only [List.map_toArray, List.map_cons, List.map_nil]); first | done | rfl | (simp only [List.length_drop, List.length_take]; rfl)) ?_; (with_reducible refine (spec_l01In.calls ((rd_T70 l1 x6_2).f0) 0 3 false _ A16.out).mono ?_); rintro e w' ⟨rfl, ⟨nd, rfl⟩⟩; refine ⟨_, rfl, ?_⟩) | ((with_reducible refine gate_dst (N := 42) rfl ?_); (try (refine gate_guard (by rfl) ?_; dsimp only)); refine Kd.R_lit k72 _ 72 ?hg (N := 42) ?hd (xs := ([] : List (S72))) (inner := []) (ok := fun _ => True) (okp := fun _ => True) ?hr ?hp (fun _ hk => hk) trivial (Below.refl _ _) (Nat.le_refl _) (by simp) ?_; (case hd => rfl); (case hg => rfl); (case hr => first | (go_simp; done) | (go_simp; rfl)); (case hp => exact (Reps.none _ _)); intro v205 w18 ho19 hb hg_ hnew_; clear hg_ hnew_; (first | rw [← Ny204.out] at ho19 | (simp only [Int.reduceToNat] at ho19; rw [← Ny204.out] at ho19)); have n0_ := Aside0.mk (Kd.R_elder' (rq HO_5.out) (Kd.R_base ho19) hb); have n1_ := Aside0.mk (Kd.R_lower (Kd.R_new' ho19 (Kd.R_lt (rq HO_5.out))) (below_size (lq HB.out))); have n2_ := Aside0.mk (blk_below (bq BK197.out) hb); have n3_ := Aside0.mk (below_step (lq HB.out) hb); clear HO_5; clear BK197; clear HB; have HO_5 := n0_; have HO206 := n1_; have BK197 := n2_; have HB := n3_; clear n0_ n1_ n2_ n3_; clear hb ho19))
         go_ret
         exact ⟨_, by first | rfl | (simp [errW_none, errW_some] <;> rfl) | (simp [*, errW_none, errW_some] <;> rfl), by (with_reducible repeat (first | apply Kd.R_alloc | apply Kd.R_drewN | apply Kd.R_drew)); exact Kd.R_mono HO206.out (fun _ hk => trivial), by exact lq HB.out⟩
       ·rw [if_neg c15] at H
        exact absurd H (by simp)
      ·rw [if_neg c14] at H
       have c14b0 : decide (x6_2 < (l1.length : Int)) = false := decide_eq_false c14
       clear c14
       have H' := Aside0.mk H
       clear H
       go_wp2_with (first | ((with_reducible refine gate_dst (N := 7) rfl ?_); (try (refine gate_guard (by rfl) ?_; dsimp only)); refine box_event ?hg (N := 7) ?hd (cs := #[.int .i64 0, .slice none 0 0]) (t := 39) ?hr ?_; (case hd => rfl); (case hg => rfl); (case hr => first | (go_simp; done) | (go_simp; rfl)); intro gb207 hg w20 hbox hb; have n0_ := Aside0.mk (Kd.R_below (rq HO_5.out) hb); have n1_ := Aside0.mk (blk_below (bq BK197.out) hb); have n2_ := Aside0.mk (below_step (lq HB.out) hb); have n3_ := Aside0.mk (hbox); have n4_ := Aside0.mk ((ge_new hg (lq HB.out) : w.heap.size ≤ gb207)); have n5_ := Aside0.mk ((ge_new hg (lq HB.out) : w.heap.size ≤ gb207)); have n6_ := Aside0.mk ((ne_new hg (bq BK197.out) : gb197 ≠ gb207)); have n7_ := Aside0.mk ((new_ne hg (bq BK197.out) : gb207 ≠ gb197)); clear HO_5; clear BK197; clear HB; have HO_5 := n0_; have BK197 := n1_; have HB := n2_; have BK207 := n3_; have GW207 := n4_; have GE207 := n5_; have NB197_207 := n6_; have NB207_197 := n7_; clear n0_ n1_ n2_ n3_ n4_ n5_ n6_ n7_; clear hb hbox hg) | ((with_reducible refine gate_dst (N := 8) rfl ?_); (try (refine gate_guard (by rfl) ?_; dsimp only)); refine box_event ?hg (N := 8) ?hd (cs := #[.slice none 0 0]) (t := 31) ?hr ?_; (case hd => rfl); (case hg => rfl); (case hr => first | (go_simp; done) | (go_simp; rfl)); intro gb208 hg w21 hbox hb; have n0_ := Aside0.mk (Kd.R_below (rq HO_5.out) hb); have n1_ := Aside0.mk (blk_below (bq BK197.out) hb); have n2_ := Aside0.mk (blk_below (bq BK207.out) hb); have n3_ := Aside0.mk (below_step (lq HB.out) hb); have n4_ := Aside0.mk (hbox); have n5_ := Aside0.mk ((ge_new hg (lq HB.out) : w.heap.size ≤ gb208)); have n6_ := Aside0.mk ((ge_new hg (lq HB.out) : w.heap.size ≤ gb208)); have n7_ := Aside0.mk ((ne_new hg (bq BK197.out) : gb197 ≠ gb208)); have n8_ := Aside0.mk ((new_ne hg (bq BK197.out) : gb208 ≠ gb197)); have n9_ := Aside0.mk ((ne_new hg (bq BK207.out) : gb207 ≠ gb208)); have n10_ := Aside0.mk ((new_ne hg (bq BK207.out) : gb208 ≠ gb207)); clear HO_5; clear BK197; clear BK207; clear HB; have HO_5 := n0_; have BK197 := n1_; have BK207 := n2_; have HB := n3_; have BK208 := n4_; have GW208 := n5_; have GE208 := n6_; have NB197_208 := n7_; have NB208_197 := n8_; have NB207_208 := n9_; have NB208_207 := n10_; clear n0_ n1_ n2_ n3_ n4_ n5_ n6_ n7_ n8_ n9_ n10_; clear hb hbox hg; have hnb22 := NB207_197.out; have hnc22 := NB197_207.out; have hnb23 := NB207_208.out; have hnc23 := NB208_207.out; have hcz24_0 : w21.cell? ⟨gb207, 0, none⟩ = some (.int .i64 0) := (blk_cell BK207.out 0).trans rfl; have hcz24_1 : w21.cell? ⟨gb207, 1, none⟩ = some (.slice none 0 0) := (blk_cell BK207.out 1).trans rfl; have hfz24_0 := blk_frozen BK207.out 0; have hfz24_1 := blk_frozen BK207.out 1; have hnb25 := NB208_197.out; have hnc25 := NB197_208.out; have hcz26_0 : w21.cell? ⟨gb208, 0, none⟩ = some (.slice none 0 0) := (blk_cell BK208.out 0).trans rfl; have hfz26_0 := blk_frozen BK208.out 0))
       go_loopg [5, 9] k2 (fun kq v5 v9 w' => ∃ (x5_3 : List (S72)) (x9_3 : Int) (x208000_3 : Int) (x208001_3 : List Int) (x209000_3 : List Int) (u208001 : Value) (u209000 : Value), v9 = .int .i64 x9_3 ∧ Aside0 (spec_ChanPlay.l1 kq l1 x5_3 x9_3 a0_0 a0_1 a0_2 a0_3 x208000_3 x208001_3 x209000_3 = some r) ∧ Aside0 (kq ≤ k2) ∧ Aside0 (Kd.R k72 72 w' w.heap.size (fun _ => True) v5 x5_3) ∧ Aside0 (Kd.R (Kd.int .u32) 46 w' w.heap.size (fun k_ => some k_ ≠ (u209000 : Value).ownBlock) u208001 x208001_3) ∧ Aside0 (Kd.R (Kd.int .u32) 46 w' w.heap.size (fun k_ => some k_ ≠ (u208001 : Value).ownBlock) u209000 x209000_3) ∧ Aside0 (w'.heap[gb197]? = some (.cells #[.int .i64 a0_0, .int .i64 a0_1, .int .i64 a0_2, .int .i64 a0_3] 29 (0, 0))) ∧ Aside0 (w'.heap[gb207]? = some (.cells #[.int .i64 x208000_3, u208001] 39 (0, 0))) ∧ Aside0 (w'.heap[gb208]? = some (.cells #[u209000] 31 (0, 0))) ∧ Aside0 (Below w.heap.size w w'))
       case atStart => exact ⟨(y198), (0), (0), (([] : List Int)), (([] : List Int)), (.slice none 0 0), (.slice none 0 0), (by first | rfl | (simp; done) | (simp [*]; done)), H', ⟨Nat.le_refl _⟩, ⟨by (with_reducible repeat (first | apply Kd.R_alloc | apply Kd.R_drewN | apply Kd.R_drew)); exact Kd.R_mono (Kd.R_far (p := ⟨gb208, 0, none⟩) (Kd.R_far (p := ⟨gb207, 1, none⟩) (Kd.R_far (p := ⟨gb207, 0, none⟩) (Kd.R_types (Kd.R_types HO_5.out BK207.out (by decide)) BK208.out (by decide)) (fun _ hk => hk.1.2) (.int .i64 0)) (fun _ hk => hk.1.2) (.slice none 0 0)) (fun _ hk => hk.2) (.slice none 0 0)) (fun _ hk => trivial)⟩, ⟨by first | exact Kd.R_nil _ _ _ _ _ | exact Kd.N_nil _ _ _ _ _ | exact Kd.V_nil _ _ _ _ _ | exact Kd.Q_nil _ _ _ _ _ | exact Kd.S_nil _ _ _ _ _⟩, ⟨by first | exact Kd.R_nil _ _ _ _ _ | exact Kd.N_nil _ _ _ _ _ | exact Kd.V_nil _ _ _ _ _ | exact Kd.Q_nil _ _ _ _ _ | exact Kd.S_nil _ _ _ _ _⟩, ⟨by (with_reducible repeat (first | refine blk_drewN ?_ _ | refine blk_drew ?_ | refine blk_alloc ?_ _)); refine blk_far ?_ NB197_208.out _; (with_reducible repeat (first | refine blk_drewN ?_ _ | refine blk_drew ?_ | refine blk_alloc ?_ _)); refine blk_far ?_ NB197_207.out _; (with_reducible repeat (first | refine blk_drewN ?_ _ | refine blk_drew ?_ | refine blk_alloc ?_ _)); refine blk_far ?_ NB197_207.out _; (with_reducible repeat (first | refine blk_drewN ?_ _ | refine blk_drew ?_ | refine blk_alloc ?_ _)); exact BK197.out⟩, ⟨by (with_reducible repeat (first | refine blk_drewN ?_ _ | refine blk_drew ?_ | refine blk_alloc ?_ _)); refine blk_far ?_ NB207_208.out _; (with_reducible repeat (first | refine blk_drewN ?_ _ | refine blk_drew ?_ | refine blk_alloc ?_ _)); refine blk_put (cs := #[.int .i64 0, .slice none 0 0]) ?_ 1 _ rfl; (with_reducible repeat (first | refine blk_drewN ?_ _ | refine blk_drew ?_ | refine blk_alloc ?_ _)); refine blk_put (cs := #[.int .i64 0, .slice none 0 0]) ?_ 0 _ rfl; (with_reducible repeat (first | refine blk_drewN ?_ _ | refine blk_drew ?_ | refine blk_alloc ?_ _)); exact BK207.out⟩, ⟨by (with_reducible repeat (first | refine blk_drewN ?_ _ | refine blk_drew ?_ | refine blk_alloc ?_ _)); refine blk_put (cs := #[.slice none 0 0]) ?_ 0 _ rfl; (with_reducible repeat (first | refine blk_drewN ?_ _ | refine blk_drew ?_ | refine blk_alloc ?_ _)); refine blk_far ?_ NB208_207.out _; (with_reducible repeat (first | refine blk_drewN ?_ _ | refine blk_drew ?_ | refine blk_alloc ?_ _)); refine blk_far ?_ NB208_207.out _; (with_reducible repeat (first | refine blk_drewN ?_ _ | refine blk_drew ?_ | refine blk_alloc ?_ _)); exact BK208.out⟩, ⟨by repeat (first | (with_reducible first | exact HB.out | apply below_alloc | apply pw_below_drewN | apply below_drew1 | refine below_set ?_ GE207.out | refine below_set ?_ GE208.out) | exact HB.out)⟩⟩
       case round =>
        clear H'
        try clear c1
        try clear c2
        try clear p2
        try clear q2
        try clear hx2
        try clear c4
        try clear c6
        try clear p6
        try clear c8
        try clear c13
        try clear c14
        try clear c14b0
        try clear c15
        try clear c15b0
        try clear c17
        try clear p20
        try clear q20
        try clear hx20
        try clear c22
        try clear c23
        try clear c25
        try clear hcz11_0
        try clear hcz11_1
        try clear hcz11_2
        try clear hcz11_3
        try clear hcz24_0
        try clear hcz24_1
        try clear hcz26_0
        try clear hcz9_0
        try clear hcz9_1
        try clear hcz9_2
        try clear hcz9_3
        try clear hfz11_0
        try clear hfz11_1
        try clear hfz11_2
        try clear hfz11_3
        try clear hfz24_0
        try clear hfz24_1
        try clear hfz26_0
        try clear hfz9_0
        try clear hfz9_1
        try clear hfz9_2
        try clear hfz9_3
        try clear hx202_0
        try clear hx202_1
        try clear p2
        try clear p202
        try clear q202
        obtain ⟨x5_3, x9_3, x208000_3, x208001_3, x209000_3, u208001, u209000, rfl, HA, HK3, HO_5, HO_208001, HO_209000, BK197, BK207, BK208, HB⟩ := hrel
        cases gk with
        | zero => exact absurd HA.out (by simp [spec_ChanPlay.l1])
        | succ k3 =>
         have H := HA.out
         clear HA
         simp only [spec_ChanPlay.l1] at H
         by_cases c27 : x9_3 < (l1.length : Int)
         ·rw [if_pos c27] at H
          have c27b0 : decide (x9_3 < (l1.length : Int)) = true := decide_eq_true c27
          clear c27
          by_cases c28 : 0 ≤ x9_3
          ·rw [if_pos c28] at H
           have c28b0 : decide (0 ≤ x9_3) = true := decide_eq_true c28
           clear c28
           by_cases c29 : ((rd_T70 l1 x9_3).f0) = 0
           ·rw [if_pos c29] at H
            have c29b0 : (((rd_T70 l1 x9_3).f0) == 0) = true := beq_iff_eq.mpr c29
            have c29b1 : (((rd_T70 l1 x9_3).f0) != 0) = false := bne_eq_false_iff_eq.mpr c29
            clear c29
            replace H := Option.bind_eq_some_iff.mp H
            obtain ⟨⟨t212, t213, t216⟩, A300, H⟩ := H
            (try dsimp only at H)
            have A30 := Aside0.mk A300
            clear A300
            by_cases c31 : x5_3.length < 8796093022208
            ·rw [if_pos c31] at H
             have LMc31 := Aside0.mk c31
             clear c31
             obtain ⟨y218, hy218⟩ : ∃ y_ : List (S72), y_ = (x5_3 ++ [(⟨t216, 0⟩ : S72)]) := ⟨_, rfl⟩
             replace H : (spec_ChanPlay.l1 k3 l1 y218 (wrap64 (x9_3 + 1)) a0_0 a0_1 a0_2 a0_3 t212 t213 x209000_3) = some r := by first | (rw [hy218]; with_reducible exact H) | (have H2_ := (Option.bind_some _ _).symm.trans H; rw [hy218]; with_reducible exact H2_) | (have H2_ := (Option.bind_some _ _).symm.trans H; with_reducible exact H2_) | with_reducible exact H | (rw [hy218]; exact H) | exact H
             have Ny218 := Aside0.mk hy218
             clear hy218
             have H' := Aside0.mk H
             clear H
             try go_wp2_with (first | ((with_reducible refine gate_dst (N := 10) rfl ?_); (try (refine gate_guard (by rfl) ?_; dsimp only)); refine box_event ?hg (N := 10) ?hd (cs := #[.int .i64 0, .int .u32 0]) (t := 72) ?hr ?_; (case hd => rfl); (case hg => rfl); (case hr => first | (go_simp; done) | (go_simp; rfl)); intro gb209 hg w32 hbox hb; have n0_ := Aside0.mk (Kd.R_below (Kd.R_elderB (rq HO_5.out) gb209 (Nat.le_of_eq hg.symm)) hb); have n1_ := Aside0.mk (Kd.R_below (rq HO_208001.out) hb); have n2_ := Aside0.mk (Kd.R_below (rq HO_209000.out) hb); have n3_ := Aside0.mk (blk_below (bq BK197.out) hb); have n4_ := Aside0.mk (blk_below (bq BK207.out) hb); have n5_ := Aside0.mk (blk_below (bq BK208.out) hb); have n6_ := Aside0.mk (below_step (lq HB.out) hb); have n7_ := Aside0.mk (hbox); have n8_ := Aside0.mk ((ge_new hg (lq HB.out) : w.heap.size ≤ gb209)); have n9_ := Aside0.mk ((ge_new hg (lq HB.out) : w.heap.size ≤ gb209)); have n10_ := Aside0.mk ((ne_new hg (bq BK197.out) : gb197 ≠ gb209)); have n11_ := Aside0.mk ((new_ne hg (bq BK197.out) : gb209 ≠ gb197)); have n12_ := Aside0.mk ((ne_new hg (bq BK207.out) : gb207 ≠ gb209)); have n13_ := Aside0.mk ((new_ne hg (bq BK207.out) : gb209 ≠ gb207)); have n14_ := Aside0.mk ((ne_new hg (bq BK208.out) : gb208 ≠ gb209)); have n15_ := Aside0.mk ((new_ne hg (bq BK208.out) : gb209 ≠ gb208)); clear HO_5; clear HO_208001; clear HO_209000; clear BK197; clear BK207; clear BK208; clear HB; have HO_5 := n0_; have HO_208001 := n1_; have HO_209000 := n2_; have BK197 := n3_; have BK207 := n4_; have BK208 := n5_; have HB := n6_; have BK209 := n7_; have GW209 := n8_; have GE209 := n9_; have NB197_209 := n10_; have NB209_197 := n11_; have NB207_209 := n12_; have NB209_207 := n13_; have NB208_209 := n14_; have NB209_208 := n15_; clear n0_ n1_ n2_ n3_ n4_ n5_ n6_ n7_ n8_ n9_ n10_ n11_ n12_ n13_ n14_ n15_; clear hb hbox hg; have hnb33 := NB209_197.out; have hnc33 := NB197_209.out; have hnb34 := NB209_207.out; have hnc34 := NB207_209.out; have hnb35 := NB209_208.out; have hnc35 := NB208_209.out; have hcz36_0 : w32.cell? ⟨gb209, 0, none⟩ = some (.int .i64 0) := (blk_cell BK209.out 0).trans rfl; have hcz36_1 : w32.cell? ⟨gb209, 1, none⟩ = some (.int .u32 0) := (blk_cell BK209.out 1).trans rfl; have hfz36_0 := blk_frozen BK209.out 0; have hfz36_1 := blk_frozen BK209.out 1; have p210 : 0 ≤ (x9_3 : Int) := of_decide_eq_true (by first | (with_reducible assumption) | assumption); have q210 : x9_3 < (l1.length : Int) := of_decide_eq_true (by first | (with_reducible assumption) | assumption); obtain ⟨ad210, e210, hx210_0, hx210_1⟩ := at_T70 HR1.out x9_3 p210 q210; cases e210; have hn210_0 : ad210.block ≠ gb209 := Nat.ne_of_lt (Nat.lt_of_lt_of_le (by have := World.block_lt_of_cell? _ _ hx210_0; first | rwa [add_block] at this | exact this) GW209.out); have hn210_1 : ad210.block ≠ gb209 := Nat.ne_of_lt (Nat.lt_of_lt_of_le (by have := World.block_lt_of_cell? _ _ hx210_0; first | rwa [add_block] at this | exact this) GW209.out); replace hx210_0 := (HB.out.cell (World.block_lt_of_cell? w _ hx210_0)).trans hx210_0; replace hx210_1 := (HB.out.cell (World.block_lt_of_cell? w _ hx210_1)).trans hx210_1; replace hx210_0 := (cell_far (p := ⟨gb209, 0, none⟩) (by first | (rw [add_block]; exact hn210_0) | (show (Addr.add _ _).block ≠ _; rw [add_block]; exact hn210_0) | exact hn210_0) (.int .i64 0)).trans hx210_0; replace hx210_1 := (cell_far (p := ⟨gb209, 0, none⟩) (by first | (rw [add_block]; exact hn210_0) | (show (Addr.add _ _).block ≠ _; rw [add_block]; exact hn210_0) | exact hn210_0) (.int .i64 0)).trans hx210_1; replace hx210_0 := (cell_far (p := ⟨gb209, 1, none⟩) (by first | (rw [add_block]; exact hn210_1) | (show (Addr.add _ _).block ≠ _; rw [add_block]; exact hn210_1) | exact hn210_1) (.int .u32 0)).trans hx210_0; replace hx210_1 := (cell_far (p := ⟨gb209, 1, none⟩) (by first | (rw [add_block]; exact hn210_1) | (show (Addr.add _ _).block ≠ _; rw [add_block]; exact hn210_1) | exact hn210_1) (.int .u32 0)).trans hx210_1; clear hn210_0; clear hn210_1; replace p210 := eq_true p210; replace q210 := eq_true q210; obtain ⟨Ao37, co37, eo37⟩ := Kd.R_slice HO_208001.out; subst eo37))
             have n0_ : Aside0 (Kd.R k72 72 ((w32.setCell ⟨gb209, 0, none⟩ (.int .i64 0)).setCell ⟨gb209, 1, none⟩ (.int .u32 0)) w.heap.size (fun k_ => k_ ≠ gb209) u5 x5_3) := ⟨by (with_reducible repeat (first | apply Kd.R_alloc | apply Kd.R_drewN | apply Kd.R_drew)); exact Kd.R_mono (Kd.R_far (p := ⟨gb209, 1, none⟩) (Kd.R_far (p := ⟨gb209, 0, none⟩) (Kd.R_mono HO_5.out (fun k_ hk => (⟨hk, hk.2⟩ : _ ∧ k_ ≠ gb209))) (fun _ hk => hk.2) (.int .i64 0)) (fun _ hk => hk.2) (.int .u32 0)) (fun _ hk => hk.1.2)⟩
             have n1_ : Aside0 (Kd.R (Kd.int .u32) 46 ((w32.setCell ⟨gb209, 0, none⟩ (.int .i64 0)).setCell ⟨gb209, 1, none⟩ (.int .u32 0)) w.heap.size (fun k_ => some k_ ≠ (u209000 : Value).ownBlock) (.slice Ao37 x208001_3.length co37) x208001_3) := ⟨by (with_reducible repeat (first | apply Kd.R_alloc | apply Kd.R_drewN | apply Kd.R_drew)); exact Kd.R_mono (Kd.R_far (p := ⟨gb209, 1, none⟩) (Kd.R_far (p := ⟨gb209, 0, none⟩) (Kd.R_types HO_208001.out BK209.out (by decide)) (fun _ hk => hk.2) (.int .i64 0)) (fun _ hk => hk.2) (.int .u32 0)) (fun _ hk => hk.1)⟩
             have n2_ : Aside0 (Kd.R (Kd.int .u32) 46 ((w32.setCell ⟨gb209, 0, none⟩ (.int .i64 0)).setCell ⟨gb209, 1, none⟩ (.int .u32 0)) w.heap.size (fun k_ => some k_ ≠ (.slice Ao37 x208001_3.length co37 : Value).ownBlock) u209000 x209000_3) := ⟨by (with_reducible repeat (first | apply Kd.R_alloc | apply Kd.R_drewN | apply Kd.R_drew)); exact Kd.R_mono (Kd.R_far (p := ⟨gb209, 1, none⟩) (Kd.R_far (p := ⟨gb209, 0, none⟩) (Kd.R_types HO_209000.out BK209.out (by decide)) (fun _ hk => hk.2) (.int .i64 0)) (fun _ hk => hk.2) (.int .u32 0)) (fun _ hk => hk.1)⟩
             have n3_ : Aside0 (((w32.setCell ⟨gb209, 0, none⟩ (.int .i64 0)).setCell ⟨gb209, 1, none⟩ (.int .u32 0)).heap[gb197]? = some (.cells #[.int .i64 a0_0, .int .i64 a0_1, .int .i64 a0_2, .int .i64 a0_3] 29 (0, 0))) := ⟨by (with_reducible repeat (first | refine blk_drewN ?_ _ | refine blk_drew ?_ | refine blk_alloc ?_ _)); refine blk_far ?_ NB197_209.out _; (with_reducible repeat (first | refine blk_drewN ?_ _ | refine blk_drew ?_ | refine blk_alloc ?_ _)); refine blk_far ?_ NB197_209.out _; (with_reducible repeat (first | refine blk_drewN ?_ _ | refine blk_drew ?_ | refine blk_alloc ?_ _)); exact BK197.out⟩
             have n4_ : Aside0 (((w32.setCell ⟨gb209, 0, none⟩ (.int .i64 0)).setCell ⟨gb209, 1, none⟩ (.int .u32 0)).heap[gb207]? = some (.cells #[.int .i64 x208000_3, .slice Ao37 x208001_3.length co37] 39 (0, 0))) := ⟨by (with_reducible repeat (first | refine blk_drewN ?_ _ | refine blk_drew ?_ | refine blk_alloc ?_ _)); refine blk_far ?_ NB207_209.out _; (with_reducible repeat (first | refine blk_drewN ?_ _ | refine blk_drew ?_ | refine blk_alloc ?_ _)); refine blk_far ?_ NB207_209.out _; (with_reducible repeat (first | refine blk_drewN ?_ _ | refine blk_drew ?_ | refine blk_alloc ?_ _)); exact BK207.out⟩
             have n5_ : Aside0 (((w32.setCell ⟨gb209, 0, none⟩ (.int .i64 0)).setCell ⟨gb209, 1, none⟩ (.int .u32 0)).heap[gb208]? = some (.cells #[u209000] 31 (0, 0))) := ⟨by (with_reducible repeat (first | refine blk_drewN ?_ _ | refine blk_drew ?_ | refine blk_alloc ?_ _)); refine blk_far ?_ NB208_209.out _; (with_reducible repeat (first | refine blk_drewN ?_ _ | refine blk_drew ?_ | refine blk_alloc ?_ _)); refine blk_far ?_ NB208_209.out _; (with_reducible repeat (first | refine blk_drewN ?_ _ | refine blk_drew ?_ | refine blk_alloc ?_ _)); exact BK208.out⟩
             have n6_ : Aside0 (((w32.setCell ⟨gb209, 0, none⟩ (.int .i64 0)).setCell ⟨gb209, 1, none⟩ (.int .u32 0)).heap[gb209]? = some (.cells #[.int .i64 0, .int .u32 0] 72 (0, 0))) := ⟨by (with_reducible repeat (first | refine blk_drewN ?_ _ | refine blk_drew ?_ | refine blk_alloc ?_ _)); refine blk_put (cs := #[.int .i64 0, .int .u32 0]) ?_ 1 _ rfl; (with_reducible repeat (first | refine blk_drewN ?_ _ | refine blk_drew ?_ | refine blk_alloc ?_ _)); refine blk_put (cs := #[.int .i64 0, .int .u32 0]) ?_ 0 _ rfl; (with_reducible repeat (first | refine blk_drewN ?_ _ | refine blk_drew ?_ | refine blk_alloc ?_ _)); exact BK209.out⟩
             have n7_ : Aside0 (Below w.heap.size w ((w32.setCell ⟨gb209, 0, none⟩ (.int .i64 0)).setCell ⟨gb209, 1, none⟩ (.int .u32 0))) := ⟨by repeat (first | (with_reducible first | exact HB.out | apply below_alloc | apply pw_below_drewN | apply below_drew1 | refine below_set ?_ GE209.out) | exact HB.out)⟩
             (try clear HO_5)
             (try clear HO_208001)
             (try clear HO_209000)
             (try clear BK197)
             (try clear BK207)
             (try clear BK208)
             (try clear BK209)
             (try clear HB)
             generalize ((w32.setCell ⟨gb209, 0, none⟩ (.int .i64 0)).setCell ⟨gb209, 1, none⟩ (.int .u32 0)) = w38 at n0_ n1_ n2_ n3_ n4_ n5_ n6_ n7_ ⊢
             have HO_5 := n0_
             have HO_208001 := n1_
             have HO_209000 := n2_
             have BK197 := n3_
             have BK207 := n4_
             have BK208 := n5_
             have BK209 := n6_
             have HB := n7_
             clear n0_ n1_ n2_ n3_ n4_ n5_ n6_ n7_
             have n0_ := Aside0.mk (Kd.R_drew HO_5.out)
             have n1_ := Aside0.mk (Kd.R_drew HO_208001.out)
             have n2_ := Aside0.mk (Kd.R_drew HO_209000.out)
             have n3_ := Aside0.mk (blk_drew BK197.out)
             have n4_ := Aside0.mk (blk_drew BK207.out)
             have n5_ := Aside0.mk (blk_drew BK208.out)
             have n6_ := Aside0.mk (blk_drew BK209.out)
             have n7_ := Aside0.mk (below_drew1 HB.out)
             clear HO_5
             clear HO_208001
             clear HO_209000
             clear BK197
             clear BK207
             clear BK208
             clear BK209
             clear HB
             have HO_5 := n0_
             have HO_208001 := n1_
             have HO_209000 := n2_
             have BK197 := n3_
             have BK207 := n4_
             have BK208 := n5_
             have BK209 := n6_
             have HB := n7_
             clear n0_ n1_ n2_ n3_ n4_ n5_ n6_ n7_
             have p211 : 0 ≤ (x9_3 : Int) := of_decide_eq_true (by first | (with_reducible assumption) | assumption)
             have q211 : x9_3 < (l1.length : Int) := of_decide_eq_true (by first | (with_reducible assumption) | assumption)
             obtain ⟨ad211, e211, hx211_0, hx211_1⟩ := at_T70 HR1.out x9_3 p211 q211
             have hw211_1 := hx211_1
             have hw211_0 := hx211_0
             obtain rfl : ad210 = ad211 := (by injection e211)
             replace hx211_0 := (HB.out.cell (World.block_lt_of_cell? w _ hx211_0)).trans hx211_0
             replace hx211_1 := (HB.out.cell (World.block_lt_of_cell? w _ hx211_1)).trans hx211_1
             replace p211 := eq_true p211
             replace q211 := eq_true q211
             refine start_ (n := 14) (S := fun w' => w'.cell? ⟨gb197, 0, none⟩ = some (.int .i64 a0_0) ∧ w'.cell? ⟨gb197, 1, none⟩ = some (.int .i64 a0_1) ∧ w'.cell? ⟨gb197, 2, none⟩ = some (.int .i64 a0_2) ∧ w'.cell? ⟨gb197, 3, none⟩ = some (.int .i64 a0_3) ∧ w'.cell? ⟨gb207, 0, none⟩ = some (.int .i64 x208000_3) ∧ w'.cell? ⟨gb207, 1, none⟩ = some (.slice Ao37 x208001_3.length co37) ∧ w'.cell? (ad210.add ((x9_3).toNat * 2)) = some (.int .i64 ((rd_T70 l1 x9_3).f0)) ∧ w'.cell? ⟨(ad210.add ((x9_3).toNat * 2)).block, (ad210.add ((x9_3).toNat * 2)).off + 1, none⟩ = some (.int .u32 ((rd_T70 l1 x9_3).f1))) (ds := []) #[false, false, false, false, false, false, false, false, false, false, false, false, false, false] (by kernel_rfl) rfl rfl ⟨(blk_cell BK197.out 0).trans rfl, (blk_cell BK197.out 1).trans rfl, (blk_cell BK197.out 2).trans rfl, (blk_cell BK197.out 3).trans rfl, (blk_cell BK207.out 0).trans rfl, (blk_cell BK207.out 1).trans rfl, ((HB.out.cell (World.block_lt_of_cell? w _ hw211_0)).trans hw211_0), ((HB.out.cell (World.block_lt_of_cell? w _ hw211_1)).trans hw211_1)⟩ (fun hHeld => ?_); refine with_tabW spec_ChanPlay.tab17 spec_ChanPlay.bits17 (fun HT_ HW_ => ?_)
             generalize w38.drew = w39 at HO_5 HO_208001 HO_209000 BK197 BK207 BK208 BK209 HB hx211_0 hx211_1 hHeld ⊢
             refine pure_ (i := 2) (N := some 65) (v := ?_) (a' := ?_) #[false, false, true, false, false, false, false, false, false, false, false, false, false, false] rfl rfl (any_of HT_.out (by kernel_rfl)) (fun _ _ _ h => h) (Or.inl ⟨by rfl, ?_⟩) ?_ ?_
             rotate_left
             ·intro w'
              go_simp
              with_reducible rfl
             rotate_left
             ·simp only [Act.put, List.setIfInBounds_toArray, List.set_cons_zero, List.set_cons_succ, i64_w, i32_w]
              rfl
             refine pure_ (i := 3) (N := some 66) (v := ?_) (a' := ?_) #[false, false, true, true, false, false, false, false, false, false, false, false, false, false] rfl rfl (any_of HT_.out (by kernel_rfl)) (fun _ _ _ h => h) (Or.inl ⟨by rfl, ?_⟩) ?_ ?_
             rotate_left
             ·intro w'
              go_simp
              with_reducible rfl
             rotate_left
             ·simp only [Act.put, List.setIfInBounds_toArray, List.set_cons_zero, List.set_cons_succ, i64_w, i32_w]
              rfl
             refine pure_ (i := 4) (N := some 67) (v := ?_) (a' := ?_) #[false, false, true, true, true, false, false, false, false, false, false, false, false, false] rfl rfl (any_of HT_.out (by kernel_rfl)) (fun _ _ _ h => h) (Or.inl ⟨by rfl, ?_⟩) ?_ ?_
             rotate_left
             ·intro w'
              go_simp
              with_reducible rfl
             rotate_left
             ·simp only [Act.put, List.setIfInBounds_toArray, List.set_cons_zero, List.set_cons_succ, i64_w, i32_w]
              rfl
             refine pure_ (i := 5) (N := some 68) (v := ?_) (a' := ?_) #[false, false, true, true, true, true, false, false, false, false, false, false, false, false] rfl rfl (any_of HT_.out (by kernel_rfl)) (fun _ _ _ h => h) (Or.inl ⟨by rfl, ?_⟩) ?_ ?_
             rotate_left
             ·intro w'
              go_simp
              with_reducible rfl
             rotate_left
             ·simp only [Act.put, List.setIfInBounds_toArray, List.set_cons_zero, List.set_cons_succ, i64_w, i32_w]
              rfl
             refine take_ (i := 0) (N := some 63) (v := ?_) (a' := ?_) #[true, false, true, true, true, true, false, false, false, false, false, false, false, false] rfl rfl (take_ofW HT_.out HW_.out (by kernel_rfl)) (fun _ _ _ h => h) (Or.inl ⟨by rfl, ?_⟩) hHeld ?_ ?_
             rotate_left
             ·rintro w' ⟨s0, s1, s2, s3, s4, s5, s6, s7⟩
              go_simp
              with_reducible rfl
             rotate_left
             ·simp only [Act.put, List.setIfInBounds_toArray, List.set_cons_zero, List.set_cons_succ, i64_w, i32_w]
              rfl
             refine take_ (i := 1) (N := some 64) (v := ?_) (a' := ?_) #[true, true, true, true, true, true, false, false, false, false, false, false, false, false] rfl rfl (take_ofW HT_.out HW_.out (by kernel_rfl)) (fun _ _ _ h => h) (Or.inl ⟨by rfl, ?_⟩) hHeld ?_ ?_
             rotate_left
             ·rintro w' ⟨s0, s1, s2, s3, s4, s5, s6, s7⟩
              go_simp
              with_reducible rfl
             rotate_left
             ·simp only [Act.put, List.setIfInBounds_toArray, List.set_cons_zero, List.set_cons_succ, i64_w, i32_w]
              rfl
             refine take_ (i := 6) (N := some 69) (v := ?_) (a' := ?_) #[true, true, true, true, true, true, true, false, false, false, false, false, false, false] rfl rfl (take_ofW HT_.out HW_.out (by kernel_rfl)) (fun _ _ _ h => h) (Or.inl ⟨by rfl, ?_⟩) hHeld ?_ ?_
             rotate_left
             ·rintro w' ⟨s0, s1, s2, s3, s4, s5, s6, s7⟩
              go_simp
              with_reducible rfl
             rotate_left
             ·simp only [Act.put, List.setIfInBounds_toArray, List.set_cons_zero, List.set_cons_succ, i64_w, i32_w]
              rfl
             refine join_ (σ := Value × Nat) 2 #[true, true, true, true, true, true, true, true, true, true, true, true, false, false] (fun s_ => [(70, .tuple #[.agg #[.int .i64 t212, s_.1], .int .i64 t216]), (11, .pointer (some ⟨s_.2, 0, none⟩)), (62, .tuple #[.agg #[.int .i64 t212, s_.1], .int .i64 t216]), (71, .agg #[.int .i64 t212, s_.1]), (72, .int .i64 t216)]) (fun s_ w' => (w'.cell? ⟨gb197, 0, none⟩ = some (.int .i64 a0_0) ∧ w'.cell? ⟨gb197, 1, none⟩ = some (.int .i64 a0_1) ∧ w'.cell? ⟨gb197, 2, none⟩ = some (.int .i64 a0_2) ∧ w'.cell? ⟨gb197, 3, none⟩ = some (.int .i64 a0_3) ∧ w'.cell? ⟨gb207, 0, none⟩ = some (.int .i64 x208000_3) ∧ w'.cell? ⟨gb207, 1, none⟩ = some (.slice Ao37 x208001_3.length co37) ∧ w'.cell? (ad210.add ((x9_3).toNat * 2)) = some (.int .i64 ((rd_T70 l1 x9_3).f0)) ∧ w'.cell? ⟨(ad210.add ((x9_3).toNat * 2)).block, (ad210.add ((x9_3).toNat * 2)).off + 1, none⟩ = some (.int .u32 ((rd_T70 l1 x9_3).f1))) ∧ (Kd.R (Kd.int .u32) 46 w' w.heap.size (fun k_ => some k_ ≠ (.slice Ao37 x208001_3.length co37 : Value).ownBlock ∧ some k_ ≠ (u209000 : Value).ownBlock) s_.1 t213) ∧ (Kd.R (Kd.int .u32) 46 w' w.heap.size (fun k_ => some k_ ≠ (s_.1 : Value).ownBlock ∧ some k_ ≠ (u209000 : Value).ownBlock) (.slice Ao37 x208001_3.length co37) x208001_3) ∧ (Kd.R (Kd.int .u32) 46 w' w.heap.size (fun k_ => some k_ ≠ (s_.1 : Value).ownBlock ∧ some k_ ≠ (.slice Ao37 x208001_3.length co37 : Value).ownBlock) u209000 x209000_3) ∧ (Kd.R k72 72 w' w.heap.size (fun k_ => k_ ≠ gb209) u5 x5_3) ∧ (w'.heap[gb197]? = some (.cells #[.int .i64 a0_0, .int .i64 a0_1, .int .i64 a0_2, .int .i64 a0_3] 29 (0, 0))) ∧ (w'.heap[gb207]? = some (.cells #[.int .i64 x208000_3, .slice Ao37 x208001_3.length co37] 39 (0, 0))) ∧ (w'.heap[gb208]? = some (.cells #[u209000] 31 (0, 0))) ∧ (w'.heap[gb209]? = some (.cells #[.int .i64 0, .int .u32 0] 72 (0, 0))) ∧ (w'.heap[s_.2]? = some (.cells #[.int .i64 0, .slice none 0 0] 39 (0, 0))) ∧ (w.heap.size ≤ s_.2) ∧ (w.heap.size ≤ s_.2) ∧ (gb197 ≠ s_.2) ∧ (s_.2 ≠ gb197) ∧ (gb207 ≠ s_.2) ∧ (s_.2 ≠ gb207) ∧ (gb208 ≠ s_.2) ∧ (s_.2 ≠ gb208) ∧ (gb209 ≠ s_.2) ∧ (s_.2 ≠ gb209) ∧ (Below w.heap.size w w')) ?_ ?_
             rotate_left
             ·intro hCont
              refine two_ (i := 7) (j := 11) (Ni := some 70) (Nj := some 11) #[true, true, true, true, true, true, true, true, false, false, false, false, false, false] #[true, true, true, true, true, true, true, false, false, false, false, true, false, false] rfl rfl rfl rfl (two_of HT_.out (by kernel_rfl)) (by decide) (by decide) (fun K hK => ?_) (fun K hK => ?_)
              ·skip
               refine goes_ Try.func35 (by kernel_rfl) rfl #[.agg #[.int .i64 a0_0, .int .i64 a0_1, .int .i64 a0_2, .int .i64 a0_3], .agg #[.int .i64 x208000_3, .slice Ao37 x208001_3.length co37], .int .u32 ((rd_T70 l1 x9_3).f1)] (by rfl) rfl rfl (by (try simp only [List.map_toArray, List.map_cons, List.map_nil]); first | done | rfl | (simp only [List.length_drop, List.length_take]; rfl)) ?_
               with_reducible refine (spec_SendOn.calls a0_0 a0_1 a0_2 a0_3 x208000_3 _ _ x208001_3 ((rd_T70 l1 x9_3).f1) t212 t213 t216 _ ?side1 ?side2 A30.out).mono ?_
               (case side1 => repeat (first | exact (Kd.R_reads' HO_208001.out).2.2 | (with_reducible refine Kd.C_alloc ?_ _) | (with_reducible refine Kd.C_drewN ?_ _) | (with_reducible refine Kd.C_drew ?_)))
               (case side2 => exact (Kd.R_reads' HO_208001.out).2.1)
               rintro e w40 ⟨v214, rfl, ho0, hb⟩
               refine ⟨_, rfl, ?_⟩
               have n0_ := Aside0.mk (Kd.R_below (rq HO_5.out) hb)
               have n1_ := Aside0.mk (Kd.R_elder' (rq HO_208001.out) (Kd.R_base ho0) hb)
               have n2_ := Aside0.mk (Kd.R_elder' (rq HO_209000.out) (Kd.R_base ho0) hb)
               have n3_ := Aside0.mk (Kd.R_lower (Kd.R_new' (Kd.R_new' ho0 (Kd.R_lt (rq HO_208001.out))) (Kd.R_lt (rq HO_209000.out))) (below_size (lq HB.out)))
               have n4_ := Aside0.mk (blk_below (bq BK197.out) hb)
               have n5_ := Aside0.mk (blk_below (bq BK207.out) hb)
               have n6_ := Aside0.mk (blk_below (bq BK208.out) hb)
               have n7_ := Aside0.mk (blk_below (bq BK209.out) hb)
               have n8_ := Aside0.mk (below_step (lq HB.out) hb)
               clear HO_5
               clear HO_208001
               clear HO_209000
               clear BK197
               clear BK207
               clear BK208
               clear BK209
               clear HB
               have HO_5 := n0_
               have HO_208001 := n1_
               have HO_209000 := n2_
               have HO215 := n3_
               have BK197 := n4_
               have BK207 := n5_
               have BK208 := n6_
               have BK209 := n7_
               have HB := n8_
               clear n0_ n1_ n2_ n3_ n4_ n5_ n6_ n7_ n8_
               (try clear hb)
               (try clear hb2)
               (try clear hk)
               (try clear hi)
               (try clear ho0)
               refine hK.out _ _ ⟨(blk_cell BK197.out 0).trans rfl, (blk_cell BK197.out 1).trans rfl, (blk_cell BK197.out 2).trans rfl, (blk_cell BK197.out 3).trans rfl, (blk_cell BK207.out 0).trans rfl, (blk_cell BK207.out 1).trans rfl, ((HB.out.cell (World.block_lt_of_cell? w _ hw211_0)).trans hw211_0), ((HB.out.cell (World.block_lt_of_cell? w _ hw211_1)).trans hw211_1)⟩ (fun hHeld => ?_)
               clear hK K
               refine norm_ (a' := ?_) ?_ ?_
               rotate_left
               ·show Act.put _ (some 70) _ = _
                simp only [Act.put, List.setIfInBounds_toArray, List.set_cons_zero, List.set_cons_succ, i64_w, i32_w]
                rfl
               refine pure_ (i := 8) (N := some 62) (v := ?_) (a' := ?_) #[true, true, true, true, true, true, true, true, true, false, false, false, false, false] rfl rfl (any_of HT_.out (by kernel_rfl)) (fun _ _ _ h => h) (Or.inl ⟨by rfl, ?_⟩) ?_ ?_
               rotate_left
               ·intro w'
                go_simp
                with_reducible rfl
               rotate_left
               ·simp only [Act.put, List.setIfInBounds_toArray, List.set_cons_zero, List.set_cons_succ, i64_w, i32_w]
                rfl
               refine pure_ (i := 9) (N := some 71) (v := ?_) (a' := ?_) #[true, true, true, true, true, true, true, true, true, true, false, false, false, false] rfl rfl (any_of HT_.out (by kernel_rfl)) (fun _ _ _ h => h) (Or.inl ⟨by rfl, ?_⟩) ?_ ?_
               rotate_left
               ·intro w'
                go_simp
                with_reducible rfl
               rotate_left
               ·simp only [Act.put, List.setIfInBounds_toArray, List.set_cons_zero, List.set_cons_succ, i64_w, i32_w]
                rfl
               refine pure_ (i := 10) (N := some 72) (v := ?_) (a' := ?_) #[true, true, true, true, true, true, true, true, true, true, true, false, false, false] rfl rfl (any_of HT_.out (by kernel_rfl)) (fun _ _ _ h => h) (Or.inl ⟨by rfl, ?_⟩) ?_ ?_
               rotate_left
               ·intro w'
                go_simp
                with_reducible rfl
               rotate_left
               ·simp only [Act.put, List.setIfInBounds_toArray, List.set_cons_zero, List.set_cons_succ, i64_w, i32_w]
                rfl
               refine one_ (i := 11) (N := some 11) #[true, true, true, true, true, true, true, true, true, true, true, true, false, false] rfl rfl (one_of HT_.out (by kernel_rfl)) (by decide) (fun K hK => ?_)
               refine box_step ?hg (N := 11) ?hd (cs := #[.int .i64 0, .slice none 0 0]) (t := 39) ?hr ?_; (case hd => rfl); (case hg => rfl); (case hr => first | (go_simp; done) | (go_simp; rfl))
               intro gb217 hg w41 hbox hb
               have n0_ := Aside0.mk (Kd.R_below (rq HO_5.out) hb)
               have n1_ := Aside0.mk (Kd.R_below (rq HO_208001.out) hb)
               have n2_ := Aside0.mk (Kd.R_below (rq HO_209000.out) hb)
               have n3_ := Aside0.mk (Kd.R_below (rq HO215.out) hb)
               have n4_ := Aside0.mk (blk_below (bq BK197.out) hb)
               have n5_ := Aside0.mk (blk_below (bq BK207.out) hb)
               have n6_ := Aside0.mk (blk_below (bq BK208.out) hb)
               have n7_ := Aside0.mk (blk_below (bq BK209.out) hb)
               have n8_ := Aside0.mk (below_step (lq HB.out) hb)
               have n9_ := Aside0.mk (hbox)
               have n10_ := Aside0.mk ((ge_new hg (lq HB.out) : w.heap.size ≤ gb217))
               have n11_ := Aside0.mk ((ge_new hg (lq HB.out) : w.heap.size ≤ gb217))
               have n12_ := Aside0.mk ((ne_new hg (bq BK197.out) : gb197 ≠ gb217))
               have n13_ := Aside0.mk ((new_ne hg (bq BK197.out) : gb217 ≠ gb197))
               have n14_ := Aside0.mk ((ne_new hg (bq BK207.out) : gb207 ≠ gb217))
               have n15_ := Aside0.mk ((new_ne hg (bq BK207.out) : gb217 ≠ gb207))
               have n16_ := Aside0.mk ((ne_new hg (bq BK208.out) : gb208 ≠ gb217))
               have n17_ := Aside0.mk ((new_ne hg (bq BK208.out) : gb217 ≠ gb208))
               have n18_ := Aside0.mk ((ne_new hg (bq BK209.out) : gb209 ≠ gb217))
               have n19_ := Aside0.mk ((new_ne hg (bq BK209.out) : gb217 ≠ gb209))
               clear HO_5
               clear HO_208001
               clear HO_209000
               clear HO215
               clear BK197
               clear BK207
               clear BK208
               clear BK209
               clear HB
               have HO_5 := n0_
               have HO_208001 := n1_
               have HO_209000 := n2_
               have HO215 := n3_
               have BK197 := n4_
               have BK207 := n5_
               have BK208 := n6_
               have BK209 := n7_
               have HB := n8_
               have BK217 := n9_
               have GW217 := n10_
               have GE217 := n11_
               have NB197_217 := n12_
               have NB217_197 := n13_
               have NB207_217 := n14_
               have NB217_207 := n15_
               have NB208_217 := n16_
               have NB217_208 := n17_
               have NB209_217 := n18_
               have NB217_209 := n19_
               clear n0_ n1_ n2_ n3_ n4_ n5_ n6_ n7_ n8_ n9_ n10_ n11_ n12_ n13_ n14_ n15_ n16_ n17_ n18_ n19_
               clear hb hbox hg
               refine hK.out _ _ ⟨(blk_cell BK197.out 0).trans rfl, (blk_cell BK197.out 1).trans rfl, (blk_cell BK197.out 2).trans rfl, (blk_cell BK197.out 3).trans rfl, (blk_cell BK207.out 0).trans rfl, (blk_cell BK207.out 1).trans rfl, ((HB.out.cell (World.block_lt_of_cell? w _ hw211_0)).trans hw211_0), ((HB.out.cell (World.block_lt_of_cell? w _ hw211_1)).trans hw211_1)⟩ (fun hHeld => ?_)
               clear hK K
               refine norm_ (a' := ?_) ?_ ?_
               rotate_left
               ·show Act.put _ (some 11) _ = _
                simp only [Act.put, List.setIfInBounds_toArray, List.set_cons_zero, List.set_cons_succ, i64_w, i32_w]
                rfl
               exact norm_ (by simp only [putAll, Act.put, List.setIfInBounds_toArray, List.set_cons_zero, List.set_cons_succ]) (hCont (v214, gb217) _ ⟨hHeld, (by (with_reducible repeat (first | apply Kd.R_alloc | apply Kd.R_drewN | apply Kd.R_drew)); exact Kd.R_mono HO215.out (fun _ hk => ⟨hk.1.2, hk.2⟩)), (by (with_reducible repeat (first | apply Kd.R_alloc | apply Kd.R_drewN | apply Kd.R_drew)); exact Kd.R_mono HO_208001.out (fun _ hk => ⟨hk.2, hk.1⟩)), (by (with_reducible repeat (first | apply Kd.R_alloc | apply Kd.R_drewN | apply Kd.R_drew)); exact Kd.R_mono HO_209000.out (fun _ hk => ⟨hk.2, hk.1⟩)), (rq HO_5.out), (bq BK197.out), (bq BK207.out), (bq BK208.out), (bq BK209.out), (bq BK217.out), GW217.out, GE217.out, NB197_217.out, NB217_197.out, NB207_217.out, NB217_207.out, NB208_217.out, NB217_208.out, NB209_217.out, NB217_209.out, (lq HB.out)⟩)
              ·skip
               refine box_step ?hg (N := 11) ?hd (cs := #[.int .i64 0, .slice none 0 0]) (t := 39) ?hr ?_; (case hd => rfl); (case hg => rfl); (case hr => first | (go_simp; done) | (go_simp; rfl))
               intro gb217 hg w40 hbox hb
               have n0_ := Aside0.mk (Kd.R_below (rq HO_5.out) hb)
               have n1_ := Aside0.mk (Kd.R_below (rq HO_208001.out) hb)
               have n2_ := Aside0.mk (Kd.R_below (rq HO_209000.out) hb)
               have n3_ := Aside0.mk (blk_below (bq BK197.out) hb)
               have n4_ := Aside0.mk (blk_below (bq BK207.out) hb)
               have n5_ := Aside0.mk (blk_below (bq BK208.out) hb)
               have n6_ := Aside0.mk (blk_below (bq BK209.out) hb)
               have n7_ := Aside0.mk (below_step (lq HB.out) hb)
               have n8_ := Aside0.mk (hbox)
               have n9_ := Aside0.mk ((ge_new hg (lq HB.out) : w.heap.size ≤ gb217))
               have n10_ := Aside0.mk ((ge_new hg (lq HB.out) : w.heap.size ≤ gb217))
               have n11_ := Aside0.mk ((ne_new hg (bq BK197.out) : gb197 ≠ gb217))
               have n12_ := Aside0.mk ((new_ne hg (bq BK197.out) : gb217 ≠ gb197))
               have n13_ := Aside0.mk ((ne_new hg (bq BK207.out) : gb207 ≠ gb217))
               have n14_ := Aside0.mk ((new_ne hg (bq BK207.out) : gb217 ≠ gb207))
               have n15_ := Aside0.mk ((ne_new hg (bq BK208.out) : gb208 ≠ gb217))
               have n16_ := Aside0.mk ((new_ne hg (bq BK208.out) : gb217 ≠ gb208))
               have n17_ := Aside0.mk ((ne_new hg (bq BK209.out) : gb209 ≠ gb217))
               have n18_ := Aside0.mk ((new_ne hg (bq BK209.out) : gb217 ≠ gb209))
               clear HO_5
               clear HO_208001
               clear HO_209000
               clear BK197
               clear BK207
               clear BK208
               clear BK209
               clear HB
               have HO_5 := n0_
               have HO_208001 := n1_
               have HO_209000 := n2_
               have BK197 := n3_
               have BK207 := n4_
               have BK208 := n5_
               have BK209 := n6_
               have HB := n7_
               have BK217 := n8_
               have GW217 := n9_
               have GE217 := n10_
               have NB197_217 := n11_
               have NB217_197 := n12_
               have NB207_217 := n13_
               have NB217_207 := n14_
               have NB208_217 := n15_
               have NB217_208 := n16_
               have NB209_217 := n17_
               have NB217_209 := n18_
               clear n0_ n1_ n2_ n3_ n4_ n5_ n6_ n7_ n8_ n9_ n10_ n11_ n12_ n13_ n14_ n15_ n16_ n17_ n18_
               clear hb hbox hg
               refine hK.out _ _ ⟨(blk_cell BK197.out 0).trans rfl, (blk_cell BK197.out 1).trans rfl, (blk_cell BK197.out 2).trans rfl, (blk_cell BK197.out 3).trans rfl, (blk_cell BK207.out 0).trans rfl, (blk_cell BK207.out 1).trans rfl, ((HB.out.cell (World.block_lt_of_cell? w _ hw211_0)).trans hw211_0), ((HB.out.cell (World.block_lt_of_cell? w _ hw211_1)).trans hw211_1)⟩ (fun hHeld => ?_)
               clear hK K
               refine norm_ (a' := ?_) ?_ ?_
               rotate_left
               ·show Act.put _ (some 11) _ = _
                simp only [Act.put, List.setIfInBounds_toArray, List.set_cons_zero, List.set_cons_succ, i64_w, i32_w]
                rfl
               refine one_ (i := 7) (N := some 70) #[true, true, true, true, true, true, true, true, false, false, false, true, false, false] rfl rfl (one_of HT_.out (by kernel_rfl)) (by decide) (fun K hK => ?_)
               refine goes_ Try.func35 (by kernel_rfl) rfl #[.agg #[.int .i64 a0_0, .int .i64 a0_1, .int .i64 a0_2, .int .i64 a0_3], .agg #[.int .i64 x208000_3, .slice Ao37 x208001_3.length co37], .int .u32 ((rd_T70 l1 x9_3).f1)] (by rfl) rfl rfl (by (try simp only [List.map_toArray, List.map_cons, List.map_nil]); first | done | rfl | (simp only [List.length_drop, List.length_take]; rfl)) ?_
               with_reducible refine (spec_SendOn.calls a0_0 a0_1 a0_2 a0_3 x208000_3 _ _ x208001_3 ((rd_T70 l1 x9_3).f1) t212 t213 t216 _ ?side1 ?side2 A30.out).mono ?_
               (case side1 => repeat (first | exact (Kd.R_reads' HO_208001.out).2.2 | (with_reducible refine Kd.C_alloc ?_ _) | (with_reducible refine Kd.C_drewN ?_ _) | (with_reducible refine Kd.C_drew ?_)))
               (case side2 => exact (Kd.R_reads' HO_208001.out).2.1)
               rintro e w41 ⟨v214, rfl, ho0, hb⟩
               refine ⟨_, rfl, ?_⟩
               have n0_ := Aside0.mk (Kd.R_below (rq HO_5.out) hb)
               have n1_ := Aside0.mk (Kd.R_elder' (rq HO_208001.out) (Kd.R_base ho0) hb)
               have n2_ := Aside0.mk (Kd.R_elder' (rq HO_209000.out) (Kd.R_base ho0) hb)
               have n3_ := Aside0.mk (Kd.R_lower (Kd.R_new' (Kd.R_new' ho0 (Kd.R_lt (rq HO_208001.out))) (Kd.R_lt (rq HO_209000.out))) (below_size (lq HB.out)))
               have n4_ := Aside0.mk (blk_below (bq BK197.out) hb)
               have n5_ := Aside0.mk (blk_below (bq BK207.out) hb)
               have n6_ := Aside0.mk (blk_below (bq BK208.out) hb)
               have n7_ := Aside0.mk (blk_below (bq BK209.out) hb)
               have n8_ := Aside0.mk (blk_below (bq BK217.out) hb)
               have n9_ := Aside0.mk (below_step (lq HB.out) hb)
               clear HO_5
               clear HO_208001
               clear HO_209000
               clear BK197
               clear BK207
               clear BK208
               clear BK209
               clear BK217
               clear HB
               have HO_5 := n0_
               have HO_208001 := n1_
               have HO_209000 := n2_
               have HO215 := n3_
               have BK197 := n4_
               have BK207 := n5_
               have BK208 := n6_
               have BK209 := n7_
               have BK217 := n8_
               have HB := n9_
               clear n0_ n1_ n2_ n3_ n4_ n5_ n6_ n7_ n8_ n9_
               (try clear hb)
               (try clear hb2)
               (try clear hk)
               (try clear hi)
               (try clear ho0)
               refine hK.out _ _ ⟨(blk_cell BK197.out 0).trans rfl, (blk_cell BK197.out 1).trans rfl, (blk_cell BK197.out 2).trans rfl, (blk_cell BK197.out 3).trans rfl, (blk_cell BK207.out 0).trans rfl, (blk_cell BK207.out 1).trans rfl, ((HB.out.cell (World.block_lt_of_cell? w _ hw211_0)).trans hw211_0), ((HB.out.cell (World.block_lt_of_cell? w _ hw211_1)).trans hw211_1)⟩ (fun hHeld => ?_)
               clear hK K
               refine norm_ (a' := ?_) ?_ ?_
               rotate_left
               ·show Act.put _ (some 70) _ = _
                simp only [Act.put, List.setIfInBounds_toArray, List.set_cons_zero, List.set_cons_succ, i64_w, i32_w]
                rfl
               refine pure_ (i := 8) (N := some 62) (v := ?_) (a' := ?_) #[true, true, true, true, true, true, true, true, true, false, false, true, false, false] rfl rfl (any_of HT_.out (by kernel_rfl)) (fun _ _ _ h => h) (Or.inl ⟨by rfl, ?_⟩) ?_ ?_
               rotate_left
               ·intro w'
                go_simp
                with_reducible rfl
               rotate_left
               ·simp only [Act.put, List.setIfInBounds_toArray, List.set_cons_zero, List.set_cons_succ, i64_w, i32_w]
                rfl
               refine pure_ (i := 9) (N := some 71) (v := ?_) (a' := ?_) #[true, true, true, true, true, true, true, true, true, true, false, true, false, false] rfl rfl (any_of HT_.out (by kernel_rfl)) (fun _ _ _ h => h) (Or.inl ⟨by rfl, ?_⟩) ?_ ?_
               rotate_left
               ·intro w'
                go_simp
                with_reducible rfl
               rotate_left
               ·simp only [Act.put, List.setIfInBounds_toArray, List.set_cons_zero, List.set_cons_succ, i64_w, i32_w]
                rfl
               refine pure_ (i := 10) (N := some 72) (v := ?_) (a' := ?_) #[true, true, true, true, true, true, true, true, true, true, true, true, false, false] rfl rfl (any_of HT_.out (by kernel_rfl)) (fun _ _ _ h => h) (Or.inl ⟨by rfl, ?_⟩) ?_ ?_
               rotate_left
               ·intro w'
                go_simp
                with_reducible rfl
               rotate_left
               ·simp only [Act.put, List.setIfInBounds_toArray, List.set_cons_zero, List.set_cons_succ, i64_w, i32_w]
                rfl
               exact norm_ (by simp only [putAll, Act.put, List.setIfInBounds_toArray, List.set_cons_zero, List.set_cons_succ]) (hCont (v214, gb217) _ ⟨hHeld, (by (with_reducible repeat (first | apply Kd.R_alloc | apply Kd.R_drewN | apply Kd.R_drew)); exact Kd.R_mono HO215.out (fun _ hk => ⟨hk.1.2, hk.2⟩)), (by (with_reducible repeat (first | apply Kd.R_alloc | apply Kd.R_drewN | apply Kd.R_drew)); exact Kd.R_mono HO_208001.out (fun _ hk => ⟨hk.2, hk.1⟩)), (by (with_reducible repeat (first | apply Kd.R_alloc | apply Kd.R_drewN | apply Kd.R_drew)); exact Kd.R_mono HO_209000.out (fun _ hk => ⟨hk.2, hk.1⟩)), (rq HO_5.out), (bq BK197.out), (bq BK207.out), (bq BK208.out), (bq BK209.out), (bq BK217.out), GW217.out, GE217.out, NB197_217.out, NB217_197.out, NB207_217.out, NB217_207.out, NB208_217.out, NB217_208.out, NB209_217.out, NB217_209.out, (lq HB.out)⟩)
             rintro ⟨v214, gb217⟩ w42 ⟨hS_, h0_, h1_, h2_, h3_, h4_, h5_, h6_, h7_, h8_, h9_, h10_, h11_, h12_, h13_, h14_, h15_, h16_, h17_, h18_, h19_⟩
             have n0_ : Aside0 (Kd.R (Kd.int .u32) 46 w42 w.heap.size (fun k_ => some k_ ≠ (.slice Ao37 x208001_3.length co37 : Value).ownBlock ∧ some k_ ≠ (u209000 : Value).ownBlock) v214 t213) := ⟨h0_⟩
             have n1_ : Aside0 (Kd.R (Kd.int .u32) 46 w42 w.heap.size (fun k_ => some k_ ≠ (v214 : Value).ownBlock ∧ some k_ ≠ (u209000 : Value).ownBlock) (.slice Ao37 x208001_3.length co37) x208001_3) := ⟨h1_⟩
             have n2_ : Aside0 (Kd.R (Kd.int .u32) 46 w42 w.heap.size (fun k_ => some k_ ≠ (v214 : Value).ownBlock ∧ some k_ ≠ (.slice Ao37 x208001_3.length co37 : Value).ownBlock) u209000 x209000_3) := ⟨h2_⟩
             have n3_ : Aside0 (Kd.R k72 72 w42 w.heap.size (fun k_ => k_ ≠ gb209) u5 x5_3) := ⟨h3_⟩
             have n4_ : Aside0 (w42.heap[gb197]? = some (.cells #[.int .i64 a0_0, .int .i64 a0_1, .int .i64 a0_2, .int .i64 a0_3] 29 (0, 0))) := ⟨h4_⟩
             have n5_ : Aside0 (w42.heap[gb207]? = some (.cells #[.int .i64 x208000_3, .slice Ao37 x208001_3.length co37] 39 (0, 0))) := ⟨h5_⟩
             have n6_ : Aside0 (w42.heap[gb208]? = some (.cells #[u209000] 31 (0, 0))) := ⟨h6_⟩
             have n7_ : Aside0 (w42.heap[gb209]? = some (.cells #[.int .i64 0, .int .u32 0] 72 (0, 0))) := ⟨h7_⟩
             have n8_ : Aside0 (w42.heap[gb217]? = some (.cells #[.int .i64 0, .slice none 0 0] 39 (0, 0))) := ⟨h8_⟩
             have n9_ : Aside0 (w.heap.size ≤ gb217) := ⟨h9_⟩
             have n10_ : Aside0 (w.heap.size ≤ gb217) := ⟨h10_⟩
             have n11_ : Aside0 (gb197 ≠ gb217) := ⟨h11_⟩
             have n12_ : Aside0 (gb217 ≠ gb197) := ⟨h12_⟩
             have n13_ : Aside0 (gb207 ≠ gb217) := ⟨h13_⟩
             have n14_ : Aside0 (gb217 ≠ gb207) := ⟨h14_⟩
             have n15_ : Aside0 (gb208 ≠ gb217) := ⟨h15_⟩
             have n16_ : Aside0 (gb217 ≠ gb208) := ⟨h16_⟩
             have n17_ : Aside0 (gb209 ≠ gb217) := ⟨h17_⟩
             have n18_ : Aside0 (gb217 ≠ gb209) := ⟨h18_⟩
             have n19_ : Aside0 (Below w.heap.size w w42) := ⟨h19_⟩
             clear HO_5
             clear HO_208001
             clear HO_209000
             clear BK197
             clear BK207
             clear BK208
             clear BK209
             clear HB
             clear h0_ h1_ h2_ h3_ h4_ h5_ h6_ h7_ h8_ h9_ h10_ h11_ h12_ h13_ h14_ h15_ h16_ h17_ h18_ h19_
             have HO215 := n0_
             have HO_208001 := n1_
             have HO_209000 := n2_
             have HO_5 := n3_
             have BK197 := n4_
             have BK207 := n5_
             have BK208 := n6_
             have BK209 := n7_
             have BK217 := n8_
             have GW217 := n9_
             have GE217 := n10_
             have NB197_217 := n11_
             have NB217_197 := n12_
             have NB207_217 := n13_
             have NB217_207 := n14_
             have NB208_217 := n15_
             have NB217_208 := n16_
             have NB209_217 := n17_
             have NB217_209 := n18_
             have HB := n19_
             clear n0_ n1_ n2_ n3_ n4_ n5_ n6_ n7_ n8_ n9_ n10_ n11_ n12_ n13_ n14_ n15_ n16_ n17_ n18_ n19_
             have hHeld : w42.cell? ⟨gb197, 0, none⟩ = some (.int .i64 a0_0) ∧ w42.cell? ⟨gb197, 1, none⟩ = some (.int .i64 a0_1) ∧ w42.cell? ⟨gb197, 2, none⟩ = some (.int .i64 a0_2) ∧ w42.cell? ⟨gb197, 3, none⟩ = some (.int .i64 a0_3) ∧ w42.cell? ⟨gb207, 0, none⟩ = some (.int .i64 x208000_3) ∧ w42.cell? ⟨gb207, 1, none⟩ = some (.slice Ao37 x208001_3.length co37) ∧ w42.cell? (ad210.add ((x9_3).toNat * 2)) = some (.int .i64 ((rd_T70 l1 x9_3).f0)) ∧ w42.cell? ⟨(ad210.add ((x9_3).toNat * 2)).block, (ad210.add ((x9_3).toNat * 2)).off + 1, none⟩ = some (.int .u32 ((rd_T70 l1 x9_3).f1)) := hS_
             obtain ⟨Ao44, co44, eo44⟩ := Kd.R_slice HO215.out
             (first | subst eo44 | (injection eo44 with f1_ f2_ f3_; have f4_ := f1_.symm; have f5_ := f3_.symm; clear f1_ f2_ f3_; subst f4_; subst f5_))
             refine norm_ (a' := ?_) ?_ ?_
             rotate_left
             ·simp only [putAll, Act.put, List.setIfInBounds_toArray, List.set_cons_zero, List.set_cons_succ]
              rfl
             refine one_ (i := 12) (N := none) #[true, true, true, true, true, true, true, true, true, true, true, true, true, false] rfl rfl (one_of HT_.out (by kernel_rfl)) (by decide) (fun K hK => ?_)
             have hs43 : w42.cell? ⟨gb217, 0, none⟩ = some (.int .i64 0) := (blk_cell BK217.out 0).trans rfl
             have hfs43 := blk_frozen BK217.out 0
             have hns43_0 := NB197_217.out
             have hns43_1 := NB207_217.out
             have hns43_2 := NB208_217.out
             have hns43_3 := NB209_217.out
             have hms43_0 := NB217_197.out
             have hms43_1 := NB217_207.out
             have hms43_2 := NB217_208.out
             have hms43_3 := NB217_209.out
             have hs45 : w42.cell? ⟨gb217, 1, none⟩ = some (.slice none 0 0) := (blk_cell BK217.out 1).trans rfl
             have hfs45 := blk_frozen BK217.out 1
             have hns45_0 := NB197_217.out
             have hns45_1 := NB207_217.out
             have hns45_2 := NB208_217.out
             have hns45_3 := NB209_217.out
             have hms45_0 := NB217_197.out
             have hms45_1 := NB217_207.out
             have hms45_2 := NB217_208.out
             have hms45_3 := NB217_209.out
             refine skip_ (w1 := ?_) (by rfl) rfl ?_ ?_
             rotate_left
             ·go_simp
              rfl
             refine hK.out _ _ ⟨((cell_far (p := ⟨gb217, _, none⟩) NB197_217.out _).trans (((cell_far (p := ⟨gb217, _, none⟩) NB197_217.out _).trans (hHeld.1)))), ((cell_far (p := ⟨gb217, _, none⟩) NB197_217.out _).trans (((cell_far (p := ⟨gb217, _, none⟩) NB197_217.out _).trans (hHeld.2.1)))), ((cell_far (p := ⟨gb217, _, none⟩) NB197_217.out _).trans (((cell_far (p := ⟨gb217, _, none⟩) NB197_217.out _).trans (hHeld.2.2.1)))), ((cell_far (p := ⟨gb217, _, none⟩) NB197_217.out _).trans (((cell_far (p := ⟨gb217, _, none⟩) NB197_217.out _).trans (hHeld.2.2.2.1)))), ((cell_far (p := ⟨gb217, _, none⟩) NB207_217.out _).trans (((cell_far (p := ⟨gb217, _, none⟩) NB207_217.out _).trans (hHeld.2.2.2.2.1)))), ((cell_far (p := ⟨gb217, _, none⟩) NB207_217.out _).trans (((cell_far (p := ⟨gb217, _, none⟩) NB207_217.out _).trans (hHeld.2.2.2.2.2.1)))), ((cell_far (p := ⟨gb217, _, none⟩) (by first | exact Nat.ne_of_lt (Nat.lt_of_lt_of_le (by have := World.block_lt_of_cell? _ _ hw211_0; first | rwa [add_block] at this | exact this) GW217.out) | (rw [add_block]; exact Nat.ne_of_lt (Nat.lt_of_lt_of_le (by have := World.block_lt_of_cell? _ _ hw211_0; first | rwa [add_block] at this | exact this) GW217.out)) | (show (Addr.add _ _).block ≠ _; rw [add_block]; exact Nat.ne_of_lt (Nat.lt_of_lt_of_le (by have := World.block_lt_of_cell? _ _ hw211_0; first | rwa [add_block] at this | exact this) GW217.out)) | (dsimp only; exact Nat.ne_of_lt (Nat.lt_of_lt_of_le (by have := World.block_lt_of_cell? _ _ hw211_0; first | rwa [add_block] at this | exact this) GW217.out))) _).trans (((cell_far (p := ⟨gb217, _, none⟩) (by first | exact Nat.ne_of_lt (Nat.lt_of_lt_of_le (by have := World.block_lt_of_cell? _ _ hw211_0; first | rwa [add_block] at this | exact this) GW217.out) | (rw [add_block]; exact Nat.ne_of_lt (Nat.lt_of_lt_of_le (by have := World.block_lt_of_cell? _ _ hw211_0; first | rwa [add_block] at this | exact this) GW217.out)) | (show (Addr.add _ _).block ≠ _; rw [add_block]; exact Nat.ne_of_lt (Nat.lt_of_lt_of_le (by have := World.block_lt_of_cell? _ _ hw211_0; first | rwa [add_block] at this | exact this) GW217.out)) | (dsimp only; exact Nat.ne_of_lt (Nat.lt_of_lt_of_le (by have := World.block_lt_of_cell? _ _ hw211_0; first | rwa [add_block] at this | exact this) GW217.out))) _).trans (hHeld.2.2.2.2.2.2.1)))), ((cell_far (p := ⟨gb217, _, none⟩) (by first | exact Nat.ne_of_lt (Nat.lt_of_lt_of_le (by have := World.block_lt_of_cell? _ _ hw211_1; first | rwa [add_block] at this | exact this) GW217.out) | (rw [add_block]; exact Nat.ne_of_lt (Nat.lt_of_lt_of_le (by have := World.block_lt_of_cell? _ _ hw211_1; first | rwa [add_block] at this | exact this) GW217.out)) | (show (Addr.add _ _).block ≠ _; rw [add_block]; exact Nat.ne_of_lt (Nat.lt_of_lt_of_le (by have := World.block_lt_of_cell? _ _ hw211_1; first | rwa [add_block] at this | exact this) GW217.out)) | (dsimp only; exact Nat.ne_of_lt (Nat.lt_of_lt_of_le (by have := World.block_lt_of_cell? _ _ hw211_1; first | rwa [add_block] at this | exact this) GW217.out))) _).trans (((cell_far (p := ⟨gb217, _, none⟩) (by first | exact Nat.ne_of_lt (Nat.lt_of_lt_of_le (by have := World.block_lt_of_cell? _ _ hw211_1; first | rwa [add_block] at this | exact this) GW217.out) | (rw [add_block]; exact Nat.ne_of_lt (Nat.lt_of_lt_of_le (by have := World.block_lt_of_cell? _ _ hw211_1; first | rwa [add_block] at this | exact this) GW217.out)) | (show (Addr.add _ _).block ≠ _; rw [add_block]; exact Nat.ne_of_lt (Nat.lt_of_lt_of_le (by have := World.block_lt_of_cell? _ _ hw211_1; first | rwa [add_block] at this | exact this) GW217.out)) | (dsimp only; exact Nat.ne_of_lt (Nat.lt_of_lt_of_le (by have := World.block_lt_of_cell? _ _ hw211_1; first | rwa [add_block] at this | exact this) GW217.out))) _).trans (hHeld.2.2.2.2.2.2.2))))⟩ (fun hHeld => ?_)
             clear hK K
             refine pure_ (i := 13) (N := some 12) (v := ?_) (a' := ?_) #[true, true, true, true, true, true, true, true, true, true, true, true, true, true] rfl rfl (any_of HT_.out (by kernel_rfl)) (fun _ _ _ h => h) (Or.inl ⟨by rfl, ?_⟩) ?_ ?_
             rotate_left
             ·intro w'
              go_simp
              with_reducible rfl
             rotate_left
             ·simp only [Act.put, List.setIfInBounds_toArray, List.set_cons_zero, List.set_cons_succ, i64_w, i32_w]
              rfl
             refine done_ (done_of HT_.out (by kernel_rfl)) ?_
             have hnb46 := NB217_197.out
             have hnc46 := NB197_217.out
             have hnb47 := NB217_207.out
             have hnc47 := NB207_217.out
             have hnb48 := NB217_208.out
             have hnc48 := NB208_217.out
             have hnb49 := NB217_209.out
             have hnc49 := NB209_217.out
             have hcz50_0 : w42.cell? ⟨gb217, 0, none⟩ = some (.int .i64 0) := (blk_cell BK217.out 0).trans rfl
             have hcz50_1 : w42.cell? ⟨gb217, 1, none⟩ = some (.slice none 0 0) := (blk_cell BK217.out 1).trans rfl
             have hfz50_0 := blk_frozen BK217.out 0
             have hfz50_1 := blk_frozen BK217.out 1
             have hnb51 := NB207_197.out
             have hnc51 := NB197_207.out
             have hnb52 := NB207_208.out
             have hnc52 := NB208_207.out
             have hcz53_0 : w42.cell? ⟨gb207, 0, none⟩ = some (.int .i64 x208000_3) := (blk_cell BK207.out 0).trans rfl
             have hcz53_1 : w42.cell? ⟨gb207, 1, none⟩ = some (.slice Ao37 x208001_3.length co37) := (blk_cell BK207.out 1).trans rfl
             have hfz53_0 := blk_frozen BK207.out 0
             have hfz53_1 := blk_frozen BK207.out 1
             have hcz54_0 : w42.cell? ⟨gb209, 0, none⟩ = some (.int .i64 0) := (blk_cell BK209.out 0).trans rfl
             have hcz54_1 : w42.cell? ⟨gb209, 1, none⟩ = some (.int .u32 0) := (blk_cell BK209.out 1).trans rfl
             have hfz54_0 := blk_frozen BK209.out 0
             have hfz54_1 := blk_frozen BK209.out 1
             try go_wp2_with (first | ((with_reducible refine gate_builtin (b := .append) (xs := #[.tmp 102, .tmp 104]) rfl ?_); (try (refine gate_guard (by rfl) ?_; dsimp only)); at_builtin; refine Kd.R_append k72 (w0 := w) w.heap.size rfl (.tmp 102) (.tmp 104) 66 72 (.agg #[(.int .i64 0), (.int .u32 0)]) 16 rfl Try.underlying66 info72 rfl (by decide) (by omega) u5 x5_3 (⟨t216, 0⟩ : S72) [.int .i64 t216, .int .u32 0] (fun k_ => k_ ≠ gb209) (fun _ => False) rfl (by first | (go_simp; done) | (go_simp; rfl)) ?aP (fun _ hk => hk.elim) ?aF ?aO ?aB ?aS ?aL ?_; (case aP => exact k72_mkM _ _ _ (⟨t216, 0⟩ : S72)); (case aB => exact (by repeat (first | (with_reducible first | exact HB.out | apply below_alloc | apply pw_below_drewN | apply below_drew1 | refine below_set ?_ GE207.out | refine below_set ?_ GE209.out | refine below_set ?_ GE217.out) | exact HB.out))); (case aF => exact (fun k_ hk => Kd.freshB (g := gb209) (o := .cells #[.int .i64 t216, .int .u32 0] 72 (0, 0)) (by (with_reducible repeat (first | refine blk_drewN ?_ _ | refine blk_drew ?_ | refine blk_alloc ?_ _)); refine blk_put (cs := #[.int .i64 0, .int .u32 0]) ?_ 0 _ rfl; (with_reducible repeat (first | refine blk_drewN ?_ _ | refine blk_drew ?_ | refine blk_alloc ?_ _)); refine blk_far ?_ NB209_207.out _; (with_reducible repeat (first | refine blk_drewN ?_ _ | refine blk_drew ?_ | refine blk_alloc ?_ _)); refine blk_far ?_ NB209_207.out _; (with_reducible repeat (first | refine blk_drewN ?_ _ | refine blk_drew ?_ | refine blk_alloc ?_ _)); refine blk_far ?_ NB209_217.out _; (with_reducible repeat (first | refine blk_drewN ?_ _ | refine blk_drew ?_ | refine blk_alloc ?_ _)); refine blk_far ?_ NB209_217.out _; (with_reducible repeat (first | refine blk_drewN ?_ _ | refine blk_drew ?_ | refine blk_alloc ?_ _)); exact BK209.out) k_ hk)); (case aO => exact (by (with_reducible repeat (first | apply Kd.R_alloc | apply Kd.R_drewN | apply Kd.R_drew)); exact Kd.R_mono (Kd.R_far (p := ⟨gb209, 0, none⟩) (Kd.R_far (p := ⟨gb207, 1, none⟩) (Kd.R_far (p := ⟨gb207, 0, none⟩) (Kd.R_far (p := ⟨gb217, 1, none⟩) (Kd.R_far (p := ⟨gb217, 0, none⟩) (Kd.R_mono (Kd.R_types (Kd.R_types HO_5.out BK217.out (by decide)) BK207.out (by decide)) (fun k_ hk => (⟨hk, hk.1.1⟩ : _ ∧ k_ ≠ gb209))) (fun _ hk => hk.1.1.2) (.int .i64 t212)) (fun _ hk => hk.1.1.2) (.slice Ao44 t213.length co44)) (fun _ hk => hk.1.2) (.int .i64 t212)) (fun _ hk => hk.1.2) (.slice Ao44 t213.length co44)) (fun _ hk => hk.2) (.int .i64 t216)) (fun _ hk => hk.1.1.1))); (case aS => exact (below_size (by repeat (first | (with_reducible first | exact HB.out | apply below_alloc | apply pw_below_drewN | apply below_drew1 | refine below_set ?_ GE207.out | refine below_set ?_ GE209.out | refine below_set ?_ GE217.out) | exact HB.out)))); (case aL => have := LMc31.out; omega); intro v219 w55 ho hb hg hat; rw [← Ny218.out] at ho; have n0_ := Aside0.mk (Kd.R_over' (rq (Kd.R_mono (Kd.R_mono (Kd.R_mono (Kd.R_far (p := ⟨gb209, 0, none⟩) (Kd.R_far (p := ⟨gb207, 1, none⟩) (Kd.R_far (p := ⟨gb207, 0, none⟩) (Kd.R_far (p := ⟨gb217, 1, none⟩) (Kd.R_far (p := ⟨gb217, 0, none⟩) (Kd.R_types (Kd.R_types (Kd.R_types HO_208001.out BK217.out (by decide)) BK207.out (by decide)) BK209.out (by decide)) (fun _ hk => hk.1.1.2) (.int .i64 t212)) (fun _ hk => hk.1.1.2) (.slice Ao44 t213.length co44)) (fun _ hk => hk.1.2) (.int .i64 t212)) (fun _ hk => hk.1.2) (.slice Ao44 t213.length co44)) (fun _ hk => hk.2) (.int .i64 t216)) (fun _ h_ => h_.1)) (fun _ h_ => h_.1)) (fun _ h_ => h_.1))) (Kd.R_typed (rq (Kd.R_mono (Kd.R_mono (Kd.R_mono (Kd.R_far (p := ⟨gb209, 0, none⟩) (Kd.R_far (p := ⟨gb207, 1, none⟩) (Kd.R_far (p := ⟨gb207, 0, none⟩) (Kd.R_far (p := ⟨gb217, 1, none⟩) (Kd.R_far (p := ⟨gb217, 0, none⟩) (Kd.R_mono (Kd.R_types (Kd.R_types HO_5.out BK217.out (by decide)) BK207.out (by decide)) (fun k_ hk => (⟨hk, hk.1.1⟩ : _ ∧ k_ ≠ gb209))) (fun _ hk => hk.1.1.2) (.int .i64 t212)) (fun _ hk => hk.1.1.2) (.slice Ao44 t213.length co44)) (fun _ hk => hk.1.2) (.int .i64 t212)) (fun _ hk => hk.1.2) (.slice Ao44 t213.length co44)) (fun _ hk => hk.2) (.int .i64 t216)) (fun _ h_ => h_.1)) (fun _ h_ => h_.1)) (fun _ h_ => h_.1)))) (by decide) hg); have n1_ := Aside0.mk (Kd.R_over' (rq (Kd.R_mono (Kd.R_mono (Kd.R_mono (Kd.R_far (p := ⟨gb209, 0, none⟩) (Kd.R_far (p := ⟨gb207, 1, none⟩) (Kd.R_far (p := ⟨gb207, 0, none⟩) (Kd.R_far (p := ⟨gb217, 1, none⟩) (Kd.R_far (p := ⟨gb217, 0, none⟩) (Kd.R_types (Kd.R_types (Kd.R_types HO_209000.out BK217.out (by decide)) BK207.out (by decide)) BK209.out (by decide)) (fun _ hk => hk.1.1.2) (.int .i64 t212)) (fun _ hk => hk.1.1.2) (.slice Ao44 t213.length co44)) (fun _ hk => hk.1.2) (.int .i64 t212)) (fun _ hk => hk.1.2) (.slice Ao44 t213.length co44)) (fun _ hk => hk.2) (.int .i64 t216)) (fun _ h_ => h_.1)) (fun _ h_ => h_.1)) (fun _ h_ => h_.1))) (Kd.R_typed (rq (Kd.R_mono (Kd.R_mono (Kd.R_mono (Kd.R_far (p := ⟨gb209, 0, none⟩) (Kd.R_far (p := ⟨gb207, 1, none⟩) (Kd.R_far (p := ⟨gb207, 0, none⟩) (Kd.R_far (p := ⟨gb217, 1, none⟩) (Kd.R_far (p := ⟨gb217, 0, none⟩) (Kd.R_mono (Kd.R_types (Kd.R_types HO_5.out BK217.out (by decide)) BK207.out (by decide)) (fun k_ hk => (⟨hk, hk.1.1⟩ : _ ∧ k_ ≠ gb209))) (fun _ hk => hk.1.1.2) (.int .i64 t212)) (fun _ hk => hk.1.1.2) (.slice Ao44 t213.length co44)) (fun _ hk => hk.1.2) (.int .i64 t212)) (fun _ hk => hk.1.2) (.slice Ao44 t213.length co44)) (fun _ hk => hk.2) (.int .i64 t216)) (fun _ h_ => h_.1)) (fun _ h_ => h_.1)) (fun _ h_ => h_.1)))) (by decide) hg); have n2_ := Aside0.mk (blk_grown (g := gb197) (o := .cells #[.int .i64 a0_0, .int .i64 a0_1, .int .i64 a0_2, .int .i64 a0_3] 29 (0, 0)) (by (with_reducible repeat (first | refine blk_drewN ?_ _ | refine blk_drew ?_ | refine blk_alloc ?_ _)); refine blk_far ?_ NB197_209.out _; (with_reducible repeat (first | refine blk_drewN ?_ _ | refine blk_drew ?_ | refine blk_alloc ?_ _)); refine blk_far ?_ NB197_207.out _; (with_reducible repeat (first | refine blk_drewN ?_ _ | refine blk_drew ?_ | refine blk_alloc ?_ _)); refine blk_far ?_ NB197_207.out _; (with_reducible repeat (first | refine blk_drewN ?_ _ | refine blk_drew ?_ | refine blk_alloc ?_ _)); refine blk_far ?_ NB197_217.out _; (with_reducible repeat (first | refine blk_drewN ?_ _ | refine blk_drew ?_ | refine blk_alloc ?_ _)); refine blk_far ?_ NB197_217.out _; (with_reducible repeat (first | refine blk_drewN ?_ _ | refine blk_drew ?_ | refine blk_alloc ?_ _)); exact BK197.out) hg (Kd.R_ne HO_5.out BK197.out (by decide))); have n3_ := Aside0.mk (blk_grown (g := gb207) (o := .cells #[.int .i64 t212, .slice Ao44 t213.length co44] 39 (0, 0)) (by (with_reducible repeat (first | refine blk_drewN ?_ _ | refine blk_drew ?_ | refine blk_alloc ?_ _)); refine blk_far ?_ NB207_209.out _; (with_reducible repeat (first | refine blk_drewN ?_ _ | refine blk_drew ?_ | refine blk_alloc ?_ _)); refine blk_put (cs := #[.int .i64 t212, .slice Ao37 x208001_3.length co37]) ?_ 1 _ rfl; (with_reducible repeat (first | refine blk_drewN ?_ _ | refine blk_drew ?_ | refine blk_alloc ?_ _)); refine blk_put (cs := #[.int .i64 x208000_3, .slice Ao37 x208001_3.length co37]) ?_ 0 _ rfl; (with_reducible repeat (first | refine blk_drewN ?_ _ | refine blk_drew ?_ | refine blk_alloc ?_ _)); refine blk_far ?_ NB207_217.out _; (with_reducible repeat (first | refine blk_drewN ?_ _ | refine blk_drew ?_ | refine blk_alloc ?_ _)); refine blk_far ?_ NB207_217.out _; (with_reducible repeat (first | refine blk_drewN ?_ _ | refine blk_drew ?_ | refine blk_alloc ?_ _)); exact BK207.out) hg (Kd.R_ne HO_5.out BK207.out (by decide))); have n4_ := Aside0.mk (blk_grown (g := gb208) (o := .cells #[u209000] 31 (0, 0)) (by (with_reducible repeat (first | refine blk_drewN ?_ _ | refine blk_drew ?_ | refine blk_alloc ?_ _)); refine blk_far ?_ NB208_209.out _; (with_reducible repeat (first | refine blk_drewN ?_ _ | refine blk_drew ?_ | refine blk_alloc ?_ _)); refine blk_far ?_ NB208_207.out _; (with_reducible repeat (first | refine blk_drewN ?_ _ | refine blk_drew ?_ | refine blk_alloc ?_ _)); refine blk_far ?_ NB208_207.out _; (with_reducible repeat (first | refine blk_drewN ?_ _ | refine blk_drew ?_ | refine blk_alloc ?_ _)); refine blk_far ?_ NB208_217.out _; (with_reducible repeat (first | refine blk_drewN ?_ _ | refine blk_drew ?_ | refine blk_alloc ?_ _)); refine blk_far ?_ NB208_217.out _; (with_reducible repeat (first | refine blk_drewN ?_ _ | refine blk_drew ?_ | refine blk_alloc ?_ _)); exact BK208.out) hg (Kd.R_ne HO_5.out BK208.out (by decide))); have n5_ := Aside0.mk (blk_grown (g := gb209) (o := .cells #[.int .i64 t216, .int .u32 0] 72 (0, 0)) (by (with_reducible repeat (first | refine blk_drewN ?_ _ | refine blk_drew ?_ | refine blk_alloc ?_ _)); refine blk_put (cs := #[.int .i64 0, .int .u32 0]) ?_ 0 _ rfl; (with_reducible repeat (first | refine blk_drewN ?_ _ | refine blk_drew ?_ | refine blk_alloc ?_ _)); refine blk_far ?_ NB209_207.out _; (with_reducible repeat (first | refine blk_drewN ?_ _ | refine blk_drew ?_ | refine blk_alloc ?_ _)); refine blk_far ?_ NB209_207.out _; (with_reducible repeat (first | refine blk_drewN ?_ _ | refine blk_drew ?_ | refine blk_alloc ?_ _)); refine blk_far ?_ NB209_217.out _; (with_reducible repeat (first | refine blk_drewN ?_ _ | refine blk_drew ?_ | refine blk_alloc ?_ _)); refine blk_far ?_ NB209_217.out _; (with_reducible repeat (first | refine blk_drewN ?_ _ | refine blk_drew ?_ | refine blk_alloc ?_ _)); exact BK209.out) hg (Kd.R_away HO_5.out (fun _ hk => hk))); have n6_ := Aside0.mk (Kd.R_over' (rq (Kd.R_mono (Kd.R_mono (Kd.R_mono (Kd.R_far (p := ⟨gb209, 0, none⟩) (Kd.R_far (p := ⟨gb207, 1, none⟩) (Kd.R_far (p := ⟨gb207, 0, none⟩) (Kd.R_far (p := ⟨gb217, 1, none⟩) (Kd.R_far (p := ⟨gb217, 0, none⟩) (Kd.R_types (Kd.R_types (Kd.R_types HO215.out BK217.out (by decide)) BK207.out (by decide)) BK209.out (by decide)) (fun _ hk => hk.1.1.2) (.int .i64 t212)) (fun _ hk => hk.1.1.2) (.slice Ao44 t213.length co44)) (fun _ hk => hk.1.2) (.int .i64 t212)) (fun _ hk => hk.1.2) (.slice Ao44 t213.length co44)) (fun _ hk => hk.2) (.int .i64 t216)) (fun _ h_ => h_.1)) (fun _ h_ => h_.1)) (fun _ h_ => h_.1))) (Kd.R_typed (rq (Kd.R_mono (Kd.R_mono (Kd.R_mono (Kd.R_far (p := ⟨gb209, 0, none⟩) (Kd.R_far (p := ⟨gb207, 1, none⟩) (Kd.R_far (p := ⟨gb207, 0, none⟩) (Kd.R_far (p := ⟨gb217, 1, none⟩) (Kd.R_far (p := ⟨gb217, 0, none⟩) (Kd.R_mono (Kd.R_types (Kd.R_types HO_5.out BK217.out (by decide)) BK207.out (by decide)) (fun k_ hk => (⟨hk, hk.1.1⟩ : _ ∧ k_ ≠ gb209))) (fun _ hk => hk.1.1.2) (.int .i64 t212)) (fun _ hk => hk.1.1.2) (.slice Ao44 t213.length co44)) (fun _ hk => hk.1.2) (.int .i64 t212)) (fun _ hk => hk.1.2) (.slice Ao44 t213.length co44)) (fun _ hk => hk.2) (.int .i64 t216)) (fun _ h_ => h_.1)) (fun _ h_ => h_.1)) (fun _ h_ => h_.1)))) (by decide) hg); have n7_ := Aside0.mk (blk_grown (g := gb217) (o := .cells #[.int .i64 t212, .slice Ao44 t213.length co44] 39 (0, 0)) (by (with_reducible repeat (first | refine blk_drewN ?_ _ | refine blk_drew ?_ | refine blk_alloc ?_ _)); refine blk_far ?_ NB217_209.out _; (with_reducible repeat (first | refine blk_drewN ?_ _ | refine blk_drew ?_ | refine blk_alloc ?_ _)); refine blk_far ?_ NB217_207.out _; (with_reducible repeat (first | refine blk_drewN ?_ _ | refine blk_drew ?_ | refine blk_alloc ?_ _)); refine blk_far ?_ NB217_207.out _; (with_reducible repeat (first | refine blk_drewN ?_ _ | refine blk_drew ?_ | refine blk_alloc ?_ _)); refine blk_put (cs := #[.int .i64 t212, .slice none 0 0]) ?_ 1 _ rfl; (with_reducible repeat (first | refine blk_drewN ?_ _ | refine blk_drew ?_ | refine blk_alloc ?_ _)); refine blk_put (cs := #[.int .i64 0, .slice none 0 0]) ?_ 0 _ rfl; (with_reducible repeat (first | refine blk_drewN ?_ _ | refine blk_drew ?_ | refine blk_alloc ?_ _)); exact BK217.out) hg (Kd.R_ne HO_5.out BK217.out (by decide))); have n8_ := Aside0.mk (hb); have n9_ := Aside0.mk (ho); clear HO_208001; clear HO_209000; clear BK197; clear BK207; clear BK208; clear BK209; clear HO215; clear BK217; clear HB; clear HO_5; have HO_208001 := n0_; have HO_209000 := n1_; have BK197 := n2_; have BK207 := n3_; have BK208 := n4_; have BK209 := n5_; have HO215 := n6_; have BK217 := n7_; have HB := n8_; have HO220 := n9_; clear n0_ n1_ n2_ n3_ n4_ n5_ n6_ n7_ n8_ n9_; clear ho hb hg hat))
             go_roundg k3
             case measure => have := HJ2.out; have := HK2.out; have := HK3.out; omega
             case rel => exact ⟨(y218), (wrap64 (x9_3 + 1)), (t212), (t213), (x209000_3), (.slice Ao44 t213.length co44), (u209000), (by first | rfl | (simp; done) | (simp [*]; done)), H', ⟨by have := HJ2.out; have := HK2.out; have := HK3.out; omega⟩, ⟨by (with_reducible repeat (first | apply Kd.R_alloc | apply Kd.R_drewN | apply Kd.R_drew)); exact Kd.R_mono HO220.out (fun _ hk => trivial)⟩, ⟨by (with_reducible repeat (first | apply Kd.R_alloc | apply Kd.R_drewN | apply Kd.R_drew)); exact Kd.R_mono HO215.out (fun _ hk => hk.2)⟩, ⟨by (with_reducible repeat (first | apply Kd.R_alloc | apply Kd.R_drewN | apply Kd.R_drew)); exact Kd.R_mono HO_209000.out (fun _ hk => hk.1)⟩, ⟨by (with_reducible repeat (first | refine blk_drewN ?_ _ | refine blk_drew ?_ | refine blk_alloc ?_ _)); exact BK197.out⟩, ⟨by (with_reducible repeat (first | refine blk_drewN ?_ _ | refine blk_drew ?_ | refine blk_alloc ?_ _)); exact BK207.out⟩, ⟨by (with_reducible repeat (first | refine blk_drewN ?_ _ | refine blk_drew ?_ | refine blk_alloc ?_ _)); exact BK208.out⟩, ⟨by exact lq HB.out⟩⟩
            ·rw [if_neg c31] at H
             exact absurd H (by simp)
           ·rw [if_neg c29] at H
            have c29b0 : (((rd_T70 l1 x9_3).f0) == 0) = false := beq_eq_false_iff_ne.mpr c29
            have c29b1 : (((rd_T70 l1 x9_3).f0) != 0) = true := bne_iff_ne.mpr c29
            by_cases c56 : ((rd_T70 l1 x9_3).f0) = 1
            ·rw [if_pos c56] at H
             have c56b0 : (((rd_T70 l1 x9_3).f0) == 1) = true := beq_iff_eq.mpr c56
             have c56b1 : (((rd_T70 l1 x9_3).f0) != 1) = false := bne_eq_false_iff_eq.mpr c56
             clear c56
             replace H := Option.bind_eq_some_iff.mp H
             obtain ⟨⟨t221, t224, t225⟩, A570, H⟩ := H
             (try dsimp only at H)
             have A57 := Aside0.mk A570
             clear A570
             by_cases c58 : x5_3.length < 8796093022208
             ·rw [if_pos c58] at H
              have LMc58 := Aside0.mk c58
              clear c58
              obtain ⟨y227, hy227⟩ : ∃ y_ : List (S72), y_ = (x5_3 ++ [(⟨t225, t224⟩ : S72)]) := ⟨_, rfl⟩
              replace H : (spec_ChanPlay.l1 k3 l1 y227 (wrap64 (x9_3 + 1)) a0_0 a0_1 a0_2 a0_3 x208000_3 x208001_3 t221) = some r := by first | (rw [hy227]; with_reducible exact H) | (have H2_ := (Option.bind_some _ _).symm.trans H; rw [hy227]; with_reducible exact H2_) | (have H2_ := (Option.bind_some _ _).symm.trans H; with_reducible exact H2_) | with_reducible exact H | (rw [hy227]; exact H) | exact H
              have Ny227 := Aside0.mk hy227
              clear hy227
              have H' := Aside0.mk H
              clear H
              go_wp2_with (first | ((with_reducible refine gate_dst (N := 10) rfl ?_); (try (refine gate_guard (by rfl) ?_; dsimp only)); refine box_event ?hg (N := 10) ?hd (cs := #[.int .i64 0, .int .u32 0]) (t := 72) ?hr ?_; (case hd => rfl); (case hg => rfl); (case hr => first | (go_simp; done) | (go_simp; rfl)); intro gb209 hg w59 hbox hb; have n0_ := Aside0.mk (Kd.R_below (Kd.R_elderB (rq HO_5.out) gb209 (Nat.le_of_eq hg.symm)) hb); have n1_ := Aside0.mk (Kd.R_below (rq HO_208001.out) hb); have n2_ := Aside0.mk (Kd.R_below (rq HO_209000.out) hb); have n3_ := Aside0.mk (blk_below (bq BK197.out) hb); have n4_ := Aside0.mk (blk_below (bq BK207.out) hb); have n5_ := Aside0.mk (blk_below (bq BK208.out) hb); have n6_ := Aside0.mk (below_step (lq HB.out) hb); have n7_ := Aside0.mk (hbox); have n8_ := Aside0.mk ((ge_new hg (lq HB.out) : w.heap.size ≤ gb209)); have n9_ := Aside0.mk ((ge_new hg (lq HB.out) : w.heap.size ≤ gb209)); have n10_ := Aside0.mk ((ne_new hg (bq BK197.out) : gb197 ≠ gb209)); have n11_ := Aside0.mk ((new_ne hg (bq BK197.out) : gb209 ≠ gb197)); have n12_ := Aside0.mk ((ne_new hg (bq BK207.out) : gb207 ≠ gb209)); have n13_ := Aside0.mk ((new_ne hg (bq BK207.out) : gb209 ≠ gb207)); have n14_ := Aside0.mk ((ne_new hg (bq BK208.out) : gb208 ≠ gb209)); have n15_ := Aside0.mk ((new_ne hg (bq BK208.out) : gb209 ≠ gb208)); clear HO_5; clear HO_208001; clear HO_209000; clear BK197; clear BK207; clear BK208; clear HB; have HO_5 := n0_; have HO_208001 := n1_; have HO_209000 := n2_; have BK197 := n3_; have BK207 := n4_; have BK208 := n5_; have HB := n6_; have BK209 := n7_; have GW209 := n8_; have GE209 := n9_; have NB197_209 := n10_; have NB209_197 := n11_; have NB207_209 := n12_; have NB209_207 := n13_; have NB208_209 := n14_; have NB209_208 := n15_; clear n0_ n1_ n2_ n3_ n4_ n5_ n6_ n7_ n8_ n9_ n10_ n11_ n12_ n13_ n14_ n15_; clear hb hbox hg; have hnb60 := NB209_197.out; have hnc60 := NB197_209.out; have hnb61 := NB209_207.out; have hnc61 := NB207_209.out; have hnb62 := NB209_208.out; have hnc62 := NB208_209.out; have hcz63_0 : w59.cell? ⟨gb209, 0, none⟩ = some (.int .i64 0) := (blk_cell BK209.out 0).trans rfl; have hcz63_1 : w59.cell? ⟨gb209, 1, none⟩ = some (.int .u32 0) := (blk_cell BK209.out 1).trans rfl; have hfz63_0 := blk_frozen BK209.out 0; have hfz63_1 := blk_frozen BK209.out 1; have p210 : 0 ≤ (x9_3 : Int) := of_decide_eq_true (by first | (with_reducible assumption) | assumption); have q210 : x9_3 < (l1.length : Int) := of_decide_eq_true (by first | (with_reducible assumption) | assumption); obtain ⟨ad210, e210, hx210_0, hx210_1⟩ := at_T70 HR1.out x9_3 p210 q210; cases e210; have hn210_0 : ad210.block ≠ gb209 := Nat.ne_of_lt (Nat.lt_of_lt_of_le (by have := World.block_lt_of_cell? _ _ hx210_0; first | rwa [add_block] at this | exact this) GW209.out); have hn210_1 : ad210.block ≠ gb209 := Nat.ne_of_lt (Nat.lt_of_lt_of_le (by have := World.block_lt_of_cell? _ _ hx210_0; first | rwa [add_block] at this | exact this) GW209.out); replace hx210_0 := (HB.out.cell (World.block_lt_of_cell? w _ hx210_0)).trans hx210_0; replace hx210_1 := (HB.out.cell (World.block_lt_of_cell? w _ hx210_1)).trans hx210_1; replace hx210_0 := (cell_far (p := ⟨gb209, 0, none⟩) (by first | (rw [add_block]; exact hn210_0) | (show (Addr.add _ _).block ≠ _; rw [add_block]; exact hn210_0) | exact hn210_0) (.int .i64 0)).trans hx210_0; replace hx210_1 := (cell_far (p := ⟨gb209, 0, none⟩) (by first | (rw [add_block]; exact hn210_0) | (show (Addr.add _ _).block ≠ _; rw [add_block]; exact hn210_0) | exact hn210_0) (.int .i64 0)).trans hx210_1; replace hx210_0 := (cell_far (p := ⟨gb209, 1, none⟩) (by first | (rw [add_block]; exact hn210_1) | (show (Addr.add _ _).block ≠ _; rw [add_block]; exact hn210_1) | exact hn210_1) (.int .u32 0)).trans hx210_0; replace hx210_1 := (cell_far (p := ⟨gb209, 1, none⟩) (by first | (rw [add_block]; exact hn210_1) | (show (Addr.add _ _).block ≠ _; rw [add_block]; exact hn210_1) | exact hn210_1) (.int .u32 0)).trans hx210_1; clear hn210_0; clear hn210_1; replace p210 := eq_true p210; replace q210 := eq_true q210; have hnb64 := NB197_207.out; have hnc64 := NB207_197.out; have hnb65 := NB197_208.out; have hnc65 := NB208_197.out; have hcz66_0 : w59.cell? ⟨gb197, 0, none⟩ = some (.int .i64 a0_0) := (blk_cell BK197.out 0).trans rfl; have hcz66_1 : w59.cell? ⟨gb197, 1, none⟩ = some (.int .i64 a0_1) := (blk_cell BK197.out 1).trans rfl; have hcz66_2 : w59.cell? ⟨gb197, 2, none⟩ = some (.int .i64 a0_2) := (blk_cell BK197.out 2).trans rfl; have hcz66_3 : w59.cell? ⟨gb197, 3, none⟩ = some (.int .i64 a0_3) := (blk_cell BK197.out 3).trans rfl; have hfz66_0 := blk_frozen BK197.out 0; have hfz66_1 := blk_frozen BK197.out 1; have hfz66_2 := blk_frozen BK197.out 2; have hfz66_3 := blk_frozen BK197.out 3; have hnb67 := NB208_207.out; have hnc67 := NB207_208.out; have hcz68_0 : w59.cell? ⟨gb208, 0, none⟩ = some (u209000) := (blk_cell BK208.out 0).trans rfl; have hfz68_0 := blk_frozen BK208.out 0; obtain ⟨Ao69, co69, eo69⟩ := Kd.R_slice HO_209000.out; subst eo69) | ((with_reducible refine gate_callee (f := 31) rfl ?_); refine goesL_ (some 81) rfl rfl Try.func31 (by kernel_rfl) rfl #[.agg #[.int .i64 a0_0, .int .i64 a0_1, .int .i64 a0_2, .int .i64 a0_3], .agg #[.slice Ao69 x209000_3.length co69]] rfl (by (try simp only [List.map_toArray, List.map_cons, List.map_nil]); first | done | rfl | (simp only [List.length_drop, List.length_take]; rfl)) ?_; (with_reducible refine (spec_RecvOn.calls a0_0 a0_1 a0_2 a0_3 _ _ x209000_3 t221 t224 t225 _ ?side1 ?side2 A57.out).mono ?_); (case side1 => refine (Kd.R_reads' (e := 46) (base := w.heap.size) (ok := fun k_ => some k_ ≠ (u208001 : Value).ownBlock) (n := x209000_3.length) (c := co69) ?_).2.2; exact (rq (Kd.R_mono (Kd.R_far (p := ⟨gb209, 1, none⟩) (Kd.R_far (p := ⟨gb209, 0, none⟩) (Kd.R_types HO_209000.out BK209.out (by decide)) (fun _ hk => hk.2) (.int .i64 0)) (fun _ hk => hk.2) (.int .u32 0)) (fun _ h_ => h_.1)))); (case side2 => exact (Kd.R_reads' HO_209000.out).2.1); rintro e w70 ⟨v222, rfl, ho0, hb⟩; refine ⟨_, rfl, ?_⟩; have n0_ := Aside0.mk (Kd.R_below (rq (Kd.R_mono (Kd.R_far (p := ⟨gb209, 1, none⟩) (Kd.R_far (p := ⟨gb209, 0, none⟩) (Kd.R_mono HO_5.out (fun k_ hk => (⟨hk, hk.2⟩ : _ ∧ k_ ≠ gb209))) (fun _ hk => hk.2) (.int .i64 0)) (fun _ hk => hk.2) (.int .u32 0)) (fun _ h_ => h_.1))) hb); have n1_ := Aside0.mk (Kd.R_elder' (rq (Kd.R_mono (Kd.R_far (p := ⟨gb209, 1, none⟩) (Kd.R_far (p := ⟨gb209, 0, none⟩) (Kd.R_types HO_208001.out BK209.out (by decide)) (fun _ hk => hk.2) (.int .i64 0)) (fun _ hk => hk.2) (.int .u32 0)) (fun _ h_ => h_.1))) (Kd.R_base ho0) hb); have n2_ := Aside0.mk (Kd.R_elder' (rq (Kd.R_mono (Kd.R_far (p := ⟨gb209, 1, none⟩) (Kd.R_far (p := ⟨gb209, 0, none⟩) (Kd.R_types HO_209000.out BK209.out (by decide)) (fun _ hk => hk.2) (.int .i64 0)) (fun _ hk => hk.2) (.int .u32 0)) (fun _ h_ => h_.1))) (Kd.R_base ho0) hb); have n3_ := Aside0.mk (Kd.R_lower (Kd.R_new' (Kd.R_new' ho0 (Kd.R_lt (rq (Kd.R_mono (Kd.R_far (p := ⟨gb209, 1, none⟩) (Kd.R_far (p := ⟨gb209, 0, none⟩) (Kd.R_types HO_208001.out BK209.out (by decide)) (fun _ hk => hk.2) (.int .i64 0)) (fun _ hk => hk.2) (.int .u32 0)) (fun _ h_ => h_.1))))) (Kd.R_lt (rq (Kd.R_mono (Kd.R_far (p := ⟨gb209, 1, none⟩) (Kd.R_far (p := ⟨gb209, 0, none⟩) (Kd.R_types HO_209000.out BK209.out (by decide)) (fun _ hk => hk.2) (.int .i64 0)) (fun _ hk => hk.2) (.int .u32 0)) (fun _ h_ => h_.1))))) (below_size (by repeat (first | (with_reducible first | exact HB.out | apply below_alloc | apply pw_below_drewN | apply below_drew1 | refine below_set ?_ GE209.out) | exact HB.out)))); have n4_ := Aside0.mk (blk_below (g := gb197) (o := .cells #[.int .i64 a0_0, .int .i64 a0_1, .int .i64 a0_2, .int .i64 a0_3] 29 (0, 0)) (by (with_reducible repeat (first | refine blk_drewN ?_ _ | refine blk_drew ?_ | refine blk_alloc ?_ _)); refine blk_far ?_ NB197_209.out _; (with_reducible repeat (first | refine blk_drewN ?_ _ | refine blk_drew ?_ | refine blk_alloc ?_ _)); refine blk_far ?_ NB197_209.out _; (with_reducible repeat (first | refine blk_drewN ?_ _ | refine blk_drew ?_ | refine blk_alloc ?_ _)); exact BK197.out) hb); have n5_ := Aside0.mk (blk_below (g := gb207) (o := .cells #[.int .i64 x208000_3, u208001] 39 (0, 0)) (by (with_reducible repeat (first | refine blk_drewN ?_ _ | refine blk_drew ?_ | refine blk_alloc ?_ _)); refine blk_far ?_ NB207_209.out _; (with_reducible repeat (first | refine blk_drewN ?_ _ | refine blk_drew ?_ | refine blk_alloc ?_ _)); refine blk_far ?_ NB207_209.out _; (with_reducible repeat (first | refine blk_drewN ?_ _ | refine blk_drew ?_ | refine blk_alloc ?_ _)); exact BK207.out) hb); have n6_ := Aside0.mk (blk_below (g := gb208) (o := .cells #[.slice Ao69 x209000_3.length co69] 31 (0, 0)) (by (with_reducible repeat (first | refine blk_drewN ?_ _ | refine blk_drew ?_ | refine blk_alloc ?_ _)); refine blk_far ?_ NB208_209.out _; (with_reducible repeat (first | refine blk_drewN ?_ _ | refine blk_drew ?_ | refine blk_alloc ?_ _)); refine blk_far ?_ NB208_209.out _; (with_reducible repeat (first | refine blk_drewN ?_ _ | refine blk_drew ?_ | refine blk_alloc ?_ _)); exact BK208.out) hb); have n7_ := Aside0.mk (blk_below (g := gb209) (o := .cells #[.int .i64 0, .int .u32 0] 72 (0, 0)) (by (with_reducible repeat (first | refine blk_drewN ?_ _ | refine blk_drew ?_ | refine blk_alloc ?_ _)); refine blk_put (cs := #[.int .i64 0, .int .u32 0]) ?_ 1 _ rfl; (with_reducible repeat (first | refine blk_drewN ?_ _ | refine blk_drew ?_ | refine blk_alloc ?_ _)); refine blk_put (cs := #[.int .i64 0, .int .u32 0]) ?_ 0 _ rfl; (with_reducible repeat (first | refine blk_drewN ?_ _ | refine blk_drew ?_ | refine blk_alloc ?_ _)); exact BK209.out) hb); have n8_ := Aside0.mk (below_step (by repeat (first | (with_reducible first | exact HB.out | apply below_alloc | apply pw_below_drewN | apply below_drew1 | refine below_set ?_ GE209.out) | exact HB.out)) hb); clear HO_5; clear HO_208001; clear HO_209000; clear BK197; clear BK207; clear BK208; clear BK209; clear HB; have HO_5 := n0_; have HO_208001 := n1_; have HO_209000 := n2_; have HO223 := n3_; have BK197 := n4_; have BK207 := n5_; have BK208 := n6_; have BK209 := n7_; have HB := n8_; clear n0_ n1_ n2_ n3_ n4_ n5_ n6_ n7_ n8_; (try clear hb); (try clear hb2); (try clear hk); (try clear hi); (try clear ho0)) | ((with_reducible refine gate_dst (N := 13) rfl ?_); (try (refine gate_guard (by rfl) ?_; dsimp only)); refine box_event ?hg (N := 13) ?hd (cs := #[.slice none 0 0]) (t := 31) ?hr ?_; (case hd => rfl); (case hg => rfl); (case hr => first | (go_simp; done) | (go_simp; rfl)); intro gb226 hg w71 hbox hb; have n0_ := Aside0.mk (Kd.R_below (rq HO_5.out) hb); have n1_ := Aside0.mk (Kd.R_below (rq HO_208001.out) hb); have n2_ := Aside0.mk (Kd.R_below (rq HO_209000.out) hb); have n3_ := Aside0.mk (Kd.R_below (rq HO223.out) hb); have n4_ := Aside0.mk (blk_below (bq BK197.out) hb); have n5_ := Aside0.mk (blk_below (bq BK207.out) hb); have n6_ := Aside0.mk (blk_below (bq BK208.out) hb); have n7_ := Aside0.mk (blk_below (bq BK209.out) hb); have n8_ := Aside0.mk (below_step (lq HB.out) hb); have n9_ := Aside0.mk (hbox); have n10_ := Aside0.mk ((ge_new hg (lq HB.out) : w.heap.size ≤ gb226)); have n11_ := Aside0.mk ((ge_new hg (lq HB.out) : w.heap.size ≤ gb226)); have n12_ := Aside0.mk ((ne_new hg (bq BK197.out) : gb197 ≠ gb226)); have n13_ := Aside0.mk ((new_ne hg (bq BK197.out) : gb226 ≠ gb197)); have n14_ := Aside0.mk ((ne_new hg (bq BK207.out) : gb207 ≠ gb226)); have n15_ := Aside0.mk ((new_ne hg (bq BK207.out) : gb226 ≠ gb207)); have n16_ := Aside0.mk ((ne_new hg (bq BK208.out) : gb208 ≠ gb226)); have n17_ := Aside0.mk ((new_ne hg (bq BK208.out) : gb226 ≠ gb208)); have n18_ := Aside0.mk ((ne_new hg (bq BK209.out) : gb209 ≠ gb226)); have n19_ := Aside0.mk ((new_ne hg (bq BK209.out) : gb226 ≠ gb209)); clear HO_5; clear HO_208001; clear HO_209000; clear HO223; clear BK197; clear BK207; clear BK208; clear BK209; clear HB; have HO_5 := n0_; have HO_208001 := n1_; have HO_209000 := n2_; have HO223 := n3_; have BK197 := n4_; have BK207 := n5_; have BK208 := n6_; have BK209 := n7_; have HB := n8_; have BK226 := n9_; have GW226 := n10_; have GE226 := n11_; have NB197_226 := n12_; have NB226_197 := n13_; have NB207_226 := n14_; have NB226_207 := n15_; have NB208_226 := n16_; have NB226_208 := n17_; have NB209_226 := n18_; have NB226_209 := n19_; clear n0_ n1_ n2_ n3_ n4_ n5_ n6_ n7_ n8_ n9_ n10_ n11_ n12_ n13_ n14_ n15_ n16_ n17_ n18_ n19_; clear hb hbox hg; obtain ⟨Ao72, co72, eo72⟩ := Kd.R_slice HO223.out; subst eo72; have hnb73 := NB226_197.out; have hnc73 := NB197_226.out; have hnb74 := NB226_207.out; have hnc74 := NB207_226.out; have hnb75 := NB226_208.out; have hnc75 := NB208_226.out; have hnb76 := NB226_209.out; have hnc76 := NB209_226.out; have hcz77_0 : w71.cell? ⟨gb226, 0, none⟩ = some (.slice none 0 0) := (blk_cell BK226.out 0).trans rfl; have hfz77_0 := blk_frozen BK226.out 0; have hcz78_0 : w71.cell? ⟨gb208, 0, none⟩ = some (.slice Ao69 x209000_3.length co69) := (blk_cell BK208.out 0).trans rfl; have hfz78_0 := blk_frozen BK208.out 0; have hcz79_0 : w71.cell? ⟨gb209, 0, none⟩ = some (.int .i64 0) := (blk_cell BK209.out 0).trans rfl; have hcz79_1 : w71.cell? ⟨gb209, 1, none⟩ = some (.int .u32 0) := (blk_cell BK209.out 1).trans rfl; have hfz79_0 := blk_frozen BK209.out 0; have hfz79_1 := blk_frozen BK209.out 1) | ((with_reducible refine gate_builtin (b := .append) (xs := #[.tmp 102, .tmp 104]) rfl ?_); (try (refine gate_guard (by rfl) ?_; dsimp only)); at_builtin; refine Kd.R_append k72 (w0 := w) w.heap.size rfl (.tmp 102) (.tmp 104) 66 72 (.agg #[(.int .i64 0), (.int .u32 0)]) 16 rfl Try.underlying66 info72 rfl (by decide) (by omega) u5 x5_3 (⟨t225, t224⟩ : S72) [.int .i64 t225, .int .u32 t224] (fun k_ => k_ ≠ gb209) (fun _ => False) rfl (by first | (go_simp; done) | (go_simp; rfl)) ?aP (fun _ hk => hk.elim) ?aF ?aO ?aB ?aS ?aL ?_; (case aP => exact k72_mkM _ _ _ (⟨t225, t224⟩ : S72)); (case aB => exact (by repeat (first | (with_reducible first | exact HB.out | apply below_alloc | apply pw_below_drewN | apply below_drew1 | refine below_set ?_ GE208.out | refine below_set ?_ GE209.out | refine below_set ?_ GE226.out) | exact HB.out))); (case aF => exact (fun k_ hk => Kd.freshB (g := gb209) (o := .cells #[.int .i64 t225, .int .u32 t224] 72 (0, 0)) (by (with_reducible repeat (first | refine blk_drewN ?_ _ | refine blk_drew ?_ | refine blk_alloc ?_ _)); refine blk_put (cs := #[.int .i64 t225, .int .u32 0]) ?_ 1 _ rfl; (with_reducible repeat (first | refine blk_drewN ?_ _ | refine blk_drew ?_ | refine blk_alloc ?_ _)); refine blk_put (cs := #[.int .i64 0, .int .u32 0]) ?_ 0 _ rfl; (with_reducible repeat (first | refine blk_drewN ?_ _ | refine blk_drew ?_ | refine blk_alloc ?_ _)); refine blk_far ?_ NB209_208.out _; (with_reducible repeat (first | refine blk_drewN ?_ _ | refine blk_drew ?_ | refine blk_alloc ?_ _)); refine blk_far ?_ NB209_226.out _; (with_reducible repeat (first | refine blk_drewN ?_ _ | refine blk_drew ?_ | refine blk_alloc ?_ _)); exact BK209.out) k_ hk)); (case aO => exact (by (with_reducible repeat (first | apply Kd.R_alloc | apply Kd.R_drewN | apply Kd.R_drew)); exact Kd.R_mono (Kd.R_far (p := ⟨gb209, 1, none⟩) (Kd.R_far (p := ⟨gb209, 0, none⟩) (Kd.R_far (p := ⟨gb208, 0, none⟩) (Kd.R_far (p := ⟨gb226, 0, none⟩) (Kd.R_mono (Kd.R_types (Kd.R_types HO_5.out BK226.out (by decide)) BK208.out (by decide)) (fun k_ hk => (⟨hk, hk.1.1.2⟩ : _ ∧ k_ ≠ gb209))) (fun _ hk => hk.1.1.2) (.slice Ao72 t221.length co72)) (fun _ hk => hk.1.2) (.slice Ao72 t221.length co72)) (fun _ hk => hk.2) (.int .i64 t225)) (fun _ hk => hk.2) (.int .u32 t224)) (fun _ hk => hk.1.1.1.2))); (case aS => exact (below_size (by repeat (first | (with_reducible first | exact HB.out | apply below_alloc | apply pw_below_drewN | apply below_drew1 | refine below_set ?_ GE208.out | refine below_set ?_ GE209.out | refine below_set ?_ GE226.out) | exact HB.out)))); (case aL => have := LMc58.out; omega); intro v228 w80 ho hb hg hat; rw [← Ny227.out] at ho; have n0_ := Aside0.mk (Kd.R_over' (rq (Kd.R_mono (Kd.R_mono (Kd.R_mono (Kd.R_far (p := ⟨gb209, 1, none⟩) (Kd.R_far (p := ⟨gb209, 0, none⟩) (Kd.R_far (p := ⟨gb208, 0, none⟩) (Kd.R_far (p := ⟨gb226, 0, none⟩) (Kd.R_types (Kd.R_types (Kd.R_types HO_208001.out BK226.out (by decide)) BK208.out (by decide)) BK209.out (by decide)) (fun _ hk => hk.1.1.2) (.slice Ao72 t221.length co72)) (fun _ hk => hk.1.2) (.slice Ao72 t221.length co72)) (fun _ hk => hk.2) (.int .i64 t225)) (fun _ hk => hk.2) (.int .u32 t224)) (fun _ h_ => h_.1)) (fun _ h_ => h_.1)) (fun _ h_ => h_.1))) (Kd.R_typed (rq (Kd.R_mono (Kd.R_mono (Kd.R_mono (Kd.R_far (p := ⟨gb209, 1, none⟩) (Kd.R_far (p := ⟨gb209, 0, none⟩) (Kd.R_far (p := ⟨gb208, 0, none⟩) (Kd.R_far (p := ⟨gb226, 0, none⟩) (Kd.R_mono (Kd.R_types (Kd.R_types HO_5.out BK226.out (by decide)) BK208.out (by decide)) (fun k_ hk => (⟨hk, hk.1.1.2⟩ : _ ∧ k_ ≠ gb209))) (fun _ hk => hk.1.1.2) (.slice Ao72 t221.length co72)) (fun _ hk => hk.1.2) (.slice Ao72 t221.length co72)) (fun _ hk => hk.2) (.int .i64 t225)) (fun _ hk => hk.2) (.int .u32 t224)) (fun _ h_ => h_.1)) (fun _ h_ => h_.1)) (fun _ h_ => h_.1)))) (by decide) hg); have n1_ := Aside0.mk (Kd.R_over' (rq (Kd.R_mono (Kd.R_mono (Kd.R_mono (Kd.R_far (p := ⟨gb209, 1, none⟩) (Kd.R_far (p := ⟨gb209, 0, none⟩) (Kd.R_far (p := ⟨gb208, 0, none⟩) (Kd.R_far (p := ⟨gb226, 0, none⟩) (Kd.R_types (Kd.R_types (Kd.R_types HO_209000.out BK226.out (by decide)) BK208.out (by decide)) BK209.out (by decide)) (fun _ hk => hk.1.1.2) (.slice Ao72 t221.length co72)) (fun _ hk => hk.1.2) (.slice Ao72 t221.length co72)) (fun _ hk => hk.2) (.int .i64 t225)) (fun _ hk => hk.2) (.int .u32 t224)) (fun _ h_ => h_.1)) (fun _ h_ => h_.1)) (fun _ h_ => h_.1))) (Kd.R_typed (rq (Kd.R_mono (Kd.R_mono (Kd.R_mono (Kd.R_far (p := ⟨gb209, 1, none⟩) (Kd.R_far (p := ⟨gb209, 0, none⟩) (Kd.R_far (p := ⟨gb208, 0, none⟩) (Kd.R_far (p := ⟨gb226, 0, none⟩) (Kd.R_mono (Kd.R_types (Kd.R_types HO_5.out BK226.out (by decide)) BK208.out (by decide)) (fun k_ hk => (⟨hk, hk.1.1.2⟩ : _ ∧ k_ ≠ gb209))) (fun _ hk => hk.1.1.2) (.slice Ao72 t221.length co72)) (fun _ hk => hk.1.2) (.slice Ao72 t221.length co72)) (fun _ hk => hk.2) (.int .i64 t225)) (fun _ hk => hk.2) (.int .u32 t224)) (fun _ h_ => h_.1)) (fun _ h_ => h_.1)) (fun _ h_ => h_.1)))) (by decide) hg); have n2_ := Aside0.mk (blk_grown (g := gb197) (o := .cells #[.int .i64 a0_0, .int .i64 a0_1, .int .i64 a0_2, .int .i64 a0_3] 29 (0, 0)) (by (with_reducible repeat (first | refine blk_drewN ?_ _ | refine blk_drew ?_ | refine blk_alloc ?_ _)); refine blk_far ?_ NB197_209.out _; (with_reducible repeat (first | refine blk_drewN ?_ _ | refine blk_drew ?_ | refine blk_alloc ?_ _)); refine blk_far ?_ NB197_209.out _; (with_reducible repeat (first | refine blk_drewN ?_ _ | refine blk_drew ?_ | refine blk_alloc ?_ _)); refine blk_far ?_ NB197_208.out _; (with_reducible repeat (first | refine blk_drewN ?_ _ | refine blk_drew ?_ | refine blk_alloc ?_ _)); refine blk_far ?_ NB197_226.out _; (with_reducible repeat (first | refine blk_drewN ?_ _ | refine blk_drew ?_ | refine blk_alloc ?_ _)); exact BK197.out) hg (Kd.R_ne HO_5.out BK197.out (by decide))); have n3_ := Aside0.mk (blk_grown (g := gb207) (o := .cells #[.int .i64 x208000_3, u208001] 39 (0, 0)) (by (with_reducible repeat (first | refine blk_drewN ?_ _ | refine blk_drew ?_ | refine blk_alloc ?_ _)); refine blk_far ?_ NB207_209.out _; (with_reducible repeat (first | refine blk_drewN ?_ _ | refine blk_drew ?_ | refine blk_alloc ?_ _)); refine blk_far ?_ NB207_209.out _; (with_reducible repeat (first | refine blk_drewN ?_ _ | refine blk_drew ?_ | refine blk_alloc ?_ _)); refine blk_far ?_ NB207_208.out _; (with_reducible repeat (first | refine blk_drewN ?_ _ | refine blk_drew ?_ | refine blk_alloc ?_ _)); refine blk_far ?_ NB207_226.out _; (with_reducible repeat (first | refine blk_drewN ?_ _ | refine blk_drew ?_ | refine blk_alloc ?_ _)); exact BK207.out) hg (Kd.R_ne HO_5.out BK207.out (by decide))); have n4_ := Aside0.mk (blk_grown (g := gb208) (o := .cells #[.slice Ao72 t221.length co72] 31 (0, 0)) (by (with_reducible repeat (first | refine blk_drewN ?_ _ | refine blk_drew ?_ | refine blk_alloc ?_ _)); refine blk_far ?_ NB208_209.out _; (with_reducible repeat (first | refine blk_drewN ?_ _ | refine blk_drew ?_ | refine blk_alloc ?_ _)); refine blk_far ?_ NB208_209.out _; (with_reducible repeat (first | refine blk_drewN ?_ _ | refine blk_drew ?_ | refine blk_alloc ?_ _)); refine blk_put (cs := #[.slice Ao69 x209000_3.length co69]) ?_ 0 _ rfl; (with_reducible repeat (first | refine blk_drewN ?_ _ | refine blk_drew ?_ | refine blk_alloc ?_ _)); refine blk_far ?_ NB208_226.out _; (with_reducible repeat (first | refine blk_drewN ?_ _ | refine blk_drew ?_ | refine blk_alloc ?_ _)); exact BK208.out) hg (Kd.R_ne HO_5.out BK208.out (by decide))); have n5_ := Aside0.mk (blk_grown (g := gb209) (o := .cells #[.int .i64 t225, .int .u32 t224] 72 (0, 0)) (by (with_reducible repeat (first | refine blk_drewN ?_ _ | refine blk_drew ?_ | refine blk_alloc ?_ _)); refine blk_put (cs := #[.int .i64 t225, .int .u32 0]) ?_ 1 _ rfl; (with_reducible repeat (first | refine blk_drewN ?_ _ | refine blk_drew ?_ | refine blk_alloc ?_ _)); refine blk_put (cs := #[.int .i64 0, .int .u32 0]) ?_ 0 _ rfl; (with_reducible repeat (first | refine blk_drewN ?_ _ | refine blk_drew ?_ | refine blk_alloc ?_ _)); refine blk_far ?_ NB209_208.out _; (with_reducible repeat (first | refine blk_drewN ?_ _ | refine blk_drew ?_ | refine blk_alloc ?_ _)); refine blk_far ?_ NB209_226.out _; (with_reducible repeat (first | refine blk_drewN ?_ _ | refine blk_drew ?_ | refine blk_alloc ?_ _)); exact BK209.out) hg (Kd.R_away HO_5.out (fun _ hk => hk.2))); have n6_ := Aside0.mk (Kd.R_over' (rq (Kd.R_mono (Kd.R_mono (Kd.R_mono (Kd.R_far (p := ⟨gb209, 1, none⟩) (Kd.R_far (p := ⟨gb209, 0, none⟩) (Kd.R_far (p := ⟨gb208, 0, none⟩) (Kd.R_far (p := ⟨gb226, 0, none⟩) (Kd.R_types (Kd.R_types (Kd.R_types HO223.out BK226.out (by decide)) BK208.out (by decide)) BK209.out (by decide)) (fun _ hk => hk.1.1.2) (.slice Ao72 t221.length co72)) (fun _ hk => hk.1.2) (.slice Ao72 t221.length co72)) (fun _ hk => hk.2) (.int .i64 t225)) (fun _ hk => hk.2) (.int .u32 t224)) (fun _ h_ => h_.1)) (fun _ h_ => h_.1)) (fun _ h_ => h_.1))) (Kd.R_typed (rq (Kd.R_mono (Kd.R_mono (Kd.R_mono (Kd.R_far (p := ⟨gb209, 1, none⟩) (Kd.R_far (p := ⟨gb209, 0, none⟩) (Kd.R_far (p := ⟨gb208, 0, none⟩) (Kd.R_far (p := ⟨gb226, 0, none⟩) (Kd.R_mono (Kd.R_types (Kd.R_types HO_5.out BK226.out (by decide)) BK208.out (by decide)) (fun k_ hk => (⟨hk, hk.1.1.2⟩ : _ ∧ k_ ≠ gb209))) (fun _ hk => hk.1.1.2) (.slice Ao72 t221.length co72)) (fun _ hk => hk.1.2) (.slice Ao72 t221.length co72)) (fun _ hk => hk.2) (.int .i64 t225)) (fun _ hk => hk.2) (.int .u32 t224)) (fun _ h_ => h_.1)) (fun _ h_ => h_.1)) (fun _ h_ => h_.1)))) (by decide) hg); have n7_ := Aside0.mk (blk_grown (g := gb226) (o := .cells #[.slice Ao72 t221.length co72] 31 (0, 0)) (by (with_reducible repeat (first | refine blk_drewN ?_ _ | refine blk_drew ?_ | refine blk_alloc ?_ _)); refine blk_far ?_ NB226_209.out _; (with_reducible repeat (first | refine blk_drewN ?_ _ | refine blk_drew ?_ | refine blk_alloc ?_ _)); refine blk_far ?_ NB226_209.out _; (with_reducible repeat (first | refine blk_drewN ?_ _ | refine blk_drew ?_ | refine blk_alloc ?_ _)); refine blk_far ?_ NB226_208.out _; (with_reducible repeat (first | refine blk_drewN ?_ _ | refine blk_drew ?_ | refine blk_alloc ?_ _)); refine blk_put (cs := #[.slice none 0 0]) ?_ 0 _ rfl; (with_reducible repeat (first | refine blk_drewN ?_ _ | refine blk_drew ?_ | refine blk_alloc ?_ _)); exact BK226.out) hg (Kd.R_ne HO_5.out BK226.out (by decide))); have n8_ := Aside0.mk (hb); have n9_ := Aside0.mk (ho); clear HO_208001; clear HO_209000; clear BK197; clear BK207; clear BK208; clear BK209; clear HO223; clear BK226; clear HB; clear HO_5; have HO_208001 := n0_; have HO_209000 := n1_; have BK197 := n2_; have BK207 := n3_; have BK208 := n4_; have BK209 := n5_; have HO223 := n6_; have BK226 := n7_; have HB := n8_; have HO229 := n9_; clear n0_ n1_ n2_ n3_ n4_ n5_ n6_ n7_ n8_ n9_; clear ho hb hg hat))
              go_roundg k3
              case measure => have := HJ2.out; have := HK2.out; have := HK3.out; omega
              case rel => exact ⟨(y227), (wrap64 (x9_3 + 1)), (x208000_3), (x208001_3), (t221), (u208001), (.slice Ao72 t221.length co72), (by first | rfl | (simp; done) | (simp [*]; done)), H', ⟨by have := HJ2.out; have := HK2.out; have := HK3.out; omega⟩, ⟨by (with_reducible repeat (first | apply Kd.R_alloc | apply Kd.R_drewN | apply Kd.R_drew)); exact Kd.R_mono HO229.out (fun _ hk => trivial)⟩, ⟨by (with_reducible repeat (first | apply Kd.R_alloc | apply Kd.R_drewN | apply Kd.R_drew)); exact Kd.R_mono HO_208001.out (fun _ hk => hk.2)⟩, ⟨by (with_reducible repeat (first | apply Kd.R_alloc | apply Kd.R_drewN | apply Kd.R_drew)); exact Kd.R_mono HO223.out (fun _ hk => hk.1.2)⟩, ⟨by (with_reducible repeat (first | refine blk_drewN ?_ _ | refine blk_drew ?_ | refine blk_alloc ?_ _)); exact BK197.out⟩, ⟨by (with_reducible repeat (first | refine blk_drewN ?_ _ | refine blk_drew ?_ | refine blk_alloc ?_ _)); exact BK207.out⟩, ⟨by (with_reducible repeat (first | refine blk_drewN ?_ _ | refine blk_drew ?_ | refine blk_alloc ?_ _)); exact BK208.out⟩, ⟨by exact lq HB.out⟩⟩
             ·rw [if_neg c58] at H
              exact absurd H (by simp)
            ·rw [if_neg c56] at H
             have c56b0 : (((rd_T70 l1 x9_3).f0) == 1) = false := beq_eq_false_iff_ne.mpr c56
             have c56b1 : (((rd_T70 l1 x9_3).f0) != 1) = true := bne_iff_ne.mpr c56
             by_cases c81 : ((rd_T70 l1 x9_3).f0) = 2
             ·rw [if_pos c81] at H
              have c81b0 : (((rd_T70 l1 x9_3).f0) == 2) = true := beq_iff_eq.mpr c81
              have c81b1 : (((rd_T70 l1 x9_3).f0) != 2) = false := bne_eq_false_iff_eq.mpr c81
              clear c81
              replace H := Option.bind_eq_some_iff.mp H
              obtain ⟨⟨t230, t231, t234, t237⟩, A820, H⟩ := H
              (try dsimp only at H)
              have A82 := Aside0.mk A820
              clear A820
              by_cases c83 : x5_3.length < 8796093022208
              ·rw [if_pos c83] at H
               have LMc83 := Aside0.mk c83
               clear c83
               obtain ⟨y242, hy242⟩ : ∃ y_ : List (S72), y_ = (x5_3 ++ [(⟨0, 0⟩ : S72)]) := ⟨_, rfl⟩
               replace H : (spec_ChanPlay.l1 k3 l1 y242 (wrap64 (x9_3 + 1)) a0_0 a0_1 a0_2 a0_3 t230 t231 t234) = some r := by first | (rw [hy242]; with_reducible exact H) | (have H2_ := (Option.bind_some _ _).symm.trans H; rw [hy242]; with_reducible exact H2_) | (have H2_ := (Option.bind_some _ _).symm.trans H; with_reducible exact H2_) | with_reducible exact H | (rw [hy242]; exact H) | exact H
               have Ny242 := Aside0.mk hy242
               clear hy242
               have H' := Aside0.mk H
               clear H
               go_wp2_with (first | ((with_reducible refine gate_dst (N := 10) rfl ?_); (try (refine gate_guard (by rfl) ?_; dsimp only)); refine box_event ?hg (N := 10) ?hd (cs := #[.int .i64 0, .int .u32 0]) (t := 72) ?hr ?_; (case hd => rfl); (case hg => rfl); (case hr => first | (go_simp; done) | (go_simp; rfl)); intro gb209 hg w84 hbox hb; have n0_ := Aside0.mk (Kd.R_below (Kd.R_elderB (rq HO_5.out) gb209 (Nat.le_of_eq hg.symm)) hb); have n1_ := Aside0.mk (Kd.R_below (rq HO_208001.out) hb); have n2_ := Aside0.mk (Kd.R_below (rq HO_209000.out) hb); have n3_ := Aside0.mk (blk_below (bq BK197.out) hb); have n4_ := Aside0.mk (blk_below (bq BK207.out) hb); have n5_ := Aside0.mk (blk_below (bq BK208.out) hb); have n6_ := Aside0.mk (below_step (lq HB.out) hb); have n7_ := Aside0.mk (hbox); have n8_ := Aside0.mk ((ge_new hg (lq HB.out) : w.heap.size ≤ gb209)); have n9_ := Aside0.mk ((ge_new hg (lq HB.out) : w.heap.size ≤ gb209)); have n10_ := Aside0.mk ((ne_new hg (bq BK197.out) : gb197 ≠ gb209)); have n11_ := Aside0.mk ((new_ne hg (bq BK197.out) : gb209 ≠ gb197)); have n12_ := Aside0.mk ((ne_new hg (bq BK207.out) : gb207 ≠ gb209)); have n13_ := Aside0.mk ((new_ne hg (bq BK207.out) : gb209 ≠ gb207)); have n14_ := Aside0.mk ((ne_new hg (bq BK208.out) : gb208 ≠ gb209)); have n15_ := Aside0.mk ((new_ne hg (bq BK208.out) : gb209 ≠ gb208)); clear HO_5; clear HO_208001; clear HO_209000; clear BK197; clear BK207; clear BK208; clear HB; have HO_5 := n0_; have HO_208001 := n1_; have HO_209000 := n2_; have BK197 := n3_; have BK207 := n4_; have BK208 := n5_; have HB := n6_; have BK209 := n7_; have GW209 := n8_; have GE209 := n9_; have NB197_209 := n10_; have NB209_197 := n11_; have NB207_209 := n12_; have NB209_207 := n13_; have NB208_209 := n14_; have NB209_208 := n15_; clear n0_ n1_ n2_ n3_ n4_ n5_ n6_ n7_ n8_ n9_ n10_ n11_ n12_ n13_ n14_ n15_; clear hb hbox hg; have hnb85 := NB209_197.out; have hnc85 := NB197_209.out; have hnb86 := NB209_207.out; have hnc86 := NB207_209.out; have hnb87 := NB209_208.out; have hnc87 := NB208_209.out; have hcz88_0 : w84.cell? ⟨gb209, 0, none⟩ = some (.int .i64 0) := (blk_cell BK209.out 0).trans rfl; have hcz88_1 : w84.cell? ⟨gb209, 1, none⟩ = some (.int .u32 0) := (blk_cell BK209.out 1).trans rfl; have hfz88_0 := blk_frozen BK209.out 0; have hfz88_1 := blk_frozen BK209.out 1; have p210 : 0 ≤ (x9_3 : Int) := of_decide_eq_true (by first | (with_reducible assumption) | assumption); have q210 : x9_3 < (l1.length : Int) := of_decide_eq_true (by first | (with_reducible assumption) | assumption); obtain ⟨ad210, e210, hx210_0, hx210_1⟩ := at_T70 HR1.out x9_3 p210 q210; cases e210; have hn210_0 : ad210.block ≠ gb209 := Nat.ne_of_lt (Nat.lt_of_lt_of_le (by have := World.block_lt_of_cell? _ _ hx210_0; first | rwa [add_block] at this | exact this) GW209.out); have hn210_1 : ad210.block ≠ gb209 := Nat.ne_of_lt (Nat.lt_of_lt_of_le (by have := World.block_lt_of_cell? _ _ hx210_0; first | rwa [add_block] at this | exact this) GW209.out); replace hx210_0 := (HB.out.cell (World.block_lt_of_cell? w _ hx210_0)).trans hx210_0; replace hx210_1 := (HB.out.cell (World.block_lt_of_cell? w _ hx210_1)).trans hx210_1; replace hx210_0 := (cell_far (p := ⟨gb209, 0, none⟩) (by first | (rw [add_block]; exact hn210_0) | (show (Addr.add _ _).block ≠ _; rw [add_block]; exact hn210_0) | exact hn210_0) (.int .i64 0)).trans hx210_0; replace hx210_1 := (cell_far (p := ⟨gb209, 0, none⟩) (by first | (rw [add_block]; exact hn210_0) | (show (Addr.add _ _).block ≠ _; rw [add_block]; exact hn210_0) | exact hn210_0) (.int .i64 0)).trans hx210_1; replace hx210_0 := (cell_far (p := ⟨gb209, 1, none⟩) (by first | (rw [add_block]; exact hn210_1) | (show (Addr.add _ _).block ≠ _; rw [add_block]; exact hn210_1) | exact hn210_1) (.int .u32 0)).trans hx210_0; replace hx210_1 := (cell_far (p := ⟨gb209, 1, none⟩) (by first | (rw [add_block]; exact hn210_1) | (show (Addr.add _ _).block ≠ _; rw [add_block]; exact hn210_1) | exact hn210_1) (.int .u32 0)).trans hx210_1; clear hn210_0; clear hn210_1; replace p210 := eq_true p210; replace q210 := eq_true q210; have hnb89 := NB197_207.out; have hnc89 := NB207_197.out; have hnb90 := NB197_208.out; have hnc90 := NB208_197.out; have hcz91_0 : w84.cell? ⟨gb197, 0, none⟩ = some (.int .i64 a0_0) := (blk_cell BK197.out 0).trans rfl; have hcz91_1 : w84.cell? ⟨gb197, 1, none⟩ = some (.int .i64 a0_1) := (blk_cell BK197.out 1).trans rfl; have hcz91_2 : w84.cell? ⟨gb197, 2, none⟩ = some (.int .i64 a0_2) := (blk_cell BK197.out 2).trans rfl; have hcz91_3 : w84.cell? ⟨gb197, 3, none⟩ = some (.int .i64 a0_3) := (blk_cell BK197.out 3).trans rfl; have hfz91_0 := blk_frozen BK197.out 0; have hfz91_1 := blk_frozen BK197.out 1; have hfz91_2 := blk_frozen BK197.out 2; have hfz91_3 := blk_frozen BK197.out 3; have hnb92 := NB207_208.out; have hnc92 := NB208_207.out; have hcz93_0 : w84.cell? ⟨gb207, 0, none⟩ = some (.int .i64 x208000_3) := (blk_cell BK207.out 0).trans rfl; have hcz93_1 : w84.cell? ⟨gb207, 1, none⟩ = some (u208001) := (blk_cell BK207.out 1).trans rfl; have hfz93_0 := blk_frozen BK207.out 0; have hfz93_1 := blk_frozen BK207.out 1; have hcz94_0 : w84.cell? ⟨gb208, 0, none⟩ = some (u209000) := (blk_cell BK208.out 0).trans rfl; have hfz94_0 := blk_frozen BK208.out 0; obtain ⟨Ao95, co95, eo95⟩ := Kd.R_slice HO_208001.out; subst eo95; obtain ⟨Ao96, co96, eo96⟩ := Kd.R_slice HO_209000.out; subst eo96) | ((with_reducible refine gate_callee (f := 37) rfl ?_); refine goesL_ (some 96) rfl rfl Try.func37 (by kernel_rfl) rfl #[.agg #[.int .i64 a0_0, .int .i64 a0_1, .int .i64 a0_2, .int .i64 a0_3], .agg #[.int .i64 x208000_3, .slice Ao95 x208001_3.length co95], .agg #[.slice Ao96 x209000_3.length co96]] rfl (by (try simp only [List.map_toArray, List.map_cons, List.map_nil]); first | done | rfl | (simp only [List.length_drop, List.length_take]; rfl)) ?_; (with_reducible refine (spec_Border.calls k3 a0_0 a0_1 a0_2 a0_3 x208000_3 _ _ x208001_3 _ _ x209000_3 t230 t231 t234 t237 _ ?side1 ?side2 ?side3 ?side4 A82.out).mono ?_); (case side1 => refine (Kd.R_reads' (e := 46) (base := w.heap.size) (ok := fun k_ => some k_ ≠ (.slice Ao96 x209000_3.length co96 : Value).ownBlock) (n := x208001_3.length) (c := co95) ?_).2.2; exact (rq (Kd.R_mono (Kd.R_far (p := ⟨gb209, 1, none⟩) (Kd.R_far (p := ⟨gb209, 0, none⟩) (Kd.R_types HO_208001.out BK209.out (by decide)) (fun _ hk => hk.2) (.int .i64 0)) (fun _ hk => hk.2) (.int .u32 0)) (fun _ h_ => h_.1)))); (case side2 => exact (Kd.R_reads' HO_208001.out).2.1); (case side3 => refine (Kd.R_reads' (e := 46) (base := w.heap.size) (ok := fun k_ => some k_ ≠ (.slice Ao95 x208001_3.length co95 : Value).ownBlock) (n := x209000_3.length) (c := co96) ?_).2.2; exact (rq (Kd.R_mono (Kd.R_far (p := ⟨gb209, 1, none⟩) (Kd.R_far (p := ⟨gb209, 0, none⟩) (Kd.R_types HO_209000.out BK209.out (by decide)) (fun _ hk => hk.2) (.int .i64 0)) (fun _ hk => hk.2) (.int .u32 0)) (fun _ h_ => h_.1)))); (case side4 => exact (Kd.R_reads' HO_209000.out).2.1); rintro e w97 ⟨v232, v235, v238, rfl, ho0, ho1, ho2, hb⟩; refine ⟨_, rfl, ?_⟩; have n0_ := Aside0.mk (Kd.R_below (rq (Kd.R_mono (Kd.R_far (p := ⟨gb209, 1, none⟩) (Kd.R_far (p := ⟨gb209, 0, none⟩) (Kd.R_mono HO_5.out (fun k_ hk => (⟨hk, hk.2⟩ : _ ∧ k_ ≠ gb209))) (fun _ hk => hk.2) (.int .i64 0)) (fun _ hk => hk.2) (.int .u32 0)) (fun _ h_ => h_.1))) hb); have n1_ := Aside0.mk (Kd.R_mono (Kd.R_told (Kd.R_told (Kd.R_told (Kd.R_old (rq (Kd.R_mono (Kd.R_far (p := ⟨gb209, 1, none⟩) (Kd.R_far (p := ⟨gb209, 0, none⟩) (Kd.R_types HO_208001.out BK209.out (by decide)) (fun _ hk => hk.2) (.int .i64 0)) (fun _ hk => hk.2) (.int .u32 0)) (fun _ h_ => h_.1))) hb) (Kd.R_base ho0)) (Kd.R_base ho1)) (Kd.R_base ho2)) (fun _ h_ => h_.1)); have n2_ := Aside0.mk (Kd.R_mono (Kd.R_told (Kd.R_told (Kd.R_told (Kd.R_old (rq (Kd.R_mono (Kd.R_far (p := ⟨gb209, 1, none⟩) (Kd.R_far (p := ⟨gb209, 0, none⟩) (Kd.R_types HO_209000.out BK209.out (by decide)) (fun _ hk => hk.2) (.int .i64 0)) (fun _ hk => hk.2) (.int .u32 0)) (fun _ h_ => h_.1))) hb) (Kd.R_base ho0)) (Kd.R_base ho1)) (Kd.R_base ho2)) (fun _ h_ => h_.1)); have n3_ := Aside0.mk (Kd.R_lower (Kd.R_new' (Kd.R_new' ho0 (Kd.R_lt (rq (Kd.R_mono (Kd.R_far (p := ⟨gb209, 1, none⟩) (Kd.R_far (p := ⟨gb209, 0, none⟩) (Kd.R_types HO_208001.out BK209.out (by decide)) (fun _ hk => hk.2) (.int .i64 0)) (fun _ hk => hk.2) (.int .u32 0)) (fun _ h_ => h_.1))))) (Kd.R_lt (rq (Kd.R_mono (Kd.R_far (p := ⟨gb209, 1, none⟩) (Kd.R_far (p := ⟨gb209, 0, none⟩) (Kd.R_types HO_209000.out BK209.out (by decide)) (fun _ hk => hk.2) (.int .i64 0)) (fun _ hk => hk.2) (.int .u32 0)) (fun _ h_ => h_.1))))) (below_size (by repeat (first | (with_reducible first | exact HB.out | apply below_alloc | apply pw_below_drewN | apply below_drew1 | refine below_set ?_ GE209.out) | exact HB.out)))); have n4_ := Aside0.mk (Kd.R_lower (Kd.R_new' (Kd.R_new' ho1 (Kd.R_lt (rq (Kd.R_mono (Kd.R_far (p := ⟨gb209, 1, none⟩) (Kd.R_far (p := ⟨gb209, 0, none⟩) (Kd.R_types HO_208001.out BK209.out (by decide)) (fun _ hk => hk.2) (.int .i64 0)) (fun _ hk => hk.2) (.int .u32 0)) (fun _ h_ => h_.1))))) (Kd.R_lt (rq (Kd.R_mono (Kd.R_far (p := ⟨gb209, 1, none⟩) (Kd.R_far (p := ⟨gb209, 0, none⟩) (Kd.R_types HO_209000.out BK209.out (by decide)) (fun _ hk => hk.2) (.int .i64 0)) (fun _ hk => hk.2) (.int .u32 0)) (fun _ h_ => h_.1))))) (below_size (by repeat (first | (with_reducible first | exact HB.out | apply below_alloc | apply pw_below_drewN | apply below_drew1 | refine below_set ?_ GE209.out) | exact HB.out)))); have n5_ := Aside0.mk (Kd.R_lower (Kd.R_new' (Kd.R_new' ho2 (Kd.R_lt (rq (Kd.R_mono (Kd.R_far (p := ⟨gb209, 1, none⟩) (Kd.R_far (p := ⟨gb209, 0, none⟩) (Kd.R_types HO_208001.out BK209.out (by decide)) (fun _ hk => hk.2) (.int .i64 0)) (fun _ hk => hk.2) (.int .u32 0)) (fun _ h_ => h_.1))))) (Kd.R_lt (rq (Kd.R_mono (Kd.R_far (p := ⟨gb209, 1, none⟩) (Kd.R_far (p := ⟨gb209, 0, none⟩) (Kd.R_types HO_209000.out BK209.out (by decide)) (fun _ hk => hk.2) (.int .i64 0)) (fun _ hk => hk.2) (.int .u32 0)) (fun _ h_ => h_.1))))) (below_size (by repeat (first | (with_reducible first | exact HB.out | apply below_alloc | apply pw_below_drewN | apply below_drew1 | refine below_set ?_ GE209.out) | exact HB.out)))); have n6_ := Aside0.mk (blk_below (g := gb197) (o := .cells #[.int .i64 a0_0, .int .i64 a0_1, .int .i64 a0_2, .int .i64 a0_3] 29 (0, 0)) (by (with_reducible repeat (first | refine blk_drewN ?_ _ | refine blk_drew ?_ | refine blk_alloc ?_ _)); refine blk_far ?_ NB197_209.out _; (with_reducible repeat (first | refine blk_drewN ?_ _ | refine blk_drew ?_ | refine blk_alloc ?_ _)); refine blk_far ?_ NB197_209.out _; (with_reducible repeat (first | refine blk_drewN ?_ _ | refine blk_drew ?_ | refine blk_alloc ?_ _)); exact BK197.out) hb); have n7_ := Aside0.mk (blk_below (g := gb207) (o := .cells #[.int .i64 x208000_3, .slice Ao95 x208001_3.length co95] 39 (0, 0)) (by (with_reducible repeat (first | refine blk_drewN ?_ _ | refine blk_drew ?_ | refine blk_alloc ?_ _)); refine blk_far ?_ NB207_209.out _; (with_reducible repeat (first | refine blk_drewN ?_ _ | refine blk_drew ?_ | refine blk_alloc ?_ _)); refine blk_far ?_ NB207_209.out _; (with_reducible repeat (first | refine blk_drewN ?_ _ | refine blk_drew ?_ | refine blk_alloc ?_ _)); exact BK207.out) hb); have n8_ := Aside0.mk (blk_below (g := gb208) (o := .cells #[.slice Ao96 x209000_3.length co96] 31 (0, 0)) (by (with_reducible repeat (first | refine blk_drewN ?_ _ | refine blk_drew ?_ | refine blk_alloc ?_ _)); refine blk_far ?_ NB208_209.out _; (with_reducible repeat (first | refine blk_drewN ?_ _ | refine blk_drew ?_ | refine blk_alloc ?_ _)); refine blk_far ?_ NB208_209.out _; (with_reducible repeat (first | refine blk_drewN ?_ _ | refine blk_drew ?_ | refine blk_alloc ?_ _)); exact BK208.out) hb); have n9_ := Aside0.mk (blk_below (g := gb209) (o := .cells #[.int .i64 0, .int .u32 0] 72 (0, 0)) (by (with_reducible repeat (first | refine blk_drewN ?_ _ | refine blk_drew ?_ | refine blk_alloc ?_ _)); refine blk_put (cs := #[.int .i64 0, .int .u32 0]) ?_ 1 _ rfl; (with_reducible repeat (first | refine blk_drewN ?_ _ | refine blk_drew ?_ | refine blk_alloc ?_ _)); refine blk_put (cs := #[.int .i64 0, .int .u32 0]) ?_ 0 _ rfl; (with_reducible repeat (first | refine blk_drewN ?_ _ | refine blk_drew ?_ | refine blk_alloc ?_ _)); exact BK209.out) hb); have n10_ := Aside0.mk (below_step (by repeat (first | (with_reducible first | exact HB.out | apply below_alloc | apply pw_below_drewN | apply below_drew1 | refine below_set ?_ GE209.out) | exact HB.out)) hb); clear HO_5; clear HO_208001; clear HO_209000; clear BK197; clear BK207; clear BK208; clear BK209; clear HB; have HO_5 := n0_; have HO_208001 := n1_; have HO_209000 := n2_; have HO233 := n3_; have HO236 := n4_; have HO239 := n5_; have BK197 := n6_; have BK207 := n7_; have BK208 := n8_; have BK209 := n9_; have HB := n10_; clear n0_ n1_ n2_ n3_ n4_ n5_ n6_ n7_ n8_ n9_ n10_; (try clear hb); (try clear hb2); (try clear hk); (try clear hi); (try clear ho0); (try clear ho1); (try clear ho2)) | ((with_reducible refine gate_dst (N := 16) rfl ?_); (try (refine gate_guard (by rfl) ?_; dsimp only)); refine box_event ?hg (N := 16) ?hd (cs := #[.int .i64 0, .slice none 0 0]) (t := 39) ?hr ?_; (case hd => rfl); (case hg => rfl); (case hr => first | (go_simp; done) | (go_simp; rfl)); intro gb240 hg w98 hbox hb; have n0_ := Aside0.mk (Kd.R_below (rq HO_5.out) hb); have n1_ := Aside0.mk (Kd.R_below (rq HO_208001.out) hb); have n2_ := Aside0.mk (Kd.R_below (rq HO_209000.out) hb); have n3_ := Aside0.mk (Kd.R_below (rq HO233.out) hb); have n4_ := Aside0.mk (Kd.R_below (rq HO236.out) hb); have n5_ := Aside0.mk (Kd.R_below (rq HO239.out) hb); have n6_ := Aside0.mk (blk_below (bq BK197.out) hb); have n7_ := Aside0.mk (blk_below (bq BK207.out) hb); have n8_ := Aside0.mk (blk_below (bq BK208.out) hb); have n9_ := Aside0.mk (blk_below (bq BK209.out) hb); have n10_ := Aside0.mk (below_step (lq HB.out) hb); have n11_ := Aside0.mk (hbox); have n12_ := Aside0.mk ((ge_new hg (lq HB.out) : w.heap.size ≤ gb240)); have n13_ := Aside0.mk ((ge_new hg (lq HB.out) : w.heap.size ≤ gb240)); have n14_ := Aside0.mk ((ne_new hg (bq BK197.out) : gb197 ≠ gb240)); have n15_ := Aside0.mk ((new_ne hg (bq BK197.out) : gb240 ≠ gb197)); have n16_ := Aside0.mk ((ne_new hg (bq BK207.out) : gb207 ≠ gb240)); have n17_ := Aside0.mk ((new_ne hg (bq BK207.out) : gb240 ≠ gb207)); have n18_ := Aside0.mk ((ne_new hg (bq BK208.out) : gb208 ≠ gb240)); have n19_ := Aside0.mk ((new_ne hg (bq BK208.out) : gb240 ≠ gb208)); have n20_ := Aside0.mk ((ne_new hg (bq BK209.out) : gb209 ≠ gb240)); have n21_ := Aside0.mk ((new_ne hg (bq BK209.out) : gb240 ≠ gb209)); clear HO_5; clear HO_208001; clear HO_209000; clear HO233; clear HO236; clear HO239; clear BK197; clear BK207; clear BK208; clear BK209; clear HB; have HO_5 := n0_; have HO_208001 := n1_; have HO_209000 := n2_; have HO233 := n3_; have HO236 := n4_; have HO239 := n5_; have BK197 := n6_; have BK207 := n7_; have BK208 := n8_; have BK209 := n9_; have HB := n10_; have BK240 := n11_; have GW240 := n12_; have GE240 := n13_; have NB197_240 := n14_; have NB240_197 := n15_; have NB207_240 := n16_; have NB240_207 := n17_; have NB208_240 := n18_; have NB240_208 := n19_; have NB209_240 := n20_; have NB240_209 := n21_; clear n0_ n1_ n2_ n3_ n4_ n5_ n6_ n7_ n8_ n9_ n10_ n11_ n12_ n13_ n14_ n15_ n16_ n17_ n18_ n19_ n20_ n21_; clear hb hbox hg) | ((with_reducible refine gate_dst (N := 17) rfl ?_); (try (refine gate_guard (by rfl) ?_; dsimp only)); refine box_event ?hg (N := 17) ?hd (cs := #[.slice none 0 0]) (t := 31) ?hr ?_; (case hd => rfl); (case hg => rfl); (case hr => first | (go_simp; done) | (go_simp; rfl)); intro gb241 hg w99 hbox hb; have n0_ := Aside0.mk (Kd.R_below (rq HO_5.out) hb); have n1_ := Aside0.mk (Kd.R_below (rq HO_208001.out) hb); have n2_ := Aside0.mk (Kd.R_below (rq HO_209000.out) hb); have n3_ := Aside0.mk (Kd.R_below (rq HO233.out) hb); have n4_ := Aside0.mk (Kd.R_below (rq HO236.out) hb); have n5_ := Aside0.mk (Kd.R_below (rq HO239.out) hb); have n6_ := Aside0.mk (blk_below (bq BK197.out) hb); have n7_ := Aside0.mk (blk_below (bq BK207.out) hb); have n8_ := Aside0.mk (blk_below (bq BK208.out) hb); have n9_ := Aside0.mk (blk_below (bq BK209.out) hb); have n10_ := Aside0.mk (blk_below (bq BK240.out) hb); have n11_ := Aside0.mk (below_step (lq HB.out) hb); have n12_ := Aside0.mk (hbox); have n13_ := Aside0.mk ((ge_new hg (lq HB.out) : w.heap.size ≤ gb241)); have n14_ := Aside0.mk ((ge_new hg (lq HB.out) : w.heap.size ≤ gb241)); have n15_ := Aside0.mk ((ne_new hg (bq BK197.out) : gb197 ≠ gb241)); have n16_ := Aside0.mk ((new_ne hg (bq BK197.out) : gb241 ≠ gb197)); have n17_ := Aside0.mk ((ne_new hg (bq BK207.out) : gb207 ≠ gb241)); have n18_ := Aside0.mk ((new_ne hg (bq BK207.out) : gb241 ≠ gb207)); have n19_ := Aside0.mk ((ne_new hg (bq BK208.out) : gb208 ≠ gb241)); have n20_ := Aside0.mk ((new_ne hg (bq BK208.out) : gb241 ≠ gb208)); have n21_ := Aside0.mk ((ne_new hg (bq BK209.out) : gb209 ≠ gb241)); have n22_ := Aside0.mk ((new_ne hg (bq BK209.out) : gb241 ≠ gb209)); have n23_ := Aside0.mk ((ne_new hg (bq BK240.out) : gb240 ≠ gb241)); have n24_ := Aside0.mk ((new_ne hg (bq BK240.out) : gb241 ≠ gb240)); clear HO_5; clear HO_208001; clear HO_209000; clear HO233; clear HO236; clear HO239; clear BK197; clear BK207; clear BK208; clear BK209; clear BK240; clear HB; have HO_5 := n0_; have HO_208001 := n1_; have HO_209000 := n2_; have HO233 := n3_; have HO236 := n4_; have HO239 := n5_; have BK197 := n6_; have BK207 := n7_; have BK208 := n8_; have BK209 := n9_; have BK240 := n10_; have HB := n11_; have BK241 := n12_; have GW241 := n13_; have GE241 := n14_; have NB197_241 := n15_; have NB241_197 := n16_; have NB207_241 := n17_; have NB241_207 := n18_; have NB208_241 := n19_; have NB241_208 := n20_; have NB209_241 := n21_; have NB241_209 := n22_; have NB240_241 := n23_; have NB241_240 := n24_; clear n0_ n1_ n2_ n3_ n4_ n5_ n6_ n7_ n8_ n9_ n10_ n11_ n12_ n13_ n14_ n15_ n16_ n17_ n18_ n19_ n20_ n21_ n22_ n23_ n24_; clear hb hbox hg; have hnb100 := NB240_197.out; have hnc100 := NB197_240.out; have hnb101 := NB240_207.out; have hnc101 := NB207_240.out; have hnb102 := NB240_208.out; have hnc102 := NB208_240.out; have hnb103 := NB240_209.out; have hnc103 := NB209_240.out; have hnb104 := NB240_241.out; have hnc104 := NB241_240.out; have hcz105_0 : w99.cell? ⟨gb240, 0, none⟩ = some (.int .i64 0) := (blk_cell BK240.out 0).trans rfl; have hcz105_1 : w99.cell? ⟨gb240, 1, none⟩ = some (.slice none 0 0) := (blk_cell BK240.out 1).trans rfl; have hfz105_0 := blk_frozen BK240.out 0; have hfz105_1 := blk_frozen BK240.out 1; obtain ⟨Ao106, co106, eo106⟩ := Kd.R_slice HO233.out; subst eo106; obtain ⟨Ao107, co107, eo107⟩ := Kd.R_slice HO236.out; subst eo107; have hnb108 := NB241_197.out; have hnc108 := NB197_241.out; have hnb109 := NB241_207.out; have hnc109 := NB207_241.out; have hnb110 := NB241_208.out; have hnc110 := NB208_241.out; have hnb111 := NB241_209.out; have hnc111 := NB209_241.out; have hcz112_0 : w99.cell? ⟨gb241, 0, none⟩ = some (.slice none 0 0) := (blk_cell BK241.out 0).trans rfl; have hfz112_0 := blk_frozen BK241.out 0; have hcz113_0 : w99.cell? ⟨gb207, 0, none⟩ = some (.int .i64 x208000_3) := (blk_cell BK207.out 0).trans rfl; have hcz113_1 : w99.cell? ⟨gb207, 1, none⟩ = some (.slice Ao95 x208001_3.length co95) := (blk_cell BK207.out 1).trans rfl; have hfz113_0 := blk_frozen BK207.out 0; have hfz113_1 := blk_frozen BK207.out 1; have hcz114_0 : w99.cell? ⟨gb208, 0, none⟩ = some (.slice Ao96 x209000_3.length co96) := (blk_cell BK208.out 0).trans rfl; have hfz114_0 := blk_frozen BK208.out 0; have hcz115_0 : w99.cell? ⟨gb209, 0, none⟩ = some (.int .i64 0) := (blk_cell BK209.out 0).trans rfl; have hcz115_1 : w99.cell? ⟨gb209, 1, none⟩ = some (.int .u32 0) := (blk_cell BK209.out 1).trans rfl; have hfz115_0 := blk_frozen BK209.out 0; have hfz115_1 := blk_frozen BK209.out 1) | ((with_reducible refine gate_builtin (b := .append) (xs := #[.tmp 102, .tmp 104]) rfl ?_); (try (refine gate_guard (by rfl) ?_; dsimp only)); at_builtin; refine Kd.R_append k72 (w0 := w) w.heap.size rfl (.tmp 102) (.tmp 104) 66 72 (.agg #[(.int .i64 0), (.int .u32 0)]) 16 rfl Try.underlying66 info72 rfl (by decide) (by omega) u5 x5_3 (⟨0, 0⟩ : S72) [.int .i64 0, .int .u32 0] (fun k_ => k_ ≠ gb209) (fun _ => False) rfl (by first | (go_simp; done) | (go_simp; rfl)) ?aP (fun _ hk => hk.elim) ?aF ?aO ?aB ?aS ?aL ?_; (case aP => exact k72_mkM _ _ _ (⟨0, 0⟩ : S72)); (case aB => exact (by repeat (first | (with_reducible first | exact HB.out | apply below_alloc | apply pw_below_drewN | apply below_drew1 | refine below_set ?_ GE207.out | refine below_set ?_ GE208.out | refine below_set ?_ GE240.out | refine below_set ?_ GE241.out) | exact HB.out))); (case aF => exact (fun k_ hk => Kd.freshB (g := gb209) (o := .cells #[.int .i64 0, .int .u32 0] 72 (0, 0)) (by (with_reducible repeat (first | refine blk_drewN ?_ _ | refine blk_drew ?_ | refine blk_alloc ?_ _)); refine blk_far ?_ NB209_208.out _; (with_reducible repeat (first | refine blk_drewN ?_ _ | refine blk_drew ?_ | refine blk_alloc ?_ _)); refine blk_far ?_ NB209_207.out _; (with_reducible repeat (first | refine blk_drewN ?_ _ | refine blk_drew ?_ | refine blk_alloc ?_ _)); refine blk_far ?_ NB209_207.out _; (with_reducible repeat (first | refine blk_drewN ?_ _ | refine blk_drew ?_ | refine blk_alloc ?_ _)); refine blk_far ?_ NB209_241.out _; (with_reducible repeat (first | refine blk_drewN ?_ _ | refine blk_drew ?_ | refine blk_alloc ?_ _)); refine blk_far ?_ NB209_240.out _; (with_reducible repeat (first | refine blk_drewN ?_ _ | refine blk_drew ?_ | refine blk_alloc ?_ _)); refine blk_far ?_ NB209_240.out _; (with_reducible repeat (first | refine blk_drewN ?_ _ | refine blk_drew ?_ | refine blk_alloc ?_ _)); exact BK209.out) k_ hk)); (case aO => exact (by (with_reducible repeat (first | apply Kd.R_alloc | apply Kd.R_drewN | apply Kd.R_drew)); exact Kd.R_mono (Kd.R_far (p := ⟨gb208, 0, none⟩) (Kd.R_far (p := ⟨gb207, 1, none⟩) (Kd.R_far (p := ⟨gb207, 0, none⟩) (Kd.R_far (p := ⟨gb241, 0, none⟩) (Kd.R_far (p := ⟨gb240, 1, none⟩) (Kd.R_far (p := ⟨gb240, 0, none⟩) (Kd.R_types (Kd.R_types (Kd.R_types (Kd.R_types HO_5.out BK240.out (by decide)) BK241.out (by decide)) BK207.out (by decide)) BK208.out (by decide)) (fun _ hk => hk.1.1.1.2) (.int .i64 t230)) (fun _ hk => hk.1.1.1.2) (.slice Ao106 t231.length co106)) (fun _ hk => hk.1.1.2) (.slice Ao107 t234.length co107)) (fun _ hk => hk.1.2) (.int .i64 t230)) (fun _ hk => hk.1.2) (.slice Ao106 t231.length co106)) (fun _ hk => hk.2) (.slice Ao107 t234.length co107)) (fun _ hk => hk.1.1.1.1.2))); (case aS => exact (below_size (by repeat (first | (with_reducible first | exact HB.out | apply below_alloc | apply pw_below_drewN | apply below_drew1 | refine below_set ?_ GE207.out | refine below_set ?_ GE208.out | refine below_set ?_ GE240.out | refine below_set ?_ GE241.out) | exact HB.out)))); (case aL => have := LMc83.out; omega); intro v243 w116 ho hb hg hat; rw [← Ny242.out] at ho; have n0_ := Aside0.mk (Kd.R_over' (rq (Kd.R_mono (Kd.R_mono (Kd.R_mono (Kd.R_mono (Kd.R_far (p := ⟨gb208, 0, none⟩) (Kd.R_far (p := ⟨gb207, 1, none⟩) (Kd.R_far (p := ⟨gb207, 0, none⟩) (Kd.R_far (p := ⟨gb241, 0, none⟩) (Kd.R_far (p := ⟨gb240, 1, none⟩) (Kd.R_far (p := ⟨gb240, 0, none⟩) (Kd.R_types (Kd.R_types (Kd.R_types (Kd.R_types HO_208001.out BK240.out (by decide)) BK241.out (by decide)) BK207.out (by decide)) BK208.out (by decide)) (fun _ hk => hk.1.1.1.2) (.int .i64 t230)) (fun _ hk => hk.1.1.1.2) (.slice Ao106 t231.length co106)) (fun _ hk => hk.1.1.2) (.slice Ao107 t234.length co107)) (fun _ hk => hk.1.2) (.int .i64 t230)) (fun _ hk => hk.1.2) (.slice Ao106 t231.length co106)) (fun _ hk => hk.2) (.slice Ao107 t234.length co107)) (fun _ h_ => h_.1)) (fun _ h_ => h_.1)) (fun _ h_ => h_.1)) (fun _ h_ => h_.1))) (Kd.R_typed (rq (Kd.R_mono (Kd.R_mono (Kd.R_mono (Kd.R_mono (Kd.R_far (p := ⟨gb208, 0, none⟩) (Kd.R_far (p := ⟨gb207, 1, none⟩) (Kd.R_far (p := ⟨gb207, 0, none⟩) (Kd.R_far (p := ⟨gb241, 0, none⟩) (Kd.R_far (p := ⟨gb240, 1, none⟩) (Kd.R_far (p := ⟨gb240, 0, none⟩) (Kd.R_types (Kd.R_types (Kd.R_types (Kd.R_types HO_5.out BK240.out (by decide)) BK241.out (by decide)) BK207.out (by decide)) BK208.out (by decide)) (fun _ hk => hk.1.1.1.2) (.int .i64 t230)) (fun _ hk => hk.1.1.1.2) (.slice Ao106 t231.length co106)) (fun _ hk => hk.1.1.2) (.slice Ao107 t234.length co107)) (fun _ hk => hk.1.2) (.int .i64 t230)) (fun _ hk => hk.1.2) (.slice Ao106 t231.length co106)) (fun _ hk => hk.2) (.slice Ao107 t234.length co107)) (fun _ h_ => h_.1)) (fun _ h_ => h_.1)) (fun _ h_ => h_.1)) (fun _ h_ => h_.1)))) (by decide) hg); have n1_ := Aside0.mk (Kd.R_over' (rq (Kd.R_mono (Kd.R_mono (Kd.R_mono (Kd.R_mono (Kd.R_far (p := ⟨gb208, 0, none⟩) (Kd.R_far (p := ⟨gb207, 1, none⟩) (Kd.R_far (p := ⟨gb207, 0, none⟩) (Kd.R_far (p := ⟨gb241, 0, none⟩) (Kd.R_far (p := ⟨gb240, 1, none⟩) (Kd.R_far (p := ⟨gb240, 0, none⟩) (Kd.R_types (Kd.R_types (Kd.R_types (Kd.R_types HO_209000.out BK240.out (by decide)) BK241.out (by decide)) BK207.out (by decide)) BK208.out (by decide)) (fun _ hk => hk.1.1.1.2) (.int .i64 t230)) (fun _ hk => hk.1.1.1.2) (.slice Ao106 t231.length co106)) (fun _ hk => hk.1.1.2) (.slice Ao107 t234.length co107)) (fun _ hk => hk.1.2) (.int .i64 t230)) (fun _ hk => hk.1.2) (.slice Ao106 t231.length co106)) (fun _ hk => hk.2) (.slice Ao107 t234.length co107)) (fun _ h_ => h_.1)) (fun _ h_ => h_.1)) (fun _ h_ => h_.1)) (fun _ h_ => h_.1))) (Kd.R_typed (rq (Kd.R_mono (Kd.R_mono (Kd.R_mono (Kd.R_mono (Kd.R_far (p := ⟨gb208, 0, none⟩) (Kd.R_far (p := ⟨gb207, 1, none⟩) (Kd.R_far (p := ⟨gb207, 0, none⟩) (Kd.R_far (p := ⟨gb241, 0, none⟩) (Kd.R_far (p := ⟨gb240, 1, none⟩) (Kd.R_far (p := ⟨gb240, 0, none⟩) (Kd.R_types (Kd.R_types (Kd.R_types (Kd.R_types HO_5.out BK240.out (by decide)) BK241.out (by decide)) BK207.out (by decide)) BK208.out (by decide)) (fun _ hk => hk.1.1.1.2) (.int .i64 t230)) (fun _ hk => hk.1.1.1.2) (.slice Ao106 t231.length co106)) (fun _ hk => hk.1.1.2) (.slice Ao107 t234.length co107)) (fun _ hk => hk.1.2) (.int .i64 t230)) (fun _ hk => hk.1.2) (.slice Ao106 t231.length co106)) (fun _ hk => hk.2) (.slice Ao107 t234.length co107)) (fun _ h_ => h_.1)) (fun _ h_ => h_.1)) (fun _ h_ => h_.1)) (fun _ h_ => h_.1)))) (by decide) hg); have n2_ := Aside0.mk (blk_grown (g := gb197) (o := .cells #[.int .i64 a0_0, .int .i64 a0_1, .int .i64 a0_2, .int .i64 a0_3] 29 (0, 0)) (by (with_reducible repeat (first | refine blk_drewN ?_ _ | refine blk_drew ?_ | refine blk_alloc ?_ _)); refine blk_far ?_ NB197_208.out _; (with_reducible repeat (first | refine blk_drewN ?_ _ | refine blk_drew ?_ | refine blk_alloc ?_ _)); refine blk_far ?_ NB197_207.out _; (with_reducible repeat (first | refine blk_drewN ?_ _ | refine blk_drew ?_ | refine blk_alloc ?_ _)); refine blk_far ?_ NB197_207.out _; (with_reducible repeat (first | refine blk_drewN ?_ _ | refine blk_drew ?_ | refine blk_alloc ?_ _)); refine blk_far ?_ NB197_241.out _; (with_reducible repeat (first | refine blk_drewN ?_ _ | refine blk_drew ?_ | refine blk_alloc ?_ _)); refine blk_far ?_ NB197_240.out _; (with_reducible repeat (first | refine blk_drewN ?_ _ | refine blk_drew ?_ | refine blk_alloc ?_ _)); refine blk_far ?_ NB197_240.out _; (with_reducible repeat (first | refine blk_drewN ?_ _ | refine blk_drew ?_ | refine blk_alloc ?_ _)); exact BK197.out) hg (Kd.R_ne HO_5.out BK197.out (by decide))); have n3_ := Aside0.mk (blk_grown (g := gb207) (o := .cells #[.int .i64 t230, .slice Ao106 t231.length co106] 39 (0, 0)) (by (with_reducible repeat (first | refine blk_drewN ?_ _ | refine blk_drew ?_ | refine blk_alloc ?_ _)); refine blk_far ?_ NB207_208.out _; (with_reducible repeat (first | refine blk_drewN ?_ _ | refine blk_drew ?_ | refine blk_alloc ?_ _)); refine blk_put (cs := #[.int .i64 t230, .slice Ao95 x208001_3.length co95]) ?_ 1 _ rfl; (with_reducible repeat (first | refine blk_drewN ?_ _ | refine blk_drew ?_ | refine blk_alloc ?_ _)); refine blk_put (cs := #[.int .i64 x208000_3, .slice Ao95 x208001_3.length co95]) ?_ 0 _ rfl; (with_reducible repeat (first | refine blk_drewN ?_ _ | refine blk_drew ?_ | refine blk_alloc ?_ _)); refine blk_far ?_ NB207_241.out _; (with_reducible repeat (first | refine blk_drewN ?_ _ | refine blk_drew ?_ | refine blk_alloc ?_ _)); refine blk_far ?_ NB207_240.out _; (with_reducible repeat (first | refine blk_drewN ?_ _ | refine blk_drew ?_ | refine blk_alloc ?_ _)); refine blk_far ?_ NB207_240.out _; (with_reducible repeat (first | refine blk_drewN ?_ _ | refine blk_drew ?_ | refine blk_alloc ?_ _)); exact BK207.out) hg (Kd.R_ne HO_5.out BK207.out (by decide))); have n4_ := Aside0.mk (blk_grown (g := gb208) (o := .cells #[.slice Ao107 t234.length co107] 31 (0, 0)) (by (with_reducible repeat (first | refine blk_drewN ?_ _ | refine blk_drew ?_ | refine blk_alloc ?_ _)); refine blk_put (cs := #[.slice Ao96 x209000_3.length co96]) ?_ 0 _ rfl; (with_reducible repeat (first | refine blk_drewN ?_ _ | refine blk_drew ?_ | refine blk_alloc ?_ _)); refine blk_far ?_ NB208_207.out _; (with_reducible repeat (first | refine blk_drewN ?_ _ | refine blk_drew ?_ | refine blk_alloc ?_ _)); refine blk_far ?_ NB208_207.out _; (with_reducible repeat (first | refine blk_drewN ?_ _ | refine blk_drew ?_ | refine blk_alloc ?_ _)); refine blk_far ?_ NB208_241.out _; (with_reducible repeat (first | refine blk_drewN ?_ _ | refine blk_drew ?_ | refine blk_alloc ?_ _)); refine blk_far ?_ NB208_240.out _; (with_reducible repeat (first | refine blk_drewN ?_ _ | refine blk_drew ?_ | refine blk_alloc ?_ _)); refine blk_far ?_ NB208_240.out _; (with_reducible repeat (first | refine blk_drewN ?_ _ | refine blk_drew ?_ | refine blk_alloc ?_ _)); exact BK208.out) hg (Kd.R_ne HO_5.out BK208.out (by decide))); have n5_ := Aside0.mk (blk_grown (g := gb209) (o := .cells #[.int .i64 0, .int .u32 0] 72 (0, 0)) (by (with_reducible repeat (first | refine blk_drewN ?_ _ | refine blk_drew ?_ | refine blk_alloc ?_ _)); refine blk_far ?_ NB209_208.out _; (with_reducible repeat (first | refine blk_drewN ?_ _ | refine blk_drew ?_ | refine blk_alloc ?_ _)); refine blk_far ?_ NB209_207.out _; (with_reducible repeat (first | refine blk_drewN ?_ _ | refine blk_drew ?_ | refine blk_alloc ?_ _)); refine blk_far ?_ NB209_207.out _; (with_reducible repeat (first | refine blk_drewN ?_ _ | refine blk_drew ?_ | refine blk_alloc ?_ _)); refine blk_far ?_ NB209_241.out _; (with_reducible repeat (first | refine blk_drewN ?_ _ | refine blk_drew ?_ | refine blk_alloc ?_ _)); refine blk_far ?_ NB209_240.out _; (with_reducible repeat (first | refine blk_drewN ?_ _ | refine blk_drew ?_ | refine blk_alloc ?_ _)); refine blk_far ?_ NB209_240.out _; (with_reducible repeat (first | refine blk_drewN ?_ _ | refine blk_drew ?_ | refine blk_alloc ?_ _)); exact BK209.out) hg (Kd.R_away HO_5.out (fun _ hk => hk.2))); have n6_ := Aside0.mk (Kd.R_over' (rq (Kd.R_mono (Kd.R_mono (Kd.R_mono (Kd.R_mono (Kd.R_far (p := ⟨gb208, 0, none⟩) (Kd.R_far (p := ⟨gb207, 1, none⟩) (Kd.R_far (p := ⟨gb207, 0, none⟩) (Kd.R_far (p := ⟨gb241, 0, none⟩) (Kd.R_far (p := ⟨gb240, 1, none⟩) (Kd.R_far (p := ⟨gb240, 0, none⟩) (Kd.R_types (Kd.R_types (Kd.R_types (Kd.R_types HO233.out BK240.out (by decide)) BK241.out (by decide)) BK207.out (by decide)) BK208.out (by decide)) (fun _ hk => hk.1.1.1.2) (.int .i64 t230)) (fun _ hk => hk.1.1.1.2) (.slice Ao106 t231.length co106)) (fun _ hk => hk.1.1.2) (.slice Ao107 t234.length co107)) (fun _ hk => hk.1.2) (.int .i64 t230)) (fun _ hk => hk.1.2) (.slice Ao106 t231.length co106)) (fun _ hk => hk.2) (.slice Ao107 t234.length co107)) (fun _ h_ => h_.1)) (fun _ h_ => h_.1)) (fun _ h_ => h_.1)) (fun _ h_ => h_.1))) (Kd.R_typed (rq (Kd.R_mono (Kd.R_mono (Kd.R_mono (Kd.R_mono (Kd.R_far (p := ⟨gb208, 0, none⟩) (Kd.R_far (p := ⟨gb207, 1, none⟩) (Kd.R_far (p := ⟨gb207, 0, none⟩) (Kd.R_far (p := ⟨gb241, 0, none⟩) (Kd.R_far (p := ⟨gb240, 1, none⟩) (Kd.R_far (p := ⟨gb240, 0, none⟩) (Kd.R_types (Kd.R_types (Kd.R_types (Kd.R_types HO_5.out BK240.out (by decide)) BK241.out (by decide)) BK207.out (by decide)) BK208.out (by decide)) (fun _ hk => hk.1.1.1.2) (.int .i64 t230)) (fun _ hk => hk.1.1.1.2) (.slice Ao106 t231.length co106)) (fun _ hk => hk.1.1.2) (.slice Ao107 t234.length co107)) (fun _ hk => hk.1.2) (.int .i64 t230)) (fun _ hk => hk.1.2) (.slice Ao106 t231.length co106)) (fun _ hk => hk.2) (.slice Ao107 t234.length co107)) (fun _ h_ => h_.1)) (fun _ h_ => h_.1)) (fun _ h_ => h_.1)) (fun _ h_ => h_.1)))) (by decide) hg); have n7_ := Aside0.mk (Kd.R_over' (rq (Kd.R_mono (Kd.R_mono (Kd.R_mono (Kd.R_mono (Kd.R_far (p := ⟨gb208, 0, none⟩) (Kd.R_far (p := ⟨gb207, 1, none⟩) (Kd.R_far (p := ⟨gb207, 0, none⟩) (Kd.R_far (p := ⟨gb241, 0, none⟩) (Kd.R_far (p := ⟨gb240, 1, none⟩) (Kd.R_far (p := ⟨gb240, 0, none⟩) (Kd.R_types (Kd.R_types (Kd.R_types (Kd.R_types HO236.out BK240.out (by decide)) BK241.out (by decide)) BK207.out (by decide)) BK208.out (by decide)) (fun _ hk => hk.1.1.1.2) (.int .i64 t230)) (fun _ hk => hk.1.1.1.2) (.slice Ao106 t231.length co106)) (fun _ hk => hk.1.1.2) (.slice Ao107 t234.length co107)) (fun _ hk => hk.1.2) (.int .i64 t230)) (fun _ hk => hk.1.2) (.slice Ao106 t231.length co106)) (fun _ hk => hk.2) (.slice Ao107 t234.length co107)) (fun _ h_ => h_.1)) (fun _ h_ => h_.1)) (fun _ h_ => h_.1)) (fun _ h_ => h_.1))) (Kd.R_typed (rq (Kd.R_mono (Kd.R_mono (Kd.R_mono (Kd.R_mono (Kd.R_far (p := ⟨gb208, 0, none⟩) (Kd.R_far (p := ⟨gb207, 1, none⟩) (Kd.R_far (p := ⟨gb207, 0, none⟩) (Kd.R_far (p := ⟨gb241, 0, none⟩) (Kd.R_far (p := ⟨gb240, 1, none⟩) (Kd.R_far (p := ⟨gb240, 0, none⟩) (Kd.R_types (Kd.R_types (Kd.R_types (Kd.R_types HO_5.out BK240.out (by decide)) BK241.out (by decide)) BK207.out (by decide)) BK208.out (by decide)) (fun _ hk => hk.1.1.1.2) (.int .i64 t230)) (fun _ hk => hk.1.1.1.2) (.slice Ao106 t231.length co106)) (fun _ hk => hk.1.1.2) (.slice Ao107 t234.length co107)) (fun _ hk => hk.1.2) (.int .i64 t230)) (fun _ hk => hk.1.2) (.slice Ao106 t231.length co106)) (fun _ hk => hk.2) (.slice Ao107 t234.length co107)) (fun _ h_ => h_.1)) (fun _ h_ => h_.1)) (fun _ h_ => h_.1)) (fun _ h_ => h_.1)))) (by decide) hg); have n8_ := Aside0.mk (Kd.R_over' (rq (Kd.R_mono (Kd.R_mono (Kd.R_mono (Kd.R_mono (Kd.R_far (p := ⟨gb208, 0, none⟩) (Kd.R_far (p := ⟨gb207, 1, none⟩) (Kd.R_far (p := ⟨gb207, 0, none⟩) (Kd.R_far (p := ⟨gb241, 0, none⟩) (Kd.R_far (p := ⟨gb240, 1, none⟩) (Kd.R_far (p := ⟨gb240, 0, none⟩) (Kd.R_types (Kd.R_types (Kd.R_types (Kd.R_types HO239.out BK240.out (by decide)) BK241.out (by decide)) BK207.out (by decide)) BK208.out (by decide)) (fun _ hk => hk.1.1.1.2) (.int .i64 t230)) (fun _ hk => hk.1.1.1.2) (.slice Ao106 t231.length co106)) (fun _ hk => hk.1.1.2) (.slice Ao107 t234.length co107)) (fun _ hk => hk.1.2) (.int .i64 t230)) (fun _ hk => hk.1.2) (.slice Ao106 t231.length co106)) (fun _ hk => hk.2) (.slice Ao107 t234.length co107)) (fun _ h_ => h_.1)) (fun _ h_ => h_.1)) (fun _ h_ => h_.1)) (fun _ h_ => h_.1))) (Kd.R_typed (rq (Kd.R_mono (Kd.R_mono (Kd.R_mono (Kd.R_mono (Kd.R_far (p := ⟨gb208, 0, none⟩) (Kd.R_far (p := ⟨gb207, 1, none⟩) (Kd.R_far (p := ⟨gb207, 0, none⟩) (Kd.R_far (p := ⟨gb241, 0, none⟩) (Kd.R_far (p := ⟨gb240, 1, none⟩) (Kd.R_far (p := ⟨gb240, 0, none⟩) (Kd.R_types (Kd.R_types (Kd.R_types (Kd.R_types HO_5.out BK240.out (by decide)) BK241.out (by decide)) BK207.out (by decide)) BK208.out (by decide)) (fun _ hk => hk.1.1.1.2) (.int .i64 t230)) (fun _ hk => hk.1.1.1.2) (.slice Ao106 t231.length co106)) (fun _ hk => hk.1.1.2) (.slice Ao107 t234.length co107)) (fun _ hk => hk.1.2) (.int .i64 t230)) (fun _ hk => hk.1.2) (.slice Ao106 t231.length co106)) (fun _ hk => hk.2) (.slice Ao107 t234.length co107)) (fun _ h_ => h_.1)) (fun _ h_ => h_.1)) (fun _ h_ => h_.1)) (fun _ h_ => h_.1)))) (by decide) hg); have n9_ := Aside0.mk (blk_grown (g := gb240) (o := .cells #[.int .i64 t230, .slice Ao106 t231.length co106] 39 (0, 0)) (by (with_reducible repeat (first | refine blk_drewN ?_ _ | refine blk_drew ?_ | refine blk_alloc ?_ _)); refine blk_far ?_ NB240_208.out _; (with_reducible repeat (first | refine blk_drewN ?_ _ | refine blk_drew ?_ | refine blk_alloc ?_ _)); refine blk_far ?_ NB240_207.out _; (with_reducible repeat (first | refine blk_drewN ?_ _ | refine blk_drew ?_ | refine blk_alloc ?_ _)); refine blk_far ?_ NB240_207.out _; (with_reducible repeat (first | refine blk_drewN ?_ _ | refine blk_drew ?_ | refine blk_alloc ?_ _)); refine blk_far ?_ NB240_241.out _; (with_reducible repeat (first | refine blk_drewN ?_ _ | refine blk_drew ?_ | refine blk_alloc ?_ _)); refine blk_put (cs := #[.int .i64 t230, .slice none 0 0]) ?_ 1 _ rfl; (with_reducible repeat (first | refine blk_drewN ?_ _ | refine blk_drew ?_ | refine blk_alloc ?_ _)); refine blk_put (cs := #[.int .i64 0, .slice none 0 0]) ?_ 0 _ rfl; (with_reducible repeat (first | refine blk_drewN ?_ _ | refine blk_drew ?_ | refine blk_alloc ?_ _)); exact BK240.out) hg (Kd.R_ne HO_5.out BK240.out (by decide))); have n10_ := Aside0.mk (blk_grown (g := gb241) (o := .cells #[.slice Ao107 t234.length co107] 31 (0, 0)) (by (with_reducible repeat (first | refine blk_drewN ?_ _ | refine blk_drew ?_ | refine blk_alloc ?_ _)); refine blk_far ?_ NB241_208.out _; (with_reducible repeat (first | refine blk_drewN ?_ _ | refine blk_drew ?_ | refine blk_alloc ?_ _)); refine blk_far ?_ NB241_207.out _; (with_reducible repeat (first | refine blk_drewN ?_ _ | refine blk_drew ?_ | refine blk_alloc ?_ _)); refine blk_far ?_ NB241_207.out _; (with_reducible repeat (first | refine blk_drewN ?_ _ | refine blk_drew ?_ | refine blk_alloc ?_ _)); refine blk_put (cs := #[.slice none 0 0]) ?_ 0 _ rfl; (with_reducible repeat (first | refine blk_drewN ?_ _ | refine blk_drew ?_ | refine blk_alloc ?_ _)); refine blk_far ?_ NB241_240.out _; (with_reducible repeat (first | refine blk_drewN ?_ _ | refine blk_drew ?_ | refine blk_alloc ?_ _)); refine blk_far ?_ NB241_240.out _; (with_reducible repeat (first | refine blk_drewN ?_ _ | refine blk_drew ?_ | refine blk_alloc ?_ _)); exact BK241.out) hg (Kd.R_ne HO_5.out BK241.out (by decide))); have n11_ := Aside0.mk (hb); have n12_ := Aside0.mk (ho); clear HO_208001; clear HO_209000; clear BK197; clear BK207; clear BK208; clear BK209; clear HO233; clear HO236; clear HO239; clear BK240; clear BK241; clear HB; clear HO_5; have HO_208001 := n0_; have HO_209000 := n1_; have BK197 := n2_; have BK207 := n3_; have BK208 := n4_; have BK209 := n5_; have HO233 := n6_; have HO236 := n7_; have HO239 := n8_; have BK240 := n9_; have BK241 := n10_; have HB := n11_; have HO244 := n12_; clear n0_ n1_ n2_ n3_ n4_ n5_ n6_ n7_ n8_ n9_ n10_ n11_ n12_; clear ho hb hg hat))
               go_roundg k3
               case measure => have := HJ2.out; have := HK2.out; have := HK3.out; omega
               case rel => exact ⟨(y242), (wrap64 (x9_3 + 1)), (t230), (t231), (t234), (.slice Ao106 t231.length co106), (.slice Ao107 t234.length co107), (by first | rfl | (simp; done) | (simp [*]; done)), H', ⟨by have := HJ2.out; have := HK2.out; have := HK3.out; omega⟩, ⟨by (with_reducible repeat (first | apply Kd.R_alloc | apply Kd.R_drewN | apply Kd.R_drew)); exact Kd.R_mono HO244.out (fun _ hk => trivial)⟩, ⟨by (with_reducible repeat (first | apply Kd.R_alloc | apply Kd.R_drewN | apply Kd.R_drew)); exact Kd.R_mono HO233.out (fun _ hk => hk.1.1.1)⟩, ⟨by (with_reducible repeat (first | apply Kd.R_alloc | apply Kd.R_drewN | apply Kd.R_drew)); exact Kd.R_mono HO236.out (fun _ hk => hk.1.1.1)⟩, ⟨by (with_reducible repeat (first | refine blk_drewN ?_ _ | refine blk_drew ?_ | refine blk_alloc ?_ _)); exact BK197.out⟩, ⟨by (with_reducible repeat (first | refine blk_drewN ?_ _ | refine blk_drew ?_ | refine blk_alloc ?_ _)); exact BK207.out⟩, ⟨by (with_reducible repeat (first | refine blk_drewN ?_ _ | refine blk_drew ?_ | refine blk_alloc ?_ _)); exact BK208.out⟩, ⟨by exact lq HB.out⟩⟩
              ·rw [if_neg c83] at H
               exact absurd H (by simp)
             ·rw [if_neg c81] at H
              have c81b0 : (((rd_T70 l1 x9_3).f0) == 2) = false := beq_eq_false_iff_ne.mpr c81
              have c81b1 : (((rd_T70 l1 x9_3).f0) != 2) = true := bne_iff_ne.mpr c81
              replace H := Option.bind_eq_some_iff.mp H
              obtain ⟨⟨t245, t246⟩, A1170, H⟩ := H
              (try dsimp only at H)
              have A117 := Aside0.mk A1170
              clear A1170
              by_cases c118 : x5_3.length < 8796093022208
              ·rw [if_pos c118] at H
               have LMc118 := Aside0.mk c118
               clear c118
               obtain ⟨y249, hy249⟩ : ∃ y_ : List (S72), y_ = (x5_3 ++ [(⟨0, 0⟩ : S72)]) := ⟨_, rfl⟩
               replace H : (spec_ChanPlay.l1 k3 l1 y249 (wrap64 (x9_3 + 1)) a0_0 a0_1 a0_2 a0_3 t245 t246 x209000_3) = some r := by first | (rw [hy249]; with_reducible exact H) | (have H2_ := (Option.bind_some _ _).symm.trans H; rw [hy249]; with_reducible exact H2_) | (have H2_ := (Option.bind_some _ _).symm.trans H; with_reducible exact H2_) | with_reducible exact H | (rw [hy249]; exact H) | exact H
               have Ny249 := Aside0.mk hy249
               clear hy249
               have H' := Aside0.mk H
               clear H
               go_wp2_with (first | ((with_reducible refine gate_dst (N := 10) rfl ?_); (try (refine gate_guard (by rfl) ?_; dsimp only)); refine box_event ?hg (N := 10) ?hd (cs := #[.int .i64 0, .int .u32 0]) (t := 72) ?hr ?_; (case hd => rfl); (case hg => rfl); (case hr => first | (go_simp; done) | (go_simp; rfl)); intro gb209 hg w119 hbox hb; have n0_ := Aside0.mk (Kd.R_below (Kd.R_elderB (rq HO_5.out) gb209 (Nat.le_of_eq hg.symm)) hb); have n1_ := Aside0.mk (Kd.R_below (rq HO_208001.out) hb); have n2_ := Aside0.mk (Kd.R_below (rq HO_209000.out) hb); have n3_ := Aside0.mk (blk_below (bq BK197.out) hb); have n4_ := Aside0.mk (blk_below (bq BK207.out) hb); have n5_ := Aside0.mk (blk_below (bq BK208.out) hb); have n6_ := Aside0.mk (below_step (lq HB.out) hb); have n7_ := Aside0.mk (hbox); have n8_ := Aside0.mk ((ge_new hg (lq HB.out) : w.heap.size ≤ gb209)); have n9_ := Aside0.mk ((ge_new hg (lq HB.out) : w.heap.size ≤ gb209)); have n10_ := Aside0.mk ((ne_new hg (bq BK197.out) : gb197 ≠ gb209)); have n11_ := Aside0.mk ((new_ne hg (bq BK197.out) : gb209 ≠ gb197)); have n12_ := Aside0.mk ((ne_new hg (bq BK207.out) : gb207 ≠ gb209)); have n13_ := Aside0.mk ((new_ne hg (bq BK207.out) : gb209 ≠ gb207)); have n14_ := Aside0.mk ((ne_new hg (bq BK208.out) : gb208 ≠ gb209)); have n15_ := Aside0.mk ((new_ne hg (bq BK208.out) : gb209 ≠ gb208)); clear HO_5; clear HO_208001; clear HO_209000; clear BK197; clear BK207; clear BK208; clear HB; have HO_5 := n0_; have HO_208001 := n1_; have HO_209000 := n2_; have BK197 := n3_; have BK207 := n4_; have BK208 := n5_; have HB := n6_; have BK209 := n7_; have GW209 := n8_; have GE209 := n9_; have NB197_209 := n10_; have NB209_197 := n11_; have NB207_209 := n12_; have NB209_207 := n13_; have NB208_209 := n14_; have NB209_208 := n15_; clear n0_ n1_ n2_ n3_ n4_ n5_ n6_ n7_ n8_ n9_ n10_ n11_ n12_ n13_ n14_ n15_; clear hb hbox hg; have hnb120 := NB209_197.out; have hnc120 := NB197_209.out; have hnb121 := NB209_207.out; have hnc121 := NB207_209.out; have hnb122 := NB209_208.out; have hnc122 := NB208_209.out; have hcz123_0 : w119.cell? ⟨gb209, 0, none⟩ = some (.int .i64 0) := (blk_cell BK209.out 0).trans rfl; have hcz123_1 : w119.cell? ⟨gb209, 1, none⟩ = some (.int .u32 0) := (blk_cell BK209.out 1).trans rfl; have hfz123_0 := blk_frozen BK209.out 0; have hfz123_1 := blk_frozen BK209.out 1; have p210 : 0 ≤ (x9_3 : Int) := of_decide_eq_true (by first | (with_reducible assumption) | assumption); have q210 : x9_3 < (l1.length : Int) := of_decide_eq_true (by first | (with_reducible assumption) | assumption); obtain ⟨ad210, e210, hx210_0, hx210_1⟩ := at_T70 HR1.out x9_3 p210 q210; cases e210; have hn210_0 : ad210.block ≠ gb209 := Nat.ne_of_lt (Nat.lt_of_lt_of_le (by have := World.block_lt_of_cell? _ _ hx210_0; first | rwa [add_block] at this | exact this) GW209.out); have hn210_1 : ad210.block ≠ gb209 := Nat.ne_of_lt (Nat.lt_of_lt_of_le (by have := World.block_lt_of_cell? _ _ hx210_0; first | rwa [add_block] at this | exact this) GW209.out); replace hx210_0 := (HB.out.cell (World.block_lt_of_cell? w _ hx210_0)).trans hx210_0; replace hx210_1 := (HB.out.cell (World.block_lt_of_cell? w _ hx210_1)).trans hx210_1; replace hx210_0 := (cell_far (p := ⟨gb209, 0, none⟩) (by first | (rw [add_block]; exact hn210_0) | (show (Addr.add _ _).block ≠ _; rw [add_block]; exact hn210_0) | exact hn210_0) (.int .i64 0)).trans hx210_0; replace hx210_1 := (cell_far (p := ⟨gb209, 0, none⟩) (by first | (rw [add_block]; exact hn210_0) | (show (Addr.add _ _).block ≠ _; rw [add_block]; exact hn210_0) | exact hn210_0) (.int .i64 0)).trans hx210_1; replace hx210_0 := (cell_far (p := ⟨gb209, 1, none⟩) (by first | (rw [add_block]; exact hn210_1) | (show (Addr.add _ _).block ≠ _; rw [add_block]; exact hn210_1) | exact hn210_1) (.int .u32 0)).trans hx210_0; replace hx210_1 := (cell_far (p := ⟨gb209, 1, none⟩) (by first | (rw [add_block]; exact hn210_1) | (show (Addr.add _ _).block ≠ _; rw [add_block]; exact hn210_1) | exact hn210_1) (.int .u32 0)).trans hx210_1; clear hn210_0; clear hn210_1; replace p210 := eq_true p210; replace q210 := eq_true q210; have hnb124 := NB197_207.out; have hnc124 := NB207_197.out; have hnb125 := NB197_208.out; have hnc125 := NB208_197.out; have hcz126_0 : w119.cell? ⟨gb197, 0, none⟩ = some (.int .i64 a0_0) := (blk_cell BK197.out 0).trans rfl; have hcz126_1 : w119.cell? ⟨gb197, 1, none⟩ = some (.int .i64 a0_1) := (blk_cell BK197.out 1).trans rfl; have hcz126_2 : w119.cell? ⟨gb197, 2, none⟩ = some (.int .i64 a0_2) := (blk_cell BK197.out 2).trans rfl; have hcz126_3 : w119.cell? ⟨gb197, 3, none⟩ = some (.int .i64 a0_3) := (blk_cell BK197.out 3).trans rfl; have hfz126_0 := blk_frozen BK197.out 0; have hfz126_1 := blk_frozen BK197.out 1; have hfz126_2 := blk_frozen BK197.out 2; have hfz126_3 := blk_frozen BK197.out 3; have hnb127 := NB207_208.out; have hnc127 := NB208_207.out; have hcz128_0 : w119.cell? ⟨gb207, 0, none⟩ = some (.int .i64 x208000_3) := (blk_cell BK207.out 0).trans rfl; have hcz128_1 : w119.cell? ⟨gb207, 1, none⟩ = some (u208001) := (blk_cell BK207.out 1).trans rfl; have hfz128_0 := blk_frozen BK207.out 0; have hfz128_1 := blk_frozen BK207.out 1; obtain ⟨Ao129, co129, eo129⟩ := Kd.R_slice HO_208001.out; subst eo129) | ((with_reducible refine gate_callee (f := 27) rfl ?_); refine goesL_ (some 59) rfl rfl Try.func27 (by kernel_rfl) rfl #[.agg #[.int .i64 a0_0, .int .i64 a0_1, .int .i64 a0_2, .int .i64 a0_3], .agg #[.int .i64 x208000_3, .slice Ao129 x208001_3.length co129]] rfl (by (try simp only [List.map_toArray, List.map_cons, List.map_nil]); first | done | rfl | (simp only [List.length_drop, List.length_take]; rfl)) ?_; (with_reducible refine (spec_Discard.calls a0_0 a0_1 a0_2 a0_3 x208000_3 _ _ x208001_3 t245 t246 _ ?side1 ?side2 A117.out).mono ?_); (case side1 => refine (Kd.R_reads' (e := 46) (base := w.heap.size) (ok := fun k_ => some k_ ≠ (u209000 : Value).ownBlock) (n := x208001_3.length) (c := co129) ?_).2.2; exact (rq (Kd.R_mono (Kd.R_far (p := ⟨gb209, 1, none⟩) (Kd.R_far (p := ⟨gb209, 0, none⟩) (Kd.R_types HO_208001.out BK209.out (by decide)) (fun _ hk => hk.2) (.int .i64 0)) (fun _ hk => hk.2) (.int .u32 0)) (fun _ h_ => h_.1)))); (case side2 => exact (Kd.R_reads' HO_208001.out).2.1); rintro e w130 ⟨v247, rfl, ho0, hb⟩; refine ⟨_, rfl, ?_⟩; have n0_ := Aside0.mk (Kd.R_below (rq (Kd.R_mono (Kd.R_far (p := ⟨gb209, 1, none⟩) (Kd.R_far (p := ⟨gb209, 0, none⟩) (Kd.R_mono HO_5.out (fun k_ hk => (⟨hk, hk.2⟩ : _ ∧ k_ ≠ gb209))) (fun _ hk => hk.2) (.int .i64 0)) (fun _ hk => hk.2) (.int .u32 0)) (fun _ h_ => h_.1))) hb); have n1_ := Aside0.mk (Kd.R_elder' (rq (Kd.R_mono (Kd.R_far (p := ⟨gb209, 1, none⟩) (Kd.R_far (p := ⟨gb209, 0, none⟩) (Kd.R_types HO_208001.out BK209.out (by decide)) (fun _ hk => hk.2) (.int .i64 0)) (fun _ hk => hk.2) (.int .u32 0)) (fun _ h_ => h_.1))) (Kd.R_base ho0) hb); have n2_ := Aside0.mk (Kd.R_elder' (rq (Kd.R_mono (Kd.R_far (p := ⟨gb209, 1, none⟩) (Kd.R_far (p := ⟨gb209, 0, none⟩) (Kd.R_types HO_209000.out BK209.out (by decide)) (fun _ hk => hk.2) (.int .i64 0)) (fun _ hk => hk.2) (.int .u32 0)) (fun _ h_ => h_.1))) (Kd.R_base ho0) hb); have n3_ := Aside0.mk (Kd.R_lower (Kd.R_new' (Kd.R_new' ho0 (Kd.R_lt (rq (Kd.R_mono (Kd.R_far (p := ⟨gb209, 1, none⟩) (Kd.R_far (p := ⟨gb209, 0, none⟩) (Kd.R_types HO_208001.out BK209.out (by decide)) (fun _ hk => hk.2) (.int .i64 0)) (fun _ hk => hk.2) (.int .u32 0)) (fun _ h_ => h_.1))))) (Kd.R_lt (rq (Kd.R_mono (Kd.R_far (p := ⟨gb209, 1, none⟩) (Kd.R_far (p := ⟨gb209, 0, none⟩) (Kd.R_types HO_209000.out BK209.out (by decide)) (fun _ hk => hk.2) (.int .i64 0)) (fun _ hk => hk.2) (.int .u32 0)) (fun _ h_ => h_.1))))) (below_size (by repeat (first | (with_reducible first | exact HB.out | apply below_alloc | apply pw_below_drewN | apply below_drew1 | refine below_set ?_ GE209.out) | exact HB.out)))); have n4_ := Aside0.mk (blk_below (g := gb197) (o := .cells #[.int .i64 a0_0, .int .i64 a0_1, .int .i64 a0_2, .int .i64 a0_3] 29 (0, 0)) (by (with_reducible repeat (first | refine blk_drewN ?_ _ | refine blk_drew ?_ | refine blk_alloc ?_ _)); refine blk_far ?_ NB197_209.out _; (with_reducible repeat (first | refine blk_drewN ?_ _ | refine blk_drew ?_ | refine blk_alloc ?_ _)); refine blk_far ?_ NB197_209.out _; (with_reducible repeat (first | refine blk_drewN ?_ _ | refine blk_drew ?_ | refine blk_alloc ?_ _)); exact BK197.out) hb); have n5_ := Aside0.mk (blk_below (g := gb207) (o := .cells #[.int .i64 x208000_3, .slice Ao129 x208001_3.length co129] 39 (0, 0)) (by (with_reducible repeat (first | refine blk_drewN ?_ _ | refine blk_drew ?_ | refine blk_alloc ?_ _)); refine blk_far ?_ NB207_209.out _; (with_reducible repeat (first | refine blk_drewN ?_ _ | refine blk_drew ?_ | refine blk_alloc ?_ _)); refine blk_far ?_ NB207_209.out _; (with_reducible repeat (first | refine blk_drewN ?_ _ | refine blk_drew ?_ | refine blk_alloc ?_ _)); exact BK207.out) hb); have n6_ := Aside0.mk (blk_below (g := gb208) (o := .cells #[u209000] 31 (0, 0)) (by (with_reducible repeat (first | refine blk_drewN ?_ _ | refine blk_drew ?_ | refine blk_alloc ?_ _)); refine blk_far ?_ NB208_209.out _; (with_reducible repeat (first | refine blk_drewN ?_ _ | refine blk_drew ?_ | refine blk_alloc ?_ _)); refine blk_far ?_ NB208_209.out _; (with_reducible repeat (first | refine blk_drewN ?_ _ | refine blk_drew ?_ | refine blk_alloc ?_ _)); exact BK208.out) hb); have n7_ := Aside0.mk (blk_below (g := gb209) (o := .cells #[.int .i64 0, .int .u32 0] 72 (0, 0)) (by (with_reducible repeat (first | refine blk_drewN ?_ _ | refine blk_drew ?_ | refine blk_alloc ?_ _)); refine blk_put (cs := #[.int .i64 0, .int .u32 0]) ?_ 1 _ rfl; (with_reducible repeat (first | refine blk_drewN ?_ _ | refine blk_drew ?_ | refine blk_alloc ?_ _)); refine blk_put (cs := #[.int .i64 0, .int .u32 0]) ?_ 0 _ rfl; (with_reducible repeat (first | refine blk_drewN ?_ _ | refine blk_drew ?_ | refine blk_alloc ?_ _)); exact BK209.out) hb); have n8_ := Aside0.mk (below_step (by repeat (first | (with_reducible first | exact HB.out | apply below_alloc | apply pw_below_drewN | apply below_drew1 | refine below_set ?_ GE209.out) | exact HB.out)) hb); clear HO_5; clear HO_208001; clear HO_209000; clear BK197; clear BK207; clear BK208; clear BK209; clear HB; have HO_5 := n0_; have HO_208001 := n1_; have HO_209000 := n2_; have HO248 := n3_; have BK197 := n4_; have BK207 := n5_; have BK208 := n6_; have BK209 := n7_; have HB := n8_; clear n0_ n1_ n2_ n3_ n4_ n5_ n6_ n7_ n8_; (try clear hb); (try clear hb2); (try clear hk); (try clear hi); (try clear ho0); have hcz131_0 : w130.cell? ⟨gb207, 0, none⟩ = some (.int .i64 x208000_3) := (blk_cell BK207.out 0).trans rfl; have hcz131_1 : w130.cell? ⟨gb207, 1, none⟩ = some (.slice Ao129 x208001_3.length co129) := (blk_cell BK207.out 1).trans rfl; have hfz131_0 := blk_frozen BK207.out 0; have hfz131_1 := blk_frozen BK207.out 1; obtain ⟨Ao132, co132, eo132⟩ := Kd.R_slice HO248.out; subst eo132; have hcz133_0 : w130.cell? ⟨gb209, 0, none⟩ = some (.int .i64 0) := (blk_cell BK209.out 0).trans rfl; have hcz133_1 : w130.cell? ⟨gb209, 1, none⟩ = some (.int .u32 0) := (blk_cell BK209.out 1).trans rfl; have hfz133_0 := blk_frozen BK209.out 0; have hfz133_1 := blk_frozen BK209.out 1) | ((with_reducible refine gate_builtin (b := .append) (xs := #[.tmp 102, .tmp 104]) rfl ?_); (try (refine gate_guard (by rfl) ?_; dsimp only)); at_builtin; refine Kd.R_append k72 (w0 := w) w.heap.size rfl (.tmp 102) (.tmp 104) 66 72 (.agg #[(.int .i64 0), (.int .u32 0)]) 16 rfl Try.underlying66 info72 rfl (by decide) (by omega) u5 x5_3 (⟨0, 0⟩ : S72) [.int .i64 0, .int .u32 0] (fun k_ => k_ ≠ gb209) (fun _ => False) rfl (by first | (go_simp; done) | (go_simp; rfl)) ?aP (fun _ hk => hk.elim) ?aF ?aO ?aB ?aS ?aL ?_; (case aP => exact k72_mkM _ _ _ (⟨0, 0⟩ : S72)); (case aB => exact (by repeat (first | (with_reducible first | exact HB.out | apply below_alloc | apply pw_below_drewN | apply below_drew1 | refine below_set ?_ GE207.out) | exact HB.out))); (case aF => exact (fun k_ hk => Kd.freshB (g := gb209) (o := .cells #[.int .i64 0, .int .u32 0] 72 (0, 0)) (by (with_reducible repeat (first | refine blk_drewN ?_ _ | refine blk_drew ?_ | refine blk_alloc ?_ _)); refine blk_far ?_ NB209_207.out _; (with_reducible repeat (first | refine blk_drewN ?_ _ | refine blk_drew ?_ | refine blk_alloc ?_ _)); refine blk_far ?_ NB209_207.out _; (with_reducible repeat (first | refine blk_drewN ?_ _ | refine blk_drew ?_ | refine blk_alloc ?_ _)); exact BK209.out) k_ hk)); (case aO => exact (by (with_reducible repeat (first | apply Kd.R_alloc | apply Kd.R_drewN | apply Kd.R_drew)); exact Kd.R_mono (Kd.R_far (p := ⟨gb207, 1, none⟩) (Kd.R_far (p := ⟨gb207, 0, none⟩) (Kd.R_types HO_5.out BK207.out (by decide)) (fun _ hk => hk.2) (.int .i64 t245)) (fun _ hk => hk.2) (.slice Ao132 t246.length co132)) (fun _ hk => hk.1.2))); (case aS => exact (below_size (by repeat (first | (with_reducible first | exact HB.out | apply below_alloc | apply pw_below_drewN | apply below_drew1 | refine below_set ?_ GE207.out) | exact HB.out)))); (case aL => have := LMc118.out; omega); intro v250 w134 ho hb hg hat; rw [← Ny249.out] at ho; have n0_ := Aside0.mk (Kd.R_over' (rq (Kd.R_mono (Kd.R_far (p := ⟨gb207, 1, none⟩) (Kd.R_far (p := ⟨gb207, 0, none⟩) (Kd.R_types HO_208001.out BK207.out (by decide)) (fun _ hk => hk.2) (.int .i64 t245)) (fun _ hk => hk.2) (.slice Ao132 t246.length co132)) (fun _ h_ => h_.1))) (Kd.R_typed (rq (Kd.R_mono (Kd.R_far (p := ⟨gb207, 1, none⟩) (Kd.R_far (p := ⟨gb207, 0, none⟩) (Kd.R_types HO_5.out BK207.out (by decide)) (fun _ hk => hk.2) (.int .i64 t245)) (fun _ hk => hk.2) (.slice Ao132 t246.length co132)) (fun _ h_ => h_.1)))) (by decide) hg); have n1_ := Aside0.mk (Kd.R_over' (rq (Kd.R_mono (Kd.R_far (p := ⟨gb207, 1, none⟩) (Kd.R_far (p := ⟨gb207, 0, none⟩) (Kd.R_types HO_209000.out BK207.out (by decide)) (fun _ hk => hk.2) (.int .i64 t245)) (fun _ hk => hk.2) (.slice Ao132 t246.length co132)) (fun _ h_ => h_.1))) (Kd.R_typed (rq (Kd.R_mono (Kd.R_far (p := ⟨gb207, 1, none⟩) (Kd.R_far (p := ⟨gb207, 0, none⟩) (Kd.R_types HO_5.out BK207.out (by decide)) (fun _ hk => hk.2) (.int .i64 t245)) (fun _ hk => hk.2) (.slice Ao132 t246.length co132)) (fun _ h_ => h_.1)))) (by decide) hg); have n2_ := Aside0.mk (blk_grown (g := gb197) (o := .cells #[.int .i64 a0_0, .int .i64 a0_1, .int .i64 a0_2, .int .i64 a0_3] 29 (0, 0)) (by (with_reducible repeat (first | refine blk_drewN ?_ _ | refine blk_drew ?_ | refine blk_alloc ?_ _)); refine blk_far ?_ NB197_207.out _; (with_reducible repeat (first | refine blk_drewN ?_ _ | refine blk_drew ?_ | refine blk_alloc ?_ _)); refine blk_far ?_ NB197_207.out _; (with_reducible repeat (first | refine blk_drewN ?_ _ | refine blk_drew ?_ | refine blk_alloc ?_ _)); exact BK197.out) hg (Kd.R_ne HO_5.out BK197.out (by decide))); have n3_ := Aside0.mk (blk_grown (g := gb207) (o := .cells #[.int .i64 t245, .slice Ao132 t246.length co132] 39 (0, 0)) (by (with_reducible repeat (first | refine blk_drewN ?_ _ | refine blk_drew ?_ | refine blk_alloc ?_ _)); refine blk_put (cs := #[.int .i64 t245, .slice Ao129 x208001_3.length co129]) ?_ 1 _ rfl; (with_reducible repeat (first | refine blk_drewN ?_ _ | refine blk_drew ?_ | refine blk_alloc ?_ _)); refine blk_put (cs := #[.int .i64 x208000_3, .slice Ao129 x208001_3.length co129]) ?_ 0 _ rfl; (with_reducible repeat (first | refine blk_drewN ?_ _ | refine blk_drew ?_ | refine blk_alloc ?_ _)); exact BK207.out) hg (Kd.R_ne HO_5.out BK207.out (by decide))); have n4_ := Aside0.mk (blk_grown (g := gb208) (o := .cells #[u209000] 31 (0, 0)) (by (with_reducible repeat (first | refine blk_drewN ?_ _ | refine blk_drew ?_ | refine blk_alloc ?_ _)); refine blk_far ?_ NB208_207.out _; (with_reducible repeat (first | refine blk_drewN ?_ _ | refine blk_drew ?_ | refine blk_alloc ?_ _)); refine blk_far ?_ NB208_207.out _; (with_reducible repeat (first | refine blk_drewN ?_ _ | refine blk_drew ?_ | refine blk_alloc ?_ _)); exact BK208.out) hg (Kd.R_ne HO_5.out BK208.out (by decide))); have n5_ := Aside0.mk (blk_grown (g := gb209) (o := .cells #[.int .i64 0, .int .u32 0] 72 (0, 0)) (by (with_reducible repeat (first | refine blk_drewN ?_ _ | refine blk_drew ?_ | refine blk_alloc ?_ _)); refine blk_far ?_ NB209_207.out _; (with_reducible repeat (first | refine blk_drewN ?_ _ | refine blk_drew ?_ | refine blk_alloc ?_ _)); refine blk_far ?_ NB209_207.out _; (with_reducible repeat (first | refine blk_drewN ?_ _ | refine blk_drew ?_ | refine blk_alloc ?_ _)); exact BK209.out) hg (Kd.R_away HO_5.out (fun _ hk => hk.2))); have n6_ := Aside0.mk (Kd.R_over' (rq (Kd.R_mono (Kd.R_far (p := ⟨gb207, 1, none⟩) (Kd.R_far (p := ⟨gb207, 0, none⟩) (Kd.R_types HO248.out BK207.out (by decide)) (fun _ hk => hk.2) (.int .i64 t245)) (fun _ hk => hk.2) (.slice Ao132 t246.length co132)) (fun _ h_ => h_.1))) (Kd.R_typed (rq (Kd.R_mono (Kd.R_far (p := ⟨gb207, 1, none⟩) (Kd.R_far (p := ⟨gb207, 0, none⟩) (Kd.R_types HO_5.out BK207.out (by decide)) (fun _ hk => hk.2) (.int .i64 t245)) (fun _ hk => hk.2) (.slice Ao132 t246.length co132)) (fun _ h_ => h_.1)))) (by decide) hg); have n7_ := Aside0.mk (hb); have n8_ := Aside0.mk (ho); clear HO_208001; clear HO_209000; clear BK197; clear BK207; clear BK208; clear BK209; clear HO248; clear HB; clear HO_5; have HO_208001 := n0_; have HO_209000 := n1_; have BK197 := n2_; have BK207 := n3_; have BK208 := n4_; have BK209 := n5_; have HO248 := n6_; have HB := n7_; have HO251 := n8_; clear n0_ n1_ n2_ n3_ n4_ n5_ n6_ n7_ n8_; clear ho hb hg hat))
               go_roundg k3
               case measure => have := HJ2.out; have := HK2.out; have := HK3.out; omega
               case rel => exact ⟨(y249), (wrap64 (x9_3 + 1)), (t245), (t246), (x209000_3), (.slice Ao132 t246.length co132), (u209000), (by first | rfl | (simp; done) | (simp [*]; done)), H', ⟨by have := HJ2.out; have := HK2.out; have := HK3.out; omega⟩, ⟨by (with_reducible repeat (first | apply Kd.R_alloc | apply Kd.R_drewN | apply Kd.R_drew)); exact Kd.R_mono HO251.out (fun _ hk => trivial)⟩, ⟨by (with_reducible repeat (first | apply Kd.R_alloc | apply Kd.R_drewN | apply Kd.R_drew)); exact Kd.R_mono HO248.out (fun _ hk => hk.2)⟩, ⟨by (with_reducible repeat (first | apply Kd.R_alloc | apply Kd.R_drewN | apply Kd.R_drew)); exact Kd.R_mono HO_209000.out (fun _ hk => hk.2)⟩, ⟨by (with_reducible repeat (first | refine blk_drewN ?_ _ | refine blk_drew ?_ | refine blk_alloc ?_ _)); exact BK197.out⟩, ⟨by (with_reducible repeat (first | refine blk_drewN ?_ _ | refine blk_drew ?_ | refine blk_alloc ?_ _)); exact BK207.out⟩, ⟨by (with_reducible repeat (first | refine blk_drewN ?_ _ | refine blk_drew ?_ | refine blk_alloc ?_ _)); exact BK208.out⟩, ⟨by exact lq HB.out⟩⟩
              ·rw [if_neg c118] at H
               exact absurd H (by simp)
          ·rw [if_neg c28] at H
           exact absurd H (by simp)
         ·rw [if_neg c27] at H
          have c27b0 : decide (x9_3 < (l1.length : Int)) = false := decide_eq_false c27
          clear c27
          obtain rfl := Option.some.inj H
          go_wp2
          go_ret
          exact ⟨_, by first | rfl | (simp [errW_none, errW_some] <;> rfl) | (simp [*, errW_none, errW_some] <;> rfl), by (with_reducible repeat (first | apply Kd.R_alloc | apply Kd.R_drewN | apply Kd.R_drew)); exact HO_5.out, by exact lq HB.out⟩

end Go.Proofs.Ytioifcanipijhaa.GK
