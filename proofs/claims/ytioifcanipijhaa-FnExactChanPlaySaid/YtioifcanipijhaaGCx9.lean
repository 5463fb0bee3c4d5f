/- Told by a program of this session, out of the translation: each function of the group as a plain Lean function, and that Go's call comes to just its answer. Lean checks it. -/
import Derived.Test.YtioifcanipijhaaGCx0
import Derived.Test.YtioifcanipijhaaGCx4
import Derived.Test.YtioifcanipijhaaGCx5
import Derived.Test.YtioifcanipijhaaGCx7
import Derived.Test.YtioifcanipijhaaGCx8
namespace Go.Proofs.Ytioifcanipijhaa.GC
open Go.RowKit Go.Proofs.YtioifcanipijhaaW.PrintWords Go.Proofs.YtioifcanipijhaaW.PrintLast Go.Proofs.YtioifcanipijhaaW.PrintMore Go.Proofs.Ytioifcanipijhaa.Q
attribute [local go_sem] max2_int min2_int max_two min_two max_three min_three max_four min_four   -- for this text's walks alone
set_option linter.unusedVariables false
set_option linter.unusedSimpArgs false

/-! ### spec_ChanPlay: function 48 -/
mutual
def spec_ChanPlay.j0 : Nat → List (S70) → List (S72) → Bool → Int → Int → Int → Int → Option ((List (S72)))
 | 0, _, _, _, _, _, _, _ => none
 | k + 1, x1, x5, x27, x216000, x216001, x216002, x216003 => if x27 = true then (some x5) else (spec_ChanPlay.l0 k x1 x5 0 x216000 x216001 x216002 x216003)
def spec_ChanPlay.l0 : Nat → List (S70) → List (S72) → Int → Int → Int → Int → Int → Option ((List (S72)))
 | 0, _, _, _, _, _, _, _ => none
 | k + 1, x1, x5, x6, x216000, x216001, x216002, x216003 => if x6 < (x1.length : Int) then (if 0 ≤ x6 then ((spec_l01In.f ((rd_T70 x1 x6).f0) 0 3).bind fun t221 => (if t221 = true then (spec_ChanPlay.l0 k x1 x5 (wrap64 (x6 + 1)) x216000 x216001 x216002 x216003) else (some (([] : List (S72)))))) else (none)) else (spec_ChanPlay.l1 k x1 x5 0 x216000 x216001 x216002 x216003 0 ([] : List Int) ([] : List Int))
def spec_ChanPlay.l1 : Nat → List (S70) → List (S72) → Int → Int → Int → Int → Int → Int → List Int → List Int → Option ((List (S72)))
 | 0, _, _, _, _, _, _, _, _, _, _ => none
 | k + 1, x1, x5, x9, x216000, x216001, x216002, x216003, x226000, x226001, x227000 => if x9 < (x1.length : Int) then (if 0 ≤ x9 then (if ((rd_T70 x1 x9).f0) = 0 then ((spec_SendOn.f x216000 x216001 x216002 x216003 x226000 x226001 ((rd_T70 x1 x9).f1)).bind fun bt230 => (if x5.length < 8796093022208 then (spec_ChanPlay.l1 k x1 (x5 ++ [(⟨bt230.2.2, 0⟩ : S72)]) (wrap64 (x9 + 1)) x216000 x216001 x216002 x216003 bt230.1 bt230.2.1 x227000) else (none))) else (if ((rd_T70 x1 x9).f0) = 1 then ((spec_RecvOn.f x216000 x216001 x216002 x216003 x227000).bind fun bt239 => (if x5.length < 8796093022208 then (spec_ChanPlay.l1 k x1 (x5 ++ [(⟨bt239.2.2, bt239.2.1⟩ : S72)]) (wrap64 (x9 + 1)) x216000 x216001 x216002 x216003 x226000 x226001 bt239.1) else (none))) else (if ((rd_T70 x1 x9).f0) = 2 then ((spec_Border.f k x216000 x216001 x216002 x216003 x226000 x226001 x227000).bind fun bt248 => (if x5.length < 8796093022208 then (spec_ChanPlay.l1 k x1 (x5 ++ [(⟨0, 0⟩ : S72)]) (wrap64 (x9 + 1)) x216000 x216001 x216002 x216003 bt248.1 bt248.2.1 bt248.2.2.1) else (none))) else ((spec_Discard.f x216000 x216001 x216002 x216003 x226000 x226001).bind fun bt263 => (if x5.length < 8796093022208 then (spec_ChanPlay.l1 k x1 (x5 ++ [(⟨0, 0⟩ : S72)]) (wrap64 (x9 + 1)) x216000 x216001 x216002 x216003 bt263.1 bt263.2 x227000) else (none)))))) else (none)) else (some x5)
end
def spec_ChanPlay.f (k : Nat) (a0_0 : Int) (a0_1 : Int) (a0_2 : Int) (a0_3 : Int) (l1 : List (S70)) : Option ((List (S72))) := (some (([] : List (S72)) : List (S72))).bind fun y216 => ((spec_ChanOk.f a0_0 a0_1 a0_2 a0_3).bind fun t219 => (if t219 = true then (spec_ChanPlay.j0 k l1 y216 (decide ((l1.length : Int) > 1000)) a0_0 a0_1 a0_2 a0_3) else (spec_ChanPlay.j0 k l1 y216 true a0_0 a0_1 a0_2 a0_3)))
theorem spec_ChanPlay.mono_l : ∀ k, (∀ y0 y1 y2 y3 y4 y5 y6, LeO (spec_ChanPlay.j0 k y0 y1 y2 y3 y4 y5 y6) (spec_ChanPlay.j0 (k + 1) y0 y1 y2 y3 y4 y5 y6)) ∧ (∀ y0 y1 y2 y3 y4 y5 y6, LeO (spec_ChanPlay.l0 k y0 y1 y2 y3 y4 y5 y6) (spec_ChanPlay.l0 (k + 1) y0 y1 y2 y3 y4 y5 y6)) ∧ (∀ y0 y1 y2 y3 y4 y5 y6 y7 y8 y9, LeO (spec_ChanPlay.l1 k y0 y1 y2 y3 y4 y5 y6 y7 y8 y9) (spec_ChanPlay.l1 (k + 1) y0 y1 y2 y3 y4 y5 y6 y7 y8 y9))
 | 0 => ⟨fun _ _ _ _ _ _ _ r h => by simp [spec_ChanPlay.j0] at h, fun _ _ _ _ _ _ _ r h => by simp [spec_ChanPlay.l0] at h, fun _ _ _ _ _ _ _ _ _ _ r h => by simp [spec_ChanPlay.l1] at h⟩
 | k + 1 => by
  obtain ⟨ih0, ih1, ih2⟩ := spec_ChanPlay.mono_l k
  refine ⟨?_, ?_, ?_⟩
  ·intro y0 y1 y2 y3 y4 y5 y6
   unfold spec_ChanPlay.j0
   repeat' first
   | (with_reducible exact ih0 _ _ _ _ _ _ _)
   | (with_reducible exact ih1 _ _ _ _ _ _ _)
   | (with_reducible exact ih2 _ _ _ _ _ _ _ _ _ _)
   | (with_reducible exact spec_Border.mono _ _ _ _ _ _ _ _)
   | (with_reducible exact LeO.refl _)
   | (with_reducible exact LeO.none _)
   | (with_reducible refine LeO.ite ?_ ?_)
   | (with_reducible refine LeO.bind ?_ (fun _ => ?_))
   | exact ih0 _ _ _ _ _ _ _
   | exact ih1 _ _ _ _ _ _ _
   | exact ih2 _ _ _ _ _ _ _ _ _ _
   | exact spec_Border.mono _ _ _ _ _ _ _ _
   | exact LeO.none _
   | refine LeO.ite ?_ ?_
   | refine LeO.bind ?_ (fun _ => ?_)
  ·intro y0 y1 y2 y3 y4 y5 y6
   unfold spec_ChanPlay.l0
   repeat' first
   | (with_reducible exact ih0 _ _ _ _ _ _ _)
   | (with_reducible exact ih1 _ _ _ _ _ _ _)
   | (with_reducible exact ih2 _ _ _ _ _ _ _ _ _ _)
   | (with_reducible exact spec_Border.mono _ _ _ _ _ _ _ _)
   | (with_reducible exact LeO.refl _)
   | (with_reducible exact LeO.none _)
   | (with_reducible refine LeO.ite ?_ ?_)
   | (with_reducible refine LeO.bind ?_ (fun _ => ?_))
   | exact ih0 _ _ _ _ _ _ _
   | exact ih1 _ _ _ _ _ _ _
   | exact ih2 _ _ _ _ _ _ _ _ _ _
   | exact spec_Border.mono _ _ _ _ _ _ _ _
   | exact LeO.none _
   | refine LeO.ite ?_ ?_
   | refine LeO.bind ?_ (fun _ => ?_)
  ·intro y0 y1 y2 y3 y4 y5 y6 y7 y8 y9
   unfold spec_ChanPlay.l1
   repeat' first
   | (with_reducible exact ih0 _ _ _ _ _ _ _)
   | (with_reducible exact ih1 _ _ _ _ _ _ _)
   | (with_reducible exact ih2 _ _ _ _ _ _ _ _ _ _)
   | (with_reducible exact spec_Border.mono _ _ _ _ _ _ _ _)
   | (with_reducible exact LeO.refl _)
   | (with_reducible exact LeO.none _)
   | (with_reducible refine LeO.ite ?_ ?_)
   | (with_reducible refine LeO.bind ?_ (fun _ => ?_))
   | exact ih0 _ _ _ _ _ _ _
   | exact ih1 _ _ _ _ _ _ _
   | exact ih2 _ _ _ _ _ _ _ _ _ _
   | exact spec_Border.mono _ _ _ _ _ _ _ _
   | exact LeO.none _
   | refine LeO.ite ?_ ?_
   | refine LeO.bind ?_ (fun _ => ?_)
theorem spec_ChanPlay.mono : ∀ a0 a1 a2 a3 a4 k, LeO (spec_ChanPlay.f k a0 a1 a2 a3 a4) (spec_ChanPlay.f (k + 1) a0 a1 a2 a3 a4) := by
 intro a0 a1 a2 a3 a4 k
 obtain ⟨ih0, ih1, ih2⟩ := spec_ChanPlay.mono_l k
 unfold spec_ChanPlay.f
 repeat' first
   | (with_reducible exact ih0 _ _ _ _ _ _ _)
   | (with_reducible exact ih1 _ _ _ _ _ _ _)
   | (with_reducible exact ih2 _ _ _ _ _ _ _ _ _ _)
   | (with_reducible exact spec_Border.mono _ _ _ _ _ _ _ _)
   | (with_reducible exact LeO.refl _)
   | (with_reducible exact LeO.none _)
   | (with_reducible refine LeO.ite ?_ ?_)
   | (with_reducible refine LeO.bind ?_ (fun _ => ?_))
   | exact ih0 _ _ _ _ _ _ _
   | exact ih1 _ _ _ _ _ _ _
   | exact ih2 _ _ _ _ _ _ _ _ _ _
   | exact spec_Border.mono _ _ _ _ _ _ _ _
   | exact LeO.none _
   | refine LeO.ite ?_ ?_
   | refine LeO.bind ?_ (fun _ => ?_)
def spec_ChanPlay.T17 : Bool × List (List Nat × List Nat) := (true, [([], []), ([], []), ([], []), ([], []), ([2, 3], [2, 3]), ([4], [4]), ([5], [5]), ([0, 1, 6], [0, 1, 6]), ([7], [7]), ([8], [8]), ([8], [8]), ([], []), ([11, 9, 7, 0, 1, 2, 3, 4, 5, 6, 7, 8, 9, 11], [9, 11]), ([10, 12, 0, 1, 2, 3, 4, 5, 6, 7, 8, 9, 10, 11, 12], [10])])
def spec_ChanPlay.B17 : List Nat := [0, 0, 0, 0, 12, 28, 60, 127, 255, 511, 511, 0, 3071, 8191]
theorem spec_ChanPlay.tab17 : rtab .any (opsOf Try.f48 17) = spec_ChanPlay.T17 := by kernel_rfl
theorem spec_ChanPlay.bits17 : waitsOk spec_ChanPlay.T17.2 spec_ChanPlay.B17 = true := by kernel_rfl
set_option maxHeartbeats 8000000 in
set_option maxRecDepth 100000 in
theorem spec_ChanPlay.calls (k : Nat) (a0_0 : Int) (a0_1 : Int) (a0_2 : Int) (a0_3 : Int) (A1 : Option Addr) (c1 : Nat) (l1 : List (S70)) (r : List (S72)) (w : World) (hr1 : Kd.C k70 w A1 l1.length l1) (hc1 : l1.length ≤ c1) (h : spec_ChanPlay.f k a0_0 a0_1 a0_2 a0_3 l1 = some r) :
  Calls Try.prog 48 #[.agg #[.int .i64 a0_0, .int .i64 a0_1, .int .i64 a0_2, .int .i64 a0_3], .slice A1 l1.length c1] w fun e w' => ∃ v0_ : Value, e = .returned (v0_) ∧ Kd.R k72 72 w' w.heap.size (fun _ => True) v0_ r ∧ Below w.heap.size w w' := by
 have hu29 := Try.underlying29
 have hu39 := Try.underlying39
 have hu31 := Try.underlying31
 have hu72 := Try.underlying72
 have HR1 := Aside0.mk hr1
 have HC1 := Aside0.mk hc1
 clear hr1 hc1
 have HB := Aside0.mk (Below.refl w.heap.size w)
 have H : ((some (([] : List (S72)) : List (S72))).bind fun y216 => ((spec_ChanOk.f a0_0 a0_1 a0_2 a0_3).bind fun t219 => (if t219 = true then (spec_ChanPlay.j0 k l1 y216 (decide ((l1.length : Int) > 1000)) a0_0 a0_1 a0_2 a0_3) else (spec_ChanPlay.j0 k l1 y216 true a0_0 a0_1 a0_2 a0_3)))) = some r := h
 clear h
 obtain ⟨y216, hy216⟩ : ∃ y_ : List (S72), y_ = (([] : List (S72))) := ⟨_, rfl⟩
 replace H : ((spec_ChanOk.f a0_0 a0_1 a0_2 a0_3).bind fun t219 => (if t219 = true then (spec_ChanPlay.j0 k l1 y216 (decide ((l1.length : Int) > 1000)) a0_0 a0_1 a0_2 a0_3) else (spec_ChanPlay.j0 k l1 y216 true a0_0 a0_1 a0_2 a0_3))) = some r := by first | (rw [hy216]; with_reducible exact H) | (have H2_ := (Option.bind_some _ _).symm.trans H; rw [hy216]; with_reducible exact H2_) | (have H2_ := (Option.bind_some _ _).symm.trans H; with_reducible exact H2_) | with_reducible exact H | (rw [hy216]; exact H) | exact H
 have Ny216 := Aside0.mk hy216
 clear hy216
 have HC3 := Aside0.mk H
 clear H
 go_enter Try.func48, Try.ntmps48
 go_upto_region 2 with (first | ((with_reducible refine gate_dst (N := 2) rfl ?_); (try (refine gate_guard (by rfl) ?_; dsimp only)); refine box_event ?hg (N := 2) ?hd (cs := #[.int .i64 a0_0, .int .i64 a0_1, .int .i64 a0_2, .int .i64 a0_3]) (t := 29) ?hr ?_; (case hd => rfl); (case hg => rfl); (case hr => first | (go_simp; done) | (go_simp; rfl)); intro gb215 hg w4 hbox hb; have n0_ := Aside0.mk (below_step (lq HB.out) hb); have n1_ := Aside0.mk (hbox); have n2_ := Aside0.mk ((ge_new hg (lq HB.out) : w.heap.size ≤ gb215)); have n3_ := Aside0.mk ((ge_new hg (lq HB.out) : w.heap.size ≤ gb215)); clear HB; have HB := n0_; have BK215 := n1_; have GW215 := n2_; have GE215 := n3_; clear n0_ n1_ n2_ n3_; clear hb hbox hg) | ((with_reducible refine gate_dst (N := 19) rfl ?_); (try (refine gate_guard (by rfl) ?_; dsimp only)); refine Kd.R_lit k72 _ 72 ?hg (N := 19) ?hd (xs := ([] : List (S72))) (inner := []) (ok := fun _ => True) (okp := fun _ => True) ?hr ?hp (fun _ hk => hk) trivial (Below.refl _ _) (Nat.le_refl _) (by simp) ?_; (case hd => rfl); (case hg => rfl); (case hr => first | (go_simp; done) | (go_simp; rfl)); (case hp => exact (Reps.none _ _)); intro v217 w5 ho6 hb hg_ hnew_; clear hg_ hnew_; (first | rw [← Ny216.out] at ho6 | (simp only [Int.reduceToNat] at ho6; rw [← Ny216.out] at ho6)); have n0_ := Aside0.mk (Kd.R_lower ho6 (below_size (lq HB.out))); have n1_ := Aside0.mk (blk_below (bq BK215.out) hb); have n2_ := Aside0.mk (below_step (lq HB.out) hb); clear BK215; clear HB; have HO218 := n0_; have BK215 := n1_; have HB := n2_; clear n0_ n1_ n2_; clear hb ho6))
 (try simp only [Act.put, List.setIfInBounds_toArray, List.set_cons_zero, List.set_cons_succ])
 go_cut [27] (fun v27 wc => ∃ (kq : Nat) (x27_2 : Bool), v27 = .bool x27_2 ∧ Aside0 (spec_ChanPlay.j0 kq l1 y216 x27_2 a0_0 a0_1 a0_2 a0_3 = some r) ∧ Aside0 (kq ≤ k) ∧ Aside0 (Kd.R k72 72 wc w.heap.size (fun _ => True) v217 y216) ∧ Aside0 (wc.heap[gb215]? = some (.cells #[.int .i64 a0_0, .int .i64 a0_1, .int .i64 a0_2, .int .i64 a0_3] 29 (0, 0))) ∧ Aside0 (Below w.heap.size w wc))
 case first =>
  have H := HC3.out
  clear HC3
  replace H := Option.bind_eq_some_iff.mp H
  obtain ⟨t219, A70, H⟩ := H
  (try dsimp only at H)
  have A7 := Aside0.mk A70
  clear A70
  by_cases c8 : t219 = true
  ·subst c8
   rw [if_pos rfl] at H
   have H' := Aside0.mk H
   clear H
   have hcz9_0 : w5.cell? ⟨gb215, 0, none⟩ = some (.int .i64 a0_0) := (blk_cell BK215.out 0).trans rfl
   have hcz9_1 : w5.cell? ⟨gb215, 1, none⟩ = some (.int .i64 a0_1) := (blk_cell BK215.out 1).trans rfl
   have hcz9_2 : w5.cell? ⟨gb215, 2, none⟩ = some (.int .i64 a0_2) := (blk_cell BK215.out 2).trans rfl
   have hcz9_3 : w5.cell? ⟨gb215, 3, none⟩ = some (.int .i64 a0_3) := (blk_cell BK215.out 3).trans rfl
   have hfz9_0 := blk_frozen BK215.out 0
   have hfz9_1 := blk_frozen BK215.out 1
   have hfz9_2 := blk_frozen BK215.out 2
   have hfz9_3 := blk_frozen BK215.out 3
   go_wp2_with (first | ((with_reducible refine gate_callee (f := 49) rfl ?_); refine goesL_ (some 21) rfl rfl Try.func49 (by kernel_rfl) rfl #[.agg #[.int .i64 a0_0, .int .i64 a0_1, .int .i64 a0_2, .int .i64 a0_3]] rfl (by (try simp only [List.map_toArray, List.map_cons, List.map_nil]); first | done | rfl | (simp only [List.length_drop, List.length_take]; rfl)) ?_; (with_reducible refine (spec_ChanOk.calls a0_0 a0_1 a0_2 a0_3 true _ A7.out).mono ?_); rintro e w10 ⟨rfl, hb⟩; refine ⟨_, rfl, ?_⟩; have n0_ := Aside0.mk (Kd.R_below (rq HO218.out) hb); have n1_ := Aside0.mk (blk_below (bq BK215.out) hb); have n2_ := Aside0.mk (below_step (lq HB.out) hb); clear HO218; clear BK215; clear HB; have HO218 := n0_; have BK215 := n1_; have HB := n2_; clear n0_ n1_ n2_; (try clear hb); (try clear hb2); (try clear hk); (try clear hi)))
   go_meet
   case rel => exact ⟨_, (decide ((l1.length : Int) > 1000)), (by first | rfl | (simp; done) | (simp [*]; done)), H', ⟨by first | omega | exact Nat.le_refl _⟩, ⟨by (with_reducible repeat (first | apply Kd.R_alloc | apply Kd.R_drewN | apply Kd.R_drew)); exact HO218.out⟩, ⟨by (with_reducible repeat (first | refine blk_drewN ?_ _ | refine blk_drew ?_ | refine blk_alloc ?_ _)); exact BK215.out⟩, ⟨by exact lq HB.out⟩⟩
  ·replace c8 := Bool.eq_false_iff.mpr c8
   subst c8
   rw [if_neg (show ¬ (false = true) by decide)] at H
   have H' := Aside0.mk H
   clear H
   have hcz11_0 : w5.cell? ⟨gb215, 0, none⟩ = some (.int .i64 a0_0) := (blk_cell BK215.out 0).trans rfl
   have hcz11_1 : w5.cell? ⟨gb215, 1, none⟩ = some (.int .i64 a0_1) := (blk_cell BK215.out 1).trans rfl
   have hcz11_2 : w5.cell? ⟨gb215, 2, none⟩ = some (.int .i64 a0_2) := (blk_cell BK215.out 2).trans rfl
   have hcz11_3 : w5.cell? ⟨gb215, 3, none⟩ = some (.int .i64 a0_3) := (blk_cell BK215.out 3).trans rfl
   have hfz11_0 := blk_frozen BK215.out 0
   have hfz11_1 := blk_frozen BK215.out 1
   have hfz11_2 := blk_frozen BK215.out 2
   have hfz11_3 := blk_frozen BK215.out 3
   go_wp2_with (first | ((with_reducible refine gate_callee (f := 49) rfl ?_); refine goesL_ (some 21) rfl rfl Try.func49 (by kernel_rfl) rfl #[.agg #[.int .i64 a0_0, .int .i64 a0_1, .int .i64 a0_2, .int .i64 a0_3]] rfl (by (try simp only [List.map_toArray, List.map_cons, List.map_nil]); first | done | rfl | (simp only [List.length_drop, List.length_take]; rfl)) ?_; (with_reducible refine (spec_ChanOk.calls a0_0 a0_1 a0_2 a0_3 false _ A7.out).mono ?_); rintro e w12 ⟨rfl, hb⟩; refine ⟨_, rfl, ?_⟩; have n0_ := Aside0.mk (Kd.R_below (rq HO218.out) hb); have n1_ := Aside0.mk (blk_below (bq BK215.out) hb); have n2_ := Aside0.mk (below_step (lq HB.out) hb); clear HO218; clear BK215; clear HB; have HO218 := n0_; have BK215 := n1_; have HB := n2_; clear n0_ n1_ n2_; (try clear hb); (try clear hb2); (try clear hk); (try clear hi)))
   go_meet
   case rel => exact ⟨_, (true), (by first | rfl | (simp; done) | (simp [*]; done)), H', ⟨by first | omega | exact Nat.le_refl _⟩, ⟨by (with_reducible repeat (first | apply Kd.R_alloc | apply Kd.R_drewN | apply Kd.R_drew)); exact HO218.out⟩, ⟨by (with_reducible repeat (first | refine blk_drewN ?_ _ | refine blk_drew ?_ | refine blk_alloc ?_ _)); exact BK215.out⟩, ⟨by exact lq HB.out⟩⟩
 case rest =>
  clear HC3
  try clear c1
  try clear p2
  try clear c4
  try clear c8
  try clear hcz11_0
  try clear hcz11_1
  try clear hcz11_2
  try clear hcz11_3
  try clear hcz9_0
  try clear hcz9_1
  try clear hcz9_2
  try clear hcz9_3
  try clear hfz11_0
  try clear hfz11_1
  try clear hfz11_2
  try clear hfz11_3
  try clear hfz9_0
  try clear hfz9_1
  try clear hfz9_2
  try clear hfz9_3
  obtain ⟨kq, x27_2, rfl, HA, HJ2, HO_5, BK215, HB⟩ := hcut
  cases kq with
  | zero => exact absurd HA.out (by simp [spec_ChanPlay.j0])
  | succ kj2 =>
   have H := HA.out
   clear HA
   simp only [spec_ChanPlay.j0] at H
   by_cases c13 : x27_2 = true
   ·subst c13
    rw [if_pos rfl] at H
    obtain rfl := Option.some.inj H
    go_wp2
    go_ret
    exact ⟨_, by first | rfl | (simp [errW_none, errW_some] <;> rfl) | (simp [*, errW_none, errW_some] <;> rfl), by (with_reducible repeat (first | apply Kd.R_alloc | apply Kd.R_drewN | apply Kd.R_drew)); exact HO_5.out, by exact lq HB.out⟩
   ·replace c13 := Bool.eq_false_iff.mpr c13
    subst c13
    rw [if_neg (show ¬ (false = true) by decide)] at H
    have H' := Aside0.mk H
    clear H
    go_wp2
    go_loopg [6] kj2 (fun kq v6 w' => ∃ (x6_2 : Int), v6 = .int .i64 x6_2 ∧ Aside0 (spec_ChanPlay.l0 kq l1 y216 x6_2 a0_0 a0_1 a0_2 a0_3 = some r) ∧ Aside0 (kq ≤ kj2) ∧ Aside0 (Kd.R k72 72 w' w.heap.size (fun _ => True) v217 y216) ∧ Aside0 (w'.heap[gb215]? = some (.cells #[.int .i64 a0_0, .int .i64 a0_1, .int .i64 a0_2, .int .i64 a0_3] 29 (0, 0))) ∧ Aside0 (Below w.heap.size w w'))
    case atStart => exact ⟨(0), (by first | rfl | (simp; done) | (simp [*]; done)), H', ⟨Nat.le_refl _⟩, ⟨by (with_reducible repeat (first | apply Kd.R_alloc | apply Kd.R_drewN | apply Kd.R_drew)); exact HO_5.out⟩, ⟨by (with_reducible repeat (first | refine blk_drewN ?_ _ | refine blk_drew ?_ | refine blk_alloc ?_ _)); exact BK215.out⟩, ⟨by exact lq HB.out⟩⟩
    case round =>
     clear H'
     try clear c1
     try clear p2
     try clear c4
     try clear c8
     try clear c13
     try clear hcz11_0
     try clear hcz11_1
     try clear hcz11_2
     try clear hcz11_3
     try clear hcz9_0
     try clear hcz9_1
     try clear hcz9_2
     try clear hcz9_3
     try clear hfz11_0
     try clear hfz11_1
     try clear hfz11_2
     try clear hfz11_3
     try clear hfz9_0
     try clear hfz9_1
     try clear hfz9_2
     try clear hfz9_3
     try clear p2
     obtain ⟨x6_2, rfl, HA, HK2, HO_5, BK215, HB⟩ := hrel
     cases gk with
     | zero => exact absurd HA.out (by simp [spec_ChanPlay.l0])
     | succ k2 =>
      have H := HA.out
      clear HA
      simp only [spec_ChanPlay.l0] at H
      by_cases c14 : x6_2 < (l1.length : Int)
      ·rw [if_pos c14] at H
       have c14b0 : decide (x6_2 < (l1.length : Int)) = true := decide_eq_true c14
       clear c14
       by_cases c15 : 0 ≤ x6_2
       ·rw [if_pos c15] at H
        have c15b0 : decide (0 ≤ x6_2) = true := decide_eq_true c15
        clear c15
        replace H := Option.bind_eq_some_iff.mp H
        obtain ⟨t221, A160, H⟩ := H
        (try dsimp only at H)
        have A16 := Aside0.mk A160
        clear A160
        by_cases c17 : t221 = true
        ·subst c17
         rw [if_pos rfl] at H
         have H' := Aside0.mk H
         clear H
         have p220 : 0 ≤ (x6_2 : Int) := of_decide_eq_true (by first | (with_reducible assumption) | assumption)
         have q220 : x6_2 < (l1.length : Int) := of_decide_eq_true (by first | (with_reducible assumption) | assumption)
         obtain ⟨ad220, e220, hx220_0, hx220_1⟩ := at_T70 HR1.out x6_2 p220 q220
         cases e220
         replace hx220_0 := (HB.out.cell (World.block_lt_of_cell? w _ hx220_0)).trans hx220_0
         replace hx220_1 := (HB.out.cell (World.block_lt_of_cell? w _ hx220_1)).trans hx220_1
         replace p220 := eq_true p220
         replace q220 := eq_true q220
         go_wp2_with (first | ((with_reducible refine gate_callee (f := 60) rfl ?_); refine goesL_ (some 40) rfl rfl Try.func60 (by kernel_rfl) rfl #[.int .i64 ((rd_T70 l1 x6_2).f0), .int .i64 0, .int .i64 3] rfl (by (try simp only [List.map_toArray, List.map_cons, List.map_nil]); first | done | rfl | (simp only [List.length_drop, List.length_take]; rfl)) ?_; (with_reducible refine (spec_l01In.calls ((rd_T70 l1 x6_2).f0) 0 3 true _ A16.out).mono ?_); rintro e w' ⟨rfl, ⟨nd, rfl⟩⟩; refine ⟨_, rfl, ?_⟩))
         go_roundg k2
         case measure => have := HJ2.out; have := HK2.out; omega
         case rel => exact ⟨(wrap64 (x6_2 + 1)), (by first | rfl | (simp; done) | (simp [*]; done)), H', ⟨by have := HJ2.out; have := HK2.out; omega⟩, ⟨by (with_reducible repeat (first | apply Kd.R_alloc | apply Kd.R_drewN | apply Kd.R_drew)); exact HO_5.out⟩, ⟨by (with_reducible repeat (first | refine blk_drewN ?_ _ | refine blk_drew ?_ | refine blk_alloc ?_ _)); exact BK215.out⟩, ⟨by exact lq HB.out⟩⟩
        ·replace c17 := Bool.eq_false_iff.mpr c17
         subst c17
         rw [if_neg (show ¬ (false = true) by decide)] at H
         obtain ⟨y222, hy222⟩ : ∃ y_ : List (S72), y_ = (([] : List (S72))) := ⟨_, rfl⟩
         replace H : (some y222) = some r := by first | (rw [hy222]; with_reducible exact H) | (have H2_ := (Option.bind_some _ _).symm.trans H; rw [hy222]; with_reducible exact H2_) | (have H2_ := (Option.bind_some _ _).symm.trans H; with_reducible exact H2_) | with_reducible exact H | (rw [hy222]; exact H) | exact H
         have Ny222 := Aside0.mk hy222
         clear hy222
         obtain rfl := Option.some.inj H
         have p220 : 0 ≤ (x6_2 : Int) := of_decide_eq_true (by first | (with_reducible assumption) | assumption)
         have q220 : x6_2 < (l1.length : Int) := of_decide_eq_true (by first | (with_reducible assumption) | assumption)
         obtain ⟨ad220, e220, hx220_0, hx220_1⟩ := at_T70 HR1.out x6_2 p220 q220
         cases e220
         replace hx220_0 := (HB.out.cell (World.block_lt_of_cell? w _ hx220_0)).trans hx220_0
         replace hx220_1 := (HB.out.cell (World.block_lt_of_cell? w _ hx220_1)).trans hx220_1
         replace p220 := eq_true p220
         replace q220 := eq_true q220
         go_wp2_with (first | ((with_reducible refine gate_callee (f := 60) rfl ?_); refine goesL_ (some 40) rfl rfl Try.func60 (by kernel_rfl) rfl #[.int .i64 ((rd_T70 l1 x6_2).f0), .int .i64 0, .int .i64 3] rfl (by (try simp only [List.map_toArray, List.map_cons, List.map_nil]); first | done | rfl | (simp only [List.length_drop, List.length_take]; rfl)) ?_; (with_reducible refine (spec_l01In.calls ((rd_T70 l1 x6_2).f0) 0 3 false _ A16.out).mono ?_); rintro e w' ⟨rfl, ⟨nd, rfl⟩⟩; refine ⟨_, rfl, ?_⟩) | ((with_reducible refine gate_dst (N := 42) rfl ?_); (try (refine gate_guard (by rfl) ?_; dsimp only)); refine Kd.R_lit k72 _ 72 ?hg (N := 42) ?hd (xs := ([] : List (S72))) (inner := []) (ok := fun _ => True) (okp := fun _ => True) ?hr ?hp (fun _ hk => hk) trivial (Below.refl _ _) (Nat.le_refl _) (by simp) ?_; (case hd => rfl); (case hg => rfl); (case hr => first | (go_simp; done) | (go_simp; rfl)); (case hp => exact (Reps.none _ _)); intro v223 w18 ho19 hb hg_ hnew_; clear hg_ hnew_; (first | rw [← Ny222.out] at ho19 | (simp only [Int.reduceToNat] at ho19; rw [← Ny222.out] at ho19)); have n0_ := Aside0.mk (Kd.R_elder' (rq HO_5.out) (Kd.R_base ho19) hb); have n1_ := Aside0.mk (Kd.R_lower (Kd.R_new' ho19 (Kd.R_lt (rq HO_5.out))) (below_size (lq HB.out))); have n2_ := Aside0.mk (blk_below (bq BK215.out) hb); have n3_ := Aside0.mk (below_step (lq HB.out) hb); clear HO_5; clear BK215; clear HB; have HO_5 := n0_; have HO224 := n1_; have BK215 := n2_; have HB := n3_; clear n0_ n1_ n2_ n3_; clear hb ho19))
         go_ret
         exact ⟨_, by first | rfl | (simp [errW_none, errW_some] <;> rfl) | (simp [*, errW_none, errW_some] <;> rfl), by (with_reducible repeat (first | apply Kd.R_alloc | apply Kd.R_drewN | apply Kd.R_drew)); exact Kd.R_mono HO224.out (fun _ hk => trivial), by exact lq HB.out⟩
       ·rw [if_neg c15] at H
        exact absurd H (by simp)
      ·rw [if_neg c14] at H
       have c14b0 : decide (x6_2 < (l1.length : Int)) = false := decide_eq_false c14
       clear c14
       have H' := Aside0.mk H
       clear H
       go_wp2_with (first | ((with_reducible refine gate_dst (N := 7) rfl ?_); (try (refine gate_guard (by rfl) ?_; dsimp only)); refine box_event ?hg (N := 7) ?hd (cs := #[.int .i64 0, .slice none 0 0]) (t := 39) ?hr ?_; (case hd => rfl); (case hg => rfl); (case hr => first | (go_simp; done) | (go_simp; rfl)); intro gb225 hg w20 hbox hb; have n0_ := Aside0.mk (Kd.R_below (rq HO_5.out) hb); have n1_ := Aside0.mk (blk_below (bq BK215.out) hb); have n2_ := Aside0.mk (below_step (lq HB.out) hb); have n3_ := Aside0.mk (hbox); have n4_ := Aside0.mk ((ge_new hg (lq HB.out) : w.heap.size ≤ gb225)); have n5_ := Aside0.mk ((ge_new hg (lq HB.out) : w.heap.size ≤ gb225)); have n6_ := Aside0.mk ((ne_new hg (bq BK215.out) : gb215 ≠ gb225)); have n7_ := Aside0.mk ((new_ne hg (bq BK215.out) : gb225 ≠ gb215)); clear HO_5; clear BK215; clear HB; have HO_5 := n0_; have BK215 := n1_; have HB := n2_; have BK225 := n3_; have GW225 := n4_; have GE225 := n5_; have NB215_225 := n6_; have NB225_215 := n7_; clear n0_ n1_ n2_ n3_ n4_ n5_ n6_ n7_; clear hb hbox hg) | ((with_reducible refine gate_dst (N := 8) rfl ?_); (try (refine gate_guard (by rfl) ?_; dsimp only)); refine box_event ?hg (N := 8) ?hd (cs := #[.slice none 0 0]) (t := 31) ?hr ?_; (case hd => rfl); (case hg => rfl); (case hr => first | (go_simp; done) | (go_simp; rfl)); intro gb226 hg w21 hbox hb; have n0_ := Aside0.mk (Kd.R_below (rq HO_5.out) hb); have n1_ := Aside0.mk (blk_below (bq BK215.out) hb); have n2_ := Aside0.mk (blk_below (bq BK225.out) hb); have n3_ := Aside0.mk (below_step (lq HB.out) hb); have n4_ := Aside0.mk (hbox); have n5_ := Aside0.mk ((ge_new hg (lq HB.out) : w.heap.size ≤ gb226)); have n6_ := Aside0.mk ((ge_new hg (lq HB.out) : w.heap.size ≤ gb226)); have n7_ := Aside0.mk ((ne_new hg (bq BK215.out) : gb215 ≠ gb226)); have n8_ := Aside0.mk ((new_ne hg (bq BK215.out) : gb226 ≠ gb215)); have n9_ := Aside0.mk ((ne_new hg (bq BK225.out) : gb225 ≠ gb226)); have n10_ := Aside0.mk ((new_ne hg (bq BK225.out) : gb226 ≠ gb225)); clear HO_5; clear BK215; clear BK225; clear HB; have HO_5 := n0_; have BK215 := n1_; have BK225 := n2_; have HB := n3_; have BK226 := n4_; have GW226 := n5_; have GE226 := n6_; have NB215_226 := n7_; have NB226_215 := n8_; have NB225_226 := n9_; have NB226_225 := n10_; clear n0_ n1_ n2_ n3_ n4_ n5_ n6_ n7_ n8_ n9_ n10_; clear hb hbox hg; have hnb22 := NB225_215.out; have hnc22 := NB215_225.out; have hnb23 := NB225_226.out; have hnc23 := NB226_225.out; have hcz24_0 : w21.cell? ⟨gb225, 0, none⟩ = some (.int .i64 0) := (blk_cell BK225.out 0).trans rfl; have hcz24_1 : w21.cell? ⟨gb225, 1, none⟩ = some (.slice none 0 0) := (blk_cell BK225.out 1).trans rfl; have hfz24_0 := blk_frozen BK225.out 0; have hfz24_1 := blk_frozen BK225.out 1; have hnb25 := NB226_215.out; have hnc25 := NB215_226.out; have hcz26_0 : w21.cell? ⟨gb226, 0, none⟩ = some (.slice none 0 0) := (blk_cell BK226.out 0).trans rfl; have hfz26_0 := blk_frozen BK226.out 0))
       go_loopg [5, 9] k2 (fun kq v5 v9 w' => ∃ (x5_3 : List (S72)) (x9_3 : Int) (x226000_3 : Int) (x226001_3 : List Int) (x227000_3 : List Int) (u226001 : Value) (u227000 : Value), v9 = .int .i64 x9_3 ∧ Aside0 (spec_ChanPlay.l1 kq l1 x5_3 x9_3 a0_0 a0_1 a0_2 a0_3 x226000_3 x226001_3 x227000_3 = some r) ∧ Aside0 (kq ≤ k2) ∧ Aside0 (Kd.R k72 72 w' w.heap.size (fun _ => True) v5 x5_3) ∧ Aside0 (Kd.R (Kd.int .u32) 46 w' w.heap.size (fun k_ => some k_ ≠ (u227000 : Value).ownBlock) u226001 x226001_3) ∧ Aside0 (Kd.R (Kd.int .u32) 46 w' w.heap.size (fun k_ => some k_ ≠ (u226001 : Value).ownBlock) u227000 x227000_3) ∧ Aside0 (w'.heap[gb215]? = some (.cells #[.int .i64 a0_0, .int .i64 a0_1, .int .i64 a0_2, .int .i64 a0_3] 29 (0, 0))) ∧ Aside0 (w'.heap[gb225]? = some (.cells #[.int .i64 x226000_3, u226001] 39 (0, 0))) ∧ Aside0 (w'.heap[gb226]? = some (.cells #[u227000] 31 (0, 0))) ∧ Aside0 (Below w.heap.size w w'))
       case atStart => exact ⟨(y216), (0), (0), (([] : List Int)), (([] : List Int)), (.slice none 0 0), (.slice none 0 0), (by first | rfl | (simp; done) | (simp [*]; done)), H', ⟨Nat.le_refl _⟩, ⟨by (with_reducible repeat (first | apply Kd.R_alloc | apply Kd.R_drewN | apply Kd.R_drew)); exact Kd.R_mono (Kd.R_far (p := ⟨gb226, 0, none⟩) (Kd.R_far (p := ⟨gb225, 1, none⟩) (Kd.R_far (p := ⟨gb225, 0, none⟩) (Kd.R_types (Kd.R_types HO_5.out BK225.out (by decide)) BK226.out (by decide)) (fun _ hk => hk.1.2) (.int .i64 0)) (fun _ hk => hk.1.2) (.slice none 0 0)) (fun _ hk => hk.2) (.slice none 0 0)) (fun _ hk => trivial)⟩, ⟨by first | exact Kd.R_nil _ _ _ _ _ | exact Kd.N_nil _ _ _ _ _ | exact Kd.V_nil _ _ _ _ _ | exact Kd.Q_nil _ _ _ _ _ | exact Kd.S_nil _ _ _ _ _⟩, ⟨by first | exact Kd.R_nil _ _ _ _ _ | exact Kd.N_nil _ _ _ _ _ | exact Kd.V_nil _ _ _ _ _ | exact Kd.Q_nil _ _ _ _ _ | exact Kd.S_nil _ _ _ _ _⟩, ⟨by (with_reducible repeat (first | refine blk_drewN ?_ _ | refine blk_drew ?_ | refine blk_alloc ?_ _)); refine blk_far ?_ NB215_226.out _; (with_reducible repeat (first | refine blk_drewN ?_ _ | refine blk_drew ?_ | refine blk_alloc ?_ _)); refine blk_far ?_ NB215_225.out _; (with_reducible repeat (first | refine blk_drewN ?_ _ | refine blk_drew ?_ | refine blk_alloc ?_ _)); refine blk_far ?_ NB215_225.out _; (with_reducible repeat (first | refine blk_drewN ?_ _ | refine blk_drew ?_ | refine blk_alloc ?_ _)); exact BK215.out⟩, ⟨by (with_reducible repeat (first | refine blk_drewN ?_ _ | refine blk_drew ?_ | refine blk_alloc ?_ _)); refine blk_far ?_ NB225_226.out _; (with_reducible repeat (first | refine blk_drewN ?_ _ | refine blk_drew ?_ | refine blk_alloc ?_ _)); refine blk_put (cs := #[.int .i64 0, .slice none 0 0]) ?_ 1 _ rfl; (with_reducible repeat (first | refine blk_drewN ?_ _ | refine blk_drew ?_ | refine blk_alloc ?_ _)); refine blk_put (cs := #[.int .i64 0, .slice none 0 0]) ?_ 0 _ rfl; (with_reducible repeat (first | refine blk_drewN ?_ _ | refine blk_drew ?_ | refine blk_alloc ?_ _)); exact BK225.out⟩, ⟨by (with_reducible repeat (first | refine blk_drewN ?_ _ | refine blk_drew ?_ | refine blk_alloc ?_ _)); refine blk_put (cs := #[.slice none 0 0]) ?_ 0 _ rfl; (with_reducible repeat (first | refine blk_drewN ?_ _ | refine blk_drew ?_ | refine blk_alloc ?_ _)); refine blk_far ?_ NB226_225.out _; (with_reducible repeat (first | refine blk_drewN ?_ _ | refine blk_drew ?_ | refine blk_alloc ?_ _)); refine blk_far ?_ NB226_225.out _; (with_reducible repeat (first | refine blk_drewN ?_ _ | refine blk_drew ?_ | refine blk_alloc ?_ _)); exact BK226.out⟩, ⟨by repeat (first | (with_reducible first | exact HB.out | apply below_alloc | apply pw_below_drewN | apply below_drew1 | refine below_set ?_ GE225.out | refine below_set ?_ GE226.out) | exact HB.out)⟩⟩
       case round =>
        clear H'
        try clear c1
        try clear c2
        try clear p2
        try clear q2
        try clear hx2
        try clear c4
        try clear c6
        try clear p6
        try clear c8
        try clear c13
        try clear c14
        try clear c14b0
        try clear c15
        try clear c15b0
        try clear c17
        try clear c22
        try clear p22
        try clear q22
        try clear hx22
        try clear c23
        try clear c25
        try clear hcz11_0
        try clear hcz11_1
        try clear hcz11_2
        try clear hcz11_3
        try clear hcz24_0
        try clear hcz24_1
        try clear hcz26_0
        try clear hcz9_0
        try clear hcz9_1
        try clear hcz9_2
        try clear hcz9_3
        try clear hfz11_0
        try clear hfz11_1
        try clear hfz11_2
        try clear hfz11_3
        try clear hfz24_0
        try clear hfz24_1
        try clear hfz26_0
        try clear hfz9_0
        try clear hfz9_1
        try clear hfz9_2
        try clear hfz9_3
        try clear hx220_0
        try clear hx220_1
        try clear p2
        try clear p220
        try clear q220
        obtain ⟨x5_3, x9_3, x226000_3, x226001_3, x227000_3, u226001, u227000, rfl, HA, HK3, HO_5, HO_226001, HO_227000, BK215, BK225, BK226, HB⟩ := hrel
        cases gk with
        | zero => exact absurd HA.out (by simp [spec_ChanPlay.l1])
        | succ k3 =>
         have H := HA.out
         clear HA
         simp only [spec_ChanPlay.l1] at H
         by_cases c27 : x9_3 < (l1.length : Int)
         ·rw [if_pos c27] at H
          have c27b0 : decide (x9_3 < (l1.length : Int)) = true := decide_eq_true c27
          clear c27
          by_cases c28 : 0 ≤ x9_3
          ·rw [if_pos c28] at H
           have c28b0 : decide (0 ≤ x9_3) = true := decide_eq_true c28
           clear c28
           by_cases c29 : ((rd_T70 l1 x9_3).f0) = 0
           ·rw [if_pos c29] at H
            have c29b0 : (((rd_T70 l1 x9_3).f0) == 0) = true := beq_iff_eq.mpr c29
            have c29b1 : (((rd_T70 l1 x9_3).f0) != 0) = false := bne_eq_false_iff_eq.mpr c29
            clear c29
            replace H := Option.bind_eq_some_iff.mp H
            obtain ⟨⟨t230, t231, t234⟩, A300, H⟩ := H
            (try dsimp only at H)
            have A30 := Aside0.mk A300
            clear A300
            by_cases c31 : x5_3.length < 8796093022208
            ·rw [if_pos c31] at H
             have LMc31 := Aside0.mk c31
             clear c31
             obtain ⟨y236, hy236⟩ : ∃ y_ : List (S72), y_ = (x5_3 ++ [(⟨t234, 0⟩ : S72)]) := ⟨_, rfl⟩
             replace H : (spec_ChanPlay.l1 k3 l1 y236 (wrap64 (x9_3 + 1)) a0_0 a0_1 a0_2 a0_3 t230 t231 x227000_3) = some r := by first | (rw [hy236]; with_reducible exact H) | (have H2_ := (Option.bind_some _ _).symm.trans H; rw [hy236]; with_reducible exact H2_) | (have H2_ := (Option.bind_some _ _).symm.trans H; with_reducible exact H2_) | with_reducible exact H | (rw [hy236]; exact H) | exact H
             have Ny236 := Aside0.mk hy236
             clear hy236
             have H' := Aside0.mk H
             clear H
             try go_wp2_with (first | ((with_reducible refine gate_dst (N := 10) rfl ?_); (try (refine gate_guard (by rfl) ?_; dsimp only)); refine box_event ?hg (N := 10) ?hd (cs := #[.int .i64 0, .int .u32 0]) (t := 72) ?hr ?_; (case hd => rfl); (case hg => rfl); (case hr => first | (go_simp; done) | (go_simp; rfl)); intro gb227 hg w32 hbox hb; have n0_ := Aside0.mk (Kd.R_below (Kd.R_elderB (rq HO_5.out) gb227 (Nat.le_of_eq hg.symm)) hb); have n1_ := Aside0.mk (Kd.R_below (rq HO_226001.out) hb); have n2_ := Aside0.mk (Kd.R_below (rq HO_227000.out) hb); have n3_ := Aside0.mk (blk_below (bq BK215.out) hb); have n4_ := Aside0.mk (blk_below (bq BK225.out) hb); have n5_ := Aside0.mk (blk_below (bq BK226.out) hb); have n6_ := Aside0.mk (below_step (lq HB.out) hb); have n7_ := Aside0.mk (hbox); have n8_ := Aside0.mk ((ge_new hg (lq HB.out) : w.heap.size ≤ gb227)); have n9_ := Aside0.mk ((ge_new hg (lq HB.out) : w.heap.size ≤ gb227)); have n10_ := Aside0.mk ((ne_new hg (bq BK215.out) : gb215 ≠ gb227)); have n11_ := Aside0.mk ((new_ne hg (bq BK215.out) : gb227 ≠ gb215)); have n12_ := Aside0.mk ((ne_new hg (bq BK225.out) : gb225 ≠ gb227)); have n13_ := Aside0.mk ((new_ne hg (bq BK225.out) : gb227 ≠ gb225)); have n14_ := Aside0.mk ((ne_new hg (bq BK226.out) : gb226 ≠ gb227)); have n15_ := Aside0.mk ((new_ne hg (bq BK226.out) : gb227 ≠ gb226)); clear HO_5; clear HO_226001; clear HO_227000; clear BK215; clear BK225; clear BK226; clear HB; have HO_5 := n0_; have HO_226001 := n1_; have HO_227000 := n2_; have BK215 := n3_; have BK225 := n4_; have BK226 := n5_; have HB := n6_; have BK227 := n7_; have GW227 := n8_; have GE227 := n9_; have NB215_227 := n10_; have NB227_215 := n11_; have NB225_227 := n12_; have NB227_225 := n13_; have NB226_227 := n14_; have NB227_226 := n15_; clear n0_ n1_ n2_ n3_ n4_ n5_ n6_ n7_ n8_ n9_ n10_ n11_ n12_ n13_ n14_ n15_; clear hb hbox hg; have hnb33 := NB227_215.out; have hnc33 := NB215_227.out; have hnb34 := NB227_225.out; have hnc34 := NB225_227.out; have hnb35 := NB227_226.out; have hnc35 := NB226_227.out; have hcz36_0 : w32.cell? ⟨gb227, 0, none⟩ = some (.int .i64 0) := (blk_cell BK227.out 0).trans rfl; have hcz36_1 : w32.cell? ⟨gb227, 1, none⟩ = some (.int .u32 0) := (blk_cell BK227.out 1).trans rfl; have hfz36_0 := blk_frozen BK227.out 0; have hfz36_1 := blk_frozen BK227.out 1; have p228 : 0 ≤ (x9_3 : Int) := of_decide_eq_true (by first | (with_reducible assumption) | assumption); have q228 : x9_3 < (l1.length : Int) := of_decide_eq_true (by first | (with_reducible assumption) | assumption); obtain ⟨ad228, e228, hx228_0, hx228_1⟩ := at_T70 HR1.out x9_3 p228 q228; cases e228; have hn228_0 : ad228.block ≠ gb227 := Nat.ne_of_lt (Nat.lt_of_lt_of_le (by have := World.block_lt_of_cell? _ _ hx228_0; first | rwa [add_block] at this | exact this) GW227.out); have hn228_1 : ad228.block ≠ gb227 := Nat.ne_of_lt (Nat.lt_of_lt_of_le (by have := World.block_lt_of_cell? _ _ hx228_0; first | rwa [add_block] at this | exact this) GW227.out); replace hx228_0 := (HB.out.cell (World.block_lt_of_cell? w _ hx228_0)).trans hx228_0; replace hx228_1 := (HB.out.cell (World.block_lt_of_cell? w _ hx228_1)).trans hx228_1; replace hx228_0 := (cell_far (p := ⟨gb227, 0, none⟩) (by first | (rw [add_block]; exact hn228_0) | (show (Addr.add _ _).block ≠ _; rw [add_block]; exact hn228_0) | exact hn228_0) (.int .i64 0)).trans hx228_0; replace hx228_1 := (cell_far (p := ⟨gb227, 0, none⟩) (by first | (rw [add_block]; exact hn228_0) | (show (Addr.add _ _).block ≠ _; rw [add_block]; exact hn228_0) | exact hn228_0) (.int .i64 0)).trans hx228_1; replace hx228_0 := (cell_far (p := ⟨gb227, 1, none⟩) (by first | (rw [add_block]; exact hn228_1) | (show (Addr.add _ _).block ≠ _; rw [add_block]; exact hn228_1) | exact hn228_1) (.int .u32 0)).trans hx228_0; replace hx228_1 := (cell_far (p := ⟨gb227, 1, none⟩) (by first | (rw [add_block]; exact hn228_1) | (show (Addr.add _ _).block ≠ _; rw [add_block]; exact hn228_1) | exact hn228_1) (.int .u32 0)).trans hx228_1; clear hn228_0; clear hn228_1; replace p228 := eq_true p228; replace q228 := eq_true q228; obtain ⟨Ao37, co37, eo37⟩ := Kd.R_slice HO_226001.out; subst eo37))
             have n0_ : Aside0 (Kd.R k72 72 ((w32.setCell ⟨gb227, 0, none⟩ (.int .i64 0)).setCell ⟨gb227, 1, none⟩ (.int .u32 0)) w.heap.size (fun k_ => k_ ≠ gb227) u5 x5_3) := ⟨by (with_reducible repeat (first | apply Kd.R_alloc | apply Kd.R_drewN | apply Kd.R_drew)); exact Kd.R_mono (Kd.R_far (p := ⟨gb227, 1, none⟩) (Kd.R_far (p := ⟨gb227, 0, none⟩) (Kd.R_mono HO_5.out (fun k_ hk => (⟨hk, hk.2⟩ : _ ∧ k_ ≠ gb227))) (fun _ hk => hk.2) (.int .i64 0)) (fun _ hk => hk.2) (.int .u32 0)) (fun _ hk => hk.1.2)⟩
             have n1_ : Aside0 (Kd.R (Kd.int .u32) 46 ((w32.setCell ⟨gb227, 0, none⟩ (.int .i64 0)).setCell ⟨gb227, 1, none⟩ (.int .u32 0)) w.heap.size (fun k_ => some k_ ≠ (u227000 : Value).ownBlock) (.slice Ao37 x226001_3.length co37) x226001_3) := ⟨by (with_reducible repeat (first | apply Kd.R_alloc | apply Kd.R_drewN | apply Kd.R_drew)); exact Kd.R_mono (Kd.R_far (p := ⟨gb227, 1, none⟩) (Kd.R_far (p := ⟨gb227, 0, none⟩) (Kd.R_types HO_226001.out BK227.out (by decide)) (fun _ hk => hk.2) (.int .i64 0)) (fun _ hk => hk.2) (.int .u32 0)) (fun _ hk => hk.1)⟩
             have n2_ : Aside0 (Kd.R (Kd.int .u32) 46 ((w32.setCell ⟨gb227, 0, none⟩ (.int .i64 0)).setCell ⟨gb227, 1, none⟩ (.int .u32 0)) w.heap.size (fun k_ => some k_ ≠ (.slice Ao37 x226001_3.length co37 : Value).ownBlock) u227000 x227000_3) := ⟨by (with_reducible repeat (first | apply Kd.R_alloc | apply Kd.R_drewN | apply Kd.R_drew)); exact Kd.R_mono (Kd.R_far (p := ⟨gb227, 1, none⟩) (Kd.R_far (p := ⟨gb227, 0, none⟩) (Kd.R_types HO_227000.out BK227.out (by decide)) (fun _ hk => hk.2) (.int .i64 0)) (fun _ hk => hk.2) (.int .u32 0)) (fun _ hk => hk.1)⟩
             have n3_ : Aside0 (((w32.setCell ⟨gb227, 0, none⟩ (.int .i64 0)).setCell ⟨gb227, 1, none⟩ (.int .u32 0)).heap[gb215]? = some (.cells #[.int .i64 a0_0, .int .i64 a0_1, .int .i64 a0_2, .int .i64 a0_3] 29 (0, 0))) := ⟨by (with_reducible repeat (first | refine blk_drewN ?_ _ | refine blk_drew ?_ | refine blk_alloc ?_ _)); refine blk_far ?_ NB215_227.out _; (with_reducible repeat (first | refine blk_drewN ?_ _ | refine blk_drew ?_ | refine blk_alloc ?_ _)); refine blk_far ?_ NB215_227.out _; (with_reducible repeat (first | refine blk_drewN ?_ _ | refine blk_drew ?_ | refine blk_alloc ?_ _)); exact BK215.out⟩
             have n4_ : Aside0 (((w32.setCell ⟨gb227, 0, none⟩ (.int .i64 0)).setCell ⟨gb227, 1, none⟩ (.int .u32 0)).heap[gb225]? = some (.cells #[.int .i64 x226000_3, .slice Ao37 x226001_3.length co37] 39 (0, 0))) := ⟨by (with_reducible repeat (first | refine blk_drewN ?_ _ | refine blk_drew ?_ | refine blk_alloc ?_ _)); refine blk_far ?_ NB225_227.out _; (with_reducible repeat (first | refine blk_drewN ?_ _ | refine blk_drew ?_ | refine blk_alloc ?_ _)); refine blk_far ?_ NB225_227.out _; (with_reducible repeat (first | refine blk_drewN ?_ _ | refine blk_drew ?_ | refine blk_alloc ?_ _)); exact BK225.out⟩
             have n5_ : Aside0 (((w32.setCell ⟨gb227, 0, none⟩ (.int .i64 0)).setCell ⟨gb227, 1, none⟩ (.int .u32 0)).heap[gb226]? = some (.cells #[u227000] 31 (0, 0))) := ⟨by (with_reducible repeat (first | refine blk_drewN ?_ _ | refine blk_drew ?_ | refine blk_alloc ?_ _)); refine blk_far ?_ NB226_227.out _; (with_reducible repeat (first | refine blk_drewN ?_ _ | refine blk_drew ?_ | refine blk_alloc ?_ _)); refine blk_far ?_ NB226_227.out _; (with_reducible repeat (first | refine blk_drewN ?_ _ | refine blk_drew ?_ | refine blk_alloc ?_ _)); exact BK226.out⟩
             have n6_ : Aside0 (((w32.setCell ⟨gb227, 0, none⟩ (.int .i64 0)).setCell ⟨gb227, 1, none⟩ (.int .u32 0)).heap[gb227]? = some (.cells #[.int .i64 0, .int .u32 0] 72 (0, 0))) := ⟨by (with_reducible repeat (first | refine blk_drewN ?_ _ | refine blk_drew ?_ | refine blk_alloc ?_ _)); refine blk_put (cs := #[.int .i64 0, .int .u32 0]) ?_ 1 _ rfl; (with_reducible repeat (first | refine blk_drewN ?_ _ | refine blk_drew ?_ | refine blk_alloc ?_ _)); refine blk_put (cs := #[.int .i64 0, .int .u32 0]) ?_ 0 _ rfl; (with_reducible repeat (first | refine blk_drewN ?_ _ | refine blk_drew ?_ | refine blk_alloc ?_ _)); exact BK227.out⟩
             have n7_ : Aside0 (Below w.heap.size w ((w32.setCell ⟨gb227, 0, none⟩ (.int .i64 0)).setCell ⟨gb227, 1, none⟩ (.int .u32 0))) := ⟨by repeat (first | (with_reducible first | exact HB.out | apply below_alloc | apply pw_below_drewN | apply below_drew1 | refine below_set ?_ GE227.out) | exact HB.out)⟩
             (try clear HO_5)
             (try clear HO_226001)
             (try clear HO_227000)
             (try clear BK215)
             (try clear BK225)
             (try clear BK226)
             (try clear BK227)
             (try clear HB)
             generalize ((w32.setCell ⟨gb227, 0, none⟩ (.int .i64 0)).setCell ⟨gb227, 1, none⟩ (.int .u32 0)) = w38 at n0_ n1_ n2_ n3_ n4_ n5_ n6_ n7_ ⊢
             have HO_5 := n0_
             have HO_226001 := n1_
             have HO_227000 := n2_
             have BK215 := n3_
             have BK225 := n4_
             have BK226 := n5_
             have BK227 := n6_
             have HB := n7_
             clear n0_ n1_ n2_ n3_ n4_ n5_ n6_ n7_
             have n0_ := Aside0.mk (Kd.R_drew HO_5.out)
             have n1_ := Aside0.mk (Kd.R_drew HO_226001.out)
             have n2_ := Aside0.mk (Kd.R_drew HO_227000.out)
             have n3_ := Aside0.mk (blk_drew BK215.out)
             have n4_ := Aside0.mk (blk_drew BK225.out)
             have n5_ := Aside0.mk (blk_drew BK226.out)
             have n6_ := Aside0.mk (blk_drew BK227.out)
             have n7_ := Aside0.mk (below_drew1 HB.out)
             clear HO_5
             clear HO_226001
             clear HO_227000
             clear BK215
             clear BK225
             clear BK226
             clear BK227
             clear HB
             have HO_5 := n0_
             have HO_226001 := n1_
             have HO_227000 := n2_
             have BK215 := n3_
             have BK225 := n4_
             have BK226 := n5_
             have BK227 := n6_
             have HB := n7_
             clear n0_ n1_ n2_ n3_ n4_ n5_ n6_ n7_
             have p229 : 0 ≤ (x9_3 : Int) := of_decide_eq_true (by first | (with_reducible assumption) | assumption)
             have q229 : x9_3 < (l1.length : Int) := of_decide_eq_true (by first | (with_reducible assumption) | assumption)
             obtain ⟨ad229, e229, hx229_0, hx229_1⟩ := at_T70 HR1.out x9_3 p229 q229
             have hw229_1 := hx229_1
             have hw229_0 := hx229_0
             obtain rfl : ad228 = ad229 := (by injection e229)
             replace hx229_0 := (HB.out.cell (World.block_lt_of_cell? w _ hx229_0)).trans hx229_0
             replace hx229_1 := (HB.out.cell (World.block_lt_of_cell? w _ hx229_1)).trans hx229_1
             replace p229 := eq_true p229
             replace q229 := eq_true q229
             refine start_ (n := 14) (S := fun w' => w'.cell? ⟨gb215, 0, none⟩ = some (.int .i64 a0_0) ∧ w'.cell? ⟨gb215, 1, none⟩ = some (.int .i64 a0_1) ∧ w'.cell? ⟨gb215, 2, none⟩ = some (.int .i64 a0_2) ∧ w'.cell? ⟨gb215, 3, none⟩ = some (.int .i64 a0_3) ∧ w'.cell? ⟨gb225, 0, none⟩ = some (.int .i64 x226000_3) ∧ w'.cell? ⟨gb225, 1, none⟩ = some (.slice Ao37 x226001_3.length co37) ∧ w'.cell? (ad228.add ((x9_3).toNat * 2)) = some (.int .i64 ((rd_T70 l1 x9_3).f0)) ∧ w'.cell? ⟨(ad228.add ((x9_3).toNat * 2)).block, (ad228.add ((x9_3).toNat * 2)).off + 1, none⟩ = some (.int .u32 ((rd_T70 l1 x9_3).f1))) (ds := []) #[false, false, false, false, false, false, false, false, false, false, false, false, false, false] (by kernel_rfl) rfl rfl ⟨(blk_cell BK215.out 0).trans rfl, (blk_cell BK215.out 1).trans rfl, (blk_cell BK215.out 2).trans rfl, (blk_cell BK215.out 3).trans rfl, (blk_cell BK225.out 0).trans rfl, (blk_cell BK225.out 1).trans rfl, ((HB.out.cell (World.block_lt_of_cell? w _ hw229_0)).trans hw229_0), ((HB.out.cell (World.block_lt_of_cell? w _ hw229_1)).trans hw229_1)⟩ (fun hHeld => ?_); refine with_tabW spec_ChanPlay.tab17 spec_ChanPlay.bits17 (fun HT_ HW_ => ?_)
             generalize w38.drew = w39 at HO_5 HO_226001 HO_227000 BK215 BK225 BK226 BK227 HB hx229_0 hx229_1 hHeld ⊢
             refine pure_ (i := 2) (N := some 65) (v := ?_) (a' := ?_) #[false, false, true, false, false, false, false, false, false, false, false, false, false, false] rfl rfl (any_of HT_.out (by kernel_rfl)) (fun _ _ _ h => h) (Or.inl ⟨by rfl, ?_⟩) ?_ ?_
             rotate_left
             ·intro w'
              go_simp
              with_reducible rfl
             rotate_left
             ·simp only [Act.put, List.setIfInBounds_toArray, List.set_cons_zero, List.set_cons_succ, i64_w, i32_w]
              rfl
             refine pure_ (i := 3) (N := some 66) (v := ?_) (a' := ?_) #[false, false, true, true, false, false, false, false, false, false, false, false, false, false] rfl rfl (any_of HT_.out (by kernel_rfl)) (fun _ _ _ h => h) (Or.inl ⟨by rfl, ?_⟩) ?_ ?_
             rotate_left
             ·intro w'
              go_simp
              with_reducible rfl
             rotate_left
             ·simp only [Act.put, List.setIfInBounds_toArray, List.set_cons_zero, List.set_cons_succ, i64_w, i32_w]
              rfl
             refine pure_ (i := 4) (N := some 67) (v := ?_) (a' := ?_) #[false, false, true, true, true, false, false, false, false, false, false, false, false, false] rfl rfl (any_of HT_.out (by kernel_rfl)) (fun _ _ _ h => h) (Or.inl ⟨by rfl, ?_⟩) ?_ ?_
             rotate_left
             ·intro w'
              go_simp
              with_reducible rfl
             rotate_left
             ·simp only [Act.put, List.setIfInBounds_toArray, List.set_cons_zero, List.set_cons_succ, i64_w, i32_w]
              rfl
             refine pure_ (i := 5) (N := some 68) (v := ?_) (a' := ?_) #[false, false, true, true, true, true, false, false, false, false, false, false, false, false] rfl rfl (any_of HT_.out (by kernel_rfl)) (fun _ _ _ h => h) (Or.inl ⟨by rfl, ?_⟩) ?_ ?_
             rotate_left
             ·intro w'
              go_simp
              with_reducible rfl
             rotate_left
             ·simp only [Act.put, List.setIfInBounds_toArray, List.set_cons_zero, List.set_cons_succ, i64_w, i32_w]
              rfl
             refine take_ (i := 0) (N := some 63) (v := ?_) (a' := ?_) #[true, false, true, true, true, true, false, false, false, false, false, false, false, false] rfl rfl (take_ofW HT_.out HW_.out (by kernel_rfl)) (fun _ _ _ h => h) (Or.inl ⟨by rfl, ?_⟩) hHeld ?_ ?_
             rotate_left
             ·rintro w' ⟨s0, s1, s2, s3, s4, s5, s6, s7⟩
              go_simp
              with_reducible rfl
             rotate_left
             ·simp only [Act.put, List.setIfInBounds_toArray, List.set_cons_zero, List.set_cons_succ, i64_w, i32_w]
              rfl
             refine take_ (i := 1) (N := some 64) (v := ?_) (a' := ?_) #[true, true, true, true, true, true, false, false, false, false, false, false, false, false] rfl rfl (take_ofW HT_.out HW_.out (by kernel_rfl)) (fun _ _ _ h => h) (Or.inl ⟨by rfl, ?_⟩) hHeld ?_ ?_
             rotate_left
             ·rintro w' ⟨s0, s1, s2, s3, s4, s5, s6, s7⟩
              go_simp
              with_reducible rfl
             rotate_left
             ·simp only [Act.put, List.setIfInBounds_toArray, List.set_cons_zero, List.set_cons_succ, i64_w, i32_w]
              rfl
             refine take_ (i := 6) (N := some 69) (v := ?_) (a' := ?_) #[true, true, true, true, true, true, true, false, false, false, false, false, false, false] rfl rfl (take_ofW HT_.out HW_.out (by kernel_rfl)) (fun _ _ _ h => h) (Or.inl ⟨by rfl, ?_⟩) hHeld ?_ ?_
             rotate_left
             ·rintro w' ⟨s0, s1, s2, s3, s4, s5, s6, s7⟩
              go_simp
              with_reducible rfl
             rotate_left
             ·simp only [Act.put, List.setIfInBounds_toArray, List.set_cons_zero, List.set_cons_succ, i64_w, i32_w]
              rfl
             refine join_ (σ := Value × Nat) 2 #[true, true, true, true, true, true, true, true, true, true, true, true, false, false] (fun s_ => [(70, .tuple #[.agg #[.int .i64 t230, s_.1], .int .i64 t234]), (11, .pointer (some ⟨s_.2, 0, none⟩)), (62, .tuple #[.agg #[.int .i64 t230, s_.1], .int .i64 t234]), (71, .agg #[.int .i64 t230, s_.1]), (72, .int .i64 t234)]) (fun s_ w' => (w'.cell? ⟨gb215, 0, none⟩ = some (.int .i64 a0_0) ∧ w'.cell? ⟨gb215, 1, none⟩ = some (.int .i64 a0_1) ∧ w'.cell? ⟨gb215, 2, none⟩ = some (.int .i64 a0_2) ∧ w'.cell? ⟨gb215, 3, none⟩ = some (.int .i64 a0_3) ∧ w'.cell? ⟨gb225, 0, none⟩ = some (.int .i64 x226000_3) ∧ w'.cell? ⟨gb225, 1, none⟩ = some (.slice Ao37 x226001_3.length co37) ∧ w'.cell? (ad228.add ((x9_3).toNat * 2)) = some (.int .i64 ((rd_T70 l1 x9_3).f0)) ∧ w'.cell? ⟨(ad228.add ((x9_3).toNat * 2)).block, (ad228.add ((x9_3).toNat * 2)).off + 1, none⟩ = some (.int .u32 ((rd_T70 l1 x9_3).f1))) ∧ (Kd.R (Kd.int .u32) 46 w' w.heap.size (fun k_ => some k_ ≠ (.slice Ao37 x226001_3.length co37 : Value).ownBlock ∧ some k_ ≠ (u227000 : Value).ownBlock) s_.1 t231) ∧ (Kd.R (Kd.int .u32) 46 w' w.heap.size (fun k_ => some k_ ≠ (s_.1 : Value).ownBlock ∧ some k_ ≠ (u227000 : Value).ownBlock) (.slice Ao37 x226001_3.length co37) x226001_3) ∧ (Kd.R (Kd.int .u32) 46 w' w.heap.size (fun k_ => some k_ ≠ (s_.1 : Value).ownBlock ∧ some k_ ≠ (.slice Ao37 x226001_3.length co37 : Value).ownBlock) u227000 x227000_3) ∧ (Kd.R k72 72 w' w.heap.size (fun k_ => k_ ≠ gb227) u5 x5_3) ∧ (w'.heap[gb215]? = some (.cells #[.int .i64 a0_0, .int .i64 a0_1, .int .i64 a0_2, .int .i64 a0_3] 29 (0, 0))) ∧ (w'.heap[gb225]? = some (.cells #[.int .i64 x226000_3, .slice Ao37 x226001_3.length co37] 39 (0, 0))) ∧ (w'.heap[gb226]? = some (.cells #[u227000] 31 (0, 0))) ∧ (w'.heap[gb227]? = some (.cells #[.int .i64 0, .int .u32 0] 72 (0, 0))) ∧ (w'.heap[s_.2]? = some (.cells #[.int .i64 0, .slice none 0 0] 39 (0, 0))) ∧ (w.heap.size ≤ s_.2) ∧ (w.heap.size ≤ s_.2) ∧ (gb215 ≠ s_.2) ∧ (s_.2 ≠ gb215) ∧ (gb225 ≠ s_.2) ∧ (s_.2 ≠ gb225) ∧ (gb226 ≠ s_.2) ∧ (s_.2 ≠ gb226) ∧ (gb227 ≠ s_.2) ∧ (s_.2 ≠ gb227) ∧ (Below w.heap.size w w')) ?_ ?_
             rotate_left
             ·intro hCont
              refine two_ (i := 7) (j := 11) (Ni := some 70) (Nj := some 11) #[true, true, true, true, true, true, true, true, false, false, false, false, false, false] #[true, true, true, true, true, true, true, false, false, false, false, true, false, false] rfl rfl rfl rfl (two_of HT_.out (by kernel_rfl)) (by decide) (by decide) (fun K hK => ?_) (fun K hK => ?_)
              ·skip
               refine goes_ Try.func35 (by kernel_rfl) rfl #[.agg #[.int .i64 a0_0, .int .i64 a0_1, .int .i64 a0_2, .int .i64 a0_3], .agg #[.int .i64 x226000_3, .slice Ao37 x226001_3.length co37], .int .u32 ((rd_T70 l1 x9_3).f1)] (by rfl) rfl rfl (by (try simp only [List.map_toArray, List.map_cons, List.map_nil]); first | done | rfl | (simp only [List.length_drop, List.length_take]; rfl)) ?_
               with_reducible refine (spec_SendOn.calls a0_0 a0_1 a0_2 a0_3 x226000_3 _ _ x226001_3 ((rd_T70 l1 x9_3).f1) t230 t231 t234 _ ?side1 ?side2 A30.out).mono ?_
               (case side1 => repeat (first | exact (Kd.R_reads' HO_226001.out).2.2 | (with_reducible refine Kd.C_alloc ?_ _) | (with_reducible refine Kd.C_drewN ?_ _) | (with_reducible refine Kd.C_drew ?_)))
               (case side2 => exact (Kd.R_reads' HO_226001.out).2.1)
               rintro e w40 ⟨v232, rfl, ho0, hb⟩
               refine ⟨_, rfl, ?_⟩
               have n0_ := Aside0.mk (Kd.R_below (rq HO_5.out) hb)
               have n1_ := Aside0.mk (Kd.R_elder' (rq HO_226001.out) (Kd.R_base ho0) hb)
               have n2_ := Aside0.mk (Kd.R_elder' (rq HO_227000.out) (Kd.R_base ho0) hb)
               have n3_ := Aside0.mk (Kd.R_lower (Kd.R_new' (Kd.R_new' ho0 (Kd.R_lt (rq HO_226001.out))) (Kd.R_lt (rq HO_227000.out))) (below_size (lq HB.out)))
               have n4_ := Aside0.mk (blk_below (bq BK215.out) hb)
               have n5_ := Aside0.mk (blk_below (bq BK225.out) hb)
               have n6_ := Aside0.mk (blk_below (bq BK226.out) hb)
               have n7_ := Aside0.mk (blk_below (bq BK227.out) hb)
               have n8_ := Aside0.mk (below_step (lq HB.out) hb)
               clear HO_5
               clear HO_226001
               clear HO_227000
               clear BK215
               clear BK225
               clear BK226
               clear BK227
               clear HB
               have HO_5 := n0_
               have HO_226001 := n1_
               have HO_227000 := n2_
               have HO233 := n3_
               have BK215 := n4_
               have BK225 := n5_
               have BK226 := n6_
               have BK227 := n7_
               have HB := n8_
               clear n0_ n1_ n2_ n3_ n4_ n5_ n6_ n7_ n8_
               (try clear hb)
               (try clear hb2)
               (try clear hk)
               (try clear hi)
               (try clear ho0)
               refine hK.out _ _ ⟨(blk_cell BK215.out 0).trans rfl, (blk_cell BK215.out 1).trans rfl, (blk_cell BK215.out 2).trans rfl, (blk_cell BK215.out 3).trans rfl, (blk_cell BK225.out 0).trans rfl, (blk_cell BK225.out 1).trans rfl, ((HB.out.cell (World.block_lt_of_cell? w _ hw229_0)).trans hw229_0), ((HB.out.cell (World.block_lt_of_cell? w _ hw229_1)).trans hw229_1)⟩ (fun hHeld => ?_)
               clear hK K
               refine norm_ (a' := ?_) ?_ ?_
               rotate_left
               ·show Act.put _ (some 70) _ = _
                simp only [Act.put, List.setIfInBounds_toArray, List.set_cons_zero, List.set_cons_succ, i64_w, i32_w]
                rfl
               refine pure_ (i := 8) (N := some 62) (v := ?_) (a' := ?_) #[true, true, true, true, true, true, true, true, true, false, false, false, false, false] rfl rfl (any_of HT_.out (by kernel_rfl)) (fun _ _ _ h => h) (Or.inl ⟨by rfl, ?_⟩) ?_ ?_
               rotate_left
               ·intro w'
                go_simp
                with_reducible rfl
               rotate_left
               ·simp only [Act.put, List.setIfInBounds_toArray, List.set_cons_zero, List.set_cons_succ, i64_w, i32_w]
                rfl
               refine pure_ (i := 9) (N := some 71) (v := ?_) (a' := ?_) #[true, true, true, true, true, true, true, true, true, true, false, false, false, false] rfl rfl (any_of HT_.out (by kernel_rfl)) (fun _ _ _ h => h) (Or.inl ⟨by rfl, ?_⟩) ?_ ?_
               rotate_left
               ·intro w'
                go_simp
                with_reducible rfl
               rotate_left
               ·simp only [Act.put, List.setIfInBounds_toArray, List.set_cons_zero, List.set_cons_succ, i64_w, i32_w]
                rfl
               refine pure_ (i := 10) (N := some 72) (v := ?_) (a' := ?_) #[true, true, true, true, true, true, true, true, true, true, true, false, false, false] rfl rfl (any_of HT_.out (by kernel_rfl)) (fun _ _ _ h => h) (Or.inl ⟨by rfl, ?_⟩) ?_ ?_
               rotate_left
               ·intro w'
                go_simp
                with_reducible rfl
               rotate_left
               ·simp only [Act.put, List.setIfInBounds_toArray, List.set_cons_zero, List.set_cons_succ, i64_w, i32_w]
                rfl
               refine one_ (i := 11) (N := some 11) #[true, true, true, true, true, true, true, true, true, true, true, true, false, false] rfl rfl (one_of HT_.out (by kernel_rfl)) (by decide) (fun K hK => ?_)
               refine box_step ?hg (N := 11) ?hd (cs := #[.int .i64 0, .slice none 0 0]) (t := 39) ?hr ?_; (case hd => rfl); (case hg => rfl); (case hr => first | (go_simp; done) | (go_simp; rfl))
               intro gb235 hg w41 hbox hb
               have n0_ := Aside0.mk (Kd.R_below (rq HO_5.out) hb)
               have n1_ := Aside0.mk (Kd.R_below (rq HO_226001.out) hb)
               have n2_ := Aside0.mk (Kd.R_below (rq HO_227000.out) hb)
               have n3_ := Aside0.mk (Kd.R_below (rq HO233.out) hb)
               have n4_ := Aside0.mk (blk_below (bq BK215.out) hb)
               have n5_ := Aside0.mk (blk_below (bq BK225.out) hb)
               have n6_ := Aside0.mk (blk_below (bq BK226.out) hb)
               have n7_ := Aside0.mk (blk_below (bq BK227.out) hb)
               have n8_ := Aside0.mk (below_step (lq HB.out) hb)
               have n9_ := Aside0.mk (hbox)
               have n10_ := Aside0.mk ((ge_new hg (lq HB.out) : w.heap.size ≤ gb235))
               have n11_ := Aside0.mk ((ge_new hg (lq HB.out) : w.heap.size ≤ gb235))
               have n12_ := Aside0.mk ((ne_new hg (bq BK215.out) : gb215 ≠ gb235))
               have n13_ := Aside0.mk ((new_ne hg (bq BK215.out) : gb235 ≠ gb215))
               have n14_ := Aside0.mk ((ne_new hg (bq BK225.out) : gb225 ≠ gb235))
               have n15_ := Aside0.mk ((new_ne hg (bq BK225.out) : gb235 ≠ gb225))
               have n16_ := Aside0.mk ((ne_new hg (bq BK226.out) : gb226 ≠ gb235))
               have n17_ := Aside0.mk ((new_ne hg (bq BK226.out) : gb235 ≠ gb226))
               have n18_ := Aside0.mk ((ne_new hg (bq BK227.out) : gb227 ≠ gb235))
               have n19_ := Aside0.mk ((new_ne hg (bq BK227.out) : gb235 ≠ gb227))
               clear HO_5
               clear HO_226001
               clear HO_227000
               clear HO233
               clear BK215
               clear BK225
               clear BK226
               clear BK227
               clear HB
               have HO_5 := n0_
               have HO_226001 := n1_
               have HO_227000 := n2_
               have HO233 := n3_
               have BK215 := n4_
               have BK225 := n5_
               have BK226 := n6_
               have BK227 := n7_
               have HB := n8_
               have BK235 := n9_
               have GW235 := n10_
               have GE235 := n11_
               have NB215_235 := n12_
               have NB235_215 := n13_
               have NB225_235 := n14_
               have NB235_225 := n15_
               have NB226_235 := n16_
               have NB235_226 := n17_
               have NB227_235 := n18_
               have NB235_227 := n19_
               clear n0_ n1_ n2_ n3_ n4_ n5_ n6_ n7_ n8_ n9_ n10_ n11_ n12_ n13_ n14_ n15_ n16_ n17_ n18_ n19_
               clear hb hbox hg
               refine hK.out _ _ ⟨(blk_cell BK215.out 0).trans rfl, (blk_cell BK215.out 1).trans rfl, (blk_cell BK215.out 2).trans rfl, (blk_cell BK215.out 3).trans rfl, (blk_cell BK225.out 0).trans rfl, (blk_cell BK225.out 1).trans rfl, ((HB.out.cell (World.block_lt_of_cell? w _ hw229_0)).trans hw229_0), ((HB.out.cell (World.block_lt_of_cell? w _ hw229_1)).trans hw229_1)⟩ (fun hHeld => ?_)
               clear hK K
               refine norm_ (a' := ?_) ?_ ?_
               rotate_left
               ·show Act.put _ (some 11) _ = _
                simp only [Act.put, List.setIfInBounds_toArray, List.set_cons_zero, List.set_cons_succ, i64_w, i32_w]
                rfl
               exact norm_ (by simp only [putAll, Act.put, List.setIfInBounds_toArray, List.set_cons_zero, List.set_cons_succ]) (hCont (v232, gb235) _ ⟨hHeld, (by (with_reducible repeat (first | apply Kd.R_alloc | apply Kd.R_drewN | apply Kd.R_drew)); exact Kd.R_mono HO233.out (fun _ hk => ⟨hk.1.2, hk.2⟩)), (by (with_reducible repeat (first | apply Kd.R_alloc | apply Kd.R_drewN | apply Kd.R_drew)); exact Kd.R_mono HO_226001.out (fun _ hk => ⟨hk.2, hk.1⟩)), (by (with_reducible repeat (first | apply Kd.R_alloc | apply Kd.R_drewN | apply Kd.R_drew)); exact Kd.R_mono HO_227000.out (fun _ hk => ⟨hk.2, hk.1⟩)), (rq HO_5.out), (bq BK215.out), (bq BK225.out), (bq BK226.out), (bq BK227.out), (bq BK235.out), GW235.out, GE235.out, NB215_235.out, NB235_215.out, NB225_235.out, NB235_225.out, NB226_235.out, NB235_226.out, NB227_235.out, NB235_227.out, (lq HB.out)⟩)
              ·skip
               refine box_step ?hg (N := 11) ?hd (cs := #[.int .i64 0, .slice none 0 0]) (t := 39) ?hr ?_; (case hd => rfl); (case hg => rfl); (case hr => first | (go_simp; done) | (go_simp; rfl))
               intro gb235 hg w40 hbox hb
               have n0_ := Aside0.mk (Kd.R_below (rq HO_5.out) hb)
               have n1_ := Aside0.mk (Kd.R_below (rq HO_226001.out) hb)
               have n2_ := Aside0.mk (Kd.R_below (rq HO_227000.out) hb)
               have n3_ := Aside0.mk (blk_below (bq BK215.out) hb)
               have n4_ := Aside0.mk (blk_below (bq BK225.out) hb)
               have n5_ := Aside0.mk (blk_below (bq BK226.out) hb)
               have n6_ := Aside0.mk (blk_below (bq BK227.out) hb)
               have n7_ := Aside0.mk (below_step (lq HB.out) hb)
               have n8_ := Aside0.mk (hbox)
               have n9_ := Aside0.mk ((ge_new hg (lq HB.out) : w.heap.size ≤ gb235))
               have n10_ := Aside0.mk ((ge_new hg (lq HB.out) : w.heap.size ≤ gb235))
               have n11_ := Aside0.mk ((ne_new hg (bq BK215.out) : gb215 ≠ gb235))
               have n12_ := Aside0.mk ((new_ne hg (bq BK215.out) : gb235 ≠ gb215))
               have n13_ := Aside0.mk ((ne_new hg (bq BK225.out) : gb225 ≠ gb235))
               have n14_ := Aside0.mk ((new_ne hg (bq BK225.out) : gb235 ≠ gb225))
               have n15_ := Aside0.mk ((ne_new hg (bq BK226.out) : gb226 ≠ gb235))
               have n16_ := Aside0.mk ((new_ne hg (bq BK226.out) : gb235 ≠ gb226))
               have n17_ := Aside0.mk ((ne_new hg (bq BK227.out) : gb227 ≠ gb235))
               have n18_ := Aside0.mk ((new_ne hg (bq BK227.out) : gb235 ≠ gb227))
               clear HO_5
               clear HO_226001
               clear HO_227000
               clear BK215
               clear BK225
               clear BK226
               clear BK227
               clear HB
               have HO_5 := n0_
               have HO_226001 := n1_
               have HO_227000 := n2_
               have BK215 := n3_
               have BK225 := n4_
               have BK226 := n5_
               have BK227 := n6_
               have HB := n7_
               have BK235 := n8_
               have GW235 := n9_
               have GE235 := n10_
               have NB215_235 := n11_
               have NB235_215 := n12_
               have NB225_235 := n13_
               have NB235_225 := n14_
               have NB226_235 := n15_
               have NB235_226 := n16_
               have NB227_235 := n17_
               have NB235_227 := n18_
               clear n0_ n1_ n2_ n3_ n4_ n5_ n6_ n7_ n8_ n9_ n10_ n11_ n12_ n13_ n14_ n15_ n16_ n17_ n18_
               clear hb hbox hg
               refine hK.out _ _ ⟨(blk_cell BK215.out 0).trans rfl, (blk_cell BK215.out 1).trans rfl, (blk_cell BK215.out 2).trans rfl, (blk_cell BK215.out 3).trans rfl, (blk_cell BK225.out 0).trans rfl, (blk_cell BK225.out 1).trans rfl, ((HB.out.cell (World.block_lt_of_cell? w _ hw229_0)).trans hw229_0), ((HB.out.cell (World.block_lt_of_cell? w _ hw229_1)).trans hw229_1)⟩ (fun hHeld => ?_)
               clear hK K
               refine norm_ (a' := ?_) ?_ ?_
               rotate_left
               ·show Act.put _ (some 11) _ = _
                simp only [Act.put, List.setIfInBounds_toArray, List.set_cons_zero, List.set_cons_succ, i64_w, i32_w]
                rfl
               refine one_ (i := 7) (N := some 70) #[true, true, true, true, true, true, true, true, false, false, false, true, false, false] rfl rfl (one_of HT_.out (by kernel_rfl)) (by decide) (fun K hK => ?_)
               refine goes_ Try.func35 (by kernel_rfl) rfl #[.agg #[.int .i64 a0_0, .int .i64 a0_1, .int .i64 a0_2, .int .i64 a0_3], .agg #[.int .i64 x226000_3, .slice Ao37 x226001_3.length co37], .int .u32 ((rd_T70 l1 x9_3).f1)] (by rfl) rfl rfl (by (try simp only [List.map_toArray, List.map_cons, List.map_nil]); first | done | rfl | (simp only [List.length_drop, List.length_take]; rfl)) ?_
               with_reducible refine (spec_SendOn.calls a0_0 a0_1 a0_2 a0_3 x226000_3 _ _ x226001_3 ((rd_T70 l1 x9_3).f1) t230 t231 t234 _ ?side1 ?side2 A30.out).mono ?_
               (case side1 => repeat (first | exact (Kd.R_reads' HO_226001.out).2.2 | (with_reducible refine Kd.C_alloc ?_ _) | (with_reducible refine Kd.C_drewN ?_ _) | (with_reducible refine Kd.C_drew ?_)))
               (case side2 => exact (Kd.R_reads' HO_226001.out).2.1)
               rintro e w41 ⟨v232, rfl, ho0, hb⟩
               refine ⟨_, rfl, ?_⟩
               have n0_ := Aside0.mk (Kd.R_below (rq HO_5.out) hb)
               have n1_ := Aside0.mk (Kd.R_elder' (rq HO_226001.out) (Kd.R_base ho0) hb)
               have n2_ := Aside0.mk (Kd.R_elder' (rq HO_227000.out) (Kd.R_base ho0) hb)
               have n3_ := Aside0.mk (Kd.R_lower (Kd.R_new' (Kd.R_new' ho0 (Kd.R_lt (rq HO_226001.out))) (Kd.R_lt (rq HO_227000.out))) (below_size (lq HB.out)))
               have n4_ := Aside0.mk (blk_below (bq BK215.out) hb)
               have n5_ := Aside0.mk (blk_below (bq BK225.out) hb)
               have n6_ := Aside0.mk (blk_below (bq BK226.out) hb)
               have n7_ := Aside0.mk (blk_below (bq BK227.out) hb)
               have n8_ := Aside0.mk (blk_below (bq BK235.out) hb)
               have n9_ := Aside0.mk (below_step (lq HB.out) hb)
               clear HO_5
               clear HO_226001
               clear HO_227000
               clear BK215
               clear BK225
               clear BK226
               clear BK227
               clear BK235
               clear HB
               have HO_5 := n0_
               have HO_226001 := n1_
               have HO_227000 := n2_
               have HO233 := n3_
               have BK215 := n4_
               have BK225 := n5_
               have BK226 := n6_
               have BK227 := n7_
               have BK235 := n8_
               have HB := n9_
               clear n0_ n1_ n2_ n3_ n4_ n5_ n6_ n7_ n8_ n9_
               (try clear hb)
               (try clear hb2)
               (try clear hk)
               (try clear hi)
               (try clear ho0)
               refine hK.out _ _ ⟨(blk_cell BK215.out 0).trans rfl, (blk_cell BK215.out 1).trans rfl, (blk_cell BK215.out 2).trans rfl, (blk_cell BK215.out 3).trans rfl, (blk_cell BK225.out 0).trans rfl, (blk_cell BK225.out 1).trans rfl, ((HB.out.cell (World.block_lt_of_cell? w _ hw229_0)).trans hw229_0), ((HB.out.cell (World.block_lt_of_cell? w _ hw229_1)).trans hw229_1)⟩ (fun hHeld => ?_)
               clear hK K
               refine norm_ (a' := ?_) ?_ ?_
               rotate_left
               ·show Act.put _ (some 70) _ = _
                simp only [Act.put, List.setIfInBounds_toArray, List.set_cons_zero, List.set_cons_succ, i64_w, i32_w]
                rfl
               refine pure_ (i := 8) (N := some 62) (v := ?_) (a' := ?_) #[true, true, true, true, true, true, true, true, true, false, false, true, false, false] rfl rfl (any_of HT_.out (by kernel_rfl)) (fun _ _ _ h => h) (Or.inl ⟨by rfl, ?_⟩) ?_ ?_
               rotate_left
               ·intro w'
                go_simp
                with_reducible rfl
               rotate_left
               ·simp only [Act.put, List.setIfInBounds_toArray, List.set_cons_zero, List.set_cons_succ, i64_w, i32_w]
                rfl
               refine pure_ (i := 9) (N := some 71) (v := ?_) (a' := ?_) #[true, true, true, true, true, true, true, true, true, true, false, true, false, false] rfl rfl (any_of HT_.out (by kernel_rfl)) (fun _ _ _ h => h) (Or.inl ⟨by rfl, ?_⟩) ?_ ?_
               rotate_left
               ·intro w'
                go_simp
                with_reducible rfl
               rotate_left
               ·simp only [Act.put, List.setIfInBounds_toArray, List.set_cons_zero, List.set_cons_succ, i64_w, i32_w]
                rfl
               refine pure_ (i := 10) (N := some 72) (v := ?_) (a' := ?_) #[true, true, true, true, true, true, true, true, true, true, true, true, false, false] rfl rfl (any_of HT_.out (by kernel_rfl)) (fun _ _ _ h => h) (Or.inl ⟨by rfl, ?_⟩) ?_ ?_
               rotate_left
               ·intro w'
                go_simp
                with_reducible rfl
               rotate_left
               ·simp only [Act.put, List.setIfInBounds_toArray, List.set_cons_zero, List.set_cons_succ, i64_w, i32_w]
                rfl
               exact norm_ (by simp only [putAll, Act.put, List.setIfInBounds_toArray, List.set_cons_zero, List.set_cons_succ]) (hCont (v232, gb235) _ ⟨hHeld, (by (with_reducible repeat (first | apply Kd.R_alloc | apply Kd.R_drewN | apply Kd.R_drew)); exact Kd.R_mono HO233.out (fun _ hk => ⟨hk.1.2, hk.2⟩)), (by (with_reducible repeat (first | apply Kd.R_alloc | apply Kd.R_drewN | apply Kd.R_drew)); exact Kd.R_mono HO_226001.out (fun _ hk => ⟨hk.2, hk.1⟩)), (by (with_reducible repeat (first | apply Kd.R_alloc | apply Kd.R_drewN | apply Kd.R_drew)); exact Kd.R_mono HO_227000.out (fun _ hk => ⟨hk.2, hk.1⟩)), (rq HO_5.out), (bq BK215.out), (bq BK225.out), (bq BK226.out), (bq BK227.out), (bq BK235.out), GW235.out, GE235.out, NB215_235.out, NB235_215.out, NB225_235.out, NB235_225.out, NB226_235.out, NB235_226.out, NB227_235.out, NB235_227.out, (lq HB.out)⟩)
             rintro ⟨v232, gb235⟩ w42 ⟨hS_, h0_, h1_, h2_, h3_, h4_, h5_, h6_, h7_, h8_, h9_, h10_, h11_, h12_, h13_, h14_, h15_, h16_, h17_, h18_, h19_⟩
             have n0_ : Aside0 (Kd.R (Kd.int .u32) 46 w42 w.heap.size (fun k_ => some k_ ≠ (.slice Ao37 x226001_3.length co37 : Value).ownBlock ∧ some k_ ≠ (u227000 : Value).ownBlock) v232 t231) := ⟨h0_⟩
             have n1_ : Aside0 (Kd.R (Kd.int .u32) 46 w42 w.heap.size (fun k_ => some k_ ≠ (v232 : Value).ownBlock ∧ some k_ ≠ (u227000 : Value).ownBlock) (.slice Ao37 x226001_3.length co37) x226001_3) := ⟨h1_⟩
             have n2_ : Aside0 (Kd.R (Kd.int .u32) 46 w42 w.heap.size (fun k_ => some k_ ≠ (v232 : Value).ownBlock ∧ some k_ ≠ (.slice Ao37 x226001_3.length co37 : Value).ownBlock) u227000 x227000_3) := ⟨h2_⟩
             have n3_ : Aside0 (Kd.R k72 72 w42 w.heap.size (fun k_ => k_ ≠ gb227) u5 x5_3) := ⟨h3_⟩
             have n4_ : Aside0 (w42.heap[gb215]? = some (.cells #[.int .i64 a0_0, .int .i64 a0_1, .int .i64 a0_2, .int .i64 a0_3] 29 (0, 0))) := ⟨h4_⟩
             have n5_ : Aside0 (w42.heap[gb225]? = some (.cells #[.int .i64 x226000_3, .slice Ao37 x226001_3.length co37] 39 (0, 0))) := ⟨h5_⟩
             have n6_ : Aside0 (w42.heap[gb226]? = some (.cells #[u227000] 31 (0, 0))) := ⟨h6_⟩
             have n7_ : Aside0 (w42.heap[gb227]? = some (.cells #[.int .i64 0, .int .u32 0] 72 (0, 0))) := ⟨h7_⟩
             have n8_ : Aside0 (w42.heap[gb235]? = some (.cells #[.int .i64 0, .slice none 0 0] 39 (0, 0))) := ⟨h8_⟩
             have n9_ : Aside0 (w.heap.size ≤ gb235) := ⟨h9_⟩
             have n10_ : Aside0 (w.heap.size ≤ gb235) := ⟨h10_⟩
             have n11_ : Aside0 (gb215 ≠ gb235) := ⟨h11_⟩
             have n12_ : Aside0 (gb235 ≠ gb215) := ⟨h12_⟩
             have n13_ : Aside0 (gb225 ≠ gb235) := ⟨h13_⟩
             have n14_ : Aside0 (gb235 ≠ gb225) := ⟨h14_⟩
             have n15_ : Aside0 (gb226 ≠ gb235) := ⟨h15_⟩
             have n16_ : Aside0 (gb235 ≠ gb226) := ⟨h16_⟩
             have n17_ : Aside0 (gb227 ≠ gb235) := ⟨h17_⟩
             have n18_ : Aside0 (gb235 ≠ gb227) := ⟨h18_⟩
             have n19_ : Aside0 (Below w.heap.size w w42) := ⟨h19_⟩
             clear HO_5
             clear HO_226001
             clear HO_227000
             clear BK215
             clear BK225
             clear BK226
             clear BK227
             clear HB
             clear h0_ h1_ h2_ h3_ h4_ h5_ h6_ h7_ h8_ h9_ h10_ h11_ h12_ h13_ h14_ h15_ h16_ h17_ h18_ h19_
             have HO233 := n0_
             have HO_226001 := n1_
             have HO_227000 := n2_
             have HO_5 := n3_
             have BK215 := n4_
             have BK225 := n5_
             have BK226 := n6_
             have BK227 := n7_
             have BK235 := n8_
             have GW235 := n9_
             have GE235 := n10_
             have NB215_235 := n11_
             have NB235_215 := n12_
             have NB225_235 := n13_
             have NB235_225 := n14_
             have NB226_235 := n15_
             have NB235_226 := n16_
             have NB227_235 := n17_
             have NB235_227 := n18_
             have HB := n19_
             clear n0_ n1_ n2_ n3_ n4_ n5_ n6_ n7_ n8_ n9_ n10_ n11_ n12_ n13_ n14_ n15_ n16_ n17_ n18_ n19_
             have hHeld : w42.cell? ⟨gb215, 0, none⟩ = some (.int .i64 a0_0) ∧ w42.cell? ⟨gb215, 1, none⟩ = some (.int .i64 a0_1) ∧ w42.cell? ⟨gb215, 2, none⟩ = some (.int .i64 a0_2) ∧ w42.cell? ⟨gb215, 3, none⟩ = some (.int .i64 a0_3) ∧ w42.cell? ⟨gb225, 0, none⟩ = some (.int .i64 x226000_3) ∧ w42.cell? ⟨gb225, 1, none⟩ = some (.slice Ao37 x226001_3.length co37) ∧ w42.cell? (ad228.add ((x9_3).toNat * 2)) = some (.int .i64 ((rd_T70 l1 x9_3).f0)) ∧ w42.cell? ⟨(ad228.add ((x9_3).toNat * 2)).block, (ad228.add ((x9_3).toNat * 2)).off + 1, none⟩ = some (.int .u32 ((rd_T70 l1 x9_3).f1)) := hS_
             obtain ⟨Ao44, co44, eo44⟩ := Kd.R_slice HO233.out
             (first | subst eo44 | (injection eo44 with f1_ f2_ f3_; have f4_ := f1_.symm; have f5_ := f3_.symm; clear f1_ f2_ f3_; subst f4_; subst f5_))
             refine norm_ (a' := ?_) ?_ ?_
             rotate_left
             ·simp only [putAll, Act.put, List.setIfInBounds_toArray, List.set_cons_zero, List.set_cons_succ]
              rfl
             refine one_ (i := 12) (N := none) #[true, true, true, true, true, true, true, true, true, true, true, true, true, false] rfl rfl (one_of HT_.out (by kernel_rfl)) (by decide) (fun K hK => ?_)
             have hs43 : w42.cell? ⟨gb235, 0, none⟩ = some (.int .i64 0) := (blk_cell BK235.out 0).trans rfl
             have hfs43 := blk_frozen BK235.out 0
             have hns43_0 := NB215_235.out
             have hns43_1 := NB225_235.out
             have hns43_2 := NB226_235.out
             have hns43_3 := NB227_235.out
             have hms43_0 := NB235_215.out
             have hms43_1 := NB235_225.out
             have hms43_2 := NB235_226.out
             have hms43_3 := NB235_227.out
             have hs45 : w42.cell? ⟨gb235, 1, none⟩ = some (.slice none 0 0) := (blk_cell BK235.out 1).trans rfl
             have hfs45 := blk_frozen BK235.out 1
             have hns45_0 := NB215_235.out
             have hns45_1 := NB225_235.out
             have hns45_2 := NB226_235.out
             have hns45_3 := NB227_235.out
             have hms45_0 := NB235_215.out
             have hms45_1 := NB235_225.out
             have hms45_2 := NB235_226.out
             have hms45_3 := NB235_227.out
             refine skip_ (w1 := ?_) (by rfl) rfl ?_ ?_
             rotate_left
             ·go_simp
              rfl
             refine hK.out _ _ ⟨((cell_far (p := ⟨gb235, _, none⟩) NB215_235.out _).trans (((cell_far (p := ⟨gb235, _, none⟩) NB215_235.out _).trans (hHeld.1)))), ((cell_far (p := ⟨gb235, _, none⟩) NB215_235.out _).trans (((cell_far (p := ⟨gb235, _, none⟩) NB215_235.out _).trans (hHeld.2.1)))), ((cell_far (p := ⟨gb235, _, none⟩) NB215_235.out _).trans (((cell_far (p := ⟨gb235, _, none⟩) NB215_235.out _).trans (hHeld.2.2.1)))), ((cell_far (p := ⟨gb235, _, none⟩) NB215_235.out _).trans (((cell_far (p := ⟨gb235, _, none⟩) NB215_235.out _).trans (hHeld.2.2.2.1)))), ((cell_far (p := ⟨gb235, _, none⟩) NB225_235.out _).trans (((cell_far (p := ⟨gb235, _, none⟩) NB225_235.out _).trans (hHeld.2.2.2.2.1)))), ((cell_far (p := ⟨gb235, _, none⟩) NB225_235.out _).trans (((cell_far (p := ⟨gb235, _, none⟩) NB225_235.out _).trans (hHeld.2.2.2.2.2.1)))), ((cell_far (p := ⟨gb235, _, none⟩) (by first | exact Nat.ne_of_lt (Nat.lt_of_lt_of_le (by have := World.block_lt_of_cell? _ _ hw229_0; first | rwa [add_block] at this | exact this) GW235.out) | (rw [add_block]; exact Nat.ne_of_lt (Nat.lt_of_lt_of_le (by have := World.block_lt_of_cell? _ _ hw229_0; first | rwa [add_block] at this | exact this) GW235.out)) | (show (Addr.add _ _).block ≠ _; rw [add_block]; exact Nat.ne_of_lt (Nat.lt_of_lt_of_le (by have := World.block_lt_of_cell? _ _ hw229_0; first | rwa [add_block] at this | exact this) GW235.out)) | (dsimp only; exact Nat.ne_of_lt (Nat.lt_of_lt_of_le (by have := World.block_lt_of_cell? _ _ hw229_0; first | rwa [add_block] at this | exact this) GW235.out))) _).trans (((cell_far (p := ⟨gb235, _, none⟩) (by first | exact Nat.ne_of_lt (Nat.lt_of_lt_of_le (by have := World.block_lt_of_cell? _ _ hw229_0; first | rwa [add_block] at this | exact this) GW235.out) | (rw [add_block]; exact Nat.ne_of_lt (Nat.lt_of_lt_of_le (by have := World.block_lt_of_cell? _ _ hw229_0; first | rwa [add_block] at this | exact this) GW235.out)) | (show (Addr.add _ _).block ≠ _; rw [add_block]; exact Nat.ne_of_lt (Nat.lt_of_lt_of_le (by have := World.block_lt_of_cell? _ _ hw229_0; first | rwa [add_block] at this | exact this) GW235.out)) | (dsimp only; exact Nat.ne_of_lt (Nat.lt_of_lt_of_le (by have := World.block_lt_of_cell? _ _ hw229_0; first | rwa [add_block] at this | exact this) GW235.out))) _).trans (hHeld.2.2.2.2.2.2.1)))), ((cell_far (p := ⟨gb235, _, none⟩) (by first | exact Nat.ne_of_lt (Nat.lt_of_lt_of_le (by have := World.block_lt_of_cell? _ _ hw229_1; first | rwa [add_block] at this | exact this) GW235.out) | (rw [add_block]; exact Nat.ne_of_lt (Nat.lt_of_lt_of_le (by have := World.block_lt_of_cell? _ _ hw229_1; first | rwa [add_block] at this | exact this) GW235.out)) | (show (Addr.add _ _).block ≠ _; rw [add_block]; exact Nat.ne_of_lt (Nat.lt_of_lt_of_le (by have := World.block_lt_of_cell? _ _ hw229_1; first | rwa [add_block] at this | exact this) GW235.out)) | (dsimp only; exact Nat.ne_of_lt (Nat.lt_of_lt_of_le (by have := World.block_lt_of_cell? _ _ hw229_1; first | rwa [add_block] at this | exact this) GW235.out))) _).trans (((cell_far (p := ⟨gb235, _, none⟩) (by first | exact Nat.ne_of_lt (Nat.lt_of_lt_of_le (by have := World.block_lt_of_cell? _ _ hw229_1; first | rwa [add_block] at this | exact this) GW235.out) | (rw [add_block]; exact Nat.ne_of_lt (Nat.lt_of_lt_of_le (by have := World.block_lt_of_cell? _ _ hw229_1; first | rwa [add_block] at this | exact this) GW235.out)) | (show (Addr.add _ _).block ≠ _; rw [add_block]; exact Nat.ne_of_lt (Nat.lt_of_lt_of_le (by have := World.block_lt_of_cell? _ _ hw229_1; first | rwa [add_block] at this | exact this) GW235.out)) | (dsimp only; exact Nat.ne_of_lt (Nat.lt_of_lt_of_le (by have := World.block_lt_of_cell? _ _ hw229_1; first | rwa [add_block] at this | exact this) GW235.out))) _).trans (hHeld.2.2.2.2.2.2.2))))⟩ (fun hHeld => ?_)
             clear hK K
             refine pure_ (i := 13) (N := some 12) (v := ?_) (a' := ?_) #[true, true, true, true, true, true, true, true, true, true, true, true, true, true] rfl rfl (any_of HT_.out (by kernel_rfl)) (fun _ _ _ h => h) (Or.inl ⟨by rfl, ?_⟩) ?_ ?_
             rotate_left
             ·intro w'
              go_simp
              with_reducible rfl
             rotate_left
             ·simp only [Act.put, List.setIfInBounds_toArray, List.set_cons_zero, List.set_cons_succ, i64_w, i32_w]
              rfl
             refine done_ (done_of HT_.out (by kernel_rfl)) ?_
             have hnb46 := NB235_215.out
             have hnc46 := NB215_235.out
             have hnb47 := NB235_225.out
             have hnc47 := NB225_235.out
             have hnb48 := NB235_226.out
             have hnc48 := NB226_235.out
             have hnb49 := NB235_227.out
             have hnc49 := NB227_235.out
             have hcz50_0 : w42.cell? ⟨gb235, 0, none⟩ = some (.int .i64 0) := (blk_cell BK235.out 0).trans rfl
             have hcz50_1 : w42.cell? ⟨gb235, 1, none⟩ = some (.slice none 0 0) := (blk_cell BK235.out 1).trans rfl
             have hfz50_0 := blk_frozen BK235.out 0
             have hfz50_1 := blk_frozen BK235.out 1
             have hnb51 := NB225_215.out
             have hnc51 := NB215_225.out
             have hnb52 := NB225_226.out
             have hnc52 := NB226_225.out
             have hcz53_0 : w42.cell? ⟨gb225, 0, none⟩ = some (.int .i64 x226000_3) := (blk_cell BK225.out 0).trans rfl
             have hcz53_1 : w42.cell? ⟨gb225, 1, none⟩ = some (.slice Ao37 x226001_3.length co37) := (blk_cell BK225.out 1).trans rfl
             have hfz53_0 := blk_frozen BK225.out 0
             have hfz53_1 := blk_frozen BK225.out 1
             have hcz54_0 : w42.cell? ⟨gb227, 0, none⟩ = some (.int .i64 0) := (blk_cell BK227.out 0).trans rfl
             have hcz54_1 : w42.cell? ⟨gb227, 1, none⟩ = some (.int .u32 0) := (blk_cell BK227.out 1).trans rfl
             have hfz54_0 := blk_frozen BK227.out 0
             have hfz54_1 := blk_frozen BK227.out 1
             try go_wp2_with (first | ((with_reducible refine gate_builtin (b := .append) (xs := #[.tmp 102, .tmp 104]) rfl ?_); (try (refine gate_guard (by rfl) ?_; dsimp only)); at_builtin; refine Kd.R_append k72 (w0 := w) w.heap.size rfl (.tmp 102) (.tmp 104) 66 72 (.agg #[(.int .i64 0), (.int .u32 0)]) 16 rfl Try.underlying66 info72 rfl (by decide) (by omega) u5 x5_3 (⟨t234, 0⟩ : S72) [.int .i64 t234, .int .u32 0] (fun k_ => k_ ≠ gb227) (fun _ => False) rfl (by first | (go_simp; done) | (go_simp; rfl)) ?aP (fun _ hk => hk.elim) ?aF ?aO ?aB ?aS ?aL ?_; (case aP => exact k72_mkM _ _ _ (⟨t234, 0⟩ : S72)); (case aB => exact (by repeat (first | (with_reducible first | exact HB.out | apply below_alloc | apply pw_below_drewN | apply below_drew1 | refine below_set ?_ GE225.out | refine below_set ?_ GE227.out | refine below_set ?_ GE235.out) | exact HB.out))); (case aF => exact (fun k_ hk => Kd.freshB (g := gb227) (o := .cells #[.int .i64 t234, .int .u32 0] 72 (0, 0)) (by (with_reducible repeat (first | refine blk_drewN ?_ _ | refine blk_drew ?_ | refine blk_alloc ?_ _)); refine blk_put (cs := #[.int .i64 0, .int .u32 0]) ?_ 0 _ rfl; (with_reducible repeat (first | refine blk_drewN ?_ _ | refine blk_drew ?_ | refine blk_alloc ?_ _)); refine blk_far ?_ NB227_225.out _; (with_reducible repeat (first | refine blk_drewN ?_ _ | refine blk_drew ?_ | refine blk_alloc ?_ _)); refine blk_far ?_ NB227_225.out _; (with_reducible repeat (first | refine blk_drewN ?_ _ | refine blk_drew ?_ | refine blk_alloc ?_ _)); refine blk_far ?_ NB227_235.out _; (with_reducible repeat (first | refine blk_drewN ?_ _ | refine blk_drew ?_ | refine blk_alloc ?_ _)); refine blk_far ?_ NB227_235.out _; (with_reducible repeat (first | refine blk_drewN ?_ _ | refine blk_drew ?_ | refine blk_alloc ?_ _)); exact BK227.out) k_ hk)); (case aO => exact (by (with_reducible repeat (first | apply Kd.R_alloc | apply Kd.R_drewN | apply Kd.R_drew)); exact Kd.R_mono (Kd.R_far (p := ⟨gb227, 0, none⟩) (Kd.R_far (p := ⟨gb225, 1, none⟩) (Kd.R_far (p := ⟨gb225, 0, none⟩) (Kd.R_far (p := ⟨gb235, 1, none⟩) (Kd.R_far (p := ⟨gb235, 0, none⟩) (Kd.R_mono (Kd.R_types (Kd.R_types HO_5.out BK235.out (by decide)) BK225.out (by decide)) (fun k_ hk => (⟨hk, hk.1.1⟩ : _ ∧ k_ ≠ gb227))) (fun _ hk => hk.1.1.2) (.int .i64 t230)) (fun _ hk => hk.1.1.2) (.slice Ao44 t231.length co44)) (fun _ hk => hk.1.2) (.int .i64 t230)) (fun _ hk => hk.1.2) (.slice Ao44 t231.length co44)) (fun _ hk => hk.2) (.int .i64 t234)) (fun _ hk => hk.1.1.1))); (case aS => exact (below_size (by repeat (first | (with_reducible first | exact HB.out | apply below_alloc | apply pw_below_drewN | apply below_drew1 | refine below_set ?_ GE225.out | refine below_set ?_ GE227.out | refine below_set ?_ GE235.out) | exact HB.out)))); (case aL => have := LMc31.out; omega); intro v237 w55 ho hb hg hat; rw [← Ny236.out] at ho; have n0_ := Aside0.mk (Kd.R_over' (rq (Kd.R_mono (Kd.R_mono (Kd.R_mono (Kd.R_far (p := ⟨gb227, 0, none⟩) (Kd.R_far (p := ⟨gb225, 1, none⟩) (Kd.R_far (p := ⟨gb225, 0, none⟩) (Kd.R_far (p := ⟨gb235, 1, none⟩) (Kd.R_far (p := ⟨gb235, 0, none⟩) (Kd.R_types (Kd.R_types (Kd.R_types HO_226001.out BK235.out (by decide)) BK225.out (by decide)) BK227.out (by decide)) (fun _ hk => hk.1.1.2) (.int .i64 t230)) (fun _ hk => hk.1.1.2) (.slice Ao44 t231.length co44)) (fun _ hk => hk.1.2) (.int .i64 t230)) (fun _ hk => hk.1.2) (.slice Ao44 t231.length co44)) (fun _ hk => hk.2) (.int .i64 t234)) (fun _ h_ => h_.1)) (fun _ h_ => h_.1)) (fun _ h_ => h_.1))) (Kd.R_typed (rq (Kd.R_mono (Kd.R_mono (Kd.R_mono (Kd.R_far (p := ⟨gb227, 0, none⟩) (Kd.R_far (p := ⟨gb225, 1, none⟩) (Kd.R_far (p := ⟨gb225, 0, none⟩) (Kd.R_far (p := ⟨gb235, 1, none⟩) (Kd.R_far (p := ⟨gb235, 0, none⟩) (Kd.R_mono (Kd.R_types (Kd.R_types HO_5.out BK235.out (by decide)) BK225.out (by decide)) (fun k_ hk => (⟨hk, hk.1.1⟩ : _ ∧ k_ ≠ gb227))) (fun _ hk => hk.1.1.2) (.int .i64 t230)) (fun _ hk => hk.1.1.2) (.slice Ao44 t231.length co44)) (fun _ hk => hk.1.2) (.int .i64 t230)) (fun _ hk => hk.1.2) (.slice Ao44 t231.length co44)) (fun _ hk => hk.2) (.int .i64 t234)) (fun _ h_ => h_.1)) (fun _ h_ => h_.1)) (fun _ h_ => h_.1)))) (by decide) hg); have n1_ := Aside0.mk (Kd.R_over' (rq (Kd.R_mono (Kd.R_mono (Kd.R_mono (Kd.R_far (p := ⟨gb227, 0, none⟩) (Kd.R_far (p := ⟨gb225, 1, none⟩) (Kd.R_far (p := ⟨gb225, 0, none⟩) (Kd.R_far (p := ⟨gb235, 1, none⟩) (Kd.R_far (p := ⟨gb235, 0, none⟩) (Kd.R_types (Kd.R_types (Kd.R_types HO_227000.out BK235.out (by decide)) BK225.out (by decide)) BK227.out (by decide)) (fun _ hk => hk.1.1.2) (.int .i64 t230)) (fun _ hk => hk.1.1.2) (.slice Ao44 t231.length co44)) (fun _ hk => hk.1.2) (.int .i64 t230)) (fun _ hk => hk.1.2) (.slice Ao44 t231.length co44)) (fun _ hk => hk.2) (.int .i64 t234)) (fun _ h_ => h_.1)) (fun _ h_ => h_.1)) (fun _ h_ => h_.1))) (Kd.R_typed (rq (Kd.R_mono (Kd.R_mono (Kd.R_mono (Kd.R_far (p := ⟨gb227, 0, none⟩) (Kd.R_far (p := ⟨gb225, 1, none⟩) (Kd.R_far (p := ⟨gb225, 0, none⟩) (Kd.R_far (p := ⟨gb235, 1, none⟩) (Kd.R_far (p := ⟨gb235, 0, none⟩) (Kd.R_mono (Kd.R_types (Kd.R_types HO_5.out BK235.out (by decide)) BK225.out (by decide)) (fun k_ hk => (⟨hk, hk.1.1⟩ : _ ∧ k_ ≠ gb227))) (fun _ hk => hk.1.1.2) (.int .i64 t230)) (fun _ hk => hk.1.1.2) (.slice Ao44 t231.length co44)) (fun _ hk => hk.1.2) (.int .i64 t230)) (fun _ hk => hk.1.2) (.slice Ao44 t231.length co44)) (fun _ hk => hk.2) (.int .i64 t234)) (fun _ h_ => h_.1)) (fun _ h_ => h_.1)) (fun _ h_ => h_.1)))) (by decide) hg); have n2_ := Aside0.mk (blk_grown (g := gb215) (o := .cells #[.int .i64 a0_0, .int .i64 a0_1, .int .i64 a0_2, .int .i64 a0_3] 29 (0, 0)) (by (with_reducible repeat (first | refine blk_drewN ?_ _ | refine blk_drew ?_ | refine blk_alloc ?_ _)); refine blk_far ?_ NB215_227.out _; (with_reducible repeat (first | refine blk_drewN ?_ _ | refine blk_drew ?_ | refine blk_alloc ?_ _)); refine blk_far ?_ NB215_225.out _; (with_reducible repeat (first | refine blk_drewN ?_ _ | refine blk_drew ?_ | refine blk_alloc ?_ _)); refine blk_far ?_ NB215_225.out _; (with_reducible repeat (first | refine blk_drewN ?_ _ | refine blk_drew ?_ | refine blk_alloc ?_ _)); refine blk_far ?_ NB215_235.out _; (with_reducible repeat (first | refine blk_drewN ?_ _ | refine blk_drew ?_ | refine blk_alloc ?_ _)); refine blk_far ?_ NB215_235.out _; (with_reducible repeat (first | refine blk_drewN ?_ _ | refine blk_drew ?_ | refine blk_alloc ?_ _)); exact BK215.out) hg (Kd.R_ne HO_5.out BK215.out (by decide))); have n3_ := Aside0.mk (blk_grown (g := gb225) (o := .cells #[.int .i64 t230, .slice Ao44 t231.length co44] 39 (0, 0)) (by (with_reducible repeat (first | refine blk_drewN ?_ _ | refine blk_drew ?_ | refine blk_alloc ?_ _)); refine blk_far ?_ NB225_227.out _; (with_reducible repeat (first | refine blk_drewN ?_ _ | refine blk_drew ?_ | refine blk_alloc ?_ _)); refine blk_put (cs := #[.int .i64 t230, .slice Ao37 x226001_3.length co37]) ?_ 1 _ rfl; (with_reducible repeat (first | refine blk_drewN ?_ _ | refine blk_drew ?_ | refine blk_alloc ?_ _)); refine blk_put (cs := #[.int .i64 x226000_3, .slice Ao37 x226001_3.length co37]) ?_ 0 _ rfl; (with_reducible repeat (first | refine blk_drewN ?_ _ | refine blk_drew ?_ | refine blk_alloc ?_ _)); refine blk_far ?_ NB225_235.out _; (with_reducible repeat (first | refine blk_drewN ?_ _ | refine blk_drew ?_ | refine blk_alloc ?_ _)); refine blk_far ?_ NB225_235.out _; (with_reducible repeat (first | refine blk_drewN ?_ _ | refine blk_drew ?_ | refine blk_alloc ?_ _)); exact BK225.out) hg (Kd.R_ne HO_5.out BK225.out (by decide))); have n4_ := Aside0.mk (blk_grown (g := gb226) (o := .cells #[u227000] 31 (0, 0)) (by (with_reducible repeat (first | refine blk_drewN ?_ _ | refine blk_drew ?_ | refine blk_alloc ?_ _)); refine blk_far ?_ NB226_227.out _; (with_reducible repeat (first | refine blk_drewN ?_ _ | refine blk_drew ?_ | refine blk_alloc ?_ _)); refine blk_far ?_ NB226_225.out _; (with_reducible repeat (first | refine blk_drewN ?_ _ | refine blk_drew ?_ | refine blk_alloc ?_ _)); refine blk_far ?_ NB226_225.out _; (with_reducible repeat (first | refine blk_drewN ?_ _ | refine blk_drew ?_ | refine blk_alloc ?_ _)); refine blk_far ?_ NB226_235.out _; (with_reducible repeat (first | refine blk_drewN ?_ _ | refine blk_drew ?_ | refine blk_alloc ?_ _)); refine blk_far ?_ NB226_235.out _; (with_reducible repeat (first | refine blk_drewN ?_ _ | refine blk_drew ?_ | refine blk_alloc ?_ _)); exact BK226.out) hg (Kd.R_ne HO_5.out BK226.out (by decide))); have n5_ := Aside0.mk (blk_grown (g := gb227) (o := .cells #[.int .i64 t234, .int .u32 0] 72 (0, 0)) (by (with_reducible repeat (first | refine blk_drewN ?_ _ | refine blk_drew ?_ | refine blk_alloc ?_ _)); refine blk_put (cs := #[.int .i64 0, .int .u32 0]) ?_ 0 _ rfl; (with_reducible repeat (first | refine blk_drewN ?_ _ | refine blk_drew ?_ | refine blk_alloc ?_ _)); refine blk_far ?_ NB227_225.out _; (with_reducible repeat (first | refine blk_drewN ?_ _ | refine blk_drew ?_ | refine blk_alloc ?_ _)); refine blk_far ?_ NB227_225.out _; (with_reducible repeat (first | refine blk_drewN ?_ _ | refine blk_drew ?_ | refine blk_alloc ?_ _)); refine blk_far ?_ NB227_235.out _; (with_reducible repeat (first | refine blk_drewN ?_ _ | refine blk_drew ?_ | refine blk_alloc ?_ _)); refine blk_far ?_ NB227_235.out _; (with_reducible repeat (first | refine blk_drewN ?_ _ | refine blk_drew ?_ | refine blk_alloc ?_ _)); exact BK227.out) hg (Kd.R_away HO_5.out (fun _ hk => hk))); have n6_ := Aside0.mk (Kd.R_over' (rq (Kd.R_mono (Kd.R_mono (Kd.R_mono (Kd.R_far (p := ⟨gb227, 0, none⟩) (Kd.R_far (p := ⟨gb225, 1, none⟩) (Kd.R_far (p := ⟨gb225, 0, none⟩) (Kd.R_far (p := ⟨gb235, 1, none⟩) (Kd.R_far (p := ⟨gb235, 0, none⟩) (Kd.R_types (Kd.R_types (Kd.R_types HO233.out BK235.out (by decide)) BK225.out (by decide)) BK227.out (by decide)) (fun _ hk => hk.1.1.2) (.int .i64 t230)) (fun _ hk => hk.1.1.2) (.slice Ao44 t231.length co44)) (fun _ hk => hk.1.2) (.int .i64 t230)) (fun _ hk => hk.1.2) (.slice Ao44 t231.length co44)) (fun _ hk => hk.2) (.int .i64 t234)) (fun _ h_ => h_.1)) (fun _ h_ => h_.1)) (fun _ h_ => h_.1))) (Kd.R_typed (rq (Kd.R_mono (Kd.R_mono (Kd.R_mono (Kd.R_far (p := ⟨gb227, 0, none⟩) (Kd.R_far (p := ⟨gb225, 1, none⟩) (Kd.R_far (p := ⟨gb225, 0, none⟩) (Kd.R_far (p := ⟨gb235, 1, none⟩) (Kd.R_far (p := ⟨gb235, 0, none⟩) (Kd.R_mono (Kd.R_types (Kd.R_types HO_5.out BK235.out (by decide)) BK225.out (by decide)) (fun k_ hk => (⟨hk, hk.1.1⟩ : _ ∧ k_ ≠ gb227))) (fun _ hk => hk.1.1.2) (.int .i64 t230)) (fun _ hk => hk.1.1.2) (.slice Ao44 t231.length co44)) (fun _ hk => hk.1.2) (.int .i64 t230)) (fun _ hk => hk.1.2) (.slice Ao44 t231.length co44)) (fun _ hk => hk.2) (.int .i64 t234)) (fun _ h_ => h_.1)) (fun _ h_ => h_.1)) (fun _ h_ => h_.1)))) (by decide) hg); have n7_ := Aside0.mk (blk_grown (g := gb235) (o := .cells #[.int .i64 t230, .slice Ao44 t231.length co44] 39 (0, 0)) (by (with_reducible repeat (first | refine blk_drewN ?_ _ | refine blk_drew ?_ | refine blk_alloc ?_ _)); refine blk_far ?_ NB235_227.out _; (with_reducible repeat (first | refine blk_drewN ?_ _ | refine blk_drew ?_ | refine blk_alloc ?_ _)); refine blk_far ?_ NB235_225.out _; (with_reducible repeat (first | refine blk_drewN ?_ _ | refine blk_drew ?_ | refine blk_alloc ?_ _)); refine blk_far ?_ NB235_225.out _; (with_reducible repeat (first | refine blk_drewN ?_ _ | refine blk_drew ?_ | refine blk_alloc ?_ _)); refine blk_put (cs := #[.int .i64 t230, .slice none 0 0]) ?_ 1 _ rfl; (with_reducible repeat (first | refine blk_drewN ?_ _ | refine blk_drew ?_ | refine blk_alloc ?_ _)); refine blk_put (cs := #[.int .i64 0, .slice none 0 0]) ?_ 0 _ rfl; (with_reducible repeat (first | refine blk_drewN ?_ _ | refine blk_drew ?_ | refine blk_alloc ?_ _)); exact BK235.out) hg (Kd.R_ne HO_5.out BK235.out (by decide))); have n8_ := Aside0.mk (hb); have n9_ := Aside0.mk (ho); clear HO_226001; clear HO_227000; clear BK215; clear BK225; clear BK226; clear BK227; clear HO233; clear BK235; clear HB; clear HO_5; have HO_226001 := n0_; have HO_227000 := n1_; have BK215 := n2_; have BK225 := n3_; have BK226 := n4_; have BK227 := n5_; have HO233 := n6_; have BK235 := n7_; have HB := n8_; have HO238 := n9_; clear n0_ n1_ n2_ n3_ n4_ n5_ n6_ n7_ n8_ n9_; clear ho hb hg hat))
             go_roundg k3
             case measure => have := HJ2.out; have := HK2.out; have := HK3.out; omega
             case rel => exact ⟨(y236), (wrap64 (x9_3 + 1)), (t230), (t231), (x227000_3), (.slice Ao44 t231.length co44), (u227000), (by first | rfl | (simp; done) | (simp [*]; done)), H', ⟨by have := HJ2.out; have := HK2.out; have := HK3.out; omega⟩, ⟨by (with_reducible repeat (first | apply Kd.R_alloc | apply Kd.R_drewN | apply Kd.R_drew)); exact Kd.R_mono HO238.out (fun _ hk => trivial)⟩, ⟨by (with_reducible repeat (first | apply Kd.R_alloc | apply Kd.R_drewN | apply Kd.R_drew)); exact Kd.R_mono HO233.out (fun _ hk => hk.2)⟩, ⟨by (with_reducible repeat (first | apply Kd.R_alloc | apply Kd.R_drewN | apply Kd.R_drew)); exact Kd.R_mono HO_227000.out (fun _ hk => hk.1)⟩, ⟨by (with_reducible repeat (first | refine blk_drewN ?_ _ | refine blk_drew ?_ | refine blk_alloc ?_ _)); exact BK215.out⟩, ⟨by (with_reducible repeat (first | refine blk_drewN ?_ _ | refine blk_drew ?_ | refine blk_alloc ?_ _)); exact BK225.out⟩, ⟨by (with_reducible repeat (first | refine blk_drewN ?_ _ | refine blk_drew ?_ | refine blk_alloc ?_ _)); exact BK226.out⟩, ⟨by exact lq HB.out⟩⟩
            ·rw [if_neg c31] at H
             exact absurd H (by simp)
           ·rw [if_neg c29] at H
            have c29b0 : (((rd_T70 l1 x9_3).f0) == 0) = false := beq_eq_false_iff_ne.mpr c29
            have c29b1 : (((rd_T70 l1 x9_3).f0) != 0) = true := bne_iff_ne.mpr c29
            by_cases c56 : ((rd_T70 l1 x9_3).f0) = 1
            ·rw [if_pos c56] at H
             have c56b0 : (((rd_T70 l1 x9_3).f0) == 1) = true := beq_iff_eq.mpr c56
             have c56b1 : (((rd_T70 l1 x9_3).f0) != 1) = false := bne_eq_false_iff_eq.mpr c56
             clear c56
             replace H := Option.bind_eq_some_iff.mp H
             obtain ⟨⟨t239, t242, t243⟩, A570, H⟩ := H
             (try dsimp only at H)
             have A57 := Aside0.mk A570
             clear A570
             by_cases c58 : x5_3.length < 8796093022208
             ·rw [if_pos c58] at H
              have LMc58 := Aside0.mk c58
              clear c58
              obtain ⟨y245, hy245⟩ : ∃ y_ : List (S72), y_ = (x5_3 ++ [(⟨t243, t242⟩ : S72)]) := ⟨_, rfl⟩
              replace H : (spec_ChanPlay.l1 k3 l1 y245 (wrap64 (x9_3 + 1)) a0_0 a0_1 a0_2 a0_3 x226000_3 x226001_3 t239) = some r := by first | (rw [hy245]; with_reducible exact H) | (have H2_ := (Option.bind_some _ _).symm.trans H; rw [hy245]; with_reducible exact H2_) | (have H2_ := (Option.bind_some _ _).symm.trans H; with_reducible exact H2_) | with_reducible exact H | (rw [hy245]; exact H) | exact H
              have Ny245 := Aside0.mk hy245
              clear hy245
              have H' := Aside0.mk H
              clear H
              go_wp2_with (first | ((with_reducible refine gate_dst (N := 10) rfl ?_); (try (refine gate_guard (by rfl) ?_; dsimp only)); refine box_event ?hg (N := 10) ?hd (cs := #[.int .i64 0, .int .u32 0]) (t := 72) ?hr ?_; (case hd => rfl); (case hg => rfl); (case hr => first | (go_simp; done) | (go_simp; rfl)); intro gb227 hg w59 hbox hb; have n0_ := Aside0.mk (Kd.R_below (Kd.R_elderB (rq HO_5.out) gb227 (Nat.le_of_eq hg.symm)) hb); have n1_ := Aside0.mk (Kd.R_below (rq HO_226001.out) hb); have n2_ := Aside0.mk (Kd.R_below (rq HO_227000.out) hb); have n3_ := Aside0.mk (blk_below (bq BK215.out) hb); have n4_ := Aside0.mk (blk_below (bq BK225.out) hb); have n5_ := Aside0.mk (blk_below (bq BK226.out) hb); have n6_ := Aside0.mk (below_step (lq HB.out) hb); have n7_ := Aside0.mk (hbox); have n8_ := Aside0.mk ((ge_new hg (lq HB.out) : w.heap.size ≤ gb227)); have n9_ := Aside0.mk ((ge_new hg (lq HB.out) : w.heap.size ≤ gb227)); have n10_ := Aside0.mk ((ne_new hg (bq BK215.out) : gb215 ≠ gb227)); have n11_ := Aside0.mk ((new_ne hg (bq BK215.out) : gb227 ≠ gb215)); have n12_ := Aside0.mk ((ne_new hg (bq BK225.out) : gb225 ≠ gb227)); have n13_ := Aside0.mk ((new_ne hg (bq BK225.out) : gb227 ≠ gb225)); have n14_ := Aside0.mk ((ne_new hg (bq BK226.out) : gb226 ≠ gb227)); have n15_ := Aside0.mk ((new_ne hg (bq BK226.out) : gb227 ≠ gb226)); clear HO_5; clear HO_226001; clear HO_227000; clear BK215; clear BK225; clear BK226; clear HB; have HO_5 := n0_; have HO_226001 := n1_; have HO_227000 := n2_; have BK215 := n3_; have BK225 := n4_; have BK226 := n5_; have HB := n6_; have BK227 := n7_; have GW227 := n8_; have GE227 := n9_; have NB215_227 := n10_; have NB227_215 := n11_; have NB225_227 := n12_; have NB227_225 := n13_; have NB226_227 := n14_; have NB227_226 := n15_; clear n0_ n1_ n2_ n3_ n4_ n5_ n6_ n7_ n8_ n9_ n10_ n11_ n12_ n13_ n14_ n15_; clear hb hbox hg; have hnb60 := NB227_215.out; have hnc60 := NB215_227.out; have hnb61 := NB227_225.out; have hnc61 := NB225_227.out; have hnb62 := NB227_226.out; have hnc62 := NB226_227.out; have hcz63_0 : w59.cell? ⟨gb227, 0, none⟩ = some (.int .i64 0) := (blk_cell BK227.out 0).trans rfl; have hcz63_1 : w59.cell? ⟨gb227, 1, none⟩ = some (.int .u32 0) := (blk_cell BK227.out 1).trans rfl; have hfz63_0 := blk_frozen BK227.out 0; have hfz63_1 := blk_frozen BK227.out 1; have p228 : 0 ≤ (x9_3 : Int) := of_decide_eq_true (by first | (with_reducible assumption) | assumption); have q228 : x9_3 < (l1.length : Int) := of_decide_eq_true (by first | (with_reducible assumption) | assumption); obtain ⟨ad228, e228, hx228_0, hx228_1⟩ := at_T70 HR1.out x9_3 p228 q228; cases e228; have hn228_0 : ad228.block ≠ gb227 := Nat.ne_of_lt (Nat.lt_of_lt_of_le (by have := World.block_lt_of_cell? _ _ hx228_0; first | rwa [add_block] at this | exact this) GW227.out); have hn228_1 : ad228.block ≠ gb227 := Nat.ne_of_lt (Nat.lt_of_lt_of_le (by have := World.block_lt_of_cell? _ _ hx228_0; first | rwa [add_block] at this | exact this) GW227.out); replace hx228_0 := (HB.out.cell (World.block_lt_of_cell? w _ hx228_0)).trans hx228_0; replace hx228_1 := (HB.out.cell (World.block_lt_of_cell? w _ hx228_1)).trans hx228_1; replace hx228_0 := (cell_far (p := ⟨gb227, 0, none⟩) (by first | (rw [add_block]; exact hn228_0) | (show (Addr.add _ _).block ≠ _; rw [add_block]; exact hn228_0) | exact hn228_0) (.int .i64 0)).trans hx228_0; replace hx228_1 := (cell_far (p := ⟨gb227, 0, none⟩) (by first | (rw [add_block]; exact hn228_0) | (show (Addr.add _ _).block ≠ _; rw [add_block]; exact hn228_0) | exact hn228_0) (.int .i64 0)).trans hx228_1; replace hx228_0 := (cell_far (p := ⟨gb227, 1, none⟩) (by first | (rw [add_block]; exact hn228_1) | (show (Addr.add _ _).block ≠ _; rw [add_block]; exact hn228_1) | exact hn228_1) (.int .u32 0)).trans hx228_0; replace hx228_1 := (cell_far (p := ⟨gb227, 1, none⟩) (by first | (rw [add_block]; exact hn228_1) | (show (Addr.add _ _).block ≠ _; rw [add_block]; exact hn228_1) | exact hn228_1) (.int .u32 0)).trans hx228_1; clear hn228_0; clear hn228_1; replace p228 := eq_true p228; replace q228 := eq_true q228; have hnb64 := NB215_225.out; have hnc64 := NB225_215.out; have hnb65 := NB215_226.out; have hnc65 := NB226_215.out; have hcz66_0 : w59.cell? ⟨gb215, 0, none⟩ = some (.int .i64 a0_0) := (blk_cell BK215.out 0).trans rfl; have hcz66_1 : w59.cell? ⟨gb215, 1, none⟩ = some (.int .i64 a0_1) := (blk_cell BK215.out 1).trans rfl; have hcz66_2 : w59.cell? ⟨gb215, 2, none⟩ = some (.int .i64 a0_2) := (blk_cell BK215.out 2).trans rfl; have hcz66_3 : w59.cell? ⟨gb215, 3, none⟩ = some (.int .i64 a0_3) := (blk_cell BK215.out 3).trans rfl; have hfz66_0 := blk_frozen BK215.out 0; have hfz66_1 := blk_frozen BK215.out 1; have hfz66_2 := blk_frozen BK215.out 2; have hfz66_3 := blk_frozen BK215.out 3; have hnb67 := NB226_225.out; have hnc67 := NB225_226.out; have hcz68_0 : w59.cell? ⟨gb226, 0, none⟩ = some (u227000) := (blk_cell BK226.out 0).trans rfl; have hfz68_0 := blk_frozen BK226.out 0; obtain ⟨Ao69, co69, eo69⟩ := Kd.R_slice HO_227000.out; subst eo69) | ((with_reducible refine gate_callee (f := 31) rfl ?_); refine goesL_ (some 81) rfl rfl Try.func31 (by kernel_rfl) rfl #[.agg #[.int .i64 a0_0, .int .i64 a0_1, .int .i64 a0_2, .int .i64 a0_3], .agg #[.slice Ao69 x227000_3.length co69]] rfl (by (try simp only [List.map_toArray, List.map_cons, List.map_nil]); first | done | rfl | (simp only [List.length_drop, List.length_take]; rfl)) ?_; (with_reducible refine (spec_RecvOn.calls a0_0 a0_1 a0_2 a0_3 _ _ x227000_3 t239 t242 t243 _ ?side1 ?side2 A57.out).mono ?_); (case side1 => refine (Kd.R_reads' (e := 46) (base := w.heap.size) (ok := fun k_ => some k_ ≠ (u226001 : Value).ownBlock) (n := x227000_3.length) (c := co69) ?_).2.2; exact (rq (Kd.R_mono (Kd.R_far (p := ⟨gb227, 1, none⟩) (Kd.R_far (p := ⟨gb227, 0, none⟩) (Kd.R_types HO_227000.out BK227.out (by decide)) (fun _ hk => hk.2) (.int .i64 0)) (fun _ hk => hk.2) (.int .u32 0)) (fun _ h_ => h_.1)))); (case side2 => exact (Kd.R_reads' HO_227000.out).2.1); rintro e w70 ⟨v240, rfl, ho0, hb⟩; refine ⟨_, rfl, ?_⟩; have n0_ := Aside0.mk (Kd.R_below (rq (Kd.R_mono (Kd.R_far (p := ⟨gb227, 1, none⟩) (Kd.R_far (p := ⟨gb227, 0, none⟩) (Kd.R_mono HO_5.out (fun k_ hk => (⟨hk, hk.2⟩ : _ ∧ k_ ≠ gb227))) (fun _ hk => hk.2) (.int .i64 0)) (fun _ hk => hk.2) (.int .u32 0)) (fun _ h_ => h_.1))) hb); have n1_ := Aside0.mk (Kd.R_elder' (rq (Kd.R_mono (Kd.R_far (p := ⟨gb227, 1, none⟩) (Kd.R_far (p := ⟨gb227, 0, none⟩) (Kd.R_types HO_226001.out BK227.out (by decide)) (fun _ hk => hk.2) (.int .i64 0)) (fun _ hk => hk.2) (.int .u32 0)) (fun _ h_ => h_.1))) (Kd.R_base ho0) hb); have n2_ := Aside0.mk (Kd.R_elder' (rq (Kd.R_mono (Kd.R_far (p := ⟨gb227, 1, none⟩) (Kd.R_far (p := ⟨gb227, 0, none⟩) (Kd.R_types HO_227000.out BK227.out (by decide)) (fun _ hk => hk.2) (.int .i64 0)) (fun _ hk => hk.2) (.int .u32 0)) (fun _ h_ => h_.1))) (Kd.R_base ho0) hb); have n3_ := Aside0.mk (Kd.R_lower (Kd.R_new' (Kd.R_new' ho0 (Kd.R_lt (rq (Kd.R_mono (Kd.R_far (p := ⟨gb227, 1, none⟩) (Kd.R_far (p := ⟨gb227, 0, none⟩) (Kd.R_types HO_226001.out BK227.out (by decide)) (fun _ hk => hk.2) (.int .i64 0)) (fun _ hk => hk.2) (.int .u32 0)) (fun _ h_ => h_.1))))) (Kd.R_lt (rq (Kd.R_mono (Kd.R_far (p := ⟨gb227, 1, none⟩) (Kd.R_far (p := ⟨gb227, 0, none⟩) (Kd.R_types HO_227000.out BK227.out (by decide)) (fun _ hk => hk.2) (.int .i64 0)) (fun _ hk => hk.2) (.int .u32 0)) (fun _ h_ => h_.1))))) (below_size (by repeat (first | (with_reducible first | exact HB.out | apply below_alloc | apply pw_below_drewN | apply below_drew1 | refine below_set ?_ GE227.out) | exact HB.out)))); have n4_ := Aside0.mk (blk_below (g := gb215) (o := .cells #[.int .i64 a0_0, .int .i64 a0_1, .int .i64 a0_2, .int .i64 a0_3] 29 (0, 0)) (by (with_reducible repeat (first | refine blk_drewN ?_ _ | refine blk_drew ?_ | refine blk_alloc ?_ _)); refine blk_far ?_ NB215_227.out _; (with_reducible repeat (first | refine blk_drewN ?_ _ | refine blk_drew ?_ | refine blk_alloc ?_ _)); refine blk_far ?_ NB215_227.out _; (with_reducible repeat (first | refine blk_drewN ?_ _ | refine blk_drew ?_ | refine blk_alloc ?_ _)); exact BK215.out) hb); have n5_ := Aside0.mk (blk_below (g := gb225) (o := .cells #[.int .i64 x226000_3, u226001] 39 (0, 0)) (by (with_reducible repeat (first | refine blk_drewN ?_ _ | refine blk_drew ?_ | refine blk_alloc ?_ _)); refine blk_far ?_ NB225_227.out _; (with_reducible repeat (first | refine blk_drewN ?_ _ | refine blk_drew ?_ | refine blk_alloc ?_ _)); refine blk_far ?_ NB225_227.out _; (with_reducible repeat (first | refine blk_drewN ?_ _ | refine blk_drew ?_ | refine blk_alloc ?_ _)); exact BK225.out) hb); have n6_ := Aside0.mk (blk_below (g := gb226) (o := .cells #[.slice Ao69 x227000_3.length co69] 31 (0, 0)) (by (with_reducible repeat (first | refine blk_drewN ?_ _ | refine blk_drew ?_ | refine blk_alloc ?_ _)); refine blk_far ?_ NB226_227.out _; (with_reducible repeat (first | refine blk_drewN ?_ _ | refine blk_drew ?_ | refine blk_alloc ?_ _)); refine blk_far ?_ NB226_227.out _; (with_reducible repeat (first | refine blk_drewN ?_ _ | refine blk_drew ?_ | refine blk_alloc ?_ _)); exact BK226.out) hb); have n7_ := Aside0.mk (blk_below (g := gb227) (o := .cells #[.int .i64 0, .int .u32 0] 72 (0, 0)) (by (with_reducible repeat (first | refine blk_drewN ?_ _ | refine blk_drew ?_ | refine blk_alloc ?_ _)); refine blk_put (cs := #[.int .i64 0, .int .u32 0]) ?_ 1 _ rfl; (with_reducible repeat (first | refine blk_drewN ?_ _ | refine blk_drew ?_ | refine blk_alloc ?_ _)); refine blk_put (cs := #[.int .i64 0, .int .u32 0]) ?_ 0 _ rfl; (with_reducible repeat (first | refine blk_drewN ?_ _ | refine blk_drew ?_ | refine blk_alloc ?_ _)); exact BK227.out) hb); have n8_ := Aside0.mk (below_step (by repeat (first | (with_reducible first | exact HB.out | apply below_alloc | apply pw_below_drewN | apply below_drew1 | refine below_set ?_ GE227.out) | exact HB.out)) hb); clear HO_5; clear HO_226001; clear HO_227000; clear BK215; clear BK225; clear BK226; clear BK227; clear HB; have HO_5 := n0_; have HO_226001 := n1_; have HO_227000 := n2_; have HO241 := n3_; have BK215 := n4_; have BK225 := n5_; have BK226 := n6_; have BK227 := n7_; have HB := n8_; clear n0_ n1_ n2_ n3_ n4_ n5_ n6_ n7_ n8_; (try clear hb); (try clear hb2); (try clear hk); (try clear hi); (try clear ho0)) | ((with_reducible refine gate_dst (N := 13) rfl ?_); (try (refine gate_guard (by rfl) ?_; dsimp only)); refine box_event ?hg (N := 13) ?hd (cs := #[.slice none 0 0]) (t := 31) ?hr ?_; (case hd => rfl); (case hg => rfl); (case hr => first | (go_simp; done) | (go_simp; rfl)); intro gb244 hg w71 hbox hb; have n0_ := Aside0.mk (Kd.R_below (rq HO_5.out) hb); have n1_ := Aside0.mk (Kd.R_below (rq HO_226001.out) hb); have n2_ := Aside0.mk (Kd.R_below (rq HO_227000.out) hb); have n3_ := Aside0.mk (Kd.R_below (rq HO241.out) hb); have n4_ := Aside0.mk (blk_below (bq BK215.out) hb); have n5_ := Aside0.mk (blk_below (bq BK225.out) hb); have n6_ := Aside0.mk (blk_below (bq BK226.out) hb); have n7_ := Aside0.mk (blk_below (bq BK227.out) hb); have n8_ := Aside0.mk (below_step (lq HB.out) hb); have n9_ := Aside0.mk (hbox); have n10_ := Aside0.mk ((ge_new hg (lq HB.out) : w.heap.size ≤ gb244)); have n11_ := Aside0.mk ((ge_new hg (lq HB.out) : w.heap.size ≤ gb244)); have n12_ := Aside0.mk ((ne_new hg (bq BK215.out) : gb215 ≠ gb244)); have n13_ := Aside0.mk ((new_ne hg (bq BK215.out) : gb244 ≠ gb215)); have n14_ := Aside0.mk ((ne_new hg (bq BK225.out) : gb225 ≠ gb244)); have n15_ := Aside0.mk ((new_ne hg (bq BK225.out) : gb244 ≠ gb225)); have n16_ := Aside0.mk ((ne_new hg (bq BK226.out) : gb226 ≠ gb244)); have n17_ := Aside0.mk ((new_ne hg (bq BK226.out) : gb244 ≠ gb226)); have n18_ := Aside0.mk ((ne_new hg (bq BK227.out) : gb227 ≠ gb244)); have n19_ := Aside0.mk ((new_ne hg (bq BK227.out) : gb244 ≠ gb227)); clear HO_5; clear HO_226001; clear HO_227000; clear HO241; clear BK215; clear BK225; clear BK226; clear BK227; clear HB; have HO_5 := n0_; have HO_226001 := n1_; have HO_227000 := n2_; have HO241 := n3_; have BK215 := n4_; have BK225 := n5_; have BK226 := n6_; have BK227 := n7_; have HB := n8_; have BK244 := n9_; have GW244 := n10_; have GE244 := n11_; have NB215_244 := n12_; have NB244_215 := n13_; have NB225_244 := n14_; have NB244_225 := n15_; have NB226_244 := n16_; have NB244_226 := n17_; have NB227_244 := n18_; have NB244_227 := n19_; clear n0_ n1_ n2_ n3_ n4_ n5_ n6_ n7_ n8_ n9_ n10_ n11_ n12_ n13_ n14_ n15_ n16_ n17_ n18_ n19_; clear hb hbox hg; obtain ⟨Ao72, co72, eo72⟩ := Kd.R_slice HO241.out; subst eo72; have hnb73 := NB244_215.out; have hnc73 := NB215_244.out; have hnb74 := NB244_225.out; have hnc74 := NB225_244.out; have hnb75 := NB244_226.out; have hnc75 := NB226_244.out; have hnb76 := NB244_227.out; have hnc76 := NB227_244.out; have hcz77_0 : w71.cell? ⟨gb244, 0, none⟩ = some (.slice none 0 0) := (blk_cell BK244.out 0).trans rfl; have hfz77_0 := blk_frozen BK244.out 0; have hcz78_0 : w71.cell? ⟨gb226, 0, none⟩ = some (.slice Ao69 x227000_3.length co69) := (blk_cell BK226.out 0).trans rfl; have hfz78_0 := blk_frozen BK226.out 0; have hcz79_0 : w71.cell? ⟨gb227, 0, none⟩ = some (.int .i64 0) := (blk_cell BK227.out 0).trans rfl; have hcz79_1 : w71.cell? ⟨gb227, 1, none⟩ = some (.int .u32 0) := (blk_cell BK227.out 1).trans rfl; have hfz79_0 := blk_frozen BK227.out 0; have hfz79_1 := blk_frozen BK227.out 1) | ((with_reducible refine gate_builtin (b := .append) (xs := #[.tmp 102, .tmp 104]) rfl ?_); (try (refine gate_guard (by rfl) ?_; dsimp only)); at_builtin; refine Kd.R_append k72 (w0 := w) w.heap.size rfl (.tmp 102) (.tmp 104) 66 72 (.agg #[(.int .i64 0), (.int .u32 0)]) 16 rfl Try.underlying66 info72 rfl (by decide) (by omega) u5 x5_3 (⟨t243, t242⟩ : S72) [.int .i64 t243, .int .u32 t242] (fun k_ => k_ ≠ gb227) (fun _ => False) rfl (by first | (go_simp; done) | (go_simp; rfl)) ?aP (fun _ hk => hk.elim) ?aF ?aO ?aB ?aS ?aL ?_; (case aP => exact k72_mkM _ _ _ (⟨t243, t242⟩ : S72)); (case aB => exact (by repeat (first | (with_reducible first | exact HB.out | apply below_alloc | apply pw_below_drewN | apply below_drew1 | refine below_set ?_ GE226.out | refine below_set ?_ GE227.out | refine below_set ?_ GE244.out) | exact HB.out))); (case aF => exact (fun k_ hk => Kd.freshB (g := gb227) (o := .cells #[.int .i64 t243, .int .u32 t242] 72 (0, 0)) (by (with_reducible repeat (first | refine blk_drewN ?_ _ | refine blk_drew ?_ | refine blk_alloc ?_ _)); refine blk_put (cs := #[.int .i64 t243, .int .u32 0]) ?_ 1 _ rfl; (with_reducible repeat (first | refine blk_drewN ?_ _ | refine blk_drew ?_ | refine blk_alloc ?_ _)); refine blk_put (cs := #[.int .i64 0, .int .u32 0]) ?_ 0 _ rfl; (with_reducible repeat (first | refine blk_drewN ?_ _ | refine blk_drew ?_ | refine blk_alloc ?_ _)); refine blk_far ?_ NB227_226.out _; (with_reducible repeat (first | refine blk_drewN ?_ _ | refine blk_drew ?_ | refine blk_alloc ?_ _)); refine blk_far ?_ NB227_244.out _; (with_reducible repeat (first | refine blk_drewN ?_ _ | refine blk_drew ?_ | refine blk_alloc ?_ _)); exact BK227.out) k_ hk)); (case aO => exact (by (with_reducible repeat (first | apply Kd.R_alloc | apply Kd.R_drewN | apply Kd.R_drew)); exact Kd.R_mono (Kd.R_far (p := ⟨gb227, 1, none⟩) (Kd.R_far (p := ⟨gb227, 0, none⟩) (Kd.R_far (p := ⟨gb226, 0, none⟩) (Kd.R_far (p := ⟨gb244, 0, none⟩) (Kd.R_mono (Kd.R_types (Kd.R_types HO_5.out BK244.out (by decide)) BK226.out (by decide)) (fun k_ hk => (⟨hk, hk.1.1.2⟩ : _ ∧ k_ ≠ gb227))) (fun _ hk => hk.1.1.2) (.slice Ao72 t239.length co72)) (fun _ hk => hk.1.2) (.slice Ao72 t239.length co72)) (fun _ hk => hk.2) (.int .i64 t243)) (fun _ hk => hk.2) (.int .u32 t242)) (fun _ hk => hk.1.1.1.2))); (case aS => exact (below_size (by repeat (first | (with_reducible first | exact HB.out | apply below_alloc | apply pw_below_drewN | apply below_drew1 | refine below_set ?_ GE226.out | refine below_set ?_ GE227.out | refine below_set ?_ GE244.out) | exact HB.out)))); (case aL => have := LMc58.out; omega); intro v246 w80 ho hb hg hat; rw [← Ny245.out] at ho; have n0_ := Aside0.mk (Kd.R_over' (rq (Kd.R_mono (Kd.R_mono (Kd.R_mono (Kd.R_far (p := ⟨gb227, 1, none⟩) (Kd.R_far (p := ⟨gb227, 0, none⟩) (Kd.R_far (p := ⟨gb226, 0, none⟩) (Kd.R_far (p := ⟨gb244, 0, none⟩) (Kd.R_types (Kd.R_types (Kd.R_types HO_226001.out BK244.out (by decide)) BK226.out (by decide)) BK227.out (by decide)) (fun _ hk => hk.1.1.2) (.slice Ao72 t239.length co72)) (fun _ hk => hk.1.2) (.slice Ao72 t239.length co72)) (fun _ hk => hk.2) (.int .i64 t243)) (fun _ hk => hk.2) (.int .u32 t242)) (fun _ h_ => h_.1)) (fun _ h_ => h_.1)) (fun _ h_ => h_.1))) (Kd.R_typed (rq (Kd.R_mono (Kd.R_mono (Kd.R_mono (Kd.R_far (p := ⟨gb227, 1, none⟩) (Kd.R_far (p := ⟨gb227, 0, none⟩) (Kd.R_far (p := ⟨gb226, 0, none⟩) (Kd.R_far (p := ⟨gb244, 0, none⟩) (Kd.R_mono (Kd.R_types (Kd.R_types HO_5.out BK244.out (by decide)) BK226.out (by decide)) (fun k_ hk => (⟨hk, hk.1.1.2⟩ : _ ∧ k_ ≠ gb227))) (fun _ hk => hk.1.1.2) (.slice Ao72 t239.length co72)) (fun _ hk => hk.1.2) (.slice Ao72 t239.length co72)) (fun _ hk => hk.2) (.int .i64 t243)) (fun _ hk => hk.2) (.int .u32 t242)) (fun _ h_ => h_.1)) (fun _ h_ => h_.1)) (fun _ h_ => h_.1)))) (by decide) hg); have n1_ := Aside0.mk (Kd.R_over' (rq (Kd.R_mono (Kd.R_mono (Kd.R_mono (Kd.R_far (p := ⟨gb227, 1, none⟩) (Kd.R_far (p := ⟨gb227, 0, none⟩) (Kd.R_far (p := ⟨gb226, 0, none⟩) (Kd.R_far (p := ⟨gb244, 0, none⟩) (Kd.R_types (Kd.R_types (Kd.R_types HO_227000.out BK244.out (by decide)) BK226.out (by decide)) BK227.out (by decide)) (fun _ hk => hk.1.1.2) (.slice Ao72 t239.length co72)) (fun _ hk => hk.1.2) (.slice Ao72 t239.length co72)) (fun _ hk => hk.2) (.int .i64 t243)) (fun _ hk => hk.2) (.int .u32 t242)) (fun _ h_ => h_.1)) (fun _ h_ => h_.1)) (fun _ h_ => h_.1))) (Kd.R_typed (rq (Kd.R_mono (Kd.R_mono (Kd.R_mono (Kd.R_far (p := ⟨gb227, 1, none⟩) (Kd.R_far (p := ⟨gb227, 0, none⟩) (Kd.R_far (p := ⟨gb226, 0, none⟩) (Kd.R_far (p := ⟨gb244, 0, none⟩) (Kd.R_mono (Kd.R_types (Kd.R_types HO_5.out BK244.out (by decide)) BK226.out (by decide)) (fun k_ hk => (⟨hk, hk.1.1.2⟩ : _ ∧ k_ ≠ gb227))) (fun _ hk => hk.1.1.2) (.slice Ao72 t239.length co72)) (fun _ hk => hk.1.2) (.slice Ao72 t239.length co72)) (fun _ hk => hk.2) (.int .i64 t243)) (fun _ hk => hk.2) (.int .u32 t242)) (fun _ h_ => h_.1)) (fun _ h_ => h_.1)) (fun _ h_ => h_.1)))) (by decide) hg); have n2_ := Aside0.mk (blk_grown (g := gb215) (o := .cells #[.int .i64 a0_0, .int .i64 a0_1, .int .i64 a0_2, .int .i64 a0_3] 29 (0, 0)) (by (with_reducible repeat (first | refine blk_drewN ?_ _ | refine blk_drew ?_ | refine blk_alloc ?_ _)); refine blk_far ?_ NB215_227.out _; (with_reducible repeat (first | refine blk_drewN ?_ _ | refine blk_drew ?_ | refine blk_alloc ?_ _)); refine blk_far ?_ NB215_227.out _; (with_reducible repeat (first | refine blk_drewN ?_ _ | refine blk_drew ?_ | refine blk_alloc ?_ _)); refine blk_far ?_ NB215_226.out _; (with_reducible repeat (first | refine blk_drewN ?_ _ | refine blk_drew ?_ | refine blk_alloc ?_ _)); refine blk_far ?_ NB215_244.out _; (with_reducible repeat (first | refine blk_drewN ?_ _ | refine blk_drew ?_ | refine blk_alloc ?_ _)); exact BK215.out) hg (Kd.R_ne HO_5.out BK215.out (by decide))); have n3_ := Aside0.mk (blk_grown (g := gb225) (o := .cells #[.int .i64 x226000_3, u226001] 39 (0, 0)) (by (with_reducible repeat (first | refine blk_drewN ?_ _ | refine blk_drew ?_ | refine blk_alloc ?_ _)); refine blk_far ?_ NB225_227.out _; (with_reducible repeat (first | refine blk_drewN ?_ _ | refine blk_drew ?_ | refine blk_alloc ?_ _)); refine blk_far ?_ NB225_227.out _; (with_reducible repeat (first | refine blk_drewN ?_ _ | refine blk_drew ?_ | refine blk_alloc ?_ _)); refine blk_far ?_ NB225_226.out _; (with_reducible repeat (first | refine blk_drewN ?_ _ | refine blk_drew ?_ | refine blk_alloc ?_ _)); refine blk_far ?_ NB225_244.out _; (with_reducible repeat (first | refine blk_drewN ?_ _ | refine blk_drew ?_ | refine blk_alloc ?_ _)); exact BK225.out) hg (Kd.R_ne HO_5.out BK225.out (by decide))); have n4_ := Aside0.mk (blk_grown (g := gb226) (o := .cells #[.slice Ao72 t239.length co72] 31 (0, 0)) (by (with_reducible repeat (first | refine blk_drewN ?_ _ | refine blk_drew ?_ | refine blk_alloc ?_ _)); refine blk_far ?_ NB226_227.out _; (with_reducible repeat (first | refine blk_drewN ?_ _ | refine blk_drew ?_ | refine blk_alloc ?_ _)); refine blk_far ?_ NB226_227.out _; (with_reducible repeat (first | refine blk_drewN ?_ _ | refine blk_drew ?_ | refine blk_alloc ?_ _)); refine blk_put (cs := #[.slice Ao69 x227000_3.length co69]) ?_ 0 _ rfl; (with_reducible repeat (first | refine blk_drewN ?_ _ | refine blk_drew ?_ | refine blk_alloc ?_ _)); refine blk_far ?_ NB226_244.out _; (with_reducible repeat (first | refine blk_drewN ?_ _ | refine blk_drew ?_ | refine blk_alloc ?_ _)); exact BK226.out) hg (Kd.R_ne HO_5.out BK226.out (by decide))); have n5_ := Aside0.mk (blk_grown (g := gb227) (o := .cells #[.int .i64 t243, .int .u32 t242] 72 (0, 0)) (by (with_reducible repeat (first | refine blk_drewN ?_ _ | refine blk_drew ?_ | refine blk_alloc ?_ _)); refine blk_put (cs := #[.int .i64 t243, .int .u32 0]) ?_ 1 _ rfl; (with_reducible repeat (first | refine blk_drewN ?_ _ | refine blk_drew ?_ | refine blk_alloc ?_ _)); refine blk_put (cs := #[.int .i64 0, .int .u32 0]) ?_ 0 _ rfl; (with_reducible repeat (first | refine blk_drewN ?_ _ | refine blk_drew ?_ | refine blk_alloc ?_ _)); refine blk_far ?_ NB227_226.out _; (with_reducible repeat (first | refine blk_drewN ?_ _ | refine blk_drew ?_ | refine blk_alloc ?_ _)); refine blk_far ?_ NB227_244.out _; (with_reducible repeat (first | refine blk_drewN ?_ _ | refine blk_drew ?_ | refine blk_alloc ?_ _)); exact BK227.out) hg (Kd.R_away HO_5.out (fun _ hk => hk.2))); have n6_ := Aside0.mk (Kd.R_over' (rq (Kd.R_mono (Kd.R_mono (Kd.R_mono (Kd.R_far (p := ⟨gb227, 1, none⟩) (Kd.R_far (p := ⟨gb227, 0, none⟩) (Kd.R_far (p := ⟨gb226, 0, none⟩) (Kd.R_far (p := ⟨gb244, 0, none⟩) (Kd.R_types (Kd.R_types (Kd.R_types HO241.out BK244.out (by decide)) BK226.out (by decide)) BK227.out (by decide)) (fun _ hk => hk.1.1.2) (.slice Ao72 t239.length co72)) (fun _ hk => hk.1.2) (.slice Ao72 t239.length co72)) (fun _ hk => hk.2) (.int .i64 t243)) (fun _ hk => hk.2) (.int .u32 t242)) (fun _ h_ => h_.1)) (fun _ h_ => h_.1)) (fun _ h_ => h_.1))) (Kd.R_typed (rq (Kd.R_mono (Kd.R_mono (Kd.R_mono (Kd.R_far (p := ⟨gb227, 1, none⟩) (Kd.R_far (p := ⟨gb227, 0, none⟩) (Kd.R_far (p := ⟨gb226, 0, none⟩) (Kd.R_far (p := ⟨gb244, 0, none⟩) (Kd.R_mono (Kd.R_types (Kd.R_types HO_5.out BK244.out (by decide)) BK226.out (by decide)) (fun k_ hk => (⟨hk, hk.1.1.2⟩ : _ ∧ k_ ≠ gb227))) (fun _ hk => hk.1.1.2) (.slice Ao72 t239.length co72)) (fun _ hk => hk.1.2) (.slice Ao72 t239.length co72)) (fun _ hk => hk.2) (.int .i64 t243)) (fun _ hk => hk.2) (.int .u32 t242)) (fun _ h_ => h_.1)) (fun _ h_ => h_.1)) (fun _ h_ => h_.1)))) (by decide) hg); have n7_ := Aside0.mk (blk_grown (g := gb244) (o := .cells #[.slice Ao72 t239.length co72] 31 (0, 0)) (by (with_reducible repeat (first | refine blk_drewN ?_ _ | refine blk_drew ?_ | refine blk_alloc ?_ _)); refine blk_far ?_ NB244_227.out _; (with_reducible repeat (first | refine blk_drewN ?_ _ | refine blk_drew ?_ | refine blk_alloc ?_ _)); refine blk_far ?_ NB244_227.out _; (with_reducible repeat (first | refine blk_drewN ?_ _ | refine blk_drew ?_ | refine blk_alloc ?_ _)); refine blk_far ?_ NB244_226.out _; (with_reducible repeat (first | refine blk_drewN ?_ _ | refine blk_drew ?_ | refine blk_alloc ?_ _)); refine blk_put (cs := #[.slice none 0 0]) ?_ 0 _ rfl; (with_reducible repeat (first | refine blk_drewN ?_ _ | refine blk_drew ?_ | refine blk_alloc ?_ _)); exact BK244.out) hg (Kd.R_ne HO_5.out BK244.out (by decide))); have n8_ := Aside0.mk (hb); have n9_ := Aside0.mk (ho); clear HO_226001; clear HO_227000; clear BK215; clear BK225; clear BK226; clear BK227; clear HO241; clear BK244; clear HB; clear HO_5; have HO_226001 := n0_; have HO_227000 := n1_; have BK215 := n2_; have BK225 := n3_; have BK226 := n4_; have BK227 := n5_; have HO241 := n6_; have BK244 := n7_; have HB := n8_; have HO247 := n9_; clear n0_ n1_ n2_ n3_ n4_ n5_ n6_ n7_ n8_ n9_; clear ho hb hg hat))
              go_roundg k3
              case measure => have := HJ2.out; have := HK2.out; have := HK3.out; omega
              case rel => exact ⟨(y245), (wrap64 (x9_3 + 1)), (x226000_3), (x226001_3), (t239), (u226001), (.slice Ao72 t239.length co72), (by first | rfl | (simp; done) | (simp [*]; done)), H', ⟨by have := HJ2.out; have := HK2.out; have := HK3.out; omega⟩, ⟨by (with_reducible repeat (first | apply Kd.R_alloc | apply Kd.R_drewN | apply Kd.R_drew)); exact Kd.R_mono HO247.out (fun _ hk => trivial)⟩, ⟨by (with_reducible repeat (first | apply Kd.R_alloc | apply Kd.R_drewN | apply Kd.R_drew)); exact Kd.R_mono HO_226001.out (fun _ hk => hk.2)⟩, ⟨by (with_reducible repeat (first | apply Kd.R_alloc | apply Kd.R_drewN | apply Kd.R_drew)); exact Kd.R_mono HO241.out (fun _ hk => hk.1.2)⟩, ⟨by (with_reducible repeat (first | refine blk_drewN ?_ _ | refine blk_drew ?_ | refine blk_alloc ?_ _)); exact BK215.out⟩, ⟨by (with_reducible repeat (first | refine blk_drewN ?_ _ | refine blk_drew ?_ | refine blk_alloc ?_ _)); exact BK225.out⟩, ⟨by (with_reducible repeat (first | refine blk_drewN ?_ _ | refine blk_drew ?_ | refine blk_alloc ?_ _)); exact BK226.out⟩, ⟨by exact lq HB.out⟩⟩
             ·rw [if_neg c58] at H
              exact absurd H (by simp)
            ·rw [if_neg c56] at H
             have c56b0 : (((rd_T70 l1 x9_3).f0) == 1) = false := beq_eq_false_iff_ne.mpr c56
             have c56b1 : (((rd_T70 l1 x9_3).f0) != 1) = true := bne_iff_ne.mpr c56
             by_cases c81 : ((rd_T70 l1 x9_3).f0) = 2
             ·rw [if_pos c81] at H
              have c81b0 : (((rd_T70 l1 x9_3).f0) == 2) = true := beq_iff_eq.mpr c81
              have c81b1 : (((rd_T70 l1 x9_3).f0) != 2) = false := bne_eq_false_iff_eq.mpr c81
              clear c81
              replace H := Option.bind_eq_some_iff.mp H
              obtain ⟨⟨t248, t249, t252, t255⟩, A820, H⟩ := H
              (try dsimp only at H)
              have A82 := Aside0.mk A820
              clear A820
              by_cases c83 : x5_3.length < 8796093022208
              ·rw [if_pos c83] at H
               have LMc83 := Aside0.mk c83
               clear c83
               obtain ⟨y260, hy260⟩ : ∃ y_ : List (S72), y_ = (x5_3 ++ [(⟨0, 0⟩ : S72)]) := ⟨_, rfl⟩
               replace H : (spec_ChanPlay.l1 k3 l1 y260 (wrap64 (x9_3 + 1)) a0_0 a0_1 a0_2 a0_3 t248 t249 t252) = some r := by first | (rw [hy260]; with_reducible exact H) | (have H2_ := (Option.bind_some _ _).symm.trans H; rw [hy260]; with_reducible exact H2_) | (have H2_ := (Option.bind_some _ _).symm.trans H; with_reducible exact H2_) | with_reducible exact H | (rw [hy260]; exact H) | exact H
               have Ny260 := Aside0.mk hy260
               clear hy260
               have H' := Aside0.mk H
               clear H
               go_wp2_with (first | ((with_reducible refine gate_dst (N := 10) rfl ?_); (try (refine gate_guard (by rfl) ?_; dsimp only)); refine box_event ?hg (N := 10) ?hd (cs := #[.int .i64 0, .int .u32 0]) (t := 72) ?hr ?_; (case hd => rfl); (case hg => rfl); (case hr => first | (go_simp; done) | (go_simp; rfl)); intro gb227 hg w84 hbox hb; have n0_ := Aside0.mk (Kd.R_below (Kd.R_elderB (rq HO_5.out) gb227 (Nat.le_of_eq hg.symm)) hb); have n1_ := Aside0.mk (Kd.R_below (rq HO_226001.out) hb); have n2_ := Aside0.mk (Kd.R_below (rq HO_227000.out) hb); have n3_ := Aside0.mk (blk_below (bq BK215.out) hb); have n4_ := Aside0.mk (blk_below (bq BK225.out) hb); have n5_ := Aside0.mk (blk_below (bq BK226.out) hb); have n6_ := Aside0.mk (below_step (lq HB.out) hb); have n7_ := Aside0.mk (hbox); have n8_ := Aside0.mk ((ge_new hg (lq HB.out) : w.heap.size ≤ gb227)); have n9_ := Aside0.mk ((ge_new hg (lq HB.out) : w.heap.size ≤ gb227)); have n10_ := Aside0.mk ((ne_new hg (bq BK215.out) : gb215 ≠ gb227)); have n11_ := Aside0.mk ((new_ne hg (bq BK215.out) : gb227 ≠ gb215)); have n12_ := Aside0.mk ((ne_new hg (bq BK225.out) : gb225 ≠ gb227)); have n13_ := Aside0.mk ((new_ne hg (bq BK225.out) : gb227 ≠ gb225)); have n14_ := Aside0.mk ((ne_new hg (bq BK226.out) : gb226 ≠ gb227)); have n15_ := Aside0.mk ((new_ne hg (bq BK226.out) : gb227 ≠ gb226)); clear HO_5; clear HO_226001; clear HO_227000; clear BK215; clear BK225; clear BK226; clear HB; have HO_5 := n0_; have HO_226001 := n1_; have HO_227000 := n2_; have BK215 := n3_; have BK225 := n4_; have BK226 := n5_; have HB := n6_; have BK227 := n7_; have GW227 := n8_; have GE227 := n9_; have NB215_227 := n10_; have NB227_215 := n11_; have NB225_227 := n12_; have NB227_225 := n13_; have NB226_227 := n14_; have NB227_226 := n15_; clear n0_ n1_ n2_ n3_ n4_ n5_ n6_ n7_ n8_ n9_ n10_ n11_ n12_ n13_ n14_ n15_; clear hb hbox hg; have hnb85 := NB227_215.out; have hnc85 := NB215_227.out; have hnb86 := NB227_225.out; have hnc86 := NB225_227.out; have hnb87 := NB227_226.out; have hnc87 := NB226_227.out; have hcz88_0 : w84.cell? ⟨gb227, 0, none⟩ = some (.int .i64 0) := (blk_cell BK227.out 0).trans rfl; have hcz88_1 : w84.cell? ⟨gb227, 1, none⟩ = some (.int .u32 0) := (blk_cell BK227.out 1).trans rfl; have hfz88_0 := blk_frozen BK227.out 0; have hfz88_1 := blk_frozen BK227.out 1; have p228 : 0 ≤ (x9_3 : Int) := of_decide_eq_true (by first | (with_reducible assumption) | assumption); have q228 : x9_3 < (l1.length : Int) := of_decide_eq_true (by first | (with_reducible assumption) | assumption); obtain ⟨ad228, e228, hx228_0, hx228_1⟩ := at_T70 HR1.out x9_3 p228 q228; cases e228; have hn228_0 : ad228.block ≠ gb227 := Nat.ne_of_lt (Nat.lt_of_lt_of_le (by have := World.block_lt_of_cell? _ _ hx228_0; first | rwa [add_block] at this | exact this) GW227.out); have hn228_1 : ad228.block ≠ gb227 := Nat.ne_of_lt (Nat.lt_of_lt_of_le (by have := World.block_lt_of_cell? _ _ hx228_0; first | rwa [add_block] at this | exact this) GW227.out); replace hx228_0 := (HB.out.cell (World.block_lt_of_cell? w _ hx228_0)).trans hx228_0; replace hx228_1 := (HB.out.cell (World.block_lt_of_cell? w _ hx228_1)).trans hx228_1; replace hx228_0 := (cell_far (p := ⟨gb227, 0, none⟩) (by first | (rw [add_block]; exact hn228_0) | (show (Addr.add _ _).block ≠ _; rw [add_block]; exact hn228_0) | exact hn228_0) (.int .i64 0)).trans hx228_0; replace hx228_1 := (cell_far (p := ⟨gb227, 0, none⟩) (by first | (rw [add_block]; exact hn228_0) | (show (Addr.add _ _).block ≠ _; rw [add_block]; exact hn228_0) | exact hn228_0) (.int .i64 0)).trans hx228_1; replace hx228_0 := (cell_far (p := ⟨gb227, 1, none⟩) (by first | (rw [add_block]; exact hn228_1) | (show (Addr.add _ _).block ≠ _; rw [add_block]; exact hn228_1) | exact hn228_1) (.int .u32 0)).trans hx228_0; replace hx228_1 := (cell_far (p := ⟨gb227, 1, none⟩) (by first | (rw [add_block]; exact hn228_1) | (show (Addr.add _ _).block ≠ _; rw [add_block]; exact hn228_1) | exact hn228_1) (.int .u32 0)).trans hx228_1; clear hn228_0; clear hn228_1; replace p228 := eq_true p228; replace q228 := eq_true q228; have hnb89 := NB215_225.out; have hnc89 := NB225_215.out; have hnb90 := NB215_226.out; have hnc90 := NB226_215.out; have hcz91_0 : w84.cell? ⟨gb215, 0, none⟩ = some (.int .i64 a0_0) := (blk_cell BK215.out 0).trans rfl; have hcz91_1 : w84.cell? ⟨gb215, 1, none⟩ = some (.int .i64 a0_1) := (blk_cell BK215.out 1).trans rfl; have hcz91_2 : w84.cell? ⟨gb215, 2, none⟩ = some (.int .i64 a0_2) := (blk_cell BK215.out 2).trans rfl; have hcz91_3 : w84.cell? ⟨gb215, 3, none⟩ = some (.int .i64 a0_3) := (blk_cell BK215.out 3).trans rfl; have hfz91_0 := blk_frozen BK215.out 0; have hfz91_1 := blk_frozen BK215.out 1; have hfz91_2 := blk_frozen BK215.out 2; have hfz91_3 := blk_frozen BK215.out 3; have hnb92 := NB225_226.out; have hnc92 := NB226_225.out; have hcz93_0 : w84.cell? ⟨gb225, 0, none⟩ = some (.int .i64 x226000_3) := (blk_cell BK225.out 0).trans rfl; have hcz93_1 : w84.cell? ⟨gb225, 1, none⟩ = some (u226001) := (blk_cell BK225.out 1).trans rfl; have hfz93_0 := blk_frozen BK225.out 0; have hfz93_1 := blk_frozen BK225.out 1; have hcz94_0 : w84.cell? ⟨gb226, 0, none⟩ = some (u227000) := (blk_cell BK226.out 0).trans rfl; have hfz94_0 := blk_frozen BK226.out 0; obtain ⟨Ao95, co95, eo95⟩ := Kd.R_slice HO_226001.out; subst eo95; obtain ⟨Ao96, co96, eo96⟩ := Kd.R_slice HO_227000.out; subst eo96) | ((with_reducible refine gate_callee (f := 37) rfl ?_); refine goesL_ (some 96) rfl rfl Try.func37 (by kernel_rfl) rfl #[.agg #[.int .i64 a0_0, .int .i64 a0_1, .int .i64 a0_2, .int .i64 a0_3], .agg #[.int .i64 x226000_3, .slice Ao95 x226001_3.length co95], .agg #[.slice Ao96 x227000_3.length co96]] rfl (by (try simp only [List.map_toArray, List.map_cons, List.map_nil]); first | done | rfl | (simp only [List.length_drop, List.length_take]; rfl)) ?_; (with_reducible refine (spec_Border.calls k3 a0_0 a0_1 a0_2 a0_3 x226000_3 _ _ x226001_3 _ _ x227000_3 t248 t249 t252 t255 _ ?side1 ?side2 ?side3 ?side4 A82.out).mono ?_); (case side1 => refine (Kd.R_reads' (e := 46) (base := w.heap.size) (ok := fun k_ => some k_ ≠ (.slice Ao96 x227000_3.length co96 : Value).ownBlock) (n := x226001_3.length) (c := co95) ?_).2.2; exact (rq (Kd.R_mono (Kd.R_far (p := ⟨gb227, 1, none⟩) (Kd.R_far (p := ⟨gb227, 0, none⟩) (Kd.R_types HO_226001.out BK227.out (by decide)) (fun _ hk => hk.2) (.int .i64 0)) (fun _ hk => hk.2) (.int .u32 0)) (fun _ h_ => h_.1)))); (case side2 => exact (Kd.R_reads' HO_226001.out).2.1); (case side3 => refine (Kd.R_reads' (e := 46) (base := w.heap.size) (ok := fun k_ => some k_ ≠ (.slice Ao95 x226001_3.length co95 : Value).ownBlock) (n := x227000_3.length) (c := co96) ?_).2.2; exact (rq (Kd.R_mono (Kd.R_far (p := ⟨gb227, 1, none⟩) (Kd.R_far (p := ⟨gb227, 0, none⟩) (Kd.R_types HO_227000.out BK227.out (by decide)) (fun _ hk => hk.2) (.int .i64 0)) (fun _ hk => hk.2) (.int .u32 0)) (fun _ h_ => h_.1)))); (case side4 => exact (Kd.R_reads' HO_227000.out).2.1); rintro e w97 ⟨v250, v253, v256, rfl, ho0, ho1, ho2, hb⟩; refine ⟨_, rfl, ?_⟩; have n0_ := Aside0.mk (Kd.R_below (rq (Kd.R_mono (Kd.R_far (p := ⟨gb227, 1, none⟩) (Kd.R_far (p := ⟨gb227, 0, none⟩) (Kd.R_mono HO_5.out (fun k_ hk => (⟨hk, hk.2⟩ : _ ∧ k_ ≠ gb227))) (fun _ hk => hk.2) (.int .i64 0)) (fun _ hk => hk.2) (.int .u32 0)) (fun _ h_ => h_.1))) hb); have n1_ := Aside0.mk (Kd.R_mono (Kd.R_told (Kd.R_told (Kd.R_told (Kd.R_old (rq (Kd.R_mono (Kd.R_far (p := ⟨gb227, 1, none⟩) (Kd.R_far (p := ⟨gb227, 0, none⟩) (Kd.R_types HO_226001.out BK227.out (by decide)) (fun _ hk => hk.2) (.int .i64 0)) (fun _ hk => hk.2) (.int .u32 0)) (fun _ h_ => h_.1))) hb) (Kd.R_base ho0)) (Kd.R_base ho1)) (Kd.R_base ho2)) (fun _ h_ => h_.1)); have n2_ := Aside0.mk (Kd.R_mono (Kd.R_told (Kd.R_told (Kd.R_told (Kd.R_old (rq (Kd.R_mono (Kd.R_far (p := ⟨gb227, 1, none⟩) (Kd.R_far (p := ⟨gb227, 0, none⟩) (Kd.R_types HO_227000.out BK227.out (by decide)) (fun _ hk => hk.2) (.int .i64 0)) (fun _ hk => hk.2) (.int .u32 0)) (fun _ h_ => h_.1))) hb) (Kd.R_base ho0)) (Kd.R_base ho1)) (Kd.R_base ho2)) (fun _ h_ => h_.1)); have n3_ := Aside0.mk (Kd.R_lower (Kd.R_new' (Kd.R_new' ho0 (Kd.R_lt (rq (Kd.R_mono (Kd.R_far (p := ⟨gb227, 1, none⟩) (Kd.R_far (p := ⟨gb227, 0, none⟩) (Kd.R_types HO_226001.out BK227.out (by decide)) (fun _ hk => hk.2) (.int .i64 0)) (fun _ hk => hk.2) (.int .u32 0)) (fun _ h_ => h_.1))))) (Kd.R_lt (rq (Kd.R_mono (Kd.R_far (p := ⟨gb227, 1, none⟩) (Kd.R_far (p := ⟨gb227, 0, none⟩) (Kd.R_types HO_227000.out BK227.out (by decide)) (fun _ hk => hk.2) (.int .i64 0)) (fun _ hk => hk.2) (.int .u32 0)) (fun _ h_ => h_.1))))) (below_size (by repeat (first | (with_reducible first | exact HB.out | apply below_alloc | apply pw_below_drewN | apply below_drew1 | refine below_set ?_ GE227.out) | exact HB.out)))); have n4_ := Aside0.mk (Kd.R_lower (Kd.R_new' (Kd.R_new' ho1 (Kd.R_lt (rq (Kd.R_mono (Kd.R_far (p := ⟨gb227, 1, none⟩) (Kd.R_far (p := ⟨gb227, 0, none⟩) (Kd.R_types HO_226001.out BK227.out (by decide)) (fun _ hk => hk.2) (.int .i64 0)) (fun _ hk => hk.2) (.int .u32 0)) (fun _ h_ => h_.1))))) (Kd.R_lt (rq (Kd.R_mono (Kd.R_far (p := ⟨gb227, 1, none⟩) (Kd.R_far (p := ⟨gb227, 0, none⟩) (Kd.R_types HO_227000.out BK227.out (by decide)) (fun _ hk => hk.2) (.int .i64 0)) (fun _ hk => hk.2) (.int .u32 0)) (fun _ h_ => h_.1))))) (below_size (by repeat (first | (with_reducible first | exact HB.out | apply below_alloc | apply pw_below_drewN | apply below_drew1 | refine below_set ?_ GE227.out) | exact HB.out)))); have n5_ := Aside0.mk (Kd.R_lower (Kd.R_new' (Kd.R_new' ho2 (Kd.R_lt (rq (Kd.R_mono (Kd.R_far (p := ⟨gb227, 1, none⟩) (Kd.R_far (p := ⟨gb227, 0, none⟩) (Kd.R_types HO_226001.out BK227.out (by decide)) (fun _ hk => hk.2) (.int .i64 0)) (fun _ hk => hk.2) (.int .u32 0)) (fun _ h_ => h_.1))))) (Kd.R_lt (rq (Kd.R_mono (Kd.R_far (p := ⟨gb227, 1, none⟩) (Kd.R_far (p := ⟨gb227, 0, none⟩) (Kd.R_types HO_227000.out BK227.out (by decide)) (fun _ hk => hk.2) (.int .i64 0)) (fun _ hk => hk.2) (.int .u32 0)) (fun _ h_ => h_.1))))) (below_size (by repeat (first | (with_reducible first | exact HB.out | apply below_alloc | apply pw_below_drewN | apply below_drew1 | refine below_set ?_ GE227.out) | exact HB.out)))); have n6_ := Aside0.mk (blk_below (g := gb215) (o := .cells #[.int .i64 a0_0, .int .i64 a0_1, .int .i64 a0_2, .int .i64 a0_3] 29 (0, 0)) (by (with_reducible repeat (first | refine blk_drewN ?_ _ | refine blk_drew ?_ | refine blk_alloc ?_ _)); refine blk_far ?_ NB215_227.out _; (with_reducible repeat (first | refine blk_drewN ?_ _ | refine blk_drew ?_ | refine blk_alloc ?_ _)); refine blk_far ?_ NB215_227.out _; (with_reducible repeat (first | refine blk_drewN ?_ _ | refine blk_drew ?_ | refine blk_alloc ?_ _)); exact BK215.out) hb); have n7_ := Aside0.mk (blk_below (g := gb225) (o := .cells #[.int .i64 x226000_3, .slice Ao95 x226001_3.length co95] 39 (0, 0)) (by (with_reducible repeat (first | refine blk_drewN ?_ _ | refine blk_drew ?_ | refine blk_alloc ?_ _)); refine blk_far ?_ NB225_227.out _; (with_reducible repeat (first | refine blk_drewN ?_ _ | refine blk_drew ?_ | refine blk_alloc ?_ _)); refine blk_far ?_ NB225_227.out _; (with_reducible repeat (first | refine blk_drewN ?_ _ | refine blk_drew ?_ | refine blk_alloc ?_ _)); exact BK225.out) hb); have n8_ := Aside0.mk (blk_below (g := gb226) (o := .cells #[.slice Ao96 x227000_3.length co96] 31 (0, 0)) (by (with_reducible repeat (first | refine blk_drewN ?_ _ | refine blk_drew ?_ | refine blk_alloc ?_ _)); refine blk_far ?_ NB226_227.out _; (with_reducible repeat (first | refine blk_drewN ?_ _ | refine blk_drew ?_ | refine blk_alloc ?_ _)); refine blk_far ?_ NB226_227.out _; (with_reducible repeat (first | refine blk_drewN ?_ _ | refine blk_drew ?_ | refine blk_alloc ?_ _)); exact BK226.out) hb); have n9_ := Aside0.mk (blk_below (g := gb227) (o := .cells #[.int .i64 0, .int .u32 0] 72 (0, 0)) (by (with_reducible repeat (first | refine blk_drewN ?_ _ | refine blk_drew ?_ | refine blk_alloc ?_ _)); refine blk_put (cs := #[.int .i64 0, .int .u32 0]) ?_ 1 _ rfl; (with_reducible repeat (first | refine blk_drewN ?_ _ | refine blk_drew ?_ | refine blk_alloc ?_ _)); refine blk_put (cs := #[.int .i64 0, .int .u32 0]) ?_ 0 _ rfl; (with_reducible repeat (first | refine blk_drewN ?_ _ | refine blk_drew ?_ | refine blk_alloc ?_ _)); exact BK227.out) hb); have n10_ := Aside0.mk (below_step (by repeat (first | (with_reducible first | exact HB.out | apply below_alloc | apply pw_below_drewN | apply below_drew1 | refine below_set ?_ GE227.out) | exact HB.out)) hb); clear HO_5; clear HO_226001; clear HO_227000; clear BK215; clear BK225; clear BK226; clear BK227; clear HB; have HO_5 := n0_; have HO_226001 := n1_; have HO_227000 := n2_; have HO251 := n3_; have HO254 := n4_; have HO257 := n5_; have BK215 := n6_; have BK225 := n7_; have BK226 := n8_; have BK227 := n9_; have HB := n10_; clear n0_ n1_ n2_ n3_ n4_ n5_ n6_ n7_ n8_ n9_ n10_; (try clear hb); (try clear hb2); (try clear hk); (try clear hi); (try clear ho0); (try clear ho1); (try clear ho2)) | ((with_reducible refine gate_dst (N := 16) rfl ?_); (try (refine gate_guard (by rfl) ?_; dsimp only)); refine box_event ?hg (N := 16) ?hd (cs := #[.int .i64 0, .slice none 0 0]) (t := 39) ?hr ?_; (case hd => rfl); (case hg => rfl); (case hr => first | (go_simp; done) | (go_simp; rfl)); intro gb258 hg w98 hbox hb; have n0_ := Aside0.mk (Kd.R_below (rq HO_5.out) hb); have n1_ := Aside0.mk (Kd.R_below (rq HO_226001.out) hb); have n2_ := Aside0.mk (Kd.R_below (rq HO_227000.out) hb); have n3_ := Aside0.mk (Kd.R_below (rq HO251.out) hb); have n4_ := Aside0.mk (Kd.R_below (rq HO254.out) hb); have n5_ := Aside0.mk (Kd.R_below (rq HO257.out) hb); have n6_ := Aside0.mk (blk_below (bq BK215.out) hb); have n7_ := Aside0.mk (blk_below (bq BK225.out) hb); have n8_ := Aside0.mk (blk_below (bq BK226.out) hb); have n9_ := Aside0.mk (blk_below (bq BK227.out) hb); have n10_ := Aside0.mk (below_step (lq HB.out) hb); have n11_ := Aside0.mk (hbox); have n12_ := Aside0.mk ((ge_new hg (lq HB.out) : w.heap.size ≤ gb258)); have n13_ := Aside0.mk ((ge_new hg (lq HB.out) : w.heap.size ≤ gb258)); have n14_ := Aside0.mk ((ne_new hg (bq BK215.out) : gb215 ≠ gb258)); have n15_ := Aside0.mk ((new_ne hg (bq BK215.out) : gb258 ≠ gb215)); have n16_ := Aside0.mk ((ne_new hg (bq BK225.out) : gb225 ≠ gb258)); have n17_ := Aside0.mk ((new_ne hg (bq BK225.out) : gb258 ≠ gb225)); have n18_ := Aside0.mk ((ne_new hg (bq BK226.out) : gb226 ≠ gb258)); have n19_ := Aside0.mk ((new_ne hg (bq BK226.out) : gb258 ≠ gb226)); have n20_ := Aside0.mk ((ne_new hg (bq BK227.out) : gb227 ≠ gb258)); have n21_ := Aside0.mk ((new_ne hg (bq BK227.out) : gb258 ≠ gb227)); clear HO_5; clear HO_226001; clear HO_227000; clear HO251; clear HO254; clear HO257; clear BK215; clear BK225; clear BK226; clear BK227; clear HB; have HO_5 := n0_; have HO_226001 := n1_; have HO_227000 := n2_; have HO251 := n3_; have HO254 := n4_; have HO257 := n5_; have BK215 := n6_; have BK225 := n7_; have BK226 := n8_; have BK227 := n9_; have HB := n10_; have BK258 := n11_; have GW258 := n12_; have GE258 := n13_; have NB215_258 := n14_; have NB258_215 := n15_; have NB225_258 := n16_; have NB258_225 := n17_; have NB226_258 := n18_; have NB258_226 := n19_; have NB227_258 := n20_; have NB258_227 := n21_; clear n0_ n1_ n2_ n3_ n4_ n5_ n6_ n7_ n8_ n9_ n10_ n11_ n12_ n13_ n14_ n15_ n16_ n17_ n18_ n19_ n20_ n21_; clear hb hbox hg) | ((with_reducible refine gate_dst (N := 17) rfl ?_); (try (refine gate_guard (by rfl) ?_; dsimp only)); refine box_event ?hg (N := 17) ?hd (cs := #[.slice none 0 0]) (t := 31) ?hr ?_; (case hd => rfl); (case hg => rfl); (case hr => first | (go_simp; done) | (go_simp; rfl)); intro gb259 hg w99 hbox hb; have n0_ := Aside0.mk (Kd.R_below (rq HO_5.out) hb); have n1_ := Aside0.mk (Kd.R_below (rq HO_226001.out) hb); have n2_ := Aside0.mk (Kd.R_below (rq HO_227000.out) hb); have n3_ := Aside0.mk (Kd.R_below (rq HO251.out) hb); have n4_ := Aside0.mk (Kd.R_below (rq HO254.out) hb); have n5_ := Aside0.mk (Kd.R_below (rq HO257.out) hb); have n6_ := Aside0.mk (blk_below (bq BK215.out) hb); have n7_ := Aside0.mk (blk_below (bq BK225.out) hb); have n8_ := Aside0.mk (blk_below (bq BK226.out) hb); have n9_ := Aside0.mk (blk_below (bq BK227.out) hb); have n10_ := Aside0.mk (blk_below (bq BK258.out) hb); have n11_ := Aside0.mk (below_step (lq HB.out) hb); have n12_ := Aside0.mk (hbox); have n13_ := Aside0.mk ((ge_new hg (lq HB.out) : w.heap.size ≤ gb259)); have n14_ := Aside0.mk ((ge_new hg (lq HB.out) : w.heap.size ≤ gb259)); have n15_ := Aside0.mk ((ne_new hg (bq BK215.out) : gb215 ≠ gb259)); have n16_ := Aside0.mk ((new_ne hg (bq BK215.out) : gb259 ≠ gb215)); have n17_ := Aside0.mk ((ne_new hg (bq BK225.out) : gb225 ≠ gb259)); have n18_ := Aside0.mk ((new_ne hg (bq BK225.out) : gb259 ≠ gb225)); have n19_ := Aside0.mk ((ne_new hg (bq BK226.out) : gb226 ≠ gb259)); have n20_ := Aside0.mk ((new_ne hg (bq BK226.out) : gb259 ≠ gb226)); have n21_ := Aside0.mk ((ne_new hg (bq BK227.out) : gb227 ≠ gb259)); have n22_ := Aside0.mk ((new_ne hg (bq BK227.out) : gb259 ≠ gb227)); have n23_ := Aside0.mk ((ne_new hg (bq BK258.out) : gb258 ≠ gb259)); have n24_ := Aside0.mk ((new_ne hg (bq BK258.out) : gb259 ≠ gb258)); clear HO_5; clear HO_226001; clear HO_227000; clear HO251; clear HO254; clear HO257; clear BK215; clear BK225; clear BK226; clear BK227; clear BK258; clear HB; have HO_5 := n0_; have HO_226001 := n1_; have HO_227000 := n2_; have HO251 := n3_; have HO254 := n4_; have HO257 := n5_; have BK215 := n6_; have BK225 := n7_; have BK226 := n8_; have BK227 := n9_; have BK258 := n10_; have HB := n11_; have BK259 := n12_; have GW259 := n13_; have GE259 := n14_; have NB215_259 := n15_; have NB259_215 := n16_; have NB225_259 := n17_; have NB259_225 := n18_; have NB226_259 := n19_; have NB259_226 := n20_; have NB227_259 := n21_; have NB259_227 := n22_; have NB258_259 := n23_; have NB259_258 := n24_; clear n0_ n1_ n2_ n3_ n4_ n5_ n6_ n7_ n8_ n9_ n10_ n11_ n12_ n13_ n14_ n15_ n16_ n17_ n18_ n19_ n20_ n21_ n22_ n23_ n24_; clear hb hbox hg; have hnb100 := NB258_215.out; have hnc100 := NB215_258.out; have hnb101 := NB258_225.out; have hnc101 := NB225_258.out; have hnb102 := NB258_226.out; have hnc102 := NB226_258.out; have hnb103 := NB258_227.out; have hnc103 := NB227_258.out; have hnb104 := NB258_259.out; have hnc104 := NB259_258.out; have hcz105_0 : w99.cell? ⟨gb258, 0, none⟩ = some (.int .i64 0) := (blk_cell BK258.out 0).trans rfl; have hcz105_1 : w99.cell? ⟨gb258, 1, none⟩ = some (.slice none 0 0) := (blk_cell BK258.out 1).trans rfl; have hfz105_0 := blk_frozen BK258.out 0; have hfz105_1 := blk_frozen BK258.out 1; obtain ⟨Ao106, co106, eo106⟩ := Kd.R_slice HO251.out; subst eo106; obtain ⟨Ao107, co107, eo107⟩ := Kd.R_slice HO254.out; subst eo107; have hnb108 := NB259_215.out; have hnc108 := NB215_259.out; have hnb109 := NB259_225.out; have hnc109 := NB225_259.out; have hnb110 := NB259_226.out; have hnc110 := NB226_259.out; have hnb111 := NB259_227.out; have hnc111 := NB227_259.out; have hcz112_0 : w99.cell? ⟨gb259, 0, none⟩ = some (.slice none 0 0) := (blk_cell BK259.out 0).trans rfl; have hfz112_0 := blk_frozen BK259.out 0; have hcz113_0 : w99.cell? ⟨gb225, 0, none⟩ = some (.int .i64 x226000_3) := (blk_cell BK225.out 0).trans rfl; have hcz113_1 : w99.cell? ⟨gb225, 1, none⟩ = some (.slice Ao95 x226001_3.length co95) := (blk_cell BK225.out 1).trans rfl; have hfz113_0 := blk_frozen BK225.out 0; have hfz113_1 := blk_frozen BK225.out 1; have hcz114_0 : w99.cell? ⟨gb226, 0, none⟩ = some (.slice Ao96 x227000_3.length co96) := (blk_cell BK226.out 0).trans rfl; have hfz114_0 := blk_frozen BK226.out 0; have hcz115_0 : w99.cell? ⟨gb227, 0, none⟩ = some (.int .i64 0) := (blk_cell BK227.out 0).trans rfl; have hcz115_1 : w99.cell? ⟨gb227, 1, none⟩ = some (.int .u32 0) := (blk_cell BK227.out 1).trans rfl; have hfz115_0 := blk_frozen BK227.out 0; have hfz115_1 := blk_frozen BK227.out 1) | ((with_reducible refine gate_builtin (b := .append) (xs := #[.tmp 102, .tmp 104]) rfl ?_); (try (refine gate_guard (by rfl) ?_; dsimp only)); at_builtin; refine Kd.R_append k72 (w0 := w) w.heap.size rfl (.tmp 102) (.tmp 104) 66 72 (.agg #[(.int .i64 0), (.int .u32 0)]) 16 rfl Try.underlying66 info72 rfl (by decide) (by omega) u5 x5_3 (⟨0, 0⟩ : S72) [.int .i64 0, .int .u32 0] (fun k_ => k_ ≠ gb227) (fun _ => False) rfl (by first | (go_simp; done) | (go_simp; rfl)) ?aP (fun _ hk => hk.elim) ?aF ?aO ?aB ?aS ?aL ?_; (case aP => exact k72_mkM _ _ _ (⟨0, 0⟩ : S72)); (case aB => exact (by repeat (first | (with_reducible first | exact HB.out | apply below_alloc | apply pw_below_drewN | apply below_drew1 | refine below_set ?_ GE225.out | refine below_set ?_ GE226.out | refine below_set ?_ GE258.out | refine below_set ?_ GE259.out) | exact HB.out))); (case aF => exact (fun k_ hk => Kd.freshB (g := gb227) (o := .cells #[.int .i64 0, .int .u32 0] 72 (0, 0)) (by (with_reducible repeat (first | refine blk_drewN ?_ _ | refine blk_drew ?_ | refine blk_alloc ?_ _)); refine blk_far ?_ NB227_226.out _; (with_reducible repeat (first | refine blk_drewN ?_ _ | refine blk_drew ?_ | refine blk_alloc ?_ _)); refine blk_far ?_ NB227_225.out _; (with_reducible repeat (first | refine blk_drewN ?_ _ | refine blk_drew ?_ | refine blk_alloc ?_ _)); refine blk_far ?_ NB227_225.out _; (with_reducible repeat (first | refine blk_drewN ?_ _ | refine blk_drew ?_ | refine blk_alloc ?_ _)); refine blk_far ?_ NB227_259.out _; (with_reducible repeat (first | refine blk_drewN ?_ _ | refine blk_drew ?_ | refine blk_alloc ?_ _)); refine blk_far ?_ NB227_258.out _; (with_reducible repeat (first | refine blk_drewN ?_ _ | refine blk_drew ?_ | refine blk_alloc ?_ _)); refine blk_far ?_ NB227_258.out _; (with_reducible repeat (first | refine blk_drewN ?_ _ | refine blk_drew ?_ | refine blk_alloc ?_ _)); exact BK227.out) k_ hk)); (case aO => exact (by (with_reducible repeat (first | apply Kd.R_alloc | apply Kd.R_drewN | apply Kd.R_drew)); exact Kd.R_mono (Kd.R_far (p := ⟨gb226, 0, none⟩) (Kd.R_far (p := ⟨gb225, 1, none⟩) (Kd.R_far (p := ⟨gb225, 0, none⟩) (Kd.R_far (p := ⟨gb259, 0, none⟩) (Kd.R_far (p := ⟨gb258, 1, none⟩) (Kd.R_far (p := ⟨gb258, 0, none⟩) (Kd.R_types (Kd.R_types (Kd.R_types (Kd.R_types HO_5.out BK258.out (by decide)) BK259.out (by decide)) BK225.out (by decide)) BK226.out (by decide)) (fun _ hk => hk.1.1.1.2) (.int .i64 t248)) (fun _ hk => hk.1.1.1.2) (.slice Ao106 t249.length co106)) (fun _ hk => hk.1.1.2) (.slice Ao107 t252.length co107)) (fun _ hk => hk.1.2) (.int .i64 t248)) (fun _ hk => hk.1.2) (.slice Ao106 t249.length co106)) (fun _ hk => hk.2) (.slice Ao107 t252.length co107)) (fun _ hk => hk.1.1.1.1.2))); (case aS => exact (below_size (by repeat (first | (with_reducible first | exact HB.out | apply below_alloc | apply pw_below_drewN | apply below_drew1 | refine below_set ?_ GE225.out | refine below_set ?_ GE226.out | refine below_set ?_ GE258.out | refine below_set ?_ GE259.out) | exact HB.out)))); (case aL => have := LMc83.out; omega); intro v261 w116 ho hb hg hat; rw [← Ny260.out] at ho; have n0_ := Aside0.mk (Kd.R_over' (rq (Kd.R_mono (Kd.R_mono (Kd.R_mono (Kd.R_mono (Kd.R_far (p := ⟨gb226, 0, none⟩) (Kd.R_far (p := ⟨gb225, 1, none⟩) (Kd.R_far (p := ⟨gb225, 0, none⟩) (Kd.R_far (p := ⟨gb259, 0, none⟩) (Kd.R_far (p := ⟨gb258, 1, none⟩) (Kd.R_far (p := ⟨gb258, 0, none⟩) (Kd.R_types (Kd.R_types (Kd.R_types (Kd.R_types HO_226001.out BK258.out (by decide)) BK259.out (by decide)) BK225.out (by decide)) BK226.out (by decide)) (fun _ hk => hk.1.1.1.2) (.int .i64 t248)) (fun _ hk => hk.1.1.1.2) (.slice Ao106 t249.length co106)) (fun _ hk => hk.1.1.2) (.slice Ao107 t252.length co107)) (fun _ hk => hk.1.2) (.int .i64 t248)) (fun _ hk => hk.1.2) (.slice Ao106 t249.length co106)) (fun _ hk => hk.2) (.slice Ao107 t252.length co107)) (fun _ h_ => h_.1)) (fun _ h_ => h_.1)) (fun _ h_ => h_.1)) (fun _ h_ => h_.1))) (Kd.R_typed (rq (Kd.R_mono (Kd.R_mono (Kd.R_mono (Kd.R_mono (Kd.R_far (p := ⟨gb226, 0, none⟩) (Kd.R_far (p := ⟨gb225, 1, none⟩) (Kd.R_far (p := ⟨gb225, 0, none⟩) (Kd.R_far (p := ⟨gb259, 0, none⟩) (Kd.R_far (p := ⟨gb258, 1, none⟩) (Kd.R_far (p := ⟨gb258, 0, none⟩) (Kd.R_types (Kd.R_types (Kd.R_types (Kd.R_types HO_5.out BK258.out (by decide)) BK259.out (by decide)) BK225.out (by decide)) BK226.out (by decide)) (fun _ hk => hk.1.1.1.2) (.int .i64 t248)) (fun _ hk => hk.1.1.1.2) (.slice Ao106 t249.length co106)) (fun _ hk => hk.1.1.2) (.slice Ao107 t252.length co107)) (fun _ hk => hk.1.2) (.int .i64 t248)) (fun _ hk => hk.1.2) (.slice Ao106 t249.length co106)) (fun _ hk => hk.2) (.slice Ao107 t252.length co107)) (fun _ h_ => h_.1)) (fun _ h_ => h_.1)) (fun _ h_ => h_.1)) (fun _ h_ => h_.1)))) (by decide) hg); have n1_ := Aside0.mk (Kd.R_over' (rq (Kd.R_mono (Kd.R_mono (Kd.R_mono (Kd.R_mono (Kd.R_far (p := ⟨gb226, 0, none⟩) (Kd.R_far (p := ⟨gb225, 1, none⟩) (Kd.R_far (p := ⟨gb225, 0, none⟩) (Kd.R_far (p := ⟨gb259, 0, none⟩) (Kd.R_far (p := ⟨gb258, 1, none⟩) (Kd.R_far (p := ⟨gb258, 0, none⟩) (Kd.R_types (Kd.R_types (Kd.R_types (Kd.R_types HO_227000.out BK258.out (by decide)) BK259.out (by decide)) BK225.out (by decide)) BK226.out (by decide)) (fun _ hk => hk.1.1.1.2) (.int .i64 t248)) (fun _ hk => hk.1.1.1.2) (.slice Ao106 t249.length co106)) (fun _ hk => hk.1.1.2) (.slice Ao107 t252.length co107)) (fun _ hk => hk.1.2) (.int .i64 t248)) (fun _ hk => hk.1.2) (.slice Ao106 t249.length co106)) (fun _ hk => hk.2) (.slice Ao107 t252.length co107)) (fun _ h_ => h_.1)) (fun _ h_ => h_.1)) (fun _ h_ => h_.1)) (fun _ h_ => h_.1))) (Kd.R_typed (rq (Kd.R_mono (Kd.R_mono (Kd.R_mono (Kd.R_mono (Kd.R_far (p := ⟨gb226, 0, none⟩) (Kd.R_far (p := ⟨gb225, 1, none⟩) (Kd.R_far (p := ⟨gb225, 0, none⟩) (Kd.R_far (p := ⟨gb259, 0, none⟩) (Kd.R_far (p := ⟨gb258, 1, none⟩) (Kd.R_far (p := ⟨gb258, 0, none⟩) (Kd.R_types (Kd.R_types (Kd.R_types (Kd.R_types HO_5.out BK258.out (by decide)) BK259.out (by decide)) BK225.out (by decide)) BK226.out (by decide)) (fun _ hk => hk.1.1.1.2) (.int .i64 t248)) (fun _ hk => hk.1.1.1.2) (.slice Ao106 t249.length co106)) (fun _ hk => hk.1.1.2) (.slice Ao107 t252.length co107)) (fun _ hk => hk.1.2) (.int .i64 t248)) (fun _ hk => hk.1.2) (.slice Ao106 t249.length co106)) (fun _ hk => hk.2) (.slice Ao107 t252.length co107)) (fun _ h_ => h_.1)) (fun _ h_ => h_.1)) (fun _ h_ => h_.1)) (fun _ h_ => h_.1)))) (by decide) hg); have n2_ := Aside0.mk (blk_grown (g := gb215) (o := .cells #[.int .i64 a0_0, .int .i64 a0_1, .int .i64 a0_2, .int .i64 a0_3] 29 (0, 0)) (by (with_reducible repeat (first | refine blk_drewN ?_ _ | refine blk_drew ?_ | refine blk_alloc ?_ _)); refine blk_far ?_ NB215_226.out _; (with_reducible repeat (first | refine blk_drewN ?_ _ | refine blk_drew ?_ | refine blk_alloc ?_ _)); refine blk_far ?_ NB215_225.out _; (with_reducible repeat (first | refine blk_drewN ?_ _ | refine blk_drew ?_ | refine blk_alloc ?_ _)); refine blk_far ?_ NB215_225.out _; (with_reducible repeat (first | refine blk_drewN ?_ _ | refine blk_drew ?_ | refine blk_alloc ?_ _)); refine blk_far ?_ NB215_259.out _; (with_reducible repeat (first | refine blk_drewN ?_ _ | refine blk_drew ?_ | refine blk_alloc ?_ _)); refine blk_far ?_ NB215_258.out _; (with_reducible repeat (first | refine blk_drewN ?_ _ | refine blk_drew ?_ | refine blk_alloc ?_ _)); refine blk_far ?_ NB215_258.out _; (with_reducible repeat (first | refine blk_drewN ?_ _ | refine blk_drew ?_ | refine blk_alloc ?_ _)); exact BK215.out) hg (Kd.R_ne HO_5.out BK215.out (by decide))); have n3_ := Aside0.mk (blk_grown (g := gb225) (o := .cells #[.int .i64 t248, .slice Ao106 t249.length co106] 39 (0, 0)) (by (with_reducible repeat (first | refine blk_drewN ?_ _ | refine blk_drew ?_ | refine blk_alloc ?_ _)); refine blk_far ?_ NB225_226.out _; (with_reducible repeat (first | refine blk_drewN ?_ _ | refine blk_drew ?_ | refine blk_alloc ?_ _)); refine blk_put (cs := #[.int .i64 t248, .slice Ao95 x226001_3.length co95]) ?_ 1 _ rfl; (with_reducible repeat (first | refine blk_drewN ?_ _ | refine blk_drew ?_ | refine blk_alloc ?_ _)); refine blk_put (cs := #[.int .i64 x226000_3, .slice Ao95 x226001_3.length co95]) ?_ 0 _ rfl; (with_reducible repeat (first | refine blk_drewN ?_ _ | refine blk_drew ?_ | refine blk_alloc ?_ _)); refine blk_far ?_ NB225_259.out _; (with_reducible repeat (first | refine blk_drewN ?_ _ | refine blk_drew ?_ | refine blk_alloc ?_ _)); refine blk_far ?_ NB225_258.out _; (with_reducible repeat (first | refine blk_drewN ?_ _ | refine blk_drew ?_ | refine blk_alloc ?_ _)); refine blk_far ?_ NB225_258.out _; (with_reducible repeat (first | refine blk_drewN ?_ _ | refine blk_drew ?_ | refine blk_alloc ?_ _)); exact BK225.out) hg (Kd.R_ne HO_5.out BK225.out (by decide))); have n4_ := Aside0.mk (blk_grown (g := gb226) (o := .cells #[.slice Ao107 t252.length co107] 31 (0, 0)) (by (with_reducible repeat (first | refine blk_drewN ?_ _ | refine blk_drew ?_ | refine blk_alloc ?_ _)); refine blk_put (cs := #[.slice Ao96 x227000_3.length co96]) ?_ 0 _ rfl; (with_reducible repeat (first | refine blk_drewN ?_ _ | refine blk_drew ?_ | refine blk_alloc ?_ _)); refine blk_far ?_ NB226_225.out _; (with_reducible repeat (first | refine blk_drewN ?_ _ | refine blk_drew ?_ | refine blk_alloc ?_ _)); refine blk_far ?_ NB226_225.out _; (with_reducible repeat (first | refine blk_drewN ?_ _ | refine blk_drew ?_ | refine blk_alloc ?_ _)); refine blk_far ?_ NB226_259.out _; (with_reducible repeat (first | refine blk_drewN ?_ _ | refine blk_drew ?_ | refine blk_alloc ?_ _)); refine blk_far ?_ NB226_258.out _; (with_reducible repeat (first | refine blk_drewN ?_ _ | refine blk_drew ?_ | refine blk_alloc ?_ _)); refine blk_far ?_ NB226_258.out _; (with_reducible repeat (first | refine blk_drewN ?_ _ | refine blk_drew ?_ | refine blk_alloc ?_ _)); exact BK226.out) hg (Kd.R_ne HO_5.out BK226.out (by decide))); have n5_ := Aside0.mk (blk_grown (g := gb227) (o := .cells #[.int .i64 0, .int .u32 0] 72 (0, 0)) (by (with_reducible repeat (first | refine blk_drewN ?_ _ | refine blk_drew ?_ | refine blk_alloc ?_ _)); refine blk_far ?_ NB227_226.out _; (with_reducible repeat (first | refine blk_drewN ?_ _ | refine blk_drew ?_ | refine blk_alloc ?_ _)); refine blk_far ?_ NB227_225.out _; (with_reducible repeat (first | refine blk_drewN ?_ _ | refine blk_drew ?_ | refine blk_alloc ?_ _)); refine blk_far ?_ NB227_225.out _; (with_reducible repeat (first | refine blk_drewN ?_ _ | refine blk_drew ?_ | refine blk_alloc ?_ _)); refine blk_far ?_ NB227_259.out _; (with_reducible repeat (first | refine blk_drewN ?_ _ | refine blk_drew ?_ | refine blk_alloc ?_ _)); refine blk_far ?_ NB227_258.out _; (with_reducible repeat (first | refine blk_drewN ?_ _ | refine blk_drew ?_ | refine blk_alloc ?_ _)); refine blk_far ?_ NB227_258.out _; (with_reducible repeat (first | refine blk_drewN ?_ _ | refine blk_drew ?_ | refine blk_alloc ?_ _)); exact BK227.out) hg (Kd.R_away HO_5.out (fun _ hk => hk.2))); have n6_ := Aside0.mk (Kd.R_over' (rq (Kd.R_mono (Kd.R_mono (Kd.R_mono (Kd.R_mono (Kd.R_far (p := ⟨gb226, 0, none⟩) (Kd.R_far (p := ⟨gb225, 1, none⟩) (Kd.R_far (p := ⟨gb225, 0, none⟩) (Kd.R_far (p := ⟨gb259, 0, none⟩) (Kd.R_far (p := ⟨gb258, 1, none⟩) (Kd.R_far (p := ⟨gb258, 0, none⟩) (Kd.R_types (Kd.R_types (Kd.R_types (Kd.R_types HO251.out BK258.out (by decide)) BK259.out (by decide)) BK225.out (by decide)) BK226.out (by decide)) (fun _ hk => hk.1.1.1.2) (.int .i64 t248)) (fun _ hk => hk.1.1.1.2) (.slice Ao106 t249.length co106)) (fun _ hk => hk.1.1.2) (.slice Ao107 t252.length co107)) (fun _ hk => hk.1.2) (.int .i64 t248)) (fun _ hk => hk.1.2) (.slice Ao106 t249.length co106)) (fun _ hk => hk.2) (.slice Ao107 t252.length co107)) (fun _ h_ => h_.1)) (fun _ h_ => h_.1)) (fun _ h_ => h_.1)) (fun _ h_ => h_.1))) (Kd.R_typed (rq (Kd.R_mono (Kd.R_mono (Kd.R_mono (Kd.R_mono (Kd.R_far (p := ⟨gb226, 0, none⟩) (Kd.R_far (p := ⟨gb225, 1, none⟩) (Kd.R_far (p := ⟨gb225, 0, none⟩) (Kd.R_far (p := ⟨gb259, 0, none⟩) (Kd.R_far (p := ⟨gb258, 1, none⟩) (Kd.R_far (p := ⟨gb258, 0, none⟩) (Kd.R_types (Kd.R_types (Kd.R_types (Kd.R_types HO_5.out BK258.out (by decide)) BK259.out (by decide)) BK225.out (by decide)) BK226.out (by decide)) (fun _ hk => hk.1.1.1.2) (.int .i64 t248)) (fun _ hk => hk.1.1.1.2) (.slice Ao106 t249.length co106)) (fun _ hk => hk.1.1.2) (.slice Ao107 t252.length co107)) (fun _ hk => hk.1.2) (.int .i64 t248)) (fun _ hk => hk.1.2) (.slice Ao106 t249.length co106)) (fun _ hk => hk.2) (.slice Ao107 t252.length co107)) (fun _ h_ => h_.1)) (fun _ h_ => h_.1)) (fun _ h_ => h_.1)) (fun _ h_ => h_.1)))) (by decide) hg); have n7_ := Aside0.mk (Kd.R_over' (rq (Kd.R_mono (Kd.R_mono (Kd.R_mono (Kd.R_mono (Kd.R_far (p := ⟨gb226, 0, none⟩) (Kd.R_far (p := ⟨gb225, 1, none⟩) (Kd.R_far (p := ⟨gb225, 0, none⟩) (Kd.R_far (p := ⟨gb259, 0, none⟩) (Kd.R_far (p := ⟨gb258, 1, none⟩) (Kd.R_far (p := ⟨gb258, 0, none⟩) (Kd.R_types (Kd.R_types (Kd.R_types (Kd.R_types HO254.out BK258.out (by decide)) BK259.out (by decide)) BK225.out (by decide)) BK226.out (by decide)) (fun _ hk => hk.1.1.1.2) (.int .i64 t248)) (fun _ hk => hk.1.1.1.2) (.slice Ao106 t249.length co106)) (fun _ hk => hk.1.1.2) (.slice Ao107 t252.length co107)) (fun _ hk => hk.1.2) (.int .i64 t248)) (fun _ hk => hk.1.2) (.slice Ao106 t249.length co106)) (fun _ hk => hk.2) (.slice Ao107 t252.length co107)) (fun _ h_ => h_.1)) (fun _ h_ => h_.1)) (fun _ h_ => h_.1)) (fun _ h_ => h_.1))) (Kd.R_typed (rq (Kd.R_mono (Kd.R_mono (Kd.R_mono (Kd.R_mono (Kd.R_far (p := ⟨gb226, 0, none⟩) (Kd.R_far (p := ⟨gb225, 1, none⟩) (Kd.R_far (p := ⟨gb225, 0, none⟩) (Kd.R_far (p := ⟨gb259, 0, none⟩) (Kd.R_far (p := ⟨gb258, 1, none⟩) (Kd.R_far (p := ⟨gb258, 0, none⟩) (Kd.R_types (Kd.R_types (Kd.R_types (Kd.R_types HO_5.out BK258.out (by decide)) BK259.out (by decide)) BK225.out (by decide)) BK226.out (by decide)) (fun _ hk => hk.1.1.1.2) (.int .i64 t248)) (fun _ hk => hk.1.1.1.2) (.slice Ao106 t249.length co106)) (fun _ hk => hk.1.1.2) (.slice Ao107 t252.length co107)) (fun _ hk => hk.1.2) (.int .i64 t248)) (fun _ hk => hk.1.2) (.slice Ao106 t249.length co106)) (fun _ hk => hk.2) (.slice Ao107 t252.length co107)) (fun _ h_ => h_.1)) (fun _ h_ => h_.1)) (fun _ h_ => h_.1)) (fun _ h_ => h_.1)))) (by decide) hg); have n8_ := Aside0.mk (Kd.R_over' (rq (Kd.R_mono (Kd.R_mono (Kd.R_mono (Kd.R_mono (Kd.R_far (p := ⟨gb226, 0, none⟩) (Kd.R_far (p := ⟨gb225, 1, none⟩) (Kd.R_far (p := ⟨gb225, 0, none⟩) (Kd.R_far (p := ⟨gb259, 0, none⟩) (Kd.R_far (p := ⟨gb258, 1, none⟩) (Kd.R_far (p := ⟨gb258, 0, none⟩) (Kd.R_types (Kd.R_types (Kd.R_types (Kd.R_types HO257.out BK258.out (by decide)) BK259.out (by decide)) BK225.out (by decide)) BK226.out (by decide)) (fun _ hk => hk.1.1.1.2) (.int .i64 t248)) (fun _ hk => hk.1.1.1.2) (.slice Ao106 t249.length co106)) (fun _ hk => hk.1.1.2) (.slice Ao107 t252.length co107)) (fun _ hk => hk.1.2) (.int .i64 t248)) (fun _ hk => hk.1.2) (.slice Ao106 t249.length co106)) (fun _ hk => hk.2) (.slice Ao107 t252.length co107)) (fun _ h_ => h_.1)) (fun _ h_ => h_.1)) (fun _ h_ => h_.1)) (fun _ h_ => h_.1))) (Kd.R_typed (rq (Kd.R_mono (Kd.R_mono (Kd.R_mono (Kd.R_mono (Kd.R_far (p := ⟨gb226, 0, none⟩) (Kd.R_far (p := ⟨gb225, 1, none⟩) (Kd.R_far (p := ⟨gb225, 0, none⟩) (Kd.R_far (p := ⟨gb259, 0, none⟩) (Kd.R_far (p := ⟨gb258, 1, none⟩) (Kd.R_far (p := ⟨gb258, 0, none⟩) (Kd.R_types (Kd.R_types (Kd.R_types (Kd.R_types HO_5.out BK258.out (by decide)) BK259.out (by decide)) BK225.out (by decide)) BK226.out (by decide)) (fun _ hk => hk.1.1.1.2) (.int .i64 t248)) (fun _ hk => hk.1.1.1.2) (.slice Ao106 t249.length co106)) (fun _ hk => hk.1.1.2) (.slice Ao107 t252.length co107)) (fun _ hk => hk.1.2) (.int .i64 t248)) (fun _ hk => hk.1.2) (.slice Ao106 t249.length co106)) (fun _ hk => hk.2) (.slice Ao107 t252.length co107)) (fun _ h_ => h_.1)) (fun _ h_ => h_.1)) (fun _ h_ => h_.1)) (fun _ h_ => h_.1)))) (by decide) hg); have n9_ := Aside0.mk (blk_grown (g := gb258) (o := .cells #[.int .i64 t248, .slice Ao106 t249.length co106] 39 (0, 0)) (by (with_reducible repeat (first | refine blk_drewN ?_ _ | refine blk_drew ?_ | refine blk_alloc ?_ _)); refine blk_far ?_ NB258_226.out _; (with_reducible repeat (first | refine blk_drewN ?_ _ | refine blk_drew ?_ | refine blk_alloc ?_ _)); refine blk_far ?_ NB258_225.out _; (with_reducible repeat (first | refine blk_drewN ?_ _ | refine blk_drew ?_ | refine blk_alloc ?_ _)); refine blk_far ?_ NB258_225.out _; (with_reducible repeat (first | refine blk_drewN ?_ _ | refine blk_drew ?_ | refine blk_alloc ?_ _)); refine blk_far ?_ NB258_259.out _; (with_reducible repeat (first | refine blk_drewN ?_ _ | refine blk_drew ?_ | refine blk_alloc ?_ _)); refine blk_put (cs := #[.int .i64 t248, .slice none 0 0]) ?_ 1 _ rfl; (with_reducible repeat (first | refine blk_drewN ?_ _ | refine blk_drew ?_ | refine blk_alloc ?_ _)); refine blk_put (cs := #[.int .i64 0, .slice none 0 0]) ?_ 0 _ rfl; (with_reducible repeat (first | refine blk_drewN ?_ _ | refine blk_drew ?_ | refine blk_alloc ?_ _)); exact BK258.out) hg (Kd.R_ne HO_5.out BK258.out (by decide))); have n10_ := Aside0.mk (blk_grown (g := gb259) (o := .cells #[.slice Ao107 t252.length co107] 31 (0, 0)) (by (with_reducible repeat (first | refine blk_drewN ?_ _ | refine blk_drew ?_ | refine blk_alloc ?_ _)); refine blk_far ?_ NB259_226.out _; (with_reducible repeat (first | refine blk_drewN ?_ _ | refine blk_drew ?_ | refine blk_alloc ?_ _)); refine blk_far ?_ NB259_225.out _; (with_reducible repeat (first | refine blk_drewN ?_ _ | refine blk_drew ?_ | refine blk_alloc ?_ _)); refine blk_far ?_ NB259_225.out _; (with_reducible repeat (first | refine blk_drewN ?_ _ | refine blk_drew ?_ | refine blk_alloc ?_ _)); refine blk_put (cs := #[.slice none 0 0]) ?_ 0 _ rfl; (with_reducible repeat (first | refine blk_drewN ?_ _ | refine blk_drew ?_ | refine blk_alloc ?_ _)); refine blk_far ?_ NB259_258.out _; (with_reducible repeat (first | refine blk_drewN ?_ _ | refine blk_drew ?_ | refine blk_alloc ?_ _)); refine blk_far ?_ NB259_258.out _; (with_reducible repeat (first | refine blk_drewN ?_ _ | refine blk_drew ?_ | refine blk_alloc ?_ _)); exact BK259.out) hg (Kd.R_ne HO_5.out BK259.out (by decide))); have n11_ := Aside0.mk (hb); have n12_ := Aside0.mk (ho); clear HO_226001; clear HO_227000; clear BK215; clear BK225; clear BK226; clear BK227; clear HO251; clear HO254; clear HO257; clear BK258; clear BK259; clear HB; clear HO_5; have HO_226001 := n0_; have HO_227000 := n1_; have BK215 := n2_; have BK225 := n3_; have BK226 := n4_; have BK227 := n5_; have HO251 := n6_; have HO254 := n7_; have HO257 := n8_; have BK258 := n9_; have BK259 := n10_; have HB := n11_; have HO262 := n12_; clear n0_ n1_ n2_ n3_ n4_ n5_ n6_ n7_ n8_ n9_ n10_ n11_ n12_; clear ho hb hg hat))
               go_roundg k3
               case measure => have := HJ2.out; have := HK2.out; have := HK3.out; omega
               case rel => exact ⟨(y260), (wrap64 (x9_3 + 1)), (t248), (t249), (t252), (.slice Ao106 t249.length co106), (.slice Ao107 t252.length co107), (by first | rfl | (simp; done) | (simp [*]; done)), H', ⟨by have := HJ2.out; have := HK2.out; have := HK3.out; omega⟩, ⟨by (with_reducible repeat (first | apply Kd.R_alloc | apply Kd.R_drewN | apply Kd.R_drew)); exact Kd.R_mono HO262.out (fun _ hk => trivial)⟩, ⟨by (with_reducible repeat (first | apply Kd.R_alloc | apply Kd.R_drewN | apply Kd.R_drew)); exact Kd.R_mono HO251.out (fun _ hk => hk.1.1.1)⟩, ⟨by (with_reducible repeat (first | apply Kd.R_alloc | apply Kd.R_drewN | apply Kd.R_drew)); exact Kd.R_mono HO254.out (fun _ hk => hk.1.1.1)⟩, ⟨by (with_reducible repeat (first | refine blk_drewN ?_ _ | refine blk_drew ?_ | refine blk_alloc ?_ _)); exact BK215.out⟩, ⟨by (with_reducible repeat (first | refine blk_drewN ?_ _ | refine blk_drew ?_ | refine blk_alloc ?_ _)); exact BK225.out⟩, ⟨by (with_reducible repeat (first | refine blk_drewN ?_ _ | refine blk_drew ?_ | refine blk_alloc ?_ _)); exact BK226.out⟩, ⟨by exact lq HB.out⟩⟩
              ·rw [if_neg c83] at H
               exact absurd H (by simp)
             ·rw [if_neg c81] at H
              have c81b0 : (((rd_T70 l1 x9_3).f0) == 2) = false := beq_eq_false_iff_ne.mpr c81
              have c81b1 : (((rd_T70 l1 x9_3).f0) != 2) = true := bne_iff_ne.mpr c81
              replace H := Option.bind_eq_some_iff.mp H
              obtain ⟨⟨t263, t264⟩, A1170, H⟩ := H
              (try dsimp only at H)
              have A117 := Aside0.mk A1170
              clear A1170
              by_cases c118 : x5_3.length < 8796093022208
              ·rw [if_pos c118] at H
               have LMc118 := Aside0.mk c118
               clear c118
               obtain ⟨y267, hy267⟩ : ∃ y_ : List (S72), y_ = (x5_3 ++ [(⟨0, 0⟩ : S72)]) := ⟨_, rfl⟩
               replace H : (spec_ChanPlay.l1 k3 l1 y267 (wrap64 (x9_3 + 1)) a0_0 a0_1 a0_2 a0_3 t263 t264 x227000_3) = some r := by first | (rw [hy267]; with_reducible exact H) | (have H2_ := (Option.bind_some _ _).symm.trans H; rw [hy267]; with_reducible exact H2_) | (have H2_ := (Option.bind_some _ _).symm.trans H; with_reducible exact H2_) | with_reducible exact H | (rw [hy267]; exact H) | exact H
               have Ny267 := Aside0.mk hy267
               clear hy267
               have H' := Aside0.mk H
               clear H
               go_wp2_with (first | ((with_reducible refine gate_dst (N := 10) rfl ?_); (try (refine gate_guard (by rfl) ?_; dsimp only)); refine box_event ?hg (N := 10) ?hd (cs := #[.int .i64 0, .int .u32 0]) (t := 72) ?hr ?_; (case hd => rfl); (case hg => rfl); (case hr => first | (go_simp; done) | (go_simp; rfl)); intro gb227 hg w119 hbox hb; have n0_ := Aside0.mk (Kd.R_below (Kd.R_elderB (rq HO_5.out) gb227 (Nat.le_of_eq hg.symm)) hb); have n1_ := Aside0.mk (Kd.R_below (rq HO_226001.out) hb); have n2_ := Aside0.mk (Kd.R_below (rq HO_227000.out) hb); have n3_ := Aside0.mk (blk_below (bq BK215.out) hb); have n4_ := Aside0.mk (blk_below (bq BK225.out) hb); have n5_ := Aside0.mk (blk_below (bq BK226.out) hb); have n6_ := Aside0.mk (below_step (lq HB.out) hb); have n7_ := Aside0.mk (hbox); have n8_ := Aside0.mk ((ge_new hg (lq HB.out) : w.heap.size ≤ gb227)); have n9_ := Aside0.mk ((ge_new hg (lq HB.out) : w.heap.size ≤ gb227)); have n10_ := Aside0.mk ((ne_new hg (bq BK215.out) : gb215 ≠ gb227)); have n11_ := Aside0.mk ((new_ne hg (bq BK215.out) : gb227 ≠ gb215)); have n12_ := Aside0.mk ((ne_new hg (bq BK225.out) : gb225 ≠ gb227)); have n13_ := Aside0.mk ((new_ne hg (bq BK225.out) : gb227 ≠ gb225)); have n14_ := Aside0.mk ((ne_new hg (bq BK226.out) : gb226 ≠ gb227)); have n15_ := Aside0.mk ((new_ne hg (bq BK226.out) : gb227 ≠ gb226)); clear HO_5; clear HO_226001; clear HO_227000; clear BK215; clear BK225; clear BK226; clear HB; have HO_5 := n0_; have HO_226001 := n1_; have HO_227000 := n2_; have BK215 := n3_; have BK225 := n4_; have BK226 := n5_; have HB := n6_; have BK227 := n7_; have GW227 := n8_; have GE227 := n9_; have NB215_227 := n10_; have NB227_215 := n11_; have NB225_227 := n12_; have NB227_225 := n13_; have NB226_227 := n14_; have NB227_226 := n15_; clear n0_ n1_ n2_ n3_ n4_ n5_ n6_ n7_ n8_ n9_ n10_ n11_ n12_ n13_ n14_ n15_; clear hb hbox hg; have hnb120 := NB227_215.out; have hnc120 := NB215_227.out; have hnb121 := NB227_225.out; have hnc121 := NB225_227.out; have hnb122 := NB227_226.out; have hnc122 := NB226_227.out; have hcz123_0 : w119.cell? ⟨gb227, 0, none⟩ = some (.int .i64 0) := (blk_cell BK227.out 0).trans rfl; have hcz123_1 : w119.cell? ⟨gb227, 1, none⟩ = some (.int .u32 0) := (blk_cell BK227.out 1).trans rfl; have hfz123_0 := blk_frozen BK227.out 0; have hfz123_1 := blk_frozen BK227.out 1; have p228 : 0 ≤ (x9_3 : Int) := of_decide_eq_true (by first | (with_reducible assumption) | assumption); have q228 : x9_3 < (l1.length : Int) := of_decide_eq_true (by first | (with_reducible assumption) | assumption); obtain ⟨ad228, e228, hx228_0, hx228_1⟩ := at_T70 HR1.out x9_3 p228 q228; cases e228; have hn228_0 : ad228.block ≠ gb227 := Nat.ne_of_lt (Nat.lt_of_lt_of_le (by have := World.block_lt_of_cell? _ _ hx228_0; first | rwa [add_block] at this | exact this) GW227.out); have hn228_1 : ad228.block ≠ gb227 := Nat.ne_of_lt (Nat.lt_of_lt_of_le (by have := World.block_lt_of_cell? _ _ hx228_0; first | rwa [add_block] at this | exact this) GW227.out); replace hx228_0 := (HB.out.cell (World.block_lt_of_cell? w _ hx228_0)).trans hx228_0; replace hx228_1 := (HB.out.cell (World.block_lt_of_cell? w _ hx228_1)).trans hx228_1; replace hx228_0 := (cell_far (p := ⟨gb227, 0, none⟩) (by first | (rw [add_block]; exact hn228_0) | (show (Addr.add _ _).block ≠ _; rw [add_block]; exact hn228_0) | exact hn228_0) (.int .i64 0)).trans hx228_0; replace hx228_1 := (cell_far (p := ⟨gb227, 0, none⟩) (by first | (rw [add_block]; exact hn228_0) | (show (Addr.add _ _).block ≠ _; rw [add_block]; exact hn228_0) | exact hn228_0) (.int .i64 0)).trans hx228_1; replace hx228_0 := (cell_far (p := ⟨gb227, 1, none⟩) (by first | (rw [add_block]; exact hn228_1) | (show (Addr.add _ _).block ≠ _; rw [add_block]; exact hn228_1) | exact hn228_1) (.int .u32 0)).trans hx228_0; replace hx228_1 := (cell_far (p := ⟨gb227, 1, none⟩) (by first | (rw [add_block]; exact hn228_1) | (show (Addr.add _ _).block ≠ _; rw [add_block]; exact hn228_1) | exact hn228_1) (.int .u32 0)).trans hx228_1; clear hn228_0; clear hn228_1; replace p228 := eq_true p228; replace q228 := eq_true q228; have hnb124 := NB215_225.out; have hnc124 := NB225_215.out; have hnb125 := NB215_226.out; have hnc125 := NB226_215.out; have hcz126_0 : w119.cell? ⟨gb215, 0, none⟩ = some (.int .i64 a0_0) := (blk_cell BK215.out 0).trans rfl; have hcz126_1 : w119.cell? ⟨gb215, 1, none⟩ = some (.int .i64 a0_1) := (blk_cell BK215.out 1).trans rfl; have hcz126_2 : w119.cell? ⟨gb215, 2, none⟩ = some (.int .i64 a0_2) := (blk_cell BK215.out 2).trans rfl; have hcz126_3 : w119.cell? ⟨gb215, 3, none⟩ = some (.int .i64 a0_3) := (blk_cell BK215.out 3).trans rfl; have hfz126_0 := blk_frozen BK215.out 0; have hfz126_1 := blk_frozen BK215.out 1; have hfz126_2 := blk_frozen BK215.out 2; have hfz126_3 := blk_frozen BK215.out 3; have hnb127 := NB225_226.out; have hnc127 := NB226_225.out; have hcz128_0 : w119.cell? ⟨gb225, 0, none⟩ = some (.int .i64 x226000_3) := (blk_cell BK225.out 0).trans rfl; have hcz128_1 : w119.cell? ⟨gb225, 1, none⟩ = some (u226001) := (blk_cell BK225.out 1).trans rfl; have hfz128_0 := blk_frozen BK225.out 0; have hfz128_1 := blk_frozen BK225.out 1; obtain ⟨Ao129, co129, eo129⟩ := Kd.R_slice HO_226001.out; subst eo129) | ((with_reducible refine gate_callee (f := 27) rfl ?_); refine goesL_ (some 59) rfl rfl Try.func27 (by kernel_rfl) rfl #[.agg #[.int .i64 a0_0, .int .i64 a0_1, .int .i64 a0_2, .int .i64 a0_3], .agg #[.int .i64 x226000_3, .slice Ao129 x226001_3.length co129]] rfl (by (try simp only [List.map_toArray, List.map_cons, List.map_nil]); first | done | rfl | (simp only [List.length_drop, List.length_take]; rfl)) ?_; (with_reducible refine (spec_Discard.calls a0_0 a0_1 a0_2 a0_3 x226000_3 _ _ x226001_3 t263 t264 _ ?side1 ?side2 A117.out).mono ?_); (case side1 => refine (Kd.R_reads' (e := 46) (base := w.heap.size) (ok := fun k_ => some k_ ≠ (u227000 : Value).ownBlock) (n := x226001_3.length) (c := co129) ?_).2.2; exact (rq (Kd.R_mono (Kd.R_far (p := ⟨gb227, 1, none⟩) (Kd.R_far (p := ⟨gb227, 0, none⟩) (Kd.R_types HO_226001.out BK227.out (by decide)) (fun _ hk => hk.2) (.int .i64 0)) (fun _ hk => hk.2) (.int .u32 0)) (fun _ h_ => h_.1)))); (case side2 => exact (Kd.R_reads' HO_226001.out).2.1); rintro e w130 ⟨v265, rfl, ho0, hb⟩; refine ⟨_, rfl, ?_⟩; have n0_ := Aside0.mk (Kd.R_below (rq (Kd.R_mono (Kd.R_far (p := ⟨gb227, 1, none⟩) (Kd.R_far (p := ⟨gb227, 0, none⟩) (Kd.R_mono HO_5.out (fun k_ hk => (⟨hk, hk.2⟩ : _ ∧ k_ ≠ gb227))) (fun _ hk => hk.2) (.int .i64 0)) (fun _ hk => hk.2) (.int .u32 0)) (fun _ h_ => h_.1))) hb); have n1_ := Aside0.mk (Kd.R_elder' (rq (Kd.R_mono (Kd.R_far (p := ⟨gb227, 1, none⟩) (Kd.R_far (p := ⟨gb227, 0, none⟩) (Kd.R_types HO_226001.out BK227.out (by decide)) (fun _ hk => hk.2) (.int .i64 0)) (fun _ hk => hk.2) (.int .u32 0)) (fun _ h_ => h_.1))) (Kd.R_base ho0) hb); have n2_ := Aside0.mk (Kd.R_elder' (rq (Kd.R_mono (Kd.R_far (p := ⟨gb227, 1, none⟩) (Kd.R_far (p := ⟨gb227, 0, none⟩) (Kd.R_types HO_227000.out BK227.out (by decide)) (fun _ hk => hk.2) (.int .i64 0)) (fun _ hk => hk.2) (.int .u32 0)) (fun _ h_ => h_.1))) (Kd.R_base ho0) hb); have n3_ := Aside0.mk (Kd.R_lower (Kd.R_new' (Kd.R_new' ho0 (Kd.R_lt (rq (Kd.R_mono (Kd.R_far (p := ⟨gb227, 1, none⟩) (Kd.R_far (p := ⟨gb227, 0, none⟩) (Kd.R_types HO_226001.out BK227.out (by decide)) (fun _ hk => hk.2) (.int .i64 0)) (fun _ hk => hk.2) (.int .u32 0)) (fun _ h_ => h_.1))))) (Kd.R_lt (rq (Kd.R_mono (Kd.R_far (p := ⟨gb227, 1, none⟩) (Kd.R_far (p := ⟨gb227, 0, none⟩) (Kd.R_types HO_227000.out BK227.out (by decide)) (fun _ hk => hk.2) (.int .i64 0)) (fun _ hk => hk.2) (.int .u32 0)) (fun _ h_ => h_.1))))) (below_size (by repeat (first | (with_reducible first | exact HB.out | apply below_alloc | apply pw_below_drewN | apply below_drew1 | refine below_set ?_ GE227.out) | exact HB.out)))); have n4_ := Aside0.mk (blk_below (g := gb215) (o := .cells #[.int .i64 a0_0, .int .i64 a0_1, .int .i64 a0_2, .int .i64 a0_3] 29 (0, 0)) (by (with_reducible repeat (first | refine blk_drewN ?_ _ | refine blk_drew ?_ | refine blk_alloc ?_ _)); refine blk_far ?_ NB215_227.out _; (with_reducible repeat (first | refine blk_drewN ?_ _ | refine blk_drew ?_ | refine blk_alloc ?_ _)); refine blk_far ?_ NB215_227.out _; (with_reducible repeat (first | refine blk_drewN ?_ _ | refine blk_drew ?_ | refine blk_alloc ?_ _)); exact BK215.out) hb); have n5_ := Aside0.mk (blk_below (g := gb225) (o := .cells #[.int .i64 x226000_3, .slice Ao129 x226001_3.length co129] 39 (0, 0)) (by (with_reducible repeat (first | refine blk_drewN ?_ _ | refine blk_drew ?_ | refine blk_alloc ?_ _)); refine blk_far ?_ NB225_227.out _; (with_reducible repeat (first | refine blk_drewN ?_ _ | refine blk_drew ?_ | refine blk_alloc ?_ _)); refine blk_far ?_ NB225_227.out _; (with_reducible repeat (first | refine blk_drewN ?_ _ | refine blk_drew ?_ | refine blk_alloc ?_ _)); exact BK225.out) hb); have n6_ := Aside0.mk (blk_below (g := gb226) (o := .cells #[u227000] 31 (0, 0)) (by (with_reducible repeat (first | refine blk_drewN ?_ _ | refine blk_drew ?_ | refine blk_alloc ?_ _)); refine blk_far ?_ NB226_227.out _; (with_reducible repeat (first | refine blk_drewN ?_ _ | refine blk_drew ?_ | refine blk_alloc ?_ _)); refine blk_far ?_ NB226_227.out _; (with_reducible repeat (first | refine blk_drewN ?_ _ | refine blk_drew ?_ | refine blk_alloc ?_ _)); exact BK226.out) hb); have n7_ := Aside0.mk (blk_below (g := gb227) (o := .cells #[.int .i64 0, .int .u32 0] 72 (0, 0)) (by (with_reducible repeat (first | refine blk_drewN ?_ _ | refine blk_drew ?_ | refine blk_alloc ?_ _)); refine blk_put (cs := #[.int .i64 0, .int .u32 0]) ?_ 1 _ rfl; (with_reducible repeat (first | refine blk_drewN ?_ _ | refine blk_drew ?_ | refine blk_alloc ?_ _)); refine blk_put (cs := #[.int .i64 0, .int .u32 0]) ?_ 0 _ rfl; (with_reducible repeat (first | refine blk_drewN ?_ _ | refine blk_drew ?_ | refine blk_alloc ?_ _)); exact BK227.out) hb); have n8_ := Aside0.mk (below_step (by repeat (first | (with_reducible first | exact HB.out | apply below_alloc | apply pw_below_drewN | apply below_drew1 | refine below_set ?_ GE227.out) | exact HB.out)) hb); clear HO_5; clear HO_226001; clear HO_227000; clear BK215; clear BK225; clear BK226; clear BK227; clear HB; have HO_5 := n0_; have HO_226001 := n1_; have HO_227000 := n2_; have HO266 := n3_; have BK215 := n4_; have BK225 := n5_; have BK226 := n6_; have BK227 := n7_; have HB := n8_; clear n0_ n1_ n2_ n3_ n4_ n5_ n6_ n7_ n8_; (try clear hb); (try clear hb2); (try clear hk); (try clear hi); (try clear ho0); have hcz131_0 : w130.cell? ⟨gb225, 0, none⟩ = some (.int .i64 x226000_3) := (blk_cell BK225.out 0).trans rfl; have hcz131_1 : w130.cell? ⟨gb225, 1, none⟩ = some (.slice Ao129 x226001_3.length co129) := (blk_cell BK225.out 1).trans rfl; have hfz131_0 := blk_frozen BK225.out 0; have hfz131_1 := blk_frozen BK225.out 1; obtain ⟨Ao132, co132, eo132⟩ := Kd.R_slice HO266.out; subst eo132; have hcz133_0 : w130.cell? ⟨gb227, 0, none⟩ = some (.int .i64 0) := (blk_cell BK227.out 0).trans rfl; have hcz133_1 : w130.cell? ⟨gb227, 1, none⟩ = some (.int .u32 0) := (blk_cell BK227.out 1).trans rfl; have hfz133_0 := blk_frozen BK227.out 0; have hfz133_1 := blk_frozen BK227.out 1) | ((with_reducible refine gate_builtin (b := .append) (xs := #[.tmp 102, .tmp 104]) rfl ?_); (try (refine gate_guard (by rfl) ?_; dsimp only)); at_builtin; refine Kd.R_append k72 (w0 := w) w.heap.size rfl (.tmp 102) (.tmp 104) 66 72 (.agg #[(.int .i64 0), (.int .u32 0)]) 16 rfl Try.underlying66 info72 rfl (by decide) (by omega) u5 x5_3 (⟨0, 0⟩ : S72) [.int .i64 0, .int .u32 0] (fun k_ => k_ ≠ gb227) (fun _ => False) rfl (by first | (go_simp; done) | (go_simp; rfl)) ?aP (fun _ hk => hk.elim) ?aF ?aO ?aB ?aS ?aL ?_; (case aP => exact k72_mkM _ _ _ (⟨0, 0⟩ : S72)); (case aB => exact (by repeat (first | (with_reducible first | exact HB.out | apply below_alloc | apply pw_below_drewN | apply below_drew1 | refine below_set ?_ GE225.out) | exact HB.out))); (case aF => exact (fun k_ hk => Kd.freshB (g := gb227) (o := .cells #[.int .i64 0, .int .u32 0] 72 (0, 0)) (by (with_reducible repeat (first | refine blk_drewN ?_ _ | refine blk_drew ?_ | refine blk_alloc ?_ _)); refine blk_far ?_ NB227_225.out _; (with_reducible repeat (first | refine blk_drewN ?_ _ | refine blk_drew ?_ | refine blk_alloc ?_ _)); refine blk_far ?_ NB227_225.out _; (with_reducible repeat (first | refine blk_drewN ?_ _ | refine blk_drew ?_ | refine blk_alloc ?_ _)); exact BK227.out) k_ hk)); (case aO => exact (by (with_reducible repeat (first | apply Kd.R_alloc | apply Kd.R_drewN | apply Kd.R_drew)); exact Kd.R_mono (Kd.R_far (p := ⟨gb225, 1, none⟩) (Kd.R_far (p := ⟨gb225, 0, none⟩) (Kd.R_types HO_5.out BK225.out (by decide)) (fun _ hk => hk.2) (.int .i64 t263)) (fun _ hk => hk.2) (.slice Ao132 t264.length co132)) (fun _ hk => hk.1.2))); (case aS => exact (below_size (by repeat (first | (with_reducible first | exact HB.out | apply below_alloc | apply pw_below_drewN | apply below_drew1 | refine below_set ?_ GE225.out) | exact HB.out)))); (case aL => have := LMc118.out; omega); intro v268 w134 ho hb hg hat; rw [← Ny267.out] at ho; have n0_ := Aside0.mk (Kd.R_over' (rq (Kd.R_mono (Kd.R_far (p := ⟨gb225, 1, none⟩) (Kd.R_far (p := ⟨gb225, 0, none⟩) (Kd.R_types HO_226001.out BK225.out (by decide)) (fun _ hk => hk.2) (.int .i64 t263)) (fun _ hk => hk.2) (.slice Ao132 t264.length co132)) (fun _ h_ => h_.1))) (Kd.R_typed (rq (Kd.R_mono (Kd.R_far (p := ⟨gb225, 1, none⟩) (Kd.R_far (p := ⟨gb225, 0, none⟩) (Kd.R_types HO_5.out BK225.out (by decide)) (fun _ hk => hk.2) (.int .i64 t263)) (fun _ hk => hk.2) (.slice Ao132 t264.length co132)) (fun _ h_ => h_.1)))) (by decide) hg); have n1_ := Aside0.mk (Kd.R_over' (rq (Kd.R_mono (Kd.R_far (p := ⟨gb225, 1, none⟩) (Kd.R_far (p := ⟨gb225, 0, none⟩) (Kd.R_types HO_227000.out BK225.out (by decide)) (fun _ hk => hk.2) (.int .i64 t263)) (fun _ hk => hk.2) (.slice Ao132 t264.length co132)) (fun _ h_ => h_.1))) (Kd.R_typed (rq (Kd.R_mono (Kd.R_far (p := ⟨gb225, 1, none⟩) (Kd.R_far (p := ⟨gb225, 0, none⟩) (Kd.R_types HO_5.out BK225.out (by decide)) (fun _ hk => hk.2) (.int .i64 t263)) (fun _ hk => hk.2) (.slice Ao132 t264.length co132)) (fun _ h_ => h_.1)))) (by decide) hg); have n2_ := Aside0.mk (blk_grown (g := gb215) (o := .cells #[.int .i64 a0_0, .int .i64 a0_1, .int .i64 a0_2, .int .i64 a0_3] 29 (0, 0)) (by (with_reducible repeat (first | refine blk_drewN ?_ _ | refine blk_drew ?_ | refine blk_alloc ?_ _)); refine blk_far ?_ NB215_225.out _; (with_reducible repeat (first | refine blk_drewN ?_ _ | refine blk_drew ?_ | refine blk_alloc ?_ _)); refine blk_far ?_ NB215_225.out _; (with_reducible repeat (first | refine blk_drewN ?_ _ | refine blk_drew ?_ | refine blk_alloc ?_ _)); exact BK215.out) hg (Kd.R_ne HO_5.out BK215.out (by decide))); have n3_ := Aside0.mk (blk_grown (g := gb225) (o := .cells #[.int .i64 t263, .slice Ao132 t264.length co132] 39 (0, 0)) (by (with_reducible repeat (first | refine blk_drewN ?_ _ | refine blk_drew ?_ | refine blk_alloc ?_ _)); refine blk_put (cs := #[.int .i64 t263, .slice Ao129 x226001_3.length co129]) ?_ 1 _ rfl; (with_reducible repeat (first | refine blk_drewN ?_ _ | refine blk_drew ?_ | refine blk_alloc ?_ _)); refine blk_put (cs := #[.int .i64 x226000_3, .slice Ao129 x226001_3.length co129]) ?_ 0 _ rfl; (with_reducible repeat (first | refine blk_drewN ?_ _ | refine blk_drew ?_ | refine blk_alloc ?_ _)); exact BK225.out) hg (Kd.R_ne HO_5.out BK225.out (by decide))); have n4_ := Aside0.mk (blk_grown (g := gb226) (o := .cells #[u227000] 31 (0, 0)) (by (with_reducible repeat (first | refine blk_drewN ?_ _ | refine blk_drew ?_ | refine blk_alloc ?_ _)); refine blk_far ?_ NB226_225.out _; (with_reducible repeat (first | refine blk_drewN ?_ _ | refine blk_drew ?_ | refine blk_alloc ?_ _)); refine blk_far ?_ NB226_225.out _; (with_reducible repeat (first | refine blk_drewN ?_ _ | refine blk_drew ?_ | refine blk_alloc ?_ _)); exact BK226.out) hg (Kd.R_ne HO_5.out BK226.out (by decide))); have n5_ := Aside0.mk (blk_grown (g := gb227) (o := .cells #[.int .i64 0, .int .u32 0] 72 (0, 0)) (by (with_reducible repeat (first | refine blk_drewN ?_ _ | refine blk_drew ?_ | refine blk_alloc ?_ _)); refine blk_far ?_ NB227_225.out _; (with_reducible repeat (first | refine blk_drewN ?_ _ | refine blk_drew ?_ | refine blk_alloc ?_ _)); refine blk_far ?_ NB227_225.out _; (with_reducible repeat (first | refine blk_drewN ?_ _ | refine blk_drew ?_ | refine blk_alloc ?_ _)); exact BK227.out) hg (Kd.R_away HO_5.out (fun _ hk => hk.2))); have n6_ := Aside0.mk (Kd.R_over' (rq (Kd.R_mono (Kd.R_far (p := ⟨gb225, 1, none⟩) (Kd.R_far (p := ⟨gb225, 0, none⟩) (Kd.R_types HO266.out BK225.out (by decide)) (fun _ hk => hk.2) (.int .i64 t263)) (fun _ hk => hk.2) (.slice Ao132 t264.length co132)) (fun _ h_ => h_.1))) (Kd.R_typed (rq (Kd.R_mono (Kd.R_far (p := ⟨gb225, 1, none⟩) (Kd.R_far (p := ⟨gb225, 0, none⟩) (Kd.R_types HO_5.out BK225.out (by decide)) (fun _ hk => hk.2) (.int .i64 t263)) (fun _ hk => hk.2) (.slice Ao132 t264.length co132)) (fun _ h_ => h_.1)))) (by decide) hg); have n7_ := Aside0.mk (hb); have n8_ := Aside0.mk (ho); clear HO_226001; clear HO_227000; clear BK215; clear BK225; clear BK226; clear BK227; clear HO266; clear HB; clear HO_5; have HO_226001 := n0_; have HO_227000 := n1_; have BK215 := n2_; have BK225 := n3_; have BK226 := n4_; have BK227 := n5_; have HO266 := n6_; have HB := n7_; have HO269 := n8_; clear n0_ n1_ n2_ n3_ n4_ n5_ n6_ n7_ n8_; clear ho hb hg hat))
               go_roundg k3
               case measure => have := HJ2.out; have := HK2.out; have := HK3.out; omega
               case rel => exact ⟨(y267), (wrap64 (x9_3 + 1)), (t263), (t264), (x227000_3), (.slice Ao132 t264.length co132), (u227000), (by first | rfl | (simp; done) | (simp [*]; done)), H', ⟨by have := HJ2.out; have := HK2.out; have := HK3.out; omega⟩, ⟨by (with_reducible repeat (first | apply Kd.R_alloc | apply Kd.R_drewN | apply Kd.R_drew)); exact Kd.R_mono HO269.out (fun _ hk => trivial)⟩, ⟨by (with_reducible repeat (first | apply Kd.R_alloc | apply Kd.R_drewN | apply Kd.R_drew)); exact Kd.R_mono HO266.out (fun _ hk => hk.2)⟩, ⟨by (with_reducible repeat (first | apply Kd.R_alloc | apply Kd.R_drewN | apply Kd.R_drew)); exact Kd.R_mono HO_227000.out (fun _ hk => hk.2)⟩, ⟨by (with_reducible repeat (first | refine blk_drewN ?_ _ | refine blk_drew ?_ | refine blk_alloc ?_ _)); exact BK215.out⟩, ⟨by (with_reducible repeat (first | refine blk_drewN ?_ _ | refine blk_drew ?_ | refine blk_alloc ?_ _)); exact BK225.out⟩, ⟨by (with_reducible repeat (first | refine blk_drewN ?_ _ | refine blk_drew ?_ | refine blk_alloc ?_ _)); exact BK226.out⟩, ⟨by exact lq HB.out⟩⟩
              ·rw [if_neg c118] at H
               exact absurd H (by simp)
          ·rw [if_neg c28] at H
           exact absurd H (by simp)
         ·rw [if_neg c27] at H
          have c27b0 : decide (x9_3 < (l1.length : Int)) = false := decide_eq_false c27
          clear c27
          obtain rfl := Option.some.inj H
          go_wp2
          go_ret
          exact ⟨_, by first | rfl | (simp [errW_none, errW_some] <;> rfl) | (simp [*, errW_none, errW_some] <;> rfl), by (with_reducible repeat (first | apply Kd.R_alloc | apply Kd.R_drewN | apply Kd.R_drew)); exact HO_5.out, by exact lq HB.out⟩

end Go.Proofs.Ytioifcanipijhaa.GC
