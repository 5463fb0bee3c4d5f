/- Told by a program of this session, out of the translation: each function of the group as a plain Lean function, and that Go's call comes to just its answer. Lean checks it. -/
import Derived.Test.YtioifcanipijhaaGKx0T
import Derived.Test.YtioifcanipijhaaGKx1T
import Derived.Test.YtioifcanipijhaaGKx7T
import Derived.Test.YtioifcanipijhaaGKx11T
import Derived.Test.YtioifcanipijhaaChgKT
namespace Go.Proofs.Ytioifcanipijhaa.GK
open Go.RowKit Go.Proofs.YtioifcanipijhaaW.PrintWords Go.Proofs.YtioifcanipijhaaW.PrintLast Go.Proofs.YtioifcanipijhaaW.PrintMore Go.Proofs.Ytioifcanipijhaa.Q
attribute [local go_sem] max2_int min2_int max_two min_two max_three min_three max_four min_four   -- for this text's walks alone
set_option linter.unusedVariables false
set_option linter.unusedSimpArgs false

/-! ### laws_FnSample: function 12 -/
mutual
def laws_FnSample.j0 : Nat → List (S70) → List (S72) → Bool → Option (Bool)
 | 0, _, _, _ => none
 | k + 1, x4, x5, x33 => if x33 = true then (some true) else (laws_FnSample.l0 k x4 x5 (([] : List Int)) (([] : List Int)) 0)
def laws_FnSample.l0 : Nat → List (S70) → List (S72) → List Int → List Int → Int → Option (Bool)
 | 0, _, _, _, _, _ => none
 | k + 1, x4, x5, x6, x7, x8 => if x8 < (x5.length : Int) then (if 0 ≤ x8 then (if x8 < (x4.length : Int) then (if ((rd_T70 x4 x8).f0) = 0 then (if ((rd_T72 x5 x8).f0) = 0 then (laws_FnSample.l0 k x4 x5 x6 (([(rd_T70 x4 x8).f1] : List Int)) (wrap64 (x8 + 1))) else (some false)) else (if ((rd_T70 x4 x8).f0) = 1 then (if (x6.length : Int) = 0 then (if ((rd_T72 x5 x8).f0) = 1 then (laws_FnSample.l0 k x4 x5 x6 x7 (wrap64 (x8 + 1))) else (some false)) else (if ((rd_T72 x5 x8).f0) = 0 then (if 0 < (x6.length : Int) then (if ((rd_T72 x5 x8).f1) = (rd x6 0) then (laws_FnSample.l0 k x4 x5 x6 x7 (wrap64 (x8 + 1))) else (some false)) else (none)) else (some false))) else (if ((rd_T70 x4 x8).f0) = 2 then (if (x7.length : Int) > 0 then (laws_FnSample.l0 k x4 x5 x7 (([] : List Int)) (wrap64 (x8 + 1))) else (laws_FnSample.l0 k x4 x5 x6 (([] : List Int)) (wrap64 (x8 + 1)))) else (laws_FnSample.l0 k x4 x5 x6 (([] : List Int)) (wrap64 (x8 + 1)))))) else (none)) else (none)) else (some true)
end
def laws_FnSample.f (k : Nat) (l0 : List Int) : Option (Bool) := (laws_big.f l0).bind fun t454 => (if t454 = true then (some true) else ((spec_DrawChanPlay.f k l0).bind fun bt455 => ((impl_ChanPlay.f bt455.1 bt455.2.1 bt455.2.2.1 bt455.2.2.2.1 bt455.2.2.2.2).bind fun t463 => ((spec_ChanPlay.f k bt455.1 bt455.2.1 bt455.2.2.1 bt455.2.2.2.1 bt455.2.2.2.2).bind fun t466 => (if (t463.length : Int) = (t466.length : Int) then ((spec_ChanOk.f bt455.1 bt455.2.1 bt455.2.2.1 bt455.2.2.2.1).bind fun t469 => (if t469 = true then (laws_FnSample.j0 k bt455.2.2.2.2 t463 (bt455.1 != 0)) else (laws_FnSample.j0 k bt455.2.2.2.2 t463 true))) else (some false))))))
set_option maxHeartbeats 8000000 in
set_option maxRecDepth 100000 in
theorem laws_FnSample.calls (k : Nat) (A0 : Option Addr) (c0 : Nat) (l0 : List Int) (w : World) (hr0 : Kd.C (Kd.int .u8) w A0 l0.length l0) (hc0 : l0.length ≤ c0) (h : laws_FnSample.f k l0 = some true) :
  Calls Try.prog 12 #[.slice A0 l0.length c0] w fun e w' => e = .returned (.bool true) ∧ Below w.heap.size w w' := by
 have hu29 := Try.underlying29
 have HR0 := Aside0.mk hr0
 have HC0 := Aside0.mk hc0
 clear hr0 hc0
 have HB := Aside0.mk (Below.refl w.heap.size w)
 have H : ((laws_big.f l0).bind fun t454 => (if t454 = true then (some true) else ((spec_DrawChanPlay.f k l0).bind fun bt455 => ((impl_ChanPlay.f bt455.1 bt455.2.1 bt455.2.2.1 bt455.2.2.2.1 bt455.2.2.2.2).bind fun t463 => ((spec_ChanPlay.f k bt455.1 bt455.2.1 bt455.2.2.1 bt455.2.2.2.1 bt455.2.2.2.2).bind fun t466 => (if (t463.length : Int) = (t466.length : Int) then ((spec_ChanOk.f bt455.1 bt455.2.1 bt455.2.2.1 bt455.2.2.2.1).bind fun t469 => (if t469 = true then (laws_FnSample.j0 k bt455.2.2.2.2 t463 (bt455.1 != 0)) else (laws_FnSample.j0 k bt455.2.2.2.2 t463 true))) else (some false))))))) = some true := h
 clear h
 replace H := Option.bind_eq_some_iff.mp H
 obtain ⟨t454, A20, H⟩ := H
 (try dsimp only at H)
 have A2 := Aside0.mk A20
 clear A20
 by_cases c3 : t454 = true
 ·subst c3
  rw [if_pos rfl] at H
  clear H
  go_enter Try.func12, Try.ntmps12
  go_wp2_with (first | (go_at_call 42; (with_reducible refine (laws_big.calls _ _ l0 true _ ?side1 ?side2 A2.out).mono ?_); (case side1 => repeat (first | exact HR0.out | (with_reducible refine Kd.C_alloc ?_ _) | (with_reducible refine Kd.C_drewN ?_ _) | (with_reducible refine Kd.C_drew ?_))); (case side2 => exact HC0.out); rintro e w' ⟨rfl, ⟨nd, rfl⟩⟩; (try first | exact ⟨rfl, _, World.drewN_drewN _ _ _⟩ | exact ⟨rfl, _, Eq.trans (World.drewN_drewN _ _ _) (congrArg (World.drewN _) (Nat.add_assoc _ _ _))⟩)))
  repeat (go_quiet (first | (go_at_call 42; (with_reducible refine (laws_big.calls _ _ l0 true _ ?side1 ?side2 A2.out).mono ?_); (case side1 => repeat (first | exact HR0.out | (with_reducible refine Kd.C_alloc ?_ _) | (with_reducible refine Kd.C_drewN ?_ _) | (with_reducible refine Kd.C_drew ?_))); (case side2 => exact HC0.out); rintro e w' ⟨rfl, ⟨nd, rfl⟩⟩; (try first | exact ⟨rfl, _, World.drewN_drewN _ _ _⟩ | exact ⟨rfl, _, Eq.trans (World.drewN_drewN _ _ _) (congrArg (World.drewN _) (Nat.add_assoc _ _ _))⟩))); try go_wp2_with (first | (go_at_call 42; (with_reducible refine (laws_big.calls _ _ l0 true _ ?side1 ?side2 A2.out).mono ?_); (case side1 => repeat (first | exact HR0.out | (with_reducible refine Kd.C_alloc ?_ _) | (with_reducible refine Kd.C_drewN ?_ _) | (with_reducible refine Kd.C_drew ?_))); (case side2 => exact HC0.out); rintro e w' ⟨rfl, ⟨nd, rfl⟩⟩; (try first | exact ⟨rfl, _, World.drewN_drewN _ _ _⟩ | exact ⟨rfl, _, Eq.trans (World.drewN_drewN _ _ _) (congrArg (World.drewN _) (Nat.add_assoc _ _ _))⟩))))
  go_ret
  exact ⟨by first | rfl | (simp [errW_none, errW_some] <;> rfl) | (simp [*, errW_none, errW_some] <;> rfl), by exact lq HB.out⟩
 ·replace c3 := Bool.eq_false_iff.mpr c3
  subst c3
  rw [if_neg (show ¬ (false = true) by decide)] at H
  replace H := Option.bind_eq_some_iff.mp H
  obtain ⟨⟨t455, t456, t457, t458, t459⟩, A40, H⟩ := H
  (try dsimp only at H)
  have A4 := Aside0.mk A40
  clear A40
  replace H := Option.bind_eq_some_iff.mp H
  obtain ⟨t463, A50, H⟩ := H
  (try dsimp only at H)
  have A5 := Aside0.mk A50
  clear A50
  replace H := Option.bind_eq_some_iff.mp H
  obtain ⟨t466, A60, H⟩ := H
  (try dsimp only at H)
  have A6 := Aside0.mk A60
  clear A60
  by_cases c7 : (t463.length : Int) = (t466.length : Int)
  ·rw [if_pos c7] at H
   have c7b0 : ((t463.length : Int) == (t466.length : Int)) = true := beq_iff_eq.mpr c7
   have c7b1 : ((t463.length : Int) != (t466.length : Int)) = false := bne_eq_false_iff_eq.mpr c7
   have c7b2 : (t463.length == t466.length) = true := by first | simpa using c7 | (simp at c7 ⊢; omega)
   clear c7
   have HC8 := Aside0.mk H
   clear H
   go_enter Try.func12, Try.ntmps12
   go_upto_region 7 with (first | (go_at_call 42; (with_reducible refine (laws_big.calls _ _ l0 false _ ?side1 ?side2 A2.out).mono ?_); (case side1 => repeat (first | exact HR0.out | (with_reducible refine Kd.C_alloc ?_ _) | (with_reducible refine Kd.C_drewN ?_ _) | (with_reducible refine Kd.C_drew ?_))); (case side2 => exact HC0.out); rintro e w' ⟨rfl, ⟨nd, rfl⟩⟩; (try first | exact ⟨rfl, _, World.drewN_drewN _ _ _⟩ | exact ⟨rfl, _, Eq.trans (World.drewN_drewN _ _ _) (congrArg (World.drewN _) (Nat.add_assoc _ _ _))⟩)) | (go_at_call 46; (with_reducible refine (spec_DrawChanPlay.calls k _ _ l0 t455 t456 t457 t458 t459 _ ?side1 ?side2 A4.out).mono ?_); (case side1 => repeat (first | exact HR0.out | (with_reducible refine Kd.C_alloc ?_ _) | (with_reducible refine Kd.C_drewN ?_ _) | (with_reducible refine Kd.C_drew ?_))); (case side2 => exact HC0.out); rintro e w9 ⟨v460, rfl, ho0, hb⟩; have n0_ := Aside0.mk (Kd.R_lower ho0 (below_size (lq HB.out))); have n1_ := Aside0.mk (below_step (lq HB.out) hb); clear HB; have HO461 := n0_; have HB := n1_; clear n0_ n1_; (try clear hb); (try clear hb2); (try clear hk); (try clear hi); (try clear ho0)) | ((with_reducible refine gate_dst (N := 3) rfl ?_); refine box_event ?hg (N := 3) ?hd (cs := #[.int .i64 0, .int .i64 0, .int .i64 0, .int .i64 0]) (t := 29) ?hr ?_; (case hd => rfl); (case hg => rfl); (case hr => first | (go_simp; done) | (go_simp; rfl)); intro gb462 hg w10 hbox hb; have n0_ := Aside0.mk (Kd.R_below (rq HO461.out) hb); have n1_ := Aside0.mk (below_step (lq HB.out) hb); have n2_ := Aside0.mk (hbox); have n3_ := Aside0.mk ((ge_new hg (lq HB.out) : w.heap.size ≤ gb462)); have n4_ := Aside0.mk ((ge_new hg (lq HB.out) : w.heap.size ≤ gb462)); clear HO461; clear HB; have HO461 := n0_; have HB := n1_; have BK462 := n2_; have GW462 := n3_; have GE462 := n4_; clear n0_ n1_ n2_ n3_ n4_; clear hb hbox hg; have hcz11_0 : w10.cell? ⟨gb462, 0, none⟩ = some (.int .i64 0) := (blk_cell BK462.out 0).trans rfl; have hcz11_1 : w10.cell? ⟨gb462, 1, none⟩ = some (.int .i64 0) := (blk_cell BK462.out 1).trans rfl; have hcz11_2 : w10.cell? ⟨gb462, 2, none⟩ = some (.int .i64 0) := (blk_cell BK462.out 2).trans rfl; have hcz11_3 : w10.cell? ⟨gb462, 3, none⟩ = some (.int .i64 0) := (blk_cell BK462.out 3).trans rfl; have hfz11_0 := blk_frozen BK462.out 0; have hfz11_1 := blk_frozen BK462.out 1; have hfz11_2 := blk_frozen BK462.out 2; have hfz11_3 := blk_frozen BK462.out 3; obtain ⟨Ao12, co12, eo12⟩ := Kd.R_slice HO461.out; subst eo12) | (go_at_call 47; (with_reducible refine (impl_ChanPlay.calls t455 t456 t457 t458 _ _ t459 t463 _ ?side1 ?side2 A5.out).mono ?_); (case side1 => refine (Kd.R_reads' (e := 70) (base := w.heap.size) (ok := fun k_ => True) (n := t459.length) (c := co12) ?_).2.2; exact (rq (Kd.R_mono (Kd.R_far (p := ⟨gb462, 3, none⟩) (Kd.R_far (p := ⟨gb462, 2, none⟩) (Kd.R_far (p := ⟨gb462, 1, none⟩) (Kd.R_far (p := ⟨gb462, 0, none⟩) (Kd.R_types HO461.out BK462.out (by decide)) (fun _ hk => hk.2) (.int .i64 t455)) (fun _ hk => hk.2) (.int .i64 t456)) (fun _ hk => hk.2) (.int .i64 t457)) (fun _ hk => hk.2) (.int .i64 t458)) (fun _ h_ => h_.1)))); (case side2 => exact (Kd.R_reads' HO461.out).2.1); rintro e w13 ⟨v464, rfl, ho0, hb⟩; have n0_ := Aside0.mk (Kd.R_below (rq (Kd.R_mono (Kd.R_far (p := ⟨gb462, 3, none⟩) (Kd.R_far (p := ⟨gb462, 2, none⟩) (Kd.R_far (p := ⟨gb462, 1, none⟩) (Kd.R_far (p := ⟨gb462, 0, none⟩) (Kd.R_types HO461.out BK462.out (by decide)) (fun _ hk => hk.2) (.int .i64 t455)) (fun _ hk => hk.2) (.int .i64 t456)) (fun _ hk => hk.2) (.int .i64 t457)) (fun _ hk => hk.2) (.int .i64 t458)) (fun _ h_ => h_.1))) hb); have n1_ := Aside0.mk (Kd.R_lower ho0 (below_size (by repeat (first | (with_reducible first | exact HB.out | apply below_alloc | apply pw_below_drewN | apply below_drew1 | refine below_set ?_ GE462.out) | exact HB.out)))); have n2_ := Aside0.mk (blk_below (g := gb462) (o := .cells #[.int .i64 t455, .int .i64 t456, .int .i64 t457, .int .i64 t458] 29 (0, 0)) (by (with_reducible repeat (first | refine blk_drewN ?_ _ | refine blk_drew ?_ | refine blk_alloc ?_ _)); refine blk_put (cs := #[.int .i64 t455, .int .i64 t456, .int .i64 t457, .int .i64 0]) ?_ 3 _ rfl; (with_reducible repeat (first | refine blk_drewN ?_ _ | refine blk_drew ?_ | refine blk_alloc ?_ _)); refine blk_put (cs := #[.int .i64 t455, .int .i64 t456, .int .i64 0, .int .i64 0]) ?_ 2 _ rfl; (with_reducible repeat (first | refine blk_drewN ?_ _ | refine blk_drew ?_ | refine blk_alloc ?_ _)); refine blk_put (cs := #[.int .i64 t455, .int .i64 0, .int .i64 0, .int .i64 0]) ?_ 1 _ rfl; (with_reducible repeat (first | refine blk_drewN ?_ _ | refine blk_drew ?_ | refine blk_alloc ?_ _)); refine blk_put (cs := #[.int .i64 0, .int .i64 0, .int .i64 0, .int .i64 0]) ?_ 0 _ rfl; (with_reducible repeat (first | refine blk_drewN ?_ _ | refine blk_drew ?_ | refine blk_alloc ?_ _)); exact BK462.out) hb); have n3_ := Aside0.mk (below_step (by repeat (first | (with_reducible first | exact HB.out | apply below_alloc | apply pw_below_drewN | apply below_drew1 | refine below_set ?_ GE462.out) | exact HB.out)) hb); clear HO461; clear BK462; clear HB; have HO461 := n0_; have HO465 := n1_; have BK462 := n2_; have HB := n3_; clear n0_ n1_ n2_ n3_; (try clear hb); (try clear hb2); (try clear hk); (try clear hi); (try clear ho0); obtain ⟨Ao14, co14, eo14⟩ := Kd.R_slice HO465.out; subst eo14; have hcz15_0 : w13.cell? ⟨gb462, 0, none⟩ = some (.int .i64 t455) := (blk_cell BK462.out 0).trans rfl; have hcz15_1 : w13.cell? ⟨gb462, 1, none⟩ = some (.int .i64 t456) := (blk_cell BK462.out 1).trans rfl; have hcz15_2 : w13.cell? ⟨gb462, 2, none⟩ = some (.int .i64 t457) := (blk_cell BK462.out 2).trans rfl; have hcz15_3 : w13.cell? ⟨gb462, 3, none⟩ = some (.int .i64 t458) := (blk_cell BK462.out 3).trans rfl; have hfz15_0 := blk_frozen BK462.out 0; have hfz15_1 := blk_frozen BK462.out 1; have hfz15_2 := blk_frozen BK462.out 2; have hfz15_3 := blk_frozen BK462.out 3) | (go_at_call 48; (with_reducible refine (spec_ChanPlay.calls k t455 t456 t457 t458 _ _ t459 t466 _ ?side1 ?side2 A6.out).mono ?_); (case side1 => repeat (first | exact (Kd.R_reads' HO461.out).2.2 | (with_reducible refine Kd.C_alloc ?_ _) | (with_reducible refine Kd.C_drewN ?_ _) | (with_reducible refine Kd.C_drew ?_))); (case side2 => exact (Kd.R_reads' HO461.out).2.1); rintro e w16 ⟨v467, rfl, ho0, hb⟩; have n0_ := Aside0.mk (Kd.R_below (rq HO461.out) hb); have n1_ := Aside0.mk (Kd.R_elder' (rq HO465.out) (Kd.R_base ho0) hb); have n2_ := Aside0.mk (Kd.R_lower (Kd.R_new' ho0 (Kd.R_lt (rq HO465.out))) (below_size (lq HB.out))); have n3_ := Aside0.mk (blk_below (bq BK462.out) hb); have n4_ := Aside0.mk (below_step (lq HB.out) hb); clear HO461; clear HO465; clear BK462; clear HB; have HO461 := n0_; have HO465 := n1_; have HO468 := n2_; have BK462 := n3_; have HB := n4_; clear n0_ n1_ n2_ n3_ n4_; (try clear hb); (try clear hb2); (try clear hk); (try clear hi); (try clear ho0); obtain ⟨Ao17, co17, eo17⟩ := Kd.R_slice HO468.out; subst eo17))
   repeat (go_quiet (first | (go_at_call 42; (with_reducible refine (laws_big.calls _ _ l0 false _ ?side1 ?side2 A2.out).mono ?_); (case side1 => repeat (first | exact HR0.out | (with_reducible refine Kd.C_alloc ?_ _) | (with_reducible refine Kd.C_drewN ?_ _) | (with_reducible refine Kd.C_drew ?_))); (case side2 => exact HC0.out); rintro e w' ⟨rfl, ⟨nd, rfl⟩⟩; (try first | exact ⟨rfl, _, World.drewN_drewN _ _ _⟩ | exact ⟨rfl, _, Eq.trans (World.drewN_drewN _ _ _) (congrArg (World.drewN _) (Nat.add_assoc _ _ _))⟩)) | (go_at_call 46; (with_reducible refine (spec_DrawChanPlay.calls k _ _ l0 t455 t456 t457 t458 t459 _ ?side1 ?side2 A4.out).mono ?_); (case side1 => repeat (first | exact HR0.out | (with_reducible refine Kd.C_alloc ?_ _) | (with_reducible refine Kd.C_drewN ?_ _) | (with_reducible refine Kd.C_drew ?_))); (case side2 => exact HC0.out); rintro e w9 ⟨v460, rfl, ho0, hb⟩; have n0_ := Aside0.mk (Kd.R_lower ho0 (below_size (lq HB.out))); have n1_ := Aside0.mk (below_step (lq HB.out) hb); clear HB; have HO461 := n0_; have HB := n1_; clear n0_ n1_; (try clear hb); (try clear hb2); (try clear hk); (try clear hi); (try clear ho0)) | ((with_reducible refine gate_dst (N := 3) rfl ?_); refine box_event ?hg (N := 3) ?hd (cs := #[.int .i64 0, .int .i64 0, .int .i64 0, .int .i64 0]) (t := 29) ?hr ?_; (case hd => rfl); (case hg => rfl); (case hr => first | (go_simp; done) | (go_simp; rfl)); intro gb462 hg w10 hbox hb; have n0_ := Aside0.mk (Kd.R_below (rq HO461.out) hb); have n1_ := Aside0.mk (below_step (lq HB.out) hb); have n2_ := Aside0.mk (hbox); have n3_ := Aside0.mk ((ge_new hg (lq HB.out) : w.heap.size ≤ gb462)); have n4_ := Aside0.mk ((ge_new hg (lq HB.out) : w.heap.size ≤ gb462)); clear HO461; clear HB; have HO461 := n0_; have HB := n1_; have BK462 := n2_; have GW462 := n3_; have GE462 := n4_; clear n0_ n1_ n2_ n3_ n4_; clear hb hbox hg; have hcz11_0 : w10.cell? ⟨gb462, 0, none⟩ = some (.int .i64 0) := (blk_cell BK462.out 0).trans rfl; have hcz11_1 : w10.cell? ⟨gb462, 1, none⟩ = some (.int .i64 0) := (blk_cell BK462.out 1).trans rfl; have hcz11_2 : w10.cell? ⟨gb462, 2, none⟩ = some (.int .i64 0) := (blk_cell BK462.out 2).trans rfl; have hcz11_3 : w10.cell? ⟨gb462, 3, none⟩ = some (.int .i64 0) := (blk_cell BK462.out 3).trans rfl; have hfz11_0 := blk_frozen BK462.out 0; have hfz11_1 := blk_frozen BK462.out 1; have hfz11_2 := blk_frozen BK462.out 2; have hfz11_3 := blk_frozen BK462.out 3; obtain ⟨Ao12, co12, eo12⟩ := Kd.R_slice HO461.out; subst eo12) | (go_at_call 47; (with_reducible refine (impl_ChanPlay.calls t455 t456 t457 t458 _ _ t459 t463 _ ?side1 ?side2 A5.out).mono ?_); (case side1 => refine (Kd.R_reads' (e := 70) (base := w.heap.size) (ok := fun k_ => True) (n := t459.length) (c := co12) ?_).2.2; exact (rq (Kd.R_mono (Kd.R_far (p := ⟨gb462, 3, none⟩) (Kd.R_far (p := ⟨gb462, 2, none⟩) (Kd.R_far (p := ⟨gb462, 1, none⟩) (Kd.R_far (p := ⟨gb462, 0, none⟩) (Kd.R_types HO461.out BK462.out (by decide)) (fun _ hk => hk.2) (.int .i64 t455)) (fun _ hk => hk.2) (.int .i64 t456)) (fun _ hk => hk.2) (.int .i64 t457)) (fun _ hk => hk.2) (.int .i64 t458)) (fun _ h_ => h_.1)))); (case side2 => exact (Kd.R_reads' HO461.out).2.1); rintro e w13 ⟨v464, rfl, ho0, hb⟩; have n0_ := Aside0.mk (Kd.R_below (rq (Kd.R_mono (Kd.R_far (p := ⟨gb462, 3, none⟩) (Kd.R_far (p := ⟨gb462, 2, none⟩) (Kd.R_far (p := ⟨gb462, 1, none⟩) (Kd.R_far (p := ⟨gb462, 0, none⟩) (Kd.R_types HO461.out BK462.out (by decide)) (fun _ hk => hk.2) (.int .i64 t455)) (fun _ hk => hk.2) (.int .i64 t456)) (fun _ hk => hk.2) (.int .i64 t457)) (fun _ hk => hk.2) (.int .i64 t458)) (fun _ h_ => h_.1))) hb); have n1_ := Aside0.mk (Kd.R_lower ho0 (below_size (by repeat (first | (with_reducible first | exact HB.out | apply below_alloc | apply pw_below_drewN | apply below_drew1 | refine below_set ?_ GE462.out) | exact HB.out)))); have n2_ := Aside0.mk (blk_below (g := gb462) (o := .cells #[.int .i64 t455, .int .i64 t456, .int .i64 t457, .int .i64 t458] 29 (0, 0)) (by (with_reducible repeat (first | refine blk_drewN ?_ _ | refine blk_drew ?_ | refine blk_alloc ?_ _)); refine blk_put (cs := #[.int .i64 t455, .int .i64 t456, .int .i64 t457, .int .i64 0]) ?_ 3 _ rfl; (with_reducible repeat (first | refine blk_drewN ?_ _ | refine blk_drew ?_ | refine blk_alloc ?_ _)); refine blk_put (cs := #[.int .i64 t455, .int .i64 t456, .int .i64 0, .int .i64 0]) ?_ 2 _ rfl; (with_reducible repeat (first | refine blk_drewN ?_ _ | refine blk_drew ?_ | refine blk_alloc ?_ _)); refine blk_put (cs := #[.int .i64 t455, .int .i64 0, .int .i64 0, .int .i64 0]) ?_ 1 _ rfl; (with_reducible repeat (first | refine blk_drewN ?_ _ | refine blk_drew ?_ | refine blk_alloc ?_ _)); refine blk_put (cs := #[.int .i64 0, .int .i64 0, .int .i64 0, .int .i64 0]) ?_ 0 _ rfl; (with_reducible repeat (first | refine blk_drewN ?_ _ | refine blk_drew ?_ | refine blk_alloc ?_ _)); exact BK462.out) hb); have n3_ := Aside0.mk (below_step (by repeat (first | (with_reducible first | exact HB.out | apply below_alloc | apply pw_below_drewN | apply below_drew1 | refine below_set ?_ GE462.out) | exact HB.out)) hb); clear HO461; clear BK462; clear HB; have HO461 := n0_; have HO465 := n1_; have BK462 := n2_; have HB := n3_; clear n0_ n1_ n2_ n3_; (try clear hb); (try clear hb2); (try clear hk); (try clear hi); (try clear ho0); obtain ⟨Ao14, co14, eo14⟩ := Kd.R_slice HO465.out; subst eo14; have hcz15_0 : w13.cell? ⟨gb462, 0, none⟩ = some (.int .i64 t455) := (blk_cell BK462.out 0).trans rfl; have hcz15_1 : w13.cell? ⟨gb462, 1, none⟩ = some (.int .i64 t456) := (blk_cell BK462.out 1).trans rfl; have hcz15_2 : w13.cell? ⟨gb462, 2, none⟩ = some (.int .i64 t457) := (blk_cell BK462.out 2).trans rfl; have hcz15_3 : w13.cell? ⟨gb462, 3, none⟩ = some (.int .i64 t458) := (blk_cell BK462.out 3).trans rfl; have hfz15_0 := blk_frozen BK462.out 0; have hfz15_1 := blk_frozen BK462.out 1; have hfz15_2 := blk_frozen BK462.out 2; have hfz15_3 := blk_frozen BK462.out 3) | (go_at_call 48; (with_reducible refine (spec_ChanPlay.calls k t455 t456 t457 t458 _ _ t459 t466 _ ?side1 ?side2 A6.out).mono ?_); (case side1 => repeat (first | exact (Kd.R_reads' HO461.out).2.2 | (with_reducible refine Kd.C_alloc ?_ _) | (with_reducible refine Kd.C_drewN ?_ _) | (with_reducible refine Kd.C_drew ?_))); (case side2 => exact (Kd.R_reads' HO461.out).2.1); rintro e w16 ⟨v467, rfl, ho0, hb⟩; have n0_ := Aside0.mk (Kd.R_below (rq HO461.out) hb); have n1_ := Aside0.mk (Kd.R_elder' (rq HO465.out) (Kd.R_base ho0) hb); have n2_ := Aside0.mk (Kd.R_lower (Kd.R_new' ho0 (Kd.R_lt (rq HO465.out))) (below_size (lq HB.out))); have n3_ := Aside0.mk (blk_below (bq BK462.out) hb); have n4_ := Aside0.mk (below_step (lq HB.out) hb); clear HO461; clear HO465; clear BK462; clear HB; have HO461 := n0_; have HO465 := n1_; have HO468 := n2_; have BK462 := n3_; have HB := n4_; clear n0_ n1_ n2_ n3_ n4_; (try clear hb); (try clear hb2); (try clear hk); (try clear hi); (try clear ho0); obtain ⟨Ao17, co17, eo17⟩ := Kd.R_slice HO468.out; subst eo17)); go_upto_region 7 with (first | (go_at_call 42; (with_reducible refine (laws_big.calls _ _ l0 false _ ?side1 ?side2 A2.out).mono ?_); (case side1 => repeat (first | exact HR0.out | (with_reducible refine Kd.C_alloc ?_ _) | (with_reducible refine Kd.C_drewN ?_ _) | (with_reducible refine Kd.C_drew ?_))); (case side2 => exact HC0.out); rintro e w' ⟨rfl, ⟨nd, rfl⟩⟩; (try first | exact ⟨rfl, _, World.drewN_drewN _ _ _⟩ | exact ⟨rfl, _, Eq.trans (World.drewN_drewN _ _ _) (congrArg (World.drewN _) (Nat.add_assoc _ _ _))⟩)) | (go_at_call 46; (with_reducible refine (spec_DrawChanPlay.calls k _ _ l0 t455 t456 t457 t458 t459 _ ?side1 ?side2 A4.out).mono ?_); (case side1 => repeat (first | exact HR0.out | (with_reducible refine Kd.C_alloc ?_ _) | (with_reducible refine Kd.C_drewN ?_ _) | (with_reducible refine Kd.C_drew ?_))); (case side2 => exact HC0.out); rintro e w9 ⟨v460, rfl, ho0, hb⟩; have n0_ := Aside0.mk (Kd.R_lower ho0 (below_size (lq HB.out))); have n1_ := Aside0.mk (below_step (lq HB.out) hb); clear HB; have HO461 := n0_; have HB := n1_; clear n0_ n1_; (try clear hb); (try clear hb2); (try clear hk); (try clear hi); (try clear ho0)) | ((with_reducible refine gate_dst (N := 3) rfl ?_); refine box_event ?hg (N := 3) ?hd (cs := #[.int .i64 0, .int .i64 0, .int .i64 0, .int .i64 0]) (t := 29) ?hr ?_; (case hd => rfl); (case hg => rfl); (case hr => first | (go_simp; done) | (go_simp; rfl)); intro gb462 hg w10 hbox hb; have n0_ := Aside0.mk (Kd.R_below (rq HO461.out) hb); have n1_ := Aside0.mk (below_step (lq HB.out) hb); have n2_ := Aside0.mk (hbox); have n3_ := Aside0.mk ((ge_new hg (lq HB.out) : w.heap.size ≤ gb462)); have n4_ := Aside0.mk ((ge_new hg (lq HB.out) : w.heap.size ≤ gb462)); clear HO461; clear HB; have HO461 := n0_; have HB := n1_; have BK462 := n2_; have GW462 := n3_; have GE462 := n4_; clear n0_ n1_ n2_ n3_ n4_; clear hb hbox hg; have hcz11_0 : w10.cell? ⟨gb462, 0, none⟩ = some (.int .i64 0) := (blk_cell BK462.out 0).trans rfl; have hcz11_1 : w10.cell? ⟨gb462, 1, none⟩ = some (.int .i64 0) := (blk_cell BK462.out 1).trans rfl; have hcz11_2 : w10.cell? ⟨gb462, 2, none⟩ = some (.int .i64 0) := (blk_cell BK462.out 2).trans rfl; have hcz11_3 : w10.cell? ⟨gb462, 3, none⟩ = some (.int .i64 0) := (blk_cell BK462.out 3).trans rfl; have hfz11_0 := blk_frozen BK462.out 0; have hfz11_1 := blk_frozen BK462.out 1; have hfz11_2 := blk_frozen BK462.out 2; have hfz11_3 := blk_frozen BK462.out 3; obtain ⟨Ao12, co12, eo12⟩ := Kd.R_slice HO461.out; subst eo12) | (go_at_call 47; (with_reducible refine (impl_ChanPlay.calls t455 t456 t457 t458 _ _ t459 t463 _ ?side1 ?side2 A5.out).mono ?_); (case side1 => refine (Kd.R_reads' (e := 70) (base := w.heap.size) (ok := fun k_ => True) (n := t459.length) (c := co12) ?_).2.2; exact (rq (Kd.R_mono (Kd.R_far (p := ⟨gb462, 3, none⟩) (Kd.R_far (p := ⟨gb462, 2, none⟩) (Kd.R_far (p := ⟨gb462, 1, none⟩) (Kd.R_far (p := ⟨gb462, 0, none⟩) (Kd.R_types HO461.out BK462.out (by decide)) (fun _ hk => hk.2) (.int .i64 t455)) (fun _ hk => hk.2) (.int .i64 t456)) (fun _ hk => hk.2) (.int .i64 t457)) (fun _ hk => hk.2) (.int .i64 t458)) (fun _ h_ => h_.1)))); (case side2 => exact (Kd.R_reads' HO461.out).2.1); rintro e w13 ⟨v464, rfl, ho0, hb⟩; have n0_ := Aside0.mk (Kd.R_below (rq (Kd.R_mono (Kd.R_far (p := ⟨gb462, 3, none⟩) (Kd.R_far (p := ⟨gb462, 2, none⟩) (Kd.R_far (p := ⟨gb462, 1, none⟩) (Kd.R_far (p := ⟨gb462, 0, none⟩) (Kd.R_types HO461.out BK462.out (by decide)) (fun _ hk => hk.2) (.int .i64 t455)) (fun _ hk => hk.2) (.int .i64 t456)) (fun _ hk => hk.2) (.int .i64 t457)) (fun _ hk => hk.2) (.int .i64 t458)) (fun _ h_ => h_.1))) hb); have n1_ := Aside0.mk (Kd.R_lower ho0 (below_size (by repeat (first | (with_reducible first | exact HB.out | apply below_alloc | apply pw_below_drewN | apply below_drew1 | refine below_set ?_ GE462.out) | exact HB.out)))); have n2_ := Aside0.mk (blk_below (g := gb462) (o := .cells #[.int .i64 t455, .int .i64 t456, .int .i64 t457, .int .i64 t458] 29 (0, 0)) (by (with_reducible repeat (first | refine blk_drewN ?_ _ | refine blk_drew ?_ | refine blk_alloc ?_ _)); refine blk_put (cs := #[.int .i64 t455, .int .i64 t456, .int .i64 t457, .int .i64 0]) ?_ 3 _ rfl; (with_reducible repeat (first | refine blk_drewN ?_ _ | refine blk_drew ?_ | refine blk_alloc ?_ _)); refine blk_put (cs := #[.int .i64 t455, .int .i64 t456, .int .i64 0, .int .i64 0]) ?_ 2 _ rfl; (with_reducible repeat (first | refine blk_drewN ?_ _ | refine blk_drew ?_ | refine blk_alloc ?_ _)); refine blk_put (cs := #[.int .i64 t455, .int .i64 0, .int .i64 0, .int .i64 0]) ?_ 1 _ rfl; (with_reducible repeat (first | refine blk_drewN ?_ _ | refine blk_drew ?_ | refine blk_alloc ?_ _)); refine blk_put (cs := #[.int .i64 0, .int .i64 0, .int .i64 0, .int .i64 0]) ?_ 0 _ rfl; (with_reducible repeat (first | refine blk_drewN ?_ _ | refine blk_drew ?_ | refine blk_alloc ?_ _)); exact BK462.out) hb); have n3_ := Aside0.mk (below_step (by repeat (first | (with_reducible first | exact HB.out | apply below_alloc | apply pw_below_drewN | apply below_drew1 | refine below_set ?_ GE462.out) | exact HB.out)) hb); clear HO461; clear BK462; clear HB; have HO461 := n0_; have HO465 := n1_; have BK462 := n2_; have HB := n3_; clear n0_ n1_ n2_ n3_; (try clear hb); (try clear hb2); (try clear hk); (try clear hi); (try clear ho0); obtain ⟨Ao14, co14, eo14⟩ := Kd.R_slice HO465.out; subst eo14; have hcz15_0 : w13.cell? ⟨gb462, 0, none⟩ = some (.int .i64 t455) := (blk_cell BK462.out 0).trans rfl; have hcz15_1 : w13.cell? ⟨gb462, 1, none⟩ = some (.int .i64 t456) := (blk_cell BK462.out 1).trans rfl; have hcz15_2 : w13.cell? ⟨gb462, 2, none⟩ = some (.int .i64 t457) := (blk_cell BK462.out 2).trans rfl; have hcz15_3 : w13.cell? ⟨gb462, 3, none⟩ = some (.int .i64 t458) := (blk_cell BK462.out 3).trans rfl; have hfz15_0 := blk_frozen BK462.out 0; have hfz15_1 := blk_frozen BK462.out 1; have hfz15_2 := blk_frozen BK462.out 2; have hfz15_3 := blk_frozen BK462.out 3) | (go_at_call 48; (with_reducible refine (spec_ChanPlay.calls k t455 t456 t457 t458 _ _ t459 t466 _ ?side1 ?side2 A6.out).mono ?_); (case side1 => repeat (first | exact (Kd.R_reads' HO461.out).2.2 | (with_reducible refine Kd.C_alloc ?_ _) | (with_reducible refine Kd.C_drewN ?_ _) | (with_reducible refine Kd.C_drew ?_))); (case side2 => exact (Kd.R_reads' HO461.out).2.1); rintro e w16 ⟨v467, rfl, ho0, hb⟩; have n0_ := Aside0.mk (Kd.R_below (rq HO461.out) hb); have n1_ := Aside0.mk (Kd.R_elder' (rq HO465.out) (Kd.R_base ho0) hb); have n2_ := Aside0.mk (Kd.R_lower (Kd.R_new' ho0 (Kd.R_lt (rq HO465.out))) (below_size (lq HB.out))); have n3_ := Aside0.mk (blk_below (bq BK462.out) hb); have n4_ := Aside0.mk (below_step (lq HB.out) hb); clear HO461; clear HO465; clear BK462; clear HB; have HO461 := n0_; have HO465 := n1_; have HO468 := n2_; have BK462 := n3_; have HB := n4_; clear n0_ n1_ n2_ n3_ n4_; (try clear hb); (try clear hb2); (try clear hk); (try clear hi); (try clear ho0); obtain ⟨Ao17, co17, eo17⟩ := Kd.R_slice HO468.out; subst eo17)))
   (try simp only [Act.put, List.setIfInBounds_toArray, List.set_cons_zero, List.set_cons_succ])
   go_cut [33] (fun v33 wc => ∃ (kq : Nat) (x33_7 : Bool), v33 = .bool x33_7 ∧ Aside0 (laws_FnSample.j0 kq t459 t463 x33_7 = some true) ∧ Aside0 (kq ≤ k) ∧ Aside0 (Kd.R k70 70 wc w.heap.size (fun _ => True) (.slice Ao12 t459.length co12) t459) ∧ Aside0 (Kd.R k72 72 wc w.heap.size (fun _ => True) (.slice Ao14 t463.length co14) t463) ∧ Aside0 (wc.heap[gb462]? = some (.cells #[.int .i64 t455, .int .i64 t456, .int .i64 t457, .int .i64 t458] 29 (0, 0))) ∧ Aside0 (Below w.heap.size w wc))
   case first =>
    have H := HC8.out
    clear HC8
    replace H := Option.bind_eq_some_iff.mp H
    obtain ⟨t469, A180, H⟩ := H
    (try dsimp only at H)
    have A18 := Aside0.mk A180
    clear A180
    by_cases c19 : t469 = true
    ·subst c19
     rw [if_pos rfl] at H
     have H' := Aside0.mk H
     clear H
     have hcz20_0 : w16.cell? ⟨gb462, 0, none⟩ = some (.int .i64 t455) := (blk_cell BK462.out 0).trans rfl
     have hcz20_1 : w16.cell? ⟨gb462, 1, none⟩ = some (.int .i64 t456) := (blk_cell BK462.out 1).trans rfl
     have hcz20_2 : w16.cell? ⟨gb462, 2, none⟩ = some (.int .i64 t457) := (blk_cell BK462.out 2).trans rfl
     have hcz20_3 : w16.cell? ⟨gb462, 3, none⟩ = some (.int .i64 t458) := (blk_cell BK462.out 3).trans rfl
     have hfz20_0 := blk_frozen BK462.out 0
     have hfz20_1 := blk_frozen BK462.out 1
     have hfz20_2 := blk_frozen BK462.out 2
     have hfz20_3 := blk_frozen BK462.out 3
     go_wp2_with (first | (go_at_call 49; (with_reducible refine (spec_ChanOk.calls t455 t456 t457 t458 true _ A18.out).mono ?_); rintro e w21 ⟨rfl, hb⟩; have n0_ := Aside0.mk (Kd.R_below (rq HO461.out) hb); have n1_ := Aside0.mk (Kd.R_below (rq HO465.out) hb); have n2_ := Aside0.mk (Kd.R_below (rq HO468.out) hb); have n3_ := Aside0.mk (blk_below (bq BK462.out) hb); have n4_ := Aside0.mk (below_step (lq HB.out) hb); clear HO461; clear HO465; clear HO468; clear BK462; clear HB; have HO461 := n0_; have HO465 := n1_; have HO468 := n2_; have BK462 := n3_; have HB := n4_; clear n0_ n1_ n2_ n3_ n4_; (try clear hb); (try clear hb2); (try clear hk); (try clear hi); have hcz22_0 : w21.cell? ⟨gb462, 0, none⟩ = some (.int .i64 t455) := (blk_cell BK462.out 0).trans rfl; have hcz22_1 : w21.cell? ⟨gb462, 1, none⟩ = some (.int .i64 t456) := (blk_cell BK462.out 1).trans rfl; have hcz22_2 : w21.cell? ⟨gb462, 2, none⟩ = some (.int .i64 t457) := (blk_cell BK462.out 2).trans rfl; have hcz22_3 : w21.cell? ⟨gb462, 3, none⟩ = some (.int .i64 t458) := (blk_cell BK462.out 3).trans rfl; have hfz22_0 := blk_frozen BK462.out 0; have hfz22_1 := blk_frozen BK462.out 1; have hfz22_2 := blk_frozen BK462.out 2; have hfz22_3 := blk_frozen BK462.out 3))
     repeat (go_quiet (first | (go_at_call 49; (with_reducible refine (spec_ChanOk.calls t455 t456 t457 t458 true _ A18.out).mono ?_); rintro e w21 ⟨rfl, hb⟩; have n0_ := Aside0.mk (Kd.R_below (rq HO461.out) hb); have n1_ := Aside0.mk (Kd.R_below (rq HO465.out) hb); have n2_ := Aside0.mk (Kd.R_below (rq HO468.out) hb); have n3_ := Aside0.mk (blk_below (bq BK462.out) hb); have n4_ := Aside0.mk (below_step (lq HB.out) hb); clear HO461; clear HO465; clear HO468; clear BK462; clear HB; have HO461 := n0_; have HO465 := n1_; have HO468 := n2_; have BK462 := n3_; have HB := n4_; clear n0_ n1_ n2_ n3_ n4_; (try clear hb); (try clear hb2); (try clear hk); (try clear hi); have hcz22_0 : w21.cell? ⟨gb462, 0, none⟩ = some (.int .i64 t455) := (blk_cell BK462.out 0).trans rfl; have hcz22_1 : w21.cell? ⟨gb462, 1, none⟩ = some (.int .i64 t456) := (blk_cell BK462.out 1).trans rfl; have hcz22_2 : w21.cell? ⟨gb462, 2, none⟩ = some (.int .i64 t457) := (blk_cell BK462.out 2).trans rfl; have hcz22_3 : w21.cell? ⟨gb462, 3, none⟩ = some (.int .i64 t458) := (blk_cell BK462.out 3).trans rfl; have hfz22_0 := blk_frozen BK462.out 0; have hfz22_1 := blk_frozen BK462.out 1; have hfz22_2 := blk_frozen BK462.out 2; have hfz22_3 := blk_frozen BK462.out 3)); try go_wp2_with (first | (go_at_call 49; (with_reducible refine (spec_ChanOk.calls t455 t456 t457 t458 true _ A18.out).mono ?_); rintro e w21 ⟨rfl, hb⟩; have n0_ := Aside0.mk (Kd.R_below (rq HO461.out) hb); have n1_ := Aside0.mk (Kd.R_below (rq HO465.out) hb); have n2_ := Aside0.mk (Kd.R_below (rq HO468.out) hb); have n3_ := Aside0.mk (blk_below (bq BK462.out) hb); have n4_ := Aside0.mk (below_step (lq HB.out) hb); clear HO461; clear HO465; clear HO468; clear BK462; clear HB; have HO461 := n0_; have HO465 := n1_; have HO468 := n2_; have BK462 := n3_; have HB := n4_; clear n0_ n1_ n2_ n3_ n4_; (try clear hb); (try clear hb2); (try clear hk); (try clear hi); have hcz22_0 : w21.cell? ⟨gb462, 0, none⟩ = some (.int .i64 t455) := (blk_cell BK462.out 0).trans rfl; have hcz22_1 : w21.cell? ⟨gb462, 1, none⟩ = some (.int .i64 t456) := (blk_cell BK462.out 1).trans rfl; have hcz22_2 : w21.cell? ⟨gb462, 2, none⟩ = some (.int .i64 t457) := (blk_cell BK462.out 2).trans rfl; have hcz22_3 : w21.cell? ⟨gb462, 3, none⟩ = some (.int .i64 t458) := (blk_cell BK462.out 3).trans rfl; have hfz22_0 := blk_frozen BK462.out 0; have hfz22_1 := blk_frozen BK462.out 1; have hfz22_2 := blk_frozen BK462.out 2; have hfz22_3 := blk_frozen BK462.out 3)))
     go_meet
     case rel => exact ⟨_, ((t455 != 0)), (by first | rfl | (simp; done) | (simp [*]; done)), H', ⟨by first | omega | exact Nat.le_refl _⟩, ⟨by (with_reducible repeat (first | apply Kd.R_alloc | apply Kd.R_drewN | apply Kd.R_drew)); exact HO461.out⟩, ⟨by (with_reducible repeat (first | apply Kd.R_alloc | apply Kd.R_drewN | apply Kd.R_drew)); exact Kd.R_mono HO465.out (fun _ hk => trivial)⟩, ⟨by (with_reducible repeat (first | refine blk_drewN ?_ _ | refine blk_drew ?_ | refine blk_alloc ?_ _)); exact BK462.out⟩, ⟨by exact lq HB.out⟩⟩
    ·replace c19 := Bool.eq_false_iff.mpr c19
     subst c19
     rw [if_neg (show ¬ (false = true) by decide)] at H
     have H' := Aside0.mk H
     clear H
     have hcz23_0 : w16.cell? ⟨gb462, 0, none⟩ = some (.int .i64 t455) := (blk_cell BK462.out 0).trans rfl
     have hcz23_1 : w16.cell? ⟨gb462, 1, none⟩ = some (.int .i64 t456) := (blk_cell BK462.out 1).trans rfl
     have hcz23_2 : w16.cell? ⟨gb462, 2, none⟩ = some (.int .i64 t457) := (blk_cell BK462.out 2).trans rfl
     have hcz23_3 : w16.cell? ⟨gb462, 3, none⟩ = some (.int .i64 t458) := (blk_cell BK462.out 3).trans rfl
     have hfz23_0 := blk_frozen BK462.out 0
     have hfz23_1 := blk_frozen BK462.out 1
     have hfz23_2 := blk_frozen BK462.out 2
     have hfz23_3 := blk_frozen BK462.out 3
     go_wp2_with (first | (go_at_call 49; (with_reducible refine (spec_ChanOk.calls t455 t456 t457 t458 false _ A18.out).mono ?_); rintro e w24 ⟨rfl, hb⟩; have n0_ := Aside0.mk (Kd.R_below (rq HO461.out) hb); have n1_ := Aside0.mk (Kd.R_below (rq HO465.out) hb); have n2_ := Aside0.mk (Kd.R_below (rq HO468.out) hb); have n3_ := Aside0.mk (blk_below (bq BK462.out) hb); have n4_ := Aside0.mk (below_step (lq HB.out) hb); clear HO461; clear HO465; clear HO468; clear BK462; clear HB; have HO461 := n0_; have HO465 := n1_; have HO468 := n2_; have BK462 := n3_; have HB := n4_; clear n0_ n1_ n2_ n3_ n4_; (try clear hb); (try clear hb2); (try clear hk); (try clear hi)))
     repeat (go_quiet (first | (go_at_call 49; (with_reducible refine (spec_ChanOk.calls t455 t456 t457 t458 false _ A18.out).mono ?_); rintro e w24 ⟨rfl, hb⟩; have n0_ := Aside0.mk (Kd.R_below (rq HO461.out) hb); have n1_ := Aside0.mk (Kd.R_below (rq HO465.out) hb); have n2_ := Aside0.mk (Kd.R_below (rq HO468.out) hb); have n3_ := Aside0.mk (blk_below (bq BK462.out) hb); have n4_ := Aside0.mk (below_step (lq HB.out) hb); clear HO461; clear HO465; clear HO468; clear BK462; clear HB; have HO461 := n0_; have HO465 := n1_; have HO468 := n2_; have BK462 := n3_; have HB := n4_; clear n0_ n1_ n2_ n3_ n4_; (try clear hb); (try clear hb2); (try clear hk); (try clear hi))); try go_wp2_with (first | (go_at_call 49; (with_reducible refine (spec_ChanOk.calls t455 t456 t457 t458 false _ A18.out).mono ?_); rintro e w24 ⟨rfl, hb⟩; have n0_ := Aside0.mk (Kd.R_below (rq HO461.out) hb); have n1_ := Aside0.mk (Kd.R_below (rq HO465.out) hb); have n2_ := Aside0.mk (Kd.R_below (rq HO468.out) hb); have n3_ := Aside0.mk (blk_below (bq BK462.out) hb); have n4_ := Aside0.mk (below_step (lq HB.out) hb); clear HO461; clear HO465; clear HO468; clear BK462; clear HB; have HO461 := n0_; have HO465 := n1_; have HO468 := n2_; have BK462 := n3_; have HB := n4_; clear n0_ n1_ n2_ n3_ n4_; (try clear hb); (try clear hb2); (try clear hk); (try clear hi))))
     go_meet
     case rel => exact ⟨_, (true), (by first | rfl | (simp; done) | (simp [*]; done)), H', ⟨by first | omega | exact Nat.le_refl _⟩, ⟨by (with_reducible repeat (first | apply Kd.R_alloc | apply Kd.R_drewN | apply Kd.R_drew)); exact HO461.out⟩, ⟨by (with_reducible repeat (first | apply Kd.R_alloc | apply Kd.R_drewN | apply Kd.R_drew)); exact Kd.R_mono HO465.out (fun _ hk => trivial)⟩, ⟨by (with_reducible repeat (first | refine blk_drewN ?_ _ | refine blk_drew ?_ | refine blk_alloc ?_ _)); exact BK462.out⟩, ⟨by exact lq HB.out⟩⟩
   case rest =>
    clear HC8
    try clear c1
    try clear p2
    try clear c3
    try clear c7
    try clear c7b0
    try clear c7b1
    try clear c7b2
    try clear c12
    try clear c19
    try clear hcz11_0
    try clear hcz11_1
    try clear hcz11_2
    try clear hcz11_3
    try clear hcz15_0
    try clear hcz15_1
    try clear hcz15_2
    try clear hcz15_3
    try clear hcz20_0
    try clear hcz20_1
    try clear hcz20_2
    try clear hcz20_3
    try clear hcz22_0
    try clear hcz22_1
    try clear hcz22_2
    try clear hcz22_3
    try clear hcz23_0
    try clear hcz23_1
    try clear hcz23_2
    try clear hcz23_3
    try clear hfz11_0
    try clear hfz11_1
    try clear hfz11_2
    try clear hfz11_3
    try clear hfz15_0
    try clear hfz15_1
    try clear hfz15_2
    try clear hfz15_3
    try clear hfz20_0
    try clear hfz20_1
    try clear hfz20_2
    try clear hfz20_3
    try clear hfz22_0
    try clear hfz22_1
    try clear hfz22_2
    try clear hfz22_3
    try clear hfz23_0
    try clear hfz23_1
    try clear hfz23_2
    try clear hfz23_3
    obtain ⟨kq, x33_7, rfl, HA, HJ7, HO_4, HO_5, BK462, HB⟩ := hcut
    cases kq with
    | zero => exact absurd HA.out (by simp [laws_FnSample.j0])
    | succ kj7 =>
     have H := HA.out
     clear HA
     simp only [laws_FnSample.j0] at H
     by_cases c25 : x33_7 = true
     ·subst c25
      rw [if_pos rfl] at H
      clear H
      go_wp2
      repeat (go_quiet (fail); try go_wp2)
      go_ret
      exact ⟨by first | rfl | (simp [errW_none, errW_some] <;> rfl) | (simp [*, errW_none, errW_some] <;> rfl), by exact lq HB.out⟩
     ·replace c25 := Bool.eq_false_iff.mpr c25
      subst c25
      rw [if_neg (show ¬ (false = true) by decide)] at H
      obtain ⟨y470, hy470⟩ : ∃ y_ : List Int, y_ = (([] : List Int)) := ⟨_, rfl⟩
      replace H : (laws_FnSample.l0 kj7 t459 t463 y470 (([] : List Int)) 0) = some true := by first | (rw [hy470]; with_reducible exact H) | (have H2_ := (Option.bind_some _ _).symm.trans H; rw [hy470]; with_reducible exact H2_) | (have H2_ := (Option.bind_some _ _).symm.trans H; with_reducible exact H2_) | with_reducible exact H | (rw [hy470]; exact H) | exact H
      have Ny470 := Aside0.mk hy470
      clear hy470
      obtain ⟨y473, hy473⟩ : ∃ y_ : List Int, y_ = (([] : List Int)) := ⟨_, rfl⟩
      replace H : (laws_FnSample.l0 kj7 t459 t463 y470 y473 0) = some true := by first | (rw [hy473]; with_reducible exact H) | (have H2_ := (Option.bind_some _ _).symm.trans H; rw [hy473]; with_reducible exact H2_) | (have H2_ := (Option.bind_some _ _).symm.trans H; with_reducible exact H2_) | with_reducible exact H | (rw [hy473]; exact H) | exact H
      have Ny473 := Aside0.mk hy473
      clear hy473
      have H' := Aside0.mk H
      clear H
      go_wp2_with (first | ((with_reducible refine gate_dst (N := 34) rfl ?_); refine Kd.R_lit (Kd.int .u32) _ 46 ?hg (N := 34) ?hd (xs := ([] : List Int)) (inner := []) (ok := fun _ => True) (okp := fun _ => True) ?hr ?hp (fun _ hk => hk) trivial (Below.refl _ _) (Nat.le_refl _) (by simp) ?_; (case hd => rfl); (case hg => rfl); (case hr => first | (go_simp; done) | (go_simp; rfl)); (case hp => exact (Reps.none _ _)); intro v471 w26 ho27 hb hg_ hnew_; clear hg_ hnew_; (first | rw [← Ny470.out] at ho27 | (simp only [Int.reduceToNat] at ho27; rw [← Ny470.out] at ho27)); have n0_ := Aside0.mk (Kd.R_below (rq HO_4.out) hb); have n1_ := Aside0.mk (Kd.R_below (rq HO_5.out) hb); have n2_ := Aside0.mk (Kd.R_lower ho27 (below_size (lq HB.out))); have n3_ := Aside0.mk (blk_below (bq BK462.out) hb); have n4_ := Aside0.mk (below_step (lq HB.out) hb); clear HO_4; clear HO_5; clear BK462; clear HB; have HO_4 := n0_; have HO_5 := n1_; have HO472 := n2_; have BK462 := n3_; have HB := n4_; clear n0_ n1_ n2_ n3_ n4_; clear hb ho27) | ((with_reducible refine gate_dst (N := 35) rfl ?_); refine Kd.R_lit (Kd.int .u32) _ 46 ?hg (N := 35) ?hd (xs := ([] : List Int)) (inner := []) (ok := fun _ => True) (okp := fun _ => True) ?hr ?hp (fun _ hk => hk) trivial (Below.refl _ _) (Nat.le_refl _) (by simp) ?_; (case hd => rfl); (case hg => rfl); (case hr => first | (go_simp; done) | (go_simp; rfl)); (case hp => exact (Reps.none _ _)); intro v474 w28 ho29 hb hg_ hnew_; clear hg_ hnew_; (first | rw [← Ny473.out] at ho29 | (simp only [Int.reduceToNat] at ho29; rw [← Ny473.out] at ho29)); have n0_ := Aside0.mk (Kd.R_below (rq HO_4.out) hb); have n1_ := Aside0.mk (Kd.R_below (rq HO_5.out) hb); have n2_ := Aside0.mk (Kd.R_elder' (rq HO472.out) (Kd.R_base ho29) hb); have n3_ := Aside0.mk (Kd.R_lower (Kd.R_new' ho29 (Kd.R_lt (rq HO472.out))) (below_size (lq HB.out))); have n4_ := Aside0.mk (blk_below (bq BK462.out) hb); have n5_ := Aside0.mk (below_step (lq HB.out) hb); clear HO_4; clear HO_5; clear HO472; clear BK462; clear HB; have HO_4 := n0_; have HO_5 := n1_; have HO472 := n2_; have HO475 := n3_; have BK462 := n4_; have HB := n5_; clear n0_ n1_ n2_ n3_ n4_ n5_; clear hb ho29))
      repeat (go_quiet (first | ((with_reducible refine gate_dst (N := 34) rfl ?_); refine Kd.R_lit (Kd.int .u32) _ 46 ?hg (N := 34) ?hd (xs := ([] : List Int)) (inner := []) (ok := fun _ => True) (okp := fun _ => True) ?hr ?hp (fun _ hk => hk) trivial (Below.refl _ _) (Nat.le_refl _) (by simp) ?_; (case hd => rfl); (case hg => rfl); (case hr => first | (go_simp; done) | (go_simp; rfl)); (case hp => exact (Reps.none _ _)); intro v471 w26 ho27 hb hg_ hnew_; clear hg_ hnew_; (first | rw [← Ny470.out] at ho27 | (simp only [Int.reduceToNat] at ho27; rw [← Ny470.out] at ho27)); have n0_ := Aside0.mk (Kd.R_below (rq HO_4.out) hb); have n1_ := Aside0.mk (Kd.R_below (rq HO_5.out) hb); have n2_ := Aside0.mk (Kd.R_lower ho27 (below_size (lq HB.out))); have n3_ := Aside0.mk (blk_below (bq BK462.out) hb); have n4_ := Aside0.mk (below_step (lq HB.out) hb); clear HO_4; clear HO_5; clear BK462; clear HB; have HO_4 := n0_; have HO_5 := n1_; have HO472 := n2_; have BK462 := n3_; have HB := n4_; clear n0_ n1_ n2_ n3_ n4_; clear hb ho27) | ((with_reducible refine gate_dst (N := 35) rfl ?_); refine Kd.R_lit (Kd.int .u32) _ 46 ?hg (N := 35) ?hd (xs := ([] : List Int)) (inner := []) (ok := fun _ => True) (okp := fun _ => True) ?hr ?hp (fun _ hk => hk) trivial (Below.refl _ _) (Nat.le_refl _) (by simp) ?_; (case hd => rfl); (case hg => rfl); (case hr => first | (go_simp; done) | (go_simp; rfl)); (case hp => exact (Reps.none _ _)); intro v474 w28 ho29 hb hg_ hnew_; clear hg_ hnew_; (first | rw [← Ny473.out] at ho29 | (simp only [Int.reduceToNat] at ho29; rw [← Ny473.out] at ho29)); have n0_ := Aside0.mk (Kd.R_below (rq HO_4.out) hb); have n1_ := Aside0.mk (Kd.R_below (rq HO_5.out) hb); have n2_ := Aside0.mk (Kd.R_elder' (rq HO472.out) (Kd.R_base ho29) hb); have n3_ := Aside0.mk (Kd.R_lower (Kd.R_new' ho29 (Kd.R_lt (rq HO472.out))) (below_size (lq HB.out))); have n4_ := Aside0.mk (blk_below (bq BK462.out) hb); have n5_ := Aside0.mk (below_step (lq HB.out) hb); clear HO_4; clear HO_5; clear HO472; clear BK462; clear HB; have HO_4 := n0_; have HO_5 := n1_; have HO472 := n2_; have HO475 := n3_; have BK462 := n4_; have HB := n5_; clear n0_ n1_ n2_ n3_ n4_ n5_; clear hb ho29)); try go_wp2_with (first | ((with_reducible refine gate_dst (N := 34) rfl ?_); refine Kd.R_lit (Kd.int .u32) _ 46 ?hg (N := 34) ?hd (xs := ([] : List Int)) (inner := []) (ok := fun _ => True) (okp := fun _ => True) ?hr ?hp (fun _ hk => hk) trivial (Below.refl _ _) (Nat.le_refl _) (by simp) ?_; (case hd => rfl); (case hg => rfl); (case hr => first | (go_simp; done) | (go_simp; rfl)); (case hp => exact (Reps.none _ _)); intro v471 w26 ho27 hb hg_ hnew_; clear hg_ hnew_; (first | rw [← Ny470.out] at ho27 | (simp only [Int.reduceToNat] at ho27; rw [← Ny470.out] at ho27)); have n0_ := Aside0.mk (Kd.R_below (rq HO_4.out) hb); have n1_ := Aside0.mk (Kd.R_below (rq HO_5.out) hb); have n2_ := Aside0.mk (Kd.R_lower ho27 (below_size (lq HB.out))); have n3_ := Aside0.mk (blk_below (bq BK462.out) hb); have n4_ := Aside0.mk (below_step (lq HB.out) hb); clear HO_4; clear HO_5; clear BK462; clear HB; have HO_4 := n0_; have HO_5 := n1_; have HO472 := n2_; have BK462 := n3_; have HB := n4_; clear n0_ n1_ n2_ n3_ n4_; clear hb ho27) | ((with_reducible refine gate_dst (N := 35) rfl ?_); refine Kd.R_lit (Kd.int .u32) _ 46 ?hg (N := 35) ?hd (xs := ([] : List Int)) (inner := []) (ok := fun _ => True) (okp := fun _ => True) ?hr ?hp (fun _ hk => hk) trivial (Below.refl _ _) (Nat.le_refl _) (by simp) ?_; (case hd => rfl); (case hg => rfl); (case hr => first | (go_simp; done) | (go_simp; rfl)); (case hp => exact (Reps.none _ _)); intro v474 w28 ho29 hb hg_ hnew_; clear hg_ hnew_; (first | rw [← Ny473.out] at ho29 | (simp only [Int.reduceToNat] at ho29; rw [← Ny473.out] at ho29)); have n0_ := Aside0.mk (Kd.R_below (rq HO_4.out) hb); have n1_ := Aside0.mk (Kd.R_below (rq HO_5.out) hb); have n2_ := Aside0.mk (Kd.R_elder' (rq HO472.out) (Kd.R_base ho29) hb); have n3_ := Aside0.mk (Kd.R_lower (Kd.R_new' ho29 (Kd.R_lt (rq HO472.out))) (below_size (lq HB.out))); have n4_ := Aside0.mk (blk_below (bq BK462.out) hb); have n5_ := Aside0.mk (below_step (lq HB.out) hb); clear HO_4; clear HO_5; clear HO472; clear BK462; clear HB; have HO_4 := n0_; have HO_5 := n1_; have HO472 := n2_; have HO475 := n3_; have BK462 := n4_; have HB := n5_; clear n0_ n1_ n2_ n3_ n4_ n5_; clear hb ho29)))
      go_loopg [6, 7, 8] kj7 (fun kq v6 v7 v8 w' => ∃ (x6_2 : List Int) (x7_2 : List Int) (x8_2 : Int), v8 = .int .i64 x8_2 ∧ Aside0 (laws_FnSample.l0 kq t459 t463 x6_2 x7_2 x8_2 = some true) ∧ Aside0 (kq ≤ kj7) ∧ Aside0 (Kd.R k70 70 w' w.heap.size (fun _ => True) (.slice Ao12 t459.length co12) t459) ∧ Aside0 (Kd.R k72 72 w' w.heap.size (fun _ => True) (.slice Ao14 t463.length co14) t463) ∧ Aside0 (Kd.R (Kd.int .u32) 46 w' w.heap.size (fun k_ => some k_ ≠ (v7 : Value).ownBlock) v6 x6_2) ∧ Aside0 (Kd.R (Kd.int .u32) 46 w' w.heap.size (fun k_ => some k_ ≠ (v6 : Value).ownBlock) v7 x7_2) ∧ Aside0 (w'.heap[gb462]? = some (.cells #[.int .i64 t455, .int .i64 t456, .int .i64 t457, .int .i64 t458] 29 (0, 0))) ∧ Aside0 (Below w.heap.size w w'))
      case atStart => exact ⟨(y470), (y473), (0), (by first | rfl | (simp; done) | (simp [*]; done)), H', ⟨Nat.le_refl _⟩, ⟨by (with_reducible repeat (first | apply Kd.R_alloc | apply Kd.R_drewN | apply Kd.R_drew)); exact HO_4.out⟩, ⟨by (with_reducible repeat (first | apply Kd.R_alloc | apply Kd.R_drewN | apply Kd.R_drew)); exact HO_5.out⟩, ⟨by (with_reducible repeat (first | apply Kd.R_alloc | apply Kd.R_drewN | apply Kd.R_drew)); exact Kd.R_mono HO472.out (fun _ hk => hk.2)⟩, ⟨by (with_reducible repeat (first | apply Kd.R_alloc | apply Kd.R_drewN | apply Kd.R_drew)); exact Kd.R_mono HO475.out (fun _ hk => hk.2)⟩, ⟨by (with_reducible repeat (first | refine blk_drewN ?_ _ | refine blk_drew ?_ | refine blk_alloc ?_ _)); exact BK462.out⟩, ⟨by exact lq HB.out⟩⟩
      case round =>
       clear H'
       try clear c1
       try clear c2
       try clear p2
       try clear c3
       try clear c7
       try clear c7b0
       try clear c7b1
       try clear c7b2
       try clear c12
       try clear c19
       try clear c25
       try clear hcz11_0
       try clear hcz11_1
       try clear hcz11_2
       try clear hcz11_3
       try clear hcz15_0
       try clear hcz15_1
       try clear hcz15_2
       try clear hcz15_3
       try clear hcz20_0
       try clear hcz20_1
       try clear hcz20_2
       try clear hcz20_3
       try clear hcz22_0
       try clear hcz22_1
       try clear hcz22_2
       try clear hcz22_3
       try clear hcz23_0
       try clear hcz23_1
       try clear hcz23_2
       try clear hcz23_3
       try clear hfz11_0
       try clear hfz11_1
       try clear hfz11_2
       try clear hfz11_3
       try clear hfz15_0
       try clear hfz15_1
       try clear hfz15_2
       try clear hfz15_3
       try clear hfz20_0
       try clear hfz20_1
       try clear hfz20_2
       try clear hfz20_3
       try clear hfz22_0
       try clear hfz22_1
       try clear hfz22_2
       try clear hfz22_3
       try clear hfz23_0
       try clear hfz23_1
       try clear hfz23_2
       try clear hfz23_3
       try clear p2
       obtain ⟨x6_2, x7_2, x8_2, rfl, HA, HK2, HO_4, HO_5, HO_6, HO_7, BK462, HB⟩ := hrel
       cases gk with
       | zero => exact absurd HA.out (by simp [laws_FnSample.l0])
       | succ k2 =>
        have H := HA.out
        clear HA
        simp only [laws_FnSample.l0] at H
        by_cases c30 : x8_2 < (t463.length : Int)
        ·rw [if_pos c30] at H
         have c30b0 : decide (x8_2 < (t463.length : Int)) = true := decide_eq_true c30
         clear c30
         by_cases c31 : 0 ≤ x8_2
         ·rw [if_pos c31] at H
          have c31b0 : decide (0 ≤ x8_2) = true := decide_eq_true c31
          clear c31
          by_cases c32 : x8_2 < (t459.length : Int)
          ·rw [if_pos c32] at H
           have c32b0 : decide (x8_2 < (t459.length : Int)) = true := decide_eq_true c32
           clear c32
           by_cases c33 : ((rd_T70 t459 x8_2).f0) = 0
           ·rw [if_pos c33] at H
            have c33b0 : (((rd_T70 t459 x8_2).f0) == 0) = true := beq_iff_eq.mpr c33
            have c33b1 : (((rd_T70 t459 x8_2).f0) != 0) = false := bne_eq_false_iff_eq.mpr c33
            clear c33
            obtain ⟨y478, hy478⟩ : ∃ y_ : List Int, y_ = (([(rd_T70 t459 x8_2).f1] : List Int)) := ⟨_, rfl⟩
            replace H : (if ((rd_T72 t463 x8_2).f0) = 0 then (laws_FnSample.l0 k2 t459 t463 x6_2 y478 (wrap64 (x8_2 + 1))) else (some false)) = some true := by first | (rw [hy478]; with_reducible exact H) | (have H2_ := (Option.bind_some _ _).symm.trans H; rw [hy478]; with_reducible exact H2_) | (have H2_ := (Option.bind_some _ _).symm.trans H; with_reducible exact H2_) | with_reducible exact H | (rw [hy478]; exact H) | exact H
            have Ny478 := Aside0.mk hy478
            clear hy478
            by_cases c34 : ((rd_T72 t463 x8_2).f0) = 0
            ·rw [if_pos c34] at H
             have c34b0 : (((rd_T72 t463 x8_2).f0) == 0) = true := beq_iff_eq.mpr c34
             have c34b1 : (((rd_T72 t463 x8_2).f0) != 0) = false := bne_eq_false_iff_eq.mpr c34
             clear c34
             have H' := Aside0.mk H
             clear H
             have p476 : 0 ≤ (x8_2 : Int) := of_decide_eq_true (by first | (with_reducible assumption) | assumption)
             have q476 : x8_2 < (t459.length : Int) := of_decide_eq_true (by first | (with_reducible assumption) | assumption)
             obtain ⟨ad476, e476, hx476_0, hx476_1⟩ := at_T70 (Kd.R_reads' HO_4.out).2.2 x8_2 p476 q476
             cases e476
             replace p476 := eq_true p476
             replace q476 := eq_true q476
             have p477 : 0 ≤ (x8_2 : Int) := of_decide_eq_true (by first | (with_reducible assumption) | assumption)
             have q477 : x8_2 < (t459.length : Int) := of_decide_eq_true (by first | (with_reducible assumption) | assumption)
             obtain ⟨ad477, e477, hx477_0, hx477_1⟩ := at_T70 (Kd.R_reads' HO_4.out).2.2 x8_2 p477 q477
             obtain rfl : ad476 = ad477 := (by injection e477)
             replace p477 := eq_true p477
             replace q477 := eq_true q477
             go_wp2_with (first | ((with_reducible refine gate_dst (N := 55) rfl ?_); refine Kd.R_lit (Kd.int .u32) _ 46 ?hg (N := 55) ?hd (xs := ([(rd_T70 t459 x8_2).f1] : List Int)) (inner := [.int .u32 ((rd_T70 t459 x8_2).f1)]) (ok := fun _ => True) (okp := fun _ => True) ?hr ?hp (fun _ hk => hk) trivial (Below.refl _ _) (Nat.le_refl _) (by simp) ?_; (case hd => rfl); (case hg => rfl); (case hr => first | (go_simp; done) | (go_simp; rfl)); (case hp => exact (Reps.one (show Kd.M (Kd.int .u32) _ _ _ ((rd_T70 t459 x8_2).f1) [.int .u32 ((rd_T70 t459 x8_2).f1)] from rfl) (Reps.none _ _))); intro v479 w35 ho36 hb hg_ hnew_; clear hg_ hnew_; (first | rw [← Ny478.out] at ho36 | (simp only [Int.reduceToNat] at ho36; rw [← Ny478.out] at ho36)); have n0_ := Aside0.mk (Kd.R_below (rq HO_4.out) hb); have n1_ := Aside0.mk (Kd.R_below (rq HO_5.out) hb); have n2_ := Aside0.mk (Kd.R_elder' (rq HO_6.out) (Kd.R_base ho36) hb); have n3_ := Aside0.mk (Kd.R_elder' (rq HO_7.out) (Kd.R_base ho36) hb); have n4_ := Aside0.mk (Kd.R_lower (Kd.R_new' (Kd.R_new' ho36 (Kd.R_lt (rq HO_6.out))) (Kd.R_lt (rq HO_7.out))) (below_size (lq HB.out))); have n5_ := Aside0.mk (blk_below (bq BK462.out) hb); have n6_ := Aside0.mk (below_step (lq HB.out) hb); clear HO_4; clear HO_5; clear HO_6; clear HO_7; clear BK462; clear HB; have HO_4 := n0_; have HO_5 := n1_; have HO_6 := n2_; have HO_7 := n3_; have HO480 := n4_; have BK462 := n5_; have HB := n6_; clear n0_ n1_ n2_ n3_ n4_ n5_ n6_; clear hb ho36; have p481 : 0 ≤ (x8_2 : Int) := of_decide_eq_true (by first | (with_reducible assumption) | assumption); have q481 : x8_2 < (t463.length : Int) := of_decide_eq_true (by first | (with_reducible assumption) | assumption); obtain ⟨ad481, e481, hx481_0, hx481_1⟩ := at_T72 (Kd.R_reads' HO_5.out).2.2 x8_2 p481 q481; cases e481; replace p481 := eq_true p481; replace q481 := eq_true q481))
             repeat (go_quiet (first | ((with_reducible refine gate_dst (N := 55) rfl ?_); refine Kd.R_lit (Kd.int .u32) _ 46 ?hg (N := 55) ?hd (xs := ([(rd_T70 t459 x8_2).f1] : List Int)) (inner := [.int .u32 ((rd_T70 t459 x8_2).f1)]) (ok := fun _ => True) (okp := fun _ => True) ?hr ?hp (fun _ hk => hk) trivial (Below.refl _ _) (Nat.le_refl _) (by simp) ?_; (case hd => rfl); (case hg => rfl); (case hr => first | (go_simp; done) | (go_simp; rfl)); (case hp => exact (Reps.one (show Kd.M (Kd.int .u32) _ _ _ ((rd_T70 t459 x8_2).f1) [.int .u32 ((rd_T70 t459 x8_2).f1)] from rfl) (Reps.none _ _))); intro v479 w35 ho36 hb hg_ hnew_; clear hg_ hnew_; (first | rw [← Ny478.out] at ho36 | (simp only [Int.reduceToNat] at ho36; rw [← Ny478.out] at ho36)); have n0_ := Aside0.mk (Kd.R_below (rq HO_4.out) hb); have n1_ := Aside0.mk (Kd.R_below (rq HO_5.out) hb); have n2_ := Aside0.mk (Kd.R_elder' (rq HO_6.out) (Kd.R_base ho36) hb); have n3_ := Aside0.mk (Kd.R_elder' (rq HO_7.out) (Kd.R_base ho36) hb); have n4_ := Aside0.mk (Kd.R_lower (Kd.R_new' (Kd.R_new' ho36 (Kd.R_lt (rq HO_6.out))) (Kd.R_lt (rq HO_7.out))) (below_size (lq HB.out))); have n5_ := Aside0.mk (blk_below (bq BK462.out) hb); have n6_ := Aside0.mk (below_step (lq HB.out) hb); clear HO_4; clear HO_5; clear HO_6; clear HO_7; clear BK462; clear HB; have HO_4 := n0_; have HO_5 := n1_; have HO_6 := n2_; have HO_7 := n3_; have HO480 := n4_; have BK462 := n5_; have HB := n6_; clear n0_ n1_ n2_ n3_ n4_ n5_ n6_; clear hb ho36; have p481 : 0 ≤ (x8_2 : Int) := of_decide_eq_true (by first | (with_reducible assumption) | assumption); have q481 : x8_2 < (t463.length : Int) := of_decide_eq_true (by first | (with_reducible assumption) | assumption); obtain ⟨ad481, e481, hx481_0, hx481_1⟩ := at_T72 (Kd.R_reads' HO_5.out).2.2 x8_2 p481 q481; cases e481; replace p481 := eq_true p481; replace q481 := eq_true q481)); try go_wp2_with (first | ((with_reducible refine gate_dst (N := 55) rfl ?_); refine Kd.R_lit (Kd.int .u32) _ 46 ?hg (N := 55) ?hd (xs := ([(rd_T70 t459 x8_2).f1] : List Int)) (inner := [.int .u32 ((rd_T70 t459 x8_2).f1)]) (ok := fun _ => True) (okp := fun _ => True) ?hr ?hp (fun _ hk => hk) trivial (Below.refl _ _) (Nat.le_refl _) (by simp) ?_; (case hd => rfl); (case hg => rfl); (case hr => first | (go_simp; done) | (go_simp; rfl)); (case hp => exact (Reps.one (show Kd.M (Kd.int .u32) _ _ _ ((rd_T70 t459 x8_2).f1) [.int .u32 ((rd_T70 t459 x8_2).f1)] from rfl) (Reps.none _ _))); intro v479 w35 ho36 hb hg_ hnew_; clear hg_ hnew_; (first | rw [← Ny478.out] at ho36 | (simp only [Int.reduceToNat] at ho36; rw [← Ny478.out] at ho36)); have n0_ := Aside0.mk (Kd.R_below (rq HO_4.out) hb); have n1_ := Aside0.mk (Kd.R_below (rq HO_5.out) hb); have n2_ := Aside0.mk (Kd.R_elder' (rq HO_6.out) (Kd.R_base ho36) hb); have n3_ := Aside0.mk (Kd.R_elder' (rq HO_7.out) (Kd.R_base ho36) hb); have n4_ := Aside0.mk (Kd.R_lower (Kd.R_new' (Kd.R_new' ho36 (Kd.R_lt (rq HO_6.out))) (Kd.R_lt (rq HO_7.out))) (below_size (lq HB.out))); have n5_ := Aside0.mk (blk_below (bq BK462.out) hb); have n6_ := Aside0.mk (below_step (lq HB.out) hb); clear HO_4; clear HO_5; clear HO_6; clear HO_7; clear BK462; clear HB; have HO_4 := n0_; have HO_5 := n1_; have HO_6 := n2_; have HO_7 := n3_; have HO480 := n4_; have BK462 := n5_; have HB := n6_; clear n0_ n1_ n2_ n3_ n4_ n5_ n6_; clear hb ho36; have p481 : 0 ≤ (x8_2 : Int) := of_decide_eq_true (by first | (with_reducible assumption) | assumption); have q481 : x8_2 < (t463.length : Int) := of_decide_eq_true (by first | (with_reducible assumption) | assumption); obtain ⟨ad481, e481, hx481_0, hx481_1⟩ := at_T72 (Kd.R_reads' HO_5.out).2.2 x8_2 p481 q481; cases e481; replace p481 := eq_true p481; replace q481 := eq_true q481)))
             go_roundg k2
             case measure => have := HJ7.out; have := HK2.out; omega
             case rel => exact ⟨(x6_2), (y478), (wrap64 (x8_2 + 1)), (by first | rfl | (simp; done) | (simp [*]; done)), H', ⟨by have := HJ7.out; have := HK2.out; omega⟩, ⟨by (with_reducible repeat (first | apply Kd.R_alloc | apply Kd.R_drewN | apply Kd.R_drew)); exact HO_4.out⟩, ⟨by (with_reducible repeat (first | apply Kd.R_alloc | apply Kd.R_drewN | apply Kd.R_drew)); exact HO_5.out⟩, ⟨by (with_reducible repeat (first | apply Kd.R_alloc | apply Kd.R_drewN | apply Kd.R_drew)); exact Kd.R_mono HO_6.out (fun _ hk => hk.2)⟩, ⟨by (with_reducible repeat (first | apply Kd.R_alloc | apply Kd.R_drewN | apply Kd.R_drew)); exact Kd.R_mono HO480.out (fun _ hk => hk.1.2)⟩, ⟨by (with_reducible repeat (first | refine blk_drewN ?_ _ | refine blk_drew ?_ | refine blk_alloc ?_ _)); exact BK462.out⟩, ⟨by exact lq HB.out⟩⟩
            ·rw [if_neg c34] at H
             have c34b0 : (((rd_T72 t463 x8_2).f0) == 0) = false := beq_eq_false_iff_ne.mpr c34
             have c34b1 : (((rd_T72 t463 x8_2).f0) != 0) = true := bne_iff_ne.mpr c34
             exact absurd H (by simp)
           ·rw [if_neg c33] at H
            have c33b0 : (((rd_T70 t459 x8_2).f0) == 0) = false := beq_eq_false_iff_ne.mpr c33
            have c33b1 : (((rd_T70 t459 x8_2).f0) != 0) = true := bne_iff_ne.mpr c33
            by_cases c37 : ((rd_T70 t459 x8_2).f0) = 1
            ·rw [if_pos c37] at H
             have c37b0 : (((rd_T70 t459 x8_2).f0) == 1) = true := beq_iff_eq.mpr c37
             have c37b1 : (((rd_T70 t459 x8_2).f0) != 1) = false := bne_eq_false_iff_eq.mpr c37
             clear c37
             by_cases c38 : (x6_2.length : Int) = 0
             ·rw [if_pos c38] at H
              have c38b0 : ((x6_2.length : Int) == 0) = true := beq_iff_eq.mpr c38
              have c38b1 : ((x6_2.length : Int) != 0) = false := bne_eq_false_iff_eq.mpr c38
              clear c38
              by_cases c39 : ((rd_T72 t463 x8_2).f0) = 1
              ·rw [if_pos c39] at H
               have c39b0 : (((rd_T72 t463 x8_2).f0) == 1) = true := beq_iff_eq.mpr c39
               have c39b1 : (((rd_T72 t463 x8_2).f0) != 1) = false := bne_eq_false_iff_eq.mpr c39
               clear c39
               have H' := Aside0.mk H
               clear H
               have p476 : 0 ≤ (x8_2 : Int) := of_decide_eq_true (by first | (with_reducible assumption) | assumption)
               have q476 : x8_2 < (t459.length : Int) := of_decide_eq_true (by first | (with_reducible assumption) | assumption)
               obtain ⟨ad476, e476, hx476_0, hx476_1⟩ := at_T70 (Kd.R_reads' HO_4.out).2.2 x8_2 p476 q476
               cases e476
               replace p476 := eq_true p476
               replace q476 := eq_true q476
               obtain ⟨Ao40, co40, eo40⟩ := Kd.R_slice HO_6.out
               subst eo40
               have p482 : 0 ≤ (x8_2 : Int) := of_decide_eq_true (by first | (with_reducible assumption) | assumption)
               have q482 : x8_2 < (t463.length : Int) := of_decide_eq_true (by first | (with_reducible assumption) | assumption)
               obtain ⟨ad482, e482, hx482_0, hx482_1⟩ := at_T72 (Kd.R_reads' HO_5.out).2.2 x8_2 p482 q482
               cases e482
               replace p482 := eq_true p482
               replace q482 := eq_true q482
               go_wp2
               repeat (go_quiet (fail); try go_wp2)
               go_roundg k2
               case measure => have := HJ7.out; have := HK2.out; omega
               case rel => exact ⟨(x6_2), (x7_2), (wrap64 (x8_2 + 1)), (by first | rfl | (simp; done) | (simp [*]; done)), H', ⟨by have := HJ7.out; have := HK2.out; omega⟩, ⟨by (with_reducible repeat (first | apply Kd.R_alloc | apply Kd.R_drewN | apply Kd.R_drew)); exact HO_4.out⟩, ⟨by (with_reducible repeat (first | apply Kd.R_alloc | apply Kd.R_drewN | apply Kd.R_drew)); exact HO_5.out⟩, ⟨by (with_reducible repeat (first | apply Kd.R_alloc | apply Kd.R_drewN | apply Kd.R_drew)); exact HO_6.out⟩, ⟨by (with_reducible repeat (first | apply Kd.R_alloc | apply Kd.R_drewN | apply Kd.R_drew)); exact HO_7.out⟩, ⟨by (with_reducible repeat (first | refine blk_drewN ?_ _ | refine blk_drew ?_ | refine blk_alloc ?_ _)); exact BK462.out⟩, ⟨by exact lq HB.out⟩⟩
              ·rw [if_neg c39] at H
               have c39b0 : (((rd_T72 t463 x8_2).f0) == 1) = false := beq_eq_false_iff_ne.mpr c39
               have c39b1 : (((rd_T72 t463 x8_2).f0) != 1) = true := bne_iff_ne.mpr c39
               exact absurd H (by simp)
             ·rw [if_neg c38] at H
              have c38b0 : ((x6_2.length : Int) == 0) = false := beq_eq_false_iff_ne.mpr c38
              have c38b1 : ((x6_2.length : Int) != 0) = true := bne_iff_ne.mpr c38
              have c38b2 : ¬ (x6_2 = []) := fun h_ => c38 (by rw [h_]; rfl)
              by_cases c41 : ((rd_T72 t463 x8_2).f0) = 0
              ·rw [if_pos c41] at H
               have c41b0 : (((rd_T72 t463 x8_2).f0) == 0) = true := beq_iff_eq.mpr c41
               have c41b1 : (((rd_T72 t463 x8_2).f0) != 0) = false := bne_eq_false_iff_eq.mpr c41
               clear c41
               by_cases c42 : 0 < (x6_2.length : Int)
               ·rw [if_pos c42] at H
                have c42b0 : decide (0 < (x6_2.length : Int)) = true := decide_eq_true c42
                have c42b1 : decide (0 < x6_2.length) = true := decide_eq_true (by omega)
                clear c42
                by_cases c43 : ((rd_T72 t463 x8_2).f1) = (rd x6_2 0)
                ·rw [if_pos c43] at H
                 have c43b0 : (((rd_T72 t463 x8_2).f1) == (rd x6_2 0)) = true := beq_iff_eq.mpr c43
                 have c43b1 : (((rd_T72 t463 x8_2).f1) != (rd x6_2 0)) = false := bne_eq_false_iff_eq.mpr c43
                 clear c43
                 have H' := Aside0.mk H
                 clear H
                 have p476 : 0 ≤ (x8_2 : Int) := of_decide_eq_true (by first | (with_reducible assumption) | assumption)
                 have q476 : x8_2 < (t459.length : Int) := of_decide_eq_true (by first | (with_reducible assumption) | assumption)
                 obtain ⟨ad476, e476, hx476_0, hx476_1⟩ := at_T70 (Kd.R_reads' HO_4.out).2.2 x8_2 p476 q476
                 cases e476
                 replace p476 := eq_true p476
                 replace q476 := eq_true q476
                 obtain ⟨Ao44, co44, eo44⟩ := Kd.R_slice HO_6.out
                 subst eo44
                 have p483 : 0 ≤ (x8_2 : Int) := of_decide_eq_true (by first | (with_reducible assumption) | assumption)
                 have q483 : x8_2 < (t463.length : Int) := of_decide_eq_true (by first | (with_reducible assumption) | assumption)
                 obtain ⟨ad483, e483, hx483_0, hx483_1⟩ := at_T72 (Kd.R_reads' HO_5.out).2.2 x8_2 p483 q483
                 cases e483
                 replace p483 := eq_true p483
                 replace q483 := eq_true q483
                 have p484 : 0 ≤ (x8_2 : Int) := of_decide_eq_true (by first | (with_reducible assumption) | assumption)
                 have q484 : x8_2 < (t463.length : Int) := of_decide_eq_true (by first | (with_reducible assumption) | assumption)
                 obtain ⟨ad484, e484, hx484_0, hx484_1⟩ := at_T72 (Kd.R_reads' HO_5.out).2.2 x8_2 p484 q484
                 obtain rfl : ad483 = ad484 := (by injection e484)
                 replace p484 := eq_true p484
                 replace q484 := eq_true q484
                 have p485 : 0 ≤ (0 : Int) := (by omega)
                 have q485 : 0 < (x6_2.length : Int) := of_decide_eq_true (by first | (with_reducible assumption) | assumption)
                 obtain ⟨ad485, e485, hx485_0⟩ := Kd.at_int (Kd.R_reads' HO_6.out).2.2 0 p485 q485
                 cases e485
                 have qi485 : (0 < x6_2.length) = True := eq_true (by omega)
                 (try rw [show ((0 : Int)).toNat = 0 from rfl] at hx485_0)
                 (try rw [Addr.add_zero'] at hx485_0)
                 replace p485 := eq_true p485
                 replace q485 := eq_true q485
                 go_wp2
                 repeat (go_quiet (fail); try go_wp2)
                 go_roundg k2
                 case measure => have := HJ7.out; have := HK2.out; omega
                 case rel => exact ⟨(x6_2), (x7_2), (wrap64 (x8_2 + 1)), (by first | rfl | (simp; done) | (simp [*]; done)), H', ⟨by have := HJ7.out; have := HK2.out; omega⟩, ⟨by (with_reducible repeat (first | apply Kd.R_alloc | apply Kd.R_drewN | apply Kd.R_drew)); exact HO_4.out⟩, ⟨by (with_reducible repeat (first | apply Kd.R_alloc | apply Kd.R_drewN | apply Kd.R_drew)); exact HO_5.out⟩, ⟨by (with_reducible repeat (first | apply Kd.R_alloc | apply Kd.R_drewN | apply Kd.R_drew)); exact HO_6.out⟩, ⟨by (with_reducible repeat (first | apply Kd.R_alloc | apply Kd.R_drewN | apply Kd.R_drew)); exact HO_7.out⟩, ⟨by (with_reducible repeat (first | refine blk_drewN ?_ _ | refine blk_drew ?_ | refine blk_alloc ?_ _)); exact BK462.out⟩, ⟨by exact lq HB.out⟩⟩
                ·rw [if_neg c43] at H
                 have c43b0 : (((rd_T72 t463 x8_2).f1) == (rd x6_2 0)) = false := beq_eq_false_iff_ne.mpr c43
                 have c43b1 : (((rd_T72 t463 x8_2).f1) != (rd x6_2 0)) = true := bne_iff_ne.mpr c43
                 exact absurd H (by simp)
               ·rw [if_neg c42] at H
                exact absurd H (by simp)
              ·rw [if_neg c41] at H
               have c41b0 : (((rd_T72 t463 x8_2).f0) == 0) = false := beq_eq_false_iff_ne.mpr c41
               have c41b1 : (((rd_T72 t463 x8_2).f0) != 0) = true := bne_iff_ne.mpr c41
               exact absurd H (by simp)
            ·rw [if_neg c37] at H
             have c37b0 : (((rd_T70 t459 x8_2).f0) == 1) = false := beq_eq_false_iff_ne.mpr c37
             have c37b1 : (((rd_T70 t459 x8_2).f0) != 1) = true := bne_iff_ne.mpr c37
             by_cases c45 : ((rd_T70 t459 x8_2).f0) = 2
             ·rw [if_pos c45] at H
              have c45b0 : (((rd_T70 t459 x8_2).f0) == 2) = true := beq_iff_eq.mpr c45
              have c45b1 : (((rd_T70 t459 x8_2).f0) != 2) = false := bne_eq_false_iff_eq.mpr c45
              clear c45
              by_cases c46 : (x7_2.length : Int) > 0
              ·rw [if_pos c46] at H
               have c46b0 : decide (0 < (x7_2.length : Int)) = true := decide_eq_true c46
               have c46b1 : decide (0 < x7_2.length) = true := decide_eq_true (by omega)
               clear c46
               obtain ⟨y486, hy486⟩ : ∃ y_ : List Int, y_ = (([] : List Int)) := ⟨_, rfl⟩
               replace H : (laws_FnSample.l0 k2 t459 t463 x7_2 y486 (wrap64 (x8_2 + 1))) = some true := by first | (rw [hy486]; with_reducible exact H) | (have H2_ := (Option.bind_some _ _).symm.trans H; rw [hy486]; with_reducible exact H2_) | (have H2_ := (Option.bind_some _ _).symm.trans H; with_reducible exact H2_) | with_reducible exact H | (rw [hy486]; exact H) | exact H
               have Ny486 := Aside0.mk hy486
               clear hy486
               have H' := Aside0.mk H
               clear H
               have p476 : 0 ≤ (x8_2 : Int) := of_decide_eq_true (by first | (with_reducible assumption) | assumption)
               have q476 : x8_2 < (t459.length : Int) := of_decide_eq_true (by first | (with_reducible assumption) | assumption)
               obtain ⟨ad476, e476, hx476_0, hx476_1⟩ := at_T70 (Kd.R_reads' HO_4.out).2.2 x8_2 p476 q476
               cases e476
               replace p476 := eq_true p476
               replace q476 := eq_true q476
               obtain ⟨Ao47, co47, eo47⟩ := Kd.R_slice HO_7.out
               subst eo47
               go_wp2_with (first | ((with_reducible refine gate_dst (N := 96) rfl ?_); refine Kd.R_lit (Kd.int .u32) _ 46 ?hg (N := 96) ?hd (xs := ([] : List Int)) (inner := []) (ok := fun _ => True) (okp := fun _ => True) ?hr ?hp (fun _ hk => hk) trivial (Below.refl _ _) (Nat.le_refl _) (by simp) ?_; (case hd => rfl); (case hg => rfl); (case hr => first | (go_simp; done) | (go_simp; rfl)); (case hp => exact (Reps.none _ _)); intro v487 w48 ho49 hb hg_ hnew_; clear hg_ hnew_; (first | rw [← Ny486.out] at ho49 | (simp only [Int.reduceToNat] at ho49; rw [← Ny486.out] at ho49)); have n0_ := Aside0.mk (Kd.R_below (rq HO_4.out) hb); have n1_ := Aside0.mk (Kd.R_below (rq HO_5.out) hb); have n2_ := Aside0.mk (Kd.R_elder' (rq HO_6.out) (Kd.R_base ho49) hb); have n3_ := Aside0.mk (Kd.R_elder' (rq HO_7.out) (Kd.R_base ho49) hb); have n4_ := Aside0.mk (Kd.R_lower (Kd.R_new' (Kd.R_new' ho49 (Kd.R_lt (rq HO_6.out))) (Kd.R_lt (rq HO_7.out))) (below_size (lq HB.out))); have n5_ := Aside0.mk (blk_below (bq BK462.out) hb); have n6_ := Aside0.mk (below_step (lq HB.out) hb); clear HO_4; clear HO_5; clear HO_6; clear HO_7; clear BK462; clear HB; have HO_4 := n0_; have HO_5 := n1_; have HO_6 := n2_; have HO_7 := n3_; have HO488 := n4_; have BK462 := n5_; have HB := n6_; clear n0_ n1_ n2_ n3_ n4_ n5_ n6_; clear hb ho49))
               repeat (go_quiet (first | ((with_reducible refine gate_dst (N := 96) rfl ?_); refine Kd.R_lit (Kd.int .u32) _ 46 ?hg (N := 96) ?hd (xs := ([] : List Int)) (inner := []) (ok := fun _ => True) (okp := fun _ => True) ?hr ?hp (fun _ hk => hk) trivial (Below.refl _ _) (Nat.le_refl _) (by simp) ?_; (case hd => rfl); (case hg => rfl); (case hr => first | (go_simp; done) | (go_simp; rfl)); (case hp => exact (Reps.none _ _)); intro v487 w48 ho49 hb hg_ hnew_; clear hg_ hnew_; (first | rw [← Ny486.out] at ho49 | (simp only [Int.reduceToNat] at ho49; rw [← Ny486.out] at ho49)); have n0_ := Aside0.mk (Kd.R_below (rq HO_4.out) hb); have n1_ := Aside0.mk (Kd.R_below (rq HO_5.out) hb); have n2_ := Aside0.mk (Kd.R_elder' (rq HO_6.out) (Kd.R_base ho49) hb); have n3_ := Aside0.mk (Kd.R_elder' (rq HO_7.out) (Kd.R_base ho49) hb); have n4_ := Aside0.mk (Kd.R_lower (Kd.R_new' (Kd.R_new' ho49 (Kd.R_lt (rq HO_6.out))) (Kd.R_lt (rq HO_7.out))) (below_size (lq HB.out))); have n5_ := Aside0.mk (blk_below (bq BK462.out) hb); have n6_ := Aside0.mk (below_step (lq HB.out) hb); clear HO_4; clear HO_5; clear HO_6; clear HO_7; clear BK462; clear HB; have HO_4 := n0_; have HO_5 := n1_; have HO_6 := n2_; have HO_7 := n3_; have HO488 := n4_; have BK462 := n5_; have HB := n6_; clear n0_ n1_ n2_ n3_ n4_ n5_ n6_; clear hb ho49)); try go_wp2_with (first | ((with_reducible refine gate_dst (N := 96) rfl ?_); refine Kd.R_lit (Kd.int .u32) _ 46 ?hg (N := 96) ?hd (xs := ([] : List Int)) (inner := []) (ok := fun _ => True) (okp := fun _ => True) ?hr ?hp (fun _ hk => hk) trivial (Below.refl _ _) (Nat.le_refl _) (by simp) ?_; (case hd => rfl); (case hg => rfl); (case hr => first | (go_simp; done) | (go_simp; rfl)); (case hp => exact (Reps.none _ _)); intro v487 w48 ho49 hb hg_ hnew_; clear hg_ hnew_; (first | rw [← Ny486.out] at ho49 | (simp only [Int.reduceToNat] at ho49; rw [← Ny486.out] at ho49)); have n0_ := Aside0.mk (Kd.R_below (rq HO_4.out) hb); have n1_ := Aside0.mk (Kd.R_below (rq HO_5.out) hb); have n2_ := Aside0.mk (Kd.R_elder' (rq HO_6.out) (Kd.R_base ho49) hb); have n3_ := Aside0.mk (Kd.R_elder' (rq HO_7.out) (Kd.R_base ho49) hb); have n4_ := Aside0.mk (Kd.R_lower (Kd.R_new' (Kd.R_new' ho49 (Kd.R_lt (rq HO_6.out))) (Kd.R_lt (rq HO_7.out))) (below_size (lq HB.out))); have n5_ := Aside0.mk (blk_below (bq BK462.out) hb); have n6_ := Aside0.mk (below_step (lq HB.out) hb); clear HO_4; clear HO_5; clear HO_6; clear HO_7; clear BK462; clear HB; have HO_4 := n0_; have HO_5 := n1_; have HO_6 := n2_; have HO_7 := n3_; have HO488 := n4_; have BK462 := n5_; have HB := n6_; clear n0_ n1_ n2_ n3_ n4_ n5_ n6_; clear hb ho49)))
               go_roundg k2
               case measure => have := HJ7.out; have := HK2.out; omega
               case rel => exact ⟨(x7_2), (y486), (wrap64 (x8_2 + 1)), (by first | rfl | (simp; done) | (simp [*]; done)), H', ⟨by have := HJ7.out; have := HK2.out; omega⟩, ⟨by (with_reducible repeat (first | apply Kd.R_alloc | apply Kd.R_drewN | apply Kd.R_drew)); exact HO_4.out⟩, ⟨by (with_reducible repeat (first | apply Kd.R_alloc | apply Kd.R_drewN | apply Kd.R_drew)); exact HO_5.out⟩, ⟨by (with_reducible repeat (first | apply Kd.R_alloc | apply Kd.R_drewN | apply Kd.R_drew)); exact Kd.R_mono HO_7.out (fun _ hk => hk.2)⟩, ⟨by (with_reducible repeat (first | apply Kd.R_alloc | apply Kd.R_drewN | apply Kd.R_drew)); exact Kd.R_mono HO488.out (fun _ hk => hk.2)⟩, ⟨by (with_reducible repeat (first | refine blk_drewN ?_ _ | refine blk_drew ?_ | refine blk_alloc ?_ _)); exact BK462.out⟩, ⟨by exact lq HB.out⟩⟩
              ·rw [if_neg c46] at H
               have c46b0 : decide (0 < (x7_2.length : Int)) = false := decide_eq_false c46
               have c46b1 : decide (0 < x7_2.length) = false := decide_eq_false (by omega)
               clear c46
               obtain ⟨y489, hy489⟩ : ∃ y_ : List Int, y_ = (([] : List Int)) := ⟨_, rfl⟩
               replace H : (laws_FnSample.l0 k2 t459 t463 x6_2 y489 (wrap64 (x8_2 + 1))) = some true := by first | (rw [hy489]; with_reducible exact H) | (have H2_ := (Option.bind_some _ _).symm.trans H; rw [hy489]; with_reducible exact H2_) | (have H2_ := (Option.bind_some _ _).symm.trans H; with_reducible exact H2_) | with_reducible exact H | (rw [hy489]; exact H) | exact H
               have Ny489 := Aside0.mk hy489
               clear hy489
               have H' := Aside0.mk H
               clear H
               have p476 : 0 ≤ (x8_2 : Int) := of_decide_eq_true (by first | (with_reducible assumption) | assumption)
               have q476 : x8_2 < (t459.length : Int) := of_decide_eq_true (by first | (with_reducible assumption) | assumption)
               obtain ⟨ad476, e476, hx476_0, hx476_1⟩ := at_T70 (Kd.R_reads' HO_4.out).2.2 x8_2 p476 q476
               cases e476
               replace p476 := eq_true p476
               replace q476 := eq_true q476
               obtain ⟨Ao50, co50, eo50⟩ := Kd.R_slice HO_7.out
               subst eo50
               go_wp2_with (first | ((with_reducible refine gate_dst (N := 96) rfl ?_); refine Kd.R_lit (Kd.int .u32) _ 46 ?hg (N := 96) ?hd (xs := ([] : List Int)) (inner := []) (ok := fun _ => True) (okp := fun _ => True) ?hr ?hp (fun _ hk => hk) trivial (Below.refl _ _) (Nat.le_refl _) (by simp) ?_; (case hd => rfl); (case hg => rfl); (case hr => first | (go_simp; done) | (go_simp; rfl)); (case hp => exact (Reps.none _ _)); intro v490 w51 ho52 hb hg_ hnew_; clear hg_ hnew_; (first | rw [← Ny489.out] at ho52 | (simp only [Int.reduceToNat] at ho52; rw [← Ny489.out] at ho52)); have n0_ := Aside0.mk (Kd.R_below (rq HO_4.out) hb); have n1_ := Aside0.mk (Kd.R_below (rq HO_5.out) hb); have n2_ := Aside0.mk (Kd.R_elder' (rq HO_6.out) (Kd.R_base ho52) hb); have n3_ := Aside0.mk (Kd.R_elder' (rq HO_7.out) (Kd.R_base ho52) hb); have n4_ := Aside0.mk (Kd.R_lower (Kd.R_new' (Kd.R_new' ho52 (Kd.R_lt (rq HO_6.out))) (Kd.R_lt (rq HO_7.out))) (below_size (lq HB.out))); have n5_ := Aside0.mk (blk_below (bq BK462.out) hb); have n6_ := Aside0.mk (below_step (lq HB.out) hb); clear HO_4; clear HO_5; clear HO_6; clear HO_7; clear BK462; clear HB; have HO_4 := n0_; have HO_5 := n1_; have HO_6 := n2_; have HO_7 := n3_; have HO491 := n4_; have BK462 := n5_; have HB := n6_; clear n0_ n1_ n2_ n3_ n4_ n5_ n6_; clear hb ho52))
               repeat (go_quiet (first | ((with_reducible refine gate_dst (N := 96) rfl ?_); refine Kd.R_lit (Kd.int .u32) _ 46 ?hg (N := 96) ?hd (xs := ([] : List Int)) (inner := []) (ok := fun _ => True) (okp := fun _ => True) ?hr ?hp (fun _ hk => hk) trivial (Below.refl _ _) (Nat.le_refl _) (by simp) ?_; (case hd => rfl); (case hg => rfl); (case hr => first | (go_simp; done) | (go_simp; rfl)); (case hp => exact (Reps.none _ _)); intro v490 w51 ho52 hb hg_ hnew_; clear hg_ hnew_; (first | rw [← Ny489.out] at ho52 | (simp only [Int.reduceToNat] at ho52; rw [← Ny489.out] at ho52)); have n0_ := Aside0.mk (Kd.R_below (rq HO_4.out) hb); have n1_ := Aside0.mk (Kd.R_below (rq HO_5.out) hb); have n2_ := Aside0.mk (Kd.R_elder' (rq HO_6.out) (Kd.R_base ho52) hb); have n3_ := Aside0.mk (Kd.R_elder' (rq HO_7.out) (Kd.R_base ho52) hb); have n4_ := Aside0.mk (Kd.R_lower (Kd.R_new' (Kd.R_new' ho52 (Kd.R_lt (rq HO_6.out))) (Kd.R_lt (rq HO_7.out))) (below_size (lq HB.out))); have n5_ := Aside0.mk (blk_below (bq BK462.out) hb); have n6_ := Aside0.mk (below_step (lq HB.out) hb); clear HO_4; clear HO_5; clear HO_6; clear HO_7; clear BK462; clear HB; have HO_4 := n0_; have HO_5 := n1_; have HO_6 := n2_; have HO_7 := n3_; have HO491 := n4_; have BK462 := n5_; have HB := n6_; clear n0_ n1_ n2_ n3_ n4_ n5_ n6_; clear hb ho52)); try go_wp2_with (first | ((with_reducible refine gate_dst (N := 96) rfl ?_); refine Kd.R_lit (Kd.int .u32) _ 46 ?hg (N := 96) ?hd (xs := ([] : List Int)) (inner := []) (ok := fun _ => True) (okp := fun _ => True) ?hr ?hp (fun _ hk => hk) trivial (Below.refl _ _) (Nat.le_refl _) (by simp) ?_; (case hd => rfl); (case hg => rfl); (case hr => first | (go_simp; done) | (go_simp; rfl)); (case hp => exact (Reps.none _ _)); intro v490 w51 ho52 hb hg_ hnew_; clear hg_ hnew_; (first | rw [← Ny489.out] at ho52 | (simp only [Int.reduceToNat] at ho52; rw [← Ny489.out] at ho52)); have n0_ := Aside0.mk (Kd.R_below (rq HO_4.out) hb); have n1_ := Aside0.mk (Kd.R_below (rq HO_5.out) hb); have n2_ := Aside0.mk (Kd.R_elder' (rq HO_6.out) (Kd.R_base ho52) hb); have n3_ := Aside0.mk (Kd.R_elder' (rq HO_7.out) (Kd.R_base ho52) hb); have n4_ := Aside0.mk (Kd.R_lower (Kd.R_new' (Kd.R_new' ho52 (Kd.R_lt (rq HO_6.out))) (Kd.R_lt (rq HO_7.out))) (below_size (lq HB.out))); have n5_ := Aside0.mk (blk_below (bq BK462.out) hb); have n6_ := Aside0.mk (below_step (lq HB.out) hb); clear HO_4; clear HO_5; clear HO_6; clear HO_7; clear BK462; clear HB; have HO_4 := n0_; have HO_5 := n1_; have HO_6 := n2_; have HO_7 := n3_; have HO491 := n4_; have BK462 := n5_; have HB := n6_; clear n0_ n1_ n2_ n3_ n4_ n5_ n6_; clear hb ho52)))
               go_roundg k2
               case measure => have := HJ7.out; have := HK2.out; omega
               case rel => exact ⟨(x6_2), (y489), (wrap64 (x8_2 + 1)), (by first | rfl | (simp; done) | (simp [*]; done)), H', ⟨by have := HJ7.out; have := HK2.out; omega⟩, ⟨by (with_reducible repeat (first | apply Kd.R_alloc | apply Kd.R_drewN | apply Kd.R_drew)); exact HO_4.out⟩, ⟨by (with_reducible repeat (first | apply Kd.R_alloc | apply Kd.R_drewN | apply Kd.R_drew)); exact HO_5.out⟩, ⟨by (with_reducible repeat (first | apply Kd.R_alloc | apply Kd.R_drewN | apply Kd.R_drew)); exact Kd.R_mono HO_6.out (fun _ hk => hk.2)⟩, ⟨by (with_reducible repeat (first | apply Kd.R_alloc | apply Kd.R_drewN | apply Kd.R_drew)); exact Kd.R_mono HO491.out (fun _ hk => hk.1.2)⟩, ⟨by (with_reducible repeat (first | refine blk_drewN ?_ _ | refine blk_drew ?_ | refine blk_alloc ?_ _)); exact BK462.out⟩, ⟨by exact lq HB.out⟩⟩
             ·rw [if_neg c45] at H
              have c45b0 : (((rd_T70 t459 x8_2).f0) == 2) = false := beq_eq_false_iff_ne.mpr c45
              have c45b1 : (((rd_T70 t459 x8_2).f0) != 2) = true := bne_iff_ne.mpr c45
              obtain ⟨y492, hy492⟩ : ∃ y_ : List Int, y_ = (([] : List Int)) := ⟨_, rfl⟩
              replace H : (laws_FnSample.l0 k2 t459 t463 x6_2 y492 (wrap64 (x8_2 + 1))) = some true := by first | (rw [hy492]; with_reducible exact H) | (have H2_ := (Option.bind_some _ _).symm.trans H; rw [hy492]; with_reducible exact H2_) | (have H2_ := (Option.bind_some _ _).symm.trans H; with_reducible exact H2_) | with_reducible exact H | (rw [hy492]; exact H) | exact H
              have Ny492 := Aside0.mk hy492
              clear hy492
              have H' := Aside0.mk H
              clear H
              have p476 : 0 ≤ (x8_2 : Int) := of_decide_eq_true (by first | (with_reducible assumption) | assumption)
              have q476 : x8_2 < (t459.length : Int) := of_decide_eq_true (by first | (with_reducible assumption) | assumption)
              obtain ⟨ad476, e476, hx476_0, hx476_1⟩ := at_T70 (Kd.R_reads' HO_4.out).2.2 x8_2 p476 q476
              cases e476
              replace p476 := eq_true p476
              replace q476 := eq_true q476
              go_wp2_with (first | ((with_reducible refine gate_dst (N := 47) rfl ?_); refine Kd.R_lit (Kd.int .u32) _ 46 ?hg (N := 47) ?hd (xs := ([] : List Int)) (inner := []) (ok := fun _ => True) (okp := fun _ => True) ?hr ?hp (fun _ hk => hk) trivial (Below.refl _ _) (Nat.le_refl _) (by simp) ?_; (case hd => rfl); (case hg => rfl); (case hr => first | (go_simp; done) | (go_simp; rfl)); (case hp => exact (Reps.none _ _)); intro v493 w53 ho54 hb hg_ hnew_; clear hg_ hnew_; (first | rw [← Ny492.out] at ho54 | (simp only [Int.reduceToNat] at ho54; rw [← Ny492.out] at ho54)); have n0_ := Aside0.mk (Kd.R_below (rq HO_4.out) hb); have n1_ := Aside0.mk (Kd.R_below (rq HO_5.out) hb); have n2_ := Aside0.mk (Kd.R_elder' (rq HO_6.out) (Kd.R_base ho54) hb); have n3_ := Aside0.mk (Kd.R_elder' (rq HO_7.out) (Kd.R_base ho54) hb); have n4_ := Aside0.mk (Kd.R_lower (Kd.R_new' (Kd.R_new' ho54 (Kd.R_lt (rq HO_6.out))) (Kd.R_lt (rq HO_7.out))) (below_size (lq HB.out))); have n5_ := Aside0.mk (blk_below (bq BK462.out) hb); have n6_ := Aside0.mk (below_step (lq HB.out) hb); clear HO_4; clear HO_5; clear HO_6; clear HO_7; clear BK462; clear HB; have HO_4 := n0_; have HO_5 := n1_; have HO_6 := n2_; have HO_7 := n3_; have HO494 := n4_; have BK462 := n5_; have HB := n6_; clear n0_ n1_ n2_ n3_ n4_ n5_ n6_; clear hb ho54))
              repeat (go_quiet (first | ((with_reducible refine gate_dst (N := 47) rfl ?_); refine Kd.R_lit (Kd.int .u32) _ 46 ?hg (N := 47) ?hd (xs := ([] : List Int)) (inner := []) (ok := fun _ => True) (okp := fun _ => True) ?hr ?hp (fun _ hk => hk) trivial (Below.refl _ _) (Nat.le_refl _) (by simp) ?_; (case hd => rfl); (case hg => rfl); (case hr => first | (go_simp; done) | (go_simp; rfl)); (case hp => exact (Reps.none _ _)); intro v493 w53 ho54 hb hg_ hnew_; clear hg_ hnew_; (first | rw [← Ny492.out] at ho54 | (simp only [Int.reduceToNat] at ho54; rw [← Ny492.out] at ho54)); have n0_ := Aside0.mk (Kd.R_below (rq HO_4.out) hb); have n1_ := Aside0.mk (Kd.R_below (rq HO_5.out) hb); have n2_ := Aside0.mk (Kd.R_elder' (rq HO_6.out) (Kd.R_base ho54) hb); have n3_ := Aside0.mk (Kd.R_elder' (rq HO_7.out) (Kd.R_base ho54) hb); have n4_ := Aside0.mk (Kd.R_lower (Kd.R_new' (Kd.R_new' ho54 (Kd.R_lt (rq HO_6.out))) (Kd.R_lt (rq HO_7.out))) (below_size (lq HB.out))); have n5_ := Aside0.mk (blk_below (bq BK462.out) hb); have n6_ := Aside0.mk (below_step (lq HB.out) hb); clear HO_4; clear HO_5; clear HO_6; clear HO_7; clear BK462; clear HB; have HO_4 := n0_; have HO_5 := n1_; have HO_6 := n2_; have HO_7 := n3_; have HO494 := n4_; have BK462 := n5_; have HB := n6_; clear n0_ n1_ n2_ n3_ n4_ n5_ n6_; clear hb ho54)); try go_wp2_with (first | ((with_reducible refine gate_dst (N := 47) rfl ?_); refine Kd.R_lit (Kd.int .u32) _ 46 ?hg (N := 47) ?hd (xs := ([] : List Int)) (inner := []) (ok := fun _ => True) (okp := fun _ => True) ?hr ?hp (fun _ hk => hk) trivial (Below.refl _ _) (Nat.le_refl _) (by simp) ?_; (case hd => rfl); (case hg => rfl); (case hr => first | (go_simp; done) | (go_simp; rfl)); (case hp => exact (Reps.none _ _)); intro v493 w53 ho54 hb hg_ hnew_; clear hg_ hnew_; (first | rw [← Ny492.out] at ho54 | (simp only [Int.reduceToNat] at ho54; rw [← Ny492.out] at ho54)); have n0_ := Aside0.mk (Kd.R_below (rq HO_4.out) hb); have n1_ := Aside0.mk (Kd.R_below (rq HO_5.out) hb); have n2_ := Aside0.mk (Kd.R_elder' (rq HO_6.out) (Kd.R_base ho54) hb); have n3_ := Aside0.mk (Kd.R_elder' (rq HO_7.out) (Kd.R_base ho54) hb); have n4_ := Aside0.mk (Kd.R_lower (Kd.R_new' (Kd.R_new' ho54 (Kd.R_lt (rq HO_6.out))) (Kd.R_lt (rq HO_7.out))) (below_size (lq HB.out))); have n5_ := Aside0.mk (blk_below (bq BK462.out) hb); have n6_ := Aside0.mk (below_step (lq HB.out) hb); clear HO_4; clear HO_5; clear HO_6; clear HO_7; clear BK462; clear HB; have HO_4 := n0_; have HO_5 := n1_; have HO_6 := n2_; have HO_7 := n3_; have HO494 := n4_; have BK462 := n5_; have HB := n6_; clear n0_ n1_ n2_ n3_ n4_ n5_ n6_; clear hb ho54)))
              go_roundg k2
              case measure => have := HJ7.out; have := HK2.out; omega
              case rel => exact ⟨(x6_2), (y492), (wrap64 (x8_2 + 1)), (by first | rfl | (simp; done) | (simp [*]; done)), H', ⟨by have := HJ7.out; have := HK2.out; omega⟩, ⟨by (with_reducible repeat (first | apply Kd.R_alloc | apply Kd.R_drewN | apply Kd.R_drew)); exact HO_4.out⟩, ⟨by (with_reducible repeat (first | apply Kd.R_alloc | apply Kd.R_drewN | apply Kd.R_drew)); exact HO_5.out⟩, ⟨by (with_reducible repeat (first | apply Kd.R_alloc | apply Kd.R_drewN | apply Kd.R_drew)); exact Kd.R_mono HO_6.out (fun _ hk => hk.2)⟩, ⟨by (with_reducible repeat (first | apply Kd.R_alloc | apply Kd.R_drewN | apply Kd.R_drew)); exact Kd.R_mono HO494.out (fun _ hk => hk.1.2)⟩, ⟨by (with_reducible repeat (first | refine blk_drewN ?_ _ | refine blk_drew ?_ | refine blk_alloc ?_ _)); exact BK462.out⟩, ⟨by exact lq HB.out⟩⟩
          ·rw [if_neg c32] at H
           exact absurd H (by simp)
         ·rw [if_neg c31] at H
          exact absurd H (by simp)
        ·rw [if_neg c30] at H
         have c30b0 : decide (x8_2 < (t463.length : Int)) = false := decide_eq_false c30
         clear c30
         clear H
         go_wp2
         repeat (go_quiet (fail); try go_wp2)
         go_ret
         exact ⟨by first | rfl | (simp [errW_none, errW_some] <;> rfl) | (simp [*, errW_none, errW_some] <;> rfl), by exact lq HB.out⟩
  ·rw [if_neg c7] at H
   have c7b0 : ((t463.length : Int) == (t466.length : Int)) = false := beq_eq_false_iff_ne.mpr c7
   have c7b1 : ((t463.length : Int) != (t466.length : Int)) = true := bne_iff_ne.mpr c7
   have c7b2 : (t463.length == t466.length) = false := by first | simpa using c7 | (simp at c7 ⊢; omega)
   exact absurd H (by simp)

end Go.Proofs.Ytioifcanipijhaa.GK
