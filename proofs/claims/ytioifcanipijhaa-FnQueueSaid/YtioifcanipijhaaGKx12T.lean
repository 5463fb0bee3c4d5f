/- Told by a program of this session, out of the translation: each function of the group as a plain Lean function, and that Go's call comes to just its answer. Lean checks it. -/
import Derived.Test.YtioifcanipijhaaGKx0T
import Derived.Test.YtioifcanipijhaaGKx1T
import Derived.Test.YtioifcanipijhaaGKx7T
import Derived.Test.YtioifcanipijhaaGKx11T
import Derived.Test.YtioifcanipijhaaChgKT
namespace Go.Proofs.Ytioifcanipijhaa.GK
open Go.RowKit Go.Proofs.YtioifcanipijhaaW.PrintWords Go.Proofs.YtioifcanipijhaaW.PrintLast Go.Proofs.YtioifcanipijhaaW.PrintMore Go.Proofs.Ytioifcanipijhaa.Q
attribute [local go_sem] max2_int min2_int max_two min_two max_three min_three max_four min_four   -- for this text's walks alone
set_option linter.unusedVariables false
set_option linter.unusedSimpArgs false

/-! ### laws_FnQueue: function 11 -/
mutual
def laws_FnQueue.j0 : Nat → List (S70) → List (S72) → Bool → Int → Int → Int → Int → Option (Bool)
 | 0, _, _, _, _, _, _, _ => none
 | k + 1, x4, x5, x36, x420000, x420001, x420002, x420003 => if x36 = true then (some true) else (laws_FnQueue.l0 k x4 x5 (([] : List Int)) (([] : List Int)) 0 0 0 x420000 x420001 x420002 x420003)
def laws_FnQueue.l0 : Nat → List (S70) → List (S72) → List Int → List Int → Int → Int → Int → Int → Int → Int → Int → Option (Bool)
 | 0, _, _, _, _, _, _, _, _, _, _, _ => none
 | k + 1, x4, x5, x6, x7, x8, x9, x10, x420000, x420001, x420002, x420003 => if x10 < (x5.length : Int) then (if 0 ≤ x10 then (if x10 < (x4.length : Int) then (if ((rd_T70 x4 x10).f0) = 0 then (if (((wrap64 (x9 + (x7.length : Int))) == x420003) != (((rd_T72 x5 x10).f0) == 2)) = true then (laws_FnQueue.j2 k x4 x5 x6 x7 x8 x9 x10 ((wrap64 (x9 + (x7.length : Int))) == x420003) true x420000 x420001 x420002 x420003) else (if ((wrap64 (x9 + (x7.length : Int))) = x420003) then (laws_FnQueue.j2 k x4 x5 x6 x7 x8 x9 x10 ((wrap64 (x9 + (x7.length : Int))) == x420003) false x420000 x420001 x420002 x420003) else (laws_FnQueue.j2 k x4 x5 x6 x7 x8 x9 x10 ((wrap64 (x9 + (x7.length : Int))) == x420003) (((rd_T72 x5 x10).f0) != 0) x420000 x420001 x420002 x420003))) else (if ((rd_T70 x4 x10).f0) = 1 then (if x8 = (x6.length : Int) then (if ((rd_T72 x5 x10).f0) = 1 then (if ((rd_T72 x5 x10).f1) = 0 then (laws_FnQueue.l0 k x4 x5 x6 x7 x8 x9 (wrap64 (x10 + 1)) x420000 x420001 x420002 x420003) else (some false)) else (some false)) else (if ((rd_T72 x5 x10).f0) = 0 then (if 0 ≤ x8 then (if x8 < (x6.length : Int) then (if ((rd_T72 x5 x10).f1) = (rd x6 x8) then (laws_FnQueue.l0 k x4 x5 x6 x7 (wrap64 (x8 + 1)) x9 (wrap64 (x10 + 1)) x420000 x420001 x420002 x420003) else (some false)) else (none)) else (none)) else (some false))) else (if ((rd_T70 x4 x10).f0) = 2 then (if x6.length + x7.length < 35184372088832 then ((some (x6 ++ x7 : List Int)).bind fun y445 => (laws_FnQueue.l0 k x4 x5 y445 (([] : List Int)) x8 (wrap64 ((y445.length : Int) - x8)) (wrap64 (x10 + 1)) x420000 x420001 x420002 x420003)) else (none)) else (laws_FnQueue.l0 k x4 x5 x6 (([] : List Int)) x8 x9 (wrap64 (x10 + 1)) x420000 x420001 x420002 x420003)))) else (none)) else (none)) else (some true)
def laws_FnQueue.j2 : Nat → List (S70) → List (S72) → List Int → List Int → Int → Int → Int → Bool → Bool → Int → Int → Int → Int → Option (Bool)
 | 0, _, _, _, _, _, _, _, _, _, _, _, _, _ => none
 | k + 1, x4, x5, x6, x7, x8, x9, x10, x11, x79, x420000, x420001, x420002, x420003 => if x79 = true then (some false) else (if x11 = true then (laws_FnQueue.l0 k x4 x5 x6 x7 x8 x9 (wrap64 (x10 + 1)) x420000 x420001 x420002 x420003) else (if 0 ≤ x10 then (if x10 < (x4.length : Int) then (if x7.length < 35184372088832 then (laws_FnQueue.l0 k x4 x5 x6 (x7 ++ [(rd_T70 x4 x10).f1]) x8 x9 (wrap64 (x10 + 1)) x420000 x420001 x420002 x420003) else (none)) else (none)) else (none)))
end
def laws_FnQueue.f (k : Nat) (l0 : List Int) : Option (Bool) := (laws_big.f l0).bind fun t411 => (if t411 = true then (some true) else ((spec_DrawChanPlay.f k l0).bind fun bt412 => ((impl_ChanPlay.f bt412.1 bt412.2.1 bt412.2.2.1 bt412.2.2.2.1 bt412.2.2.2.2).bind fun t420 => ((spec_ChanPlay.f k bt412.1 bt412.2.1 bt412.2.2.1 bt412.2.2.2.1 bt412.2.2.2.2).bind fun t423 => (if (t420.length : Int) = (t423.length : Int) then ((spec_ChanOk.f bt412.1 bt412.2.1 bt412.2.2.1 bt412.2.2.2.1).bind fun t426 => (if t426 = true then (laws_FnQueue.j0 k bt412.2.2.2.2 t420 (bt412.1 != 1) bt412.1 bt412.2.1 bt412.2.2.1 bt412.2.2.2.1) else (laws_FnQueue.j0 k bt412.2.2.2.2 t420 true bt412.1 bt412.2.1 bt412.2.2.1 bt412.2.2.2.1))) else (some false))))))
set_option maxHeartbeats 8000000 in
set_option maxRecDepth 100000 in
theorem laws_FnQueue.calls (k : Nat) (A0 : Option Addr) (c0 : Nat) (l0 : List Int) (w : World) (hr0 : Kd.C (Kd.int .u8) w A0 l0.length l0) (hc0 : l0.length ≤ c0) (h : laws_FnQueue.f k l0 = some true) :
  Calls Try.prog 11 #[.slice A0 l0.length c0] w fun e w' => e = .returned (.bool true) ∧ Below w.heap.size w w' := by
 have hu29 := Try.underlying29
 have HR0 := Aside0.mk hr0
 have HC0 := Aside0.mk hc0
 clear hr0 hc0
 have HB := Aside0.mk (Below.refl w.heap.size w)
 have H : ((laws_big.f l0).bind fun t411 => (if t411 = true then (some true) else ((spec_DrawChanPlay.f k l0).bind fun bt412 => ((impl_ChanPlay.f bt412.1 bt412.2.1 bt412.2.2.1 bt412.2.2.2.1 bt412.2.2.2.2).bind fun t420 => ((spec_ChanPlay.f k bt412.1 bt412.2.1 bt412.2.2.1 bt412.2.2.2.1 bt412.2.2.2.2).bind fun t423 => (if (t420.length : Int) = (t423.length : Int) then ((spec_ChanOk.f bt412.1 bt412.2.1 bt412.2.2.1 bt412.2.2.2.1).bind fun t426 => (if t426 = true then (laws_FnQueue.j0 k bt412.2.2.2.2 t420 (bt412.1 != 1) bt412.1 bt412.2.1 bt412.2.2.1 bt412.2.2.2.1) else (laws_FnQueue.j0 k bt412.2.2.2.2 t420 true bt412.1 bt412.2.1 bt412.2.2.1 bt412.2.2.2.1))) else (some false))))))) = some true := h
 clear h
 replace H := Option.bind_eq_some_iff.mp H
 obtain ⟨t411, A20, H⟩ := H
 (try dsimp only at H)
 have A2 := Aside0.mk A20
 clear A20
 by_cases c3 : t411 = true
 ·subst c3
  rw [if_pos rfl] at H
  clear H
  go_enter Try.func11, Try.ntmps11
  go_wp2_with (first | (go_at_call 42; (with_reducible refine (laws_big.calls _ _ l0 true _ ?side1 ?side2 A2.out).mono ?_); (case side1 => repeat (first | exact HR0.out | (with_reducible refine Kd.C_alloc ?_ _) | (with_reducible refine Kd.C_drewN ?_ _) | (with_reducible refine Kd.C_drew ?_))); (case side2 => exact HC0.out); rintro e w' ⟨rfl, ⟨nd, rfl⟩⟩; (try first | exact ⟨rfl, _, World.drewN_drewN _ _ _⟩ | exact ⟨rfl, _, Eq.trans (World.drewN_drewN _ _ _) (congrArg (World.drewN _) (Nat.add_assoc _ _ _))⟩)))
  repeat (go_quiet (first | (go_at_call 42; (with_reducible refine (laws_big.calls _ _ l0 true _ ?side1 ?side2 A2.out).mono ?_); (case side1 => repeat (first | exact HR0.out | (with_reducible refine Kd.C_alloc ?_ _) | (with_reducible refine Kd.C_drewN ?_ _) | (with_reducible refine Kd.C_drew ?_))); (case side2 => exact HC0.out); rintro e w' ⟨rfl, ⟨nd, rfl⟩⟩; (try first | exact ⟨rfl, _, World.drewN_drewN _ _ _⟩ | exact ⟨rfl, _, Eq.trans (World.drewN_drewN _ _ _) (congrArg (World.drewN _) (Nat.add_assoc _ _ _))⟩))); try go_wp2_with (first | (go_at_call 42; (with_reducible refine (laws_big.calls _ _ l0 true _ ?side1 ?side2 A2.out).mono ?_); (case side1 => repeat (first | exact HR0.out | (with_reducible refine Kd.C_alloc ?_ _) | (with_reducible refine Kd.C_drewN ?_ _) | (with_reducible refine Kd.C_drew ?_))); (case side2 => exact HC0.out); rintro e w' ⟨rfl, ⟨nd, rfl⟩⟩; (try first | exact ⟨rfl, _, World.drewN_drewN _ _ _⟩ | exact ⟨rfl, _, Eq.trans (World.drewN_drewN _ _ _) (congrArg (World.drewN _) (Nat.add_assoc _ _ _))⟩))))
  go_ret
  exact ⟨by first | rfl | (simp [errW_none, errW_some] <;> rfl) | (simp [*, errW_none, errW_some] <;> rfl), by exact lq HB.out⟩
 ·replace c3 := Bool.eq_false_iff.mpr c3
  subst c3
  rw [if_neg (show ¬ (false = true) by decide)] at H
  replace H := Option.bind_eq_some_iff.mp H
  obtain ⟨⟨t412, t413, t414, t415, t416⟩, A40, H⟩ := H
  (try dsimp only at H)
  have A4 := Aside0.mk A40
  clear A40
  replace H := Option.bind_eq_some_iff.mp H
  obtain ⟨t420, A50, H⟩ := H
  (try dsimp only at H)
  have A5 := Aside0.mk A50
  clear A50
  replace H := Option.bind_eq_some_iff.mp H
  obtain ⟨t423, A60, H⟩ := H
  (try dsimp only at H)
  have A6 := Aside0.mk A60
  clear A60
  by_cases c7 : (t420.length : Int) = (t423.length : Int)
  ·rw [if_pos c7] at H
   have c7b0 : ((t420.length : Int) == (t423.length : Int)) = true := beq_iff_eq.mpr c7
   have c7b1 : ((t420.length : Int) != (t423.length : Int)) = false := bne_eq_false_iff_eq.mpr c7
   have c7b2 : (t420.length == t423.length) = true := by first | simpa using c7 | (simp at c7 ⊢; omega)
   clear c7
   have HC8 := Aside0.mk H
   clear H
   go_enter Try.func11, Try.ntmps11
   go_upto_region 7 with (first | (go_at_call 42; (with_reducible refine (laws_big.calls _ _ l0 false _ ?side1 ?side2 A2.out).mono ?_); (case side1 => repeat (first | exact HR0.out | (with_reducible refine Kd.C_alloc ?_ _) | (with_reducible refine Kd.C_drewN ?_ _) | (with_reducible refine Kd.C_drew ?_))); (case side2 => exact HC0.out); rintro e w' ⟨rfl, ⟨nd, rfl⟩⟩; (try first | exact ⟨rfl, _, World.drewN_drewN _ _ _⟩ | exact ⟨rfl, _, Eq.trans (World.drewN_drewN _ _ _) (congrArg (World.drewN _) (Nat.add_assoc _ _ _))⟩)) | (go_at_call 46; (with_reducible refine (spec_DrawChanPlay.calls k _ _ l0 t412 t413 t414 t415 t416 _ ?side1 ?side2 A4.out).mono ?_); (case side1 => repeat (first | exact HR0.out | (with_reducible refine Kd.C_alloc ?_ _) | (with_reducible refine Kd.C_drewN ?_ _) | (with_reducible refine Kd.C_drew ?_))); (case side2 => exact HC0.out); rintro e w9 ⟨v417, rfl, ho0, hb⟩; have n0_ := Aside0.mk (Kd.R_lower ho0 (below_size (lq HB.out))); have n1_ := Aside0.mk (below_step (lq HB.out) hb); clear HB; have HO418 := n0_; have HB := n1_; clear n0_ n1_; (try clear hb); (try clear hb2); (try clear hk); (try clear hi); (try clear ho0)) | ((with_reducible refine gate_dst (N := 3) rfl ?_); refine box_event ?hg (N := 3) ?hd (cs := #[.int .i64 0, .int .i64 0, .int .i64 0, .int .i64 0]) (t := 29) ?hr ?_; (case hd => rfl); (case hg => rfl); (case hr => first | (go_simp; done) | (go_simp; rfl)); intro gb419 hg w10 hbox hb; have n0_ := Aside0.mk (Kd.R_below (rq HO418.out) hb); have n1_ := Aside0.mk (below_step (lq HB.out) hb); have n2_ := Aside0.mk (hbox); have n3_ := Aside0.mk ((ge_new hg (lq HB.out) : w.heap.size ≤ gb419)); have n4_ := Aside0.mk ((ge_new hg (lq HB.out) : w.heap.size ≤ gb419)); clear HO418; clear HB; have HO418 := n0_; have HB := n1_; have BK419 := n2_; have GW419 := n3_; have GE419 := n4_; clear n0_ n1_ n2_ n3_ n4_; clear hb hbox hg; have hcz11_0 : w10.cell? ⟨gb419, 0, none⟩ = some (.int .i64 0) := (blk_cell BK419.out 0).trans rfl; have hcz11_1 : w10.cell? ⟨gb419, 1, none⟩ = some (.int .i64 0) := (blk_cell BK419.out 1).trans rfl; have hcz11_2 : w10.cell? ⟨gb419, 2, none⟩ = some (.int .i64 0) := (blk_cell BK419.out 2).trans rfl; have hcz11_3 : w10.cell? ⟨gb419, 3, none⟩ = some (.int .i64 0) := (blk_cell BK419.out 3).trans rfl; have hfz11_0 := blk_frozen BK419.out 0; have hfz11_1 := blk_frozen BK419.out 1; have hfz11_2 := blk_frozen BK419.out 2; have hfz11_3 := blk_frozen BK419.out 3; obtain ⟨Ao12, co12, eo12⟩ := Kd.R_slice HO418.out; subst eo12) | (go_at_call 47; (with_reducible refine (impl_ChanPlay.calls t412 t413 t414 t415 _ _ t416 t420 _ ?side1 ?side2 A5.out).mono ?_); (case side1 => refine (Kd.R_reads' (e := 70) (base := w.heap.size) (ok := fun k_ => True) (n := t416.length) (c := co12) ?_).2.2; exact (rq (Kd.R_mono (Kd.R_far (p := ⟨gb419, 3, none⟩) (Kd.R_far (p := ⟨gb419, 2, none⟩) (Kd.R_far (p := ⟨gb419, 1, none⟩) (Kd.R_far (p := ⟨gb419, 0, none⟩) (Kd.R_types HO418.out BK419.out (by decide)) (fun _ hk => hk.2) (.int .i64 t412)) (fun _ hk => hk.2) (.int .i64 t413)) (fun _ hk => hk.2) (.int .i64 t414)) (fun _ hk => hk.2) (.int .i64 t415)) (fun _ h_ => h_.1)))); (case side2 => exact (Kd.R_reads' HO418.out).2.1); rintro e w13 ⟨v421, rfl, ho0, hb⟩; have n0_ := Aside0.mk (Kd.R_below (rq (Kd.R_mono (Kd.R_far (p := ⟨gb419, 3, none⟩) (Kd.R_far (p := ⟨gb419, 2, none⟩) (Kd.R_far (p := ⟨gb419, 1, none⟩) (Kd.R_far (p := ⟨gb419, 0, none⟩) (Kd.R_types HO418.out BK419.out (by decide)) (fun _ hk => hk.2) (.int .i64 t412)) (fun _ hk => hk.2) (.int .i64 t413)) (fun _ hk => hk.2) (.int .i64 t414)) (fun _ hk => hk.2) (.int .i64 t415)) (fun _ h_ => h_.1))) hb); have n1_ := Aside0.mk (Kd.R_lower ho0 (below_size (by repeat (first | (with_reducible first | exact HB.out | apply below_alloc | apply pw_below_drewN | apply below_drew1 | refine below_set ?_ GE419.out) | exact HB.out)))); have n2_ := Aside0.mk (blk_below (g := gb419) (o := .cells #[.int .i64 t412, .int .i64 t413, .int .i64 t414, .int .i64 t415] 29 (0, 0)) (by (with_reducible repeat (first | refine blk_drewN ?_ _ | refine blk_drew ?_ | refine blk_alloc ?_ _)); refine blk_put (cs := #[.int .i64 t412, .int .i64 t413, .int .i64 t414, .int .i64 0]) ?_ 3 _ rfl; (with_reducible repeat (first | refine blk_drewN ?_ _ | refine blk_drew ?_ | refine blk_alloc ?_ _)); refine blk_put (cs := #[.int .i64 t412, .int .i64 t413, .int .i64 0, .int .i64 0]) ?_ 2 _ rfl; (with_reducible repeat (first | refine blk_drewN ?_ _ | refine blk_drew ?_ | refine blk_alloc ?_ _)); refine blk_put (cs := #[.int .i64 t412, .int .i64 0, .int .i64 0, .int .i64 0]) ?_ 1 _ rfl; (with_reducible repeat (first | refine blk_drewN ?_ _ | refine blk_drew ?_ | refine blk_alloc ?_ _)); refine blk_put (cs := #[.int .i64 0, .int .i64 0, .int .i64 0, .int .i64 0]) ?_ 0 _ rfl; (with_reducible repeat (first | refine blk_drewN ?_ _ | refine blk_drew ?_ | refine blk_alloc ?_ _)); exact BK419.out) hb); have n3_ := Aside0.mk (below_step (by repeat (first | (with_reducible first | exact HB.out | apply below_alloc | apply pw_below_drewN | apply below_drew1 | refine below_set ?_ GE419.out) | exact HB.out)) hb); clear HO418; clear BK419; clear HB; have HO418 := n0_; have HO422 := n1_; have BK419 := n2_; have HB := n3_; clear n0_ n1_ n2_ n3_; (try clear hb); (try clear hb2); (try clear hk); (try clear hi); (try clear ho0); obtain ⟨Ao14, co14, eo14⟩ := Kd.R_slice HO422.out; subst eo14; have hcz15_0 : w13.cell? ⟨gb419, 0, none⟩ = some (.int .i64 t412) := (blk_cell BK419.out 0).trans rfl; have hcz15_1 : w13.cell? ⟨gb419, 1, none⟩ = some (.int .i64 t413) := (blk_cell BK419.out 1).trans rfl; have hcz15_2 : w13.cell? ⟨gb419, 2, none⟩ = some (.int .i64 t414) := (blk_cell BK419.out 2).trans rfl; have hcz15_3 : w13.cell? ⟨gb419, 3, none⟩ = some (.int .i64 t415) := (blk_cell BK419.out 3).trans rfl; have hfz15_0 := blk_frozen BK419.out 0; have hfz15_1 := blk_frozen BK419.out 1; have hfz15_2 := blk_frozen BK419.out 2; have hfz15_3 := blk_frozen BK419.out 3) | (go_at_call 48; (with_reducible refine (spec_ChanPlay.calls k t412 t413 t414 t415 _ _ t416 t423 _ ?side1 ?side2 A6.out).mono ?_); (case side1 => repeat (first | exact (Kd.R_reads' HO418.out).2.2 | (with_reducible refine Kd.C_alloc ?_ _) | (with_reducible refine Kd.C_drewN ?_ _) | (with_reducible refine Kd.C_drew ?_))); (case side2 => exact (Kd.R_reads' HO418.out).2.1); rintro e w16 ⟨v424, rfl, ho0, hb⟩; have n0_ := Aside0.mk (Kd.R_below (rq HO418.out) hb); have n1_ := Aside0.mk (Kd.R_elder' (rq HO422.out) (Kd.R_base ho0) hb); have n2_ := Aside0.mk (Kd.R_lower (Kd.R_new' ho0 (Kd.R_lt (rq HO422.out))) (below_size (lq HB.out))); have n3_ := Aside0.mk (blk_below (bq BK419.out) hb); have n4_ := Aside0.mk (below_step (lq HB.out) hb); clear HO418; clear HO422; clear BK419; clear HB; have HO418 := n0_; have HO422 := n1_; have HO425 := n2_; have BK419 := n3_; have HB := n4_; clear n0_ n1_ n2_ n3_ n4_; (try clear hb); (try clear hb2); (try clear hk); (try clear hi); (try clear ho0); obtain ⟨Ao17, co17, eo17⟩ := Kd.R_slice HO425.out; subst eo17))
   repeat (go_quiet (first | (go_at_call 42; (with_reducible refine (laws_big.calls _ _ l0 false _ ?side1 ?side2 A2.out).mono ?_); (case side1 => repeat (first | exact HR0.out | (with_reducible refine Kd.C_alloc ?_ _) | (with_reducible refine Kd.C_drewN ?_ _) | (with_reducible refine Kd.C_drew ?_))); (case side2 => exact HC0.out); rintro e w' ⟨rfl, ⟨nd, rfl⟩⟩; (try first | exact ⟨rfl, _, World.drewN_drewN _ _ _⟩ | exact ⟨rfl, _, Eq.trans (World.drewN_drewN _ _ _) (congrArg (World.drewN _) (Nat.add_assoc _ _ _))⟩)) | (go_at_call 46; (with_reducible refine (spec_DrawChanPlay.calls k _ _ l0 t412 t413 t414 t415 t416 _ ?side1 ?side2 A4.out).mono ?_); (case side1 => repeat (first | exact HR0.out | (with_reducible refine Kd.C_alloc ?_ _) | (with_reducible refine Kd.C_drewN ?_ _) | (with_reducible refine Kd.C_drew ?_))); (case side2 => exact HC0.out); rintro e w9 ⟨v417, rfl, ho0, hb⟩; have n0_ := Aside0.mk (Kd.R_lower ho0 (below_size (lq HB.out))); have n1_ := Aside0.mk (below_step (lq HB.out) hb); clear HB; have HO418 := n0_; have HB := n1_; clear n0_ n1_; (try clear hb); (try clear hb2); (try clear hk); (try clear hi); (try clear ho0)) | ((with_reducible refine gate_dst (N := 3) rfl ?_); refine box_event ?hg (N := 3) ?hd (cs := #[.int .i64 0, .int .i64 0, .int .i64 0, .int .i64 0]) (t := 29) ?hr ?_; (case hd => rfl); (case hg => rfl); (case hr => first | (go_simp; done) | (go_simp; rfl)); intro gb419 hg w10 hbox hb; have n0_ := Aside0.mk (Kd.R_below (rq HO418.out) hb); have n1_ := Aside0.mk (below_step (lq HB.out) hb); have n2_ := Aside0.mk (hbox); have n3_ := Aside0.mk ((ge_new hg (lq HB.out) : w.heap.size ≤ gb419)); have n4_ := Aside0.mk ((ge_new hg (lq HB.out) : w.heap.size ≤ gb419)); clear HO418; clear HB; have HO418 := n0_; have HB := n1_; have BK419 := n2_; have GW419 := n3_; have GE419 := n4_; clear n0_ n1_ n2_ n3_ n4_; clear hb hbox hg; have hcz11_0 : w10.cell? ⟨gb419, 0, none⟩ = some (.int .i64 0) := (blk_cell BK419.out 0).trans rfl; have hcz11_1 : w10.cell? ⟨gb419, 1, none⟩ = some (.int .i64 0) := (blk_cell BK419.out 1).trans rfl; have hcz11_2 : w10.cell? ⟨gb419, 2, none⟩ = some (.int .i64 0) := (blk_cell BK419.out 2).trans rfl; have hcz11_3 : w10.cell? ⟨gb419, 3, none⟩ = some (.int .i64 0) := (blk_cell BK419.out 3).trans rfl; have hfz11_0 := blk_frozen BK419.out 0; have hfz11_1 := blk_frozen BK419.out 1; have hfz11_2 := blk_frozen BK419.out 2; have hfz11_3 := blk_frozen BK419.out 3; obtain ⟨Ao12, co12, eo12⟩ := Kd.R_slice HO418.out; subst eo12) | (go_at_call 47; (with_reducible refine (impl_ChanPlay.calls t412 t413 t414 t415 _ _ t416 t420 _ ?side1 ?side2 A5.out).mono ?_); (case side1 => refine (Kd.R_reads' (e := 70) (base := w.heap.size) (ok := fun k_ => True) (n := t416.length) (c := co12) ?_).2.2; exact (rq (Kd.R_mono (Kd.R_far (p := ⟨gb419, 3, none⟩) (Kd.R_far (p := ⟨gb419, 2, none⟩) (Kd.R_far (p := ⟨gb419, 1, none⟩) (Kd.R_far (p := ⟨gb419, 0, none⟩) (Kd.R_types HO418.out BK419.out (by decide)) (fun _ hk => hk.2) (.int .i64 t412)) (fun _ hk => hk.2) (.int .i64 t413)) (fun _ hk => hk.2) (.int .i64 t414)) (fun _ hk => hk.2) (.int .i64 t415)) (fun _ h_ => h_.1)))); (case side2 => exact (Kd.R_reads' HO418.out).2.1); rintro e w13 ⟨v421, rfl, ho0, hb⟩; have n0_ := Aside0.mk (Kd.R_below (rq (Kd.R_mono (Kd.R_far (p := ⟨gb419, 3, none⟩) (Kd.R_far (p := ⟨gb419, 2, none⟩) (Kd.R_far (p := ⟨gb419, 1, none⟩) (Kd.R_far (p := ⟨gb419, 0, none⟩) (Kd.R_types HO418.out BK419.out (by decide)) (fun _ hk => hk.2) (.int .i64 t412)) (fun _ hk => hk.2) (.int .i64 t413)) (fun _ hk => hk.2) (.int .i64 t414)) (fun _ hk => hk.2) (.int .i64 t415)) (fun _ h_ => h_.1))) hb); have n1_ := Aside0.mk (Kd.R_lower ho0 (below_size (by repeat (first | (with_reducible first | exact HB.out | apply below_alloc | apply pw_below_drewN | apply below_drew1 | refine below_set ?_ GE419.out) | exact HB.out)))); have n2_ := Aside0.mk (blk_below (g := gb419) (o := .cells #[.int .i64 t412, .int .i64 t413, .int .i64 t414, .int .i64 t415] 29 (0, 0)) (by (with_reducible repeat (first | refine blk_drewN ?_ _ | refine blk_drew ?_ | refine blk_alloc ?_ _)); refine blk_put (cs := #[.int .i64 t412, .int .i64 t413, .int .i64 t414, .int .i64 0]) ?_ 3 _ rfl; (with_reducible repeat (first | refine blk_drewN ?_ _ | refine blk_drew ?_ | refine blk_alloc ?_ _)); refine blk_put (cs := #[.int .i64 t412, .int .i64 t413, .int .i64 0, .int .i64 0]) ?_ 2 _ rfl; (with_reducible repeat (first | refine blk_drewN ?_ _ | refine blk_drew ?_ | refine blk_alloc ?_ _)); refine blk_put (cs := #[.int .i64 t412, .int .i64 0, .int .i64 0, .int .i64 0]) ?_ 1 _ rfl; (with_reducible repeat (first | refine blk_drewN ?_ _ | refine blk_drew ?_ | refine blk_alloc ?_ _)); refine blk_put (cs := #[.int .i64 0, .int .i64 0, .int .i64 0, .int .i64 0]) ?_ 0 _ rfl; (with_reducible repeat (first | refine blk_drewN ?_ _ | refine blk_drew ?_ | refine blk_alloc ?_ _)); exact BK419.out) hb); have n3_ := Aside0.mk (below_step (by repeat (first | (with_reducible first | exact HB.out | apply below_alloc | apply pw_below_drewN | apply below_drew1 | refine below_set ?_ GE419.out) | exact HB.out)) hb); clear HO418; clear BK419; clear HB; have HO418 := n0_; have HO422 := n1_; have BK419 := n2_; have HB := n3_; clear n0_ n1_ n2_ n3_; (try clear hb); (try clear hb2); (try clear hk); (try clear hi); (try clear ho0); obtain ⟨Ao14, co14, eo14⟩ := Kd.R_slice HO422.out; subst eo14; have hcz15_0 : w13.cell? ⟨gb419, 0, none⟩ = some (.int .i64 t412) := (blk_cell BK419.out 0).trans rfl; have hcz15_1 : w13.cell? ⟨gb419, 1, none⟩ = some (.int .i64 t413) := (blk_cell BK419.out 1).trans rfl; have hcz15_2 : w13.cell? ⟨gb419, 2, none⟩ = some (.int .i64 t414) := (blk_cell BK419.out 2).trans rfl; have hcz15_3 : w13.cell? ⟨gb419, 3, none⟩ = some (.int .i64 t415) := (blk_cell BK419.out 3).trans rfl; have hfz15_0 := blk_frozen BK419.out 0; have hfz15_1 := blk_frozen BK419.out 1; have hfz15_2 := blk_frozen BK419.out 2; have hfz15_3 := blk_frozen BK419.out 3) | (go_at_call 48; (with_reducible refine (spec_ChanPlay.calls k t412 t413 t414 t415 _ _ t416 t423 _ ?side1 ?side2 A6.out).mono ?_); (case side1 => repeat (first | exact (Kd.R_reads' HO418.out).2.2 | (with_reducible refine Kd.C_alloc ?_ _) | (with_reducible refine Kd.C_drewN ?_ _) | (with_reducible refine Kd.C_drew ?_))); (case side2 => exact (Kd.R_reads' HO418.out).2.1); rintro e w16 ⟨v424, rfl, ho0, hb⟩; have n0_ := Aside0.mk (Kd.R_below (rq HO418.out) hb); have n1_ := Aside0.mk (Kd.R_elder' (rq HO422.out) (Kd.R_base ho0) hb); have n2_ := Aside0.mk (Kd.R_lower (Kd.R_new' ho0 (Kd.R_lt (rq HO422.out))) (below_size (lq HB.out))); have n3_ := Aside0.mk (blk_below (bq BK419.out) hb); have n4_ := Aside0.mk (below_step (lq HB.out) hb); clear HO418; clear HO422; clear BK419; clear HB; have HO418 := n0_; have HO422 := n1_; have HO425 := n2_; have BK419 := n3_; have HB := n4_; clear n0_ n1_ n2_ n3_ n4_; (try clear hb); (try clear hb2); (try clear hk); (try clear hi); (try clear ho0); obtain ⟨Ao17, co17, eo17⟩ := Kd.R_slice HO425.out; subst eo17)); go_upto_region 7 with (first | (go_at_call 42; (with_reducible refine (laws_big.calls _ _ l0 false _ ?side1 ?side2 A2.out).mono ?_); (case side1 => repeat (first | exact HR0.out | (with_reducible refine Kd.C_alloc ?_ _) | (with_reducible refine Kd.C_drewN ?_ _) | (with_reducible refine Kd.C_drew ?_))); (case side2 => exact HC0.out); rintro e w' ⟨rfl, ⟨nd, rfl⟩⟩; (try first | exact ⟨rfl, _, World.drewN_drewN _ _ _⟩ | exact ⟨rfl, _, Eq.trans (World.drewN_drewN _ _ _) (congrArg (World.drewN _) (Nat.add_assoc _ _ _))⟩)) | (go_at_call 46; (with_reducible refine (spec_DrawChanPlay.calls k _ _ l0 t412 t413 t414 t415 t416 _ ?side1 ?side2 A4.out).mono ?_); (case side1 => repeat (first | exact HR0.out | (with_reducible refine Kd.C_alloc ?_ _) | (with_reducible refine Kd.C_drewN ?_ _) | (with_reducible refine Kd.C_drew ?_))); (case side2 => exact HC0.out); rintro e w9 ⟨v417, rfl, ho0, hb⟩; have n0_ := Aside0.mk (Kd.R_lower ho0 (below_size (lq HB.out))); have n1_ := Aside0.mk (below_step (lq HB.out) hb); clear HB; have HO418 := n0_; have HB := n1_; clear n0_ n1_; (try clear hb); (try clear hb2); (try clear hk); (try clear hi); (try clear ho0)) | ((with_reducible refine gate_dst (N := 3) rfl ?_); refine box_event ?hg (N := 3) ?hd (cs := #[.int .i64 0, .int .i64 0, .int .i64 0, .int .i64 0]) (t := 29) ?hr ?_; (case hd => rfl); (case hg => rfl); (case hr => first | (go_simp; done) | (go_simp; rfl)); intro gb419 hg w10 hbox hb; have n0_ := Aside0.mk (Kd.R_below (rq HO418.out) hb); have n1_ := Aside0.mk (below_step (lq HB.out) hb); have n2_ := Aside0.mk (hbox); have n3_ := Aside0.mk ((ge_new hg (lq HB.out) : w.heap.size ≤ gb419)); have n4_ := Aside0.mk ((ge_new hg (lq HB.out) : w.heap.size ≤ gb419)); clear HO418; clear HB; have HO418 := n0_; have HB := n1_; have BK419 := n2_; have GW419 := n3_; have GE419 := n4_; clear n0_ n1_ n2_ n3_ n4_; clear hb hbox hg; have hcz11_0 : w10.cell? ⟨gb419, 0, none⟩ = some (.int .i64 0) := (blk_cell BK419.out 0).trans rfl; have hcz11_1 : w10.cell? ⟨gb419, 1, none⟩ = some (.int .i64 0) := (blk_cell BK419.out 1).trans rfl; have hcz11_2 : w10.cell? ⟨gb419, 2, none⟩ = some (.int .i64 0) := (blk_cell BK419.out 2).trans rfl; have hcz11_3 : w10.cell? ⟨gb419, 3, none⟩ = some (.int .i64 0) := (blk_cell BK419.out 3).trans rfl; have hfz11_0 := blk_frozen BK419.out 0; have hfz11_1 := blk_frozen BK419.out 1; have hfz11_2 := blk_frozen BK419.out 2; have hfz11_3 := blk_frozen BK419.out 3; obtain ⟨Ao12, co12, eo12⟩ := Kd.R_slice HO418.out; subst eo12) | (go_at_call 47; (with_reducible refine (impl_ChanPlay.calls t412 t413 t414 t415 _ _ t416 t420 _ ?side1 ?side2 A5.out).mono ?_); (case side1 => refine (Kd.R_reads' (e := 70) (base := w.heap.size) (ok := fun k_ => True) (n := t416.length) (c := co12) ?_).2.2; exact (rq (Kd.R_mono (Kd.R_far (p := ⟨gb419, 3, none⟩) (Kd.R_far (p := ⟨gb419, 2, none⟩) (Kd.R_far (p := ⟨gb419, 1, none⟩) (Kd.R_far (p := ⟨gb419, 0, none⟩) (Kd.R_types HO418.out BK419.out (by decide)) (fun _ hk => hk.2) (.int .i64 t412)) (fun _ hk => hk.2) (.int .i64 t413)) (fun _ hk => hk.2) (.int .i64 t414)) (fun _ hk => hk.2) (.int .i64 t415)) (fun _ h_ => h_.1)))); (case side2 => exact (Kd.R_reads' HO418.out).2.1); rintro e w13 ⟨v421, rfl, ho0, hb⟩; have n0_ := Aside0.mk (Kd.R_below (rq (Kd.R_mono (Kd.R_far (p := ⟨gb419, 3, none⟩) (Kd.R_far (p := ⟨gb419, 2, none⟩) (Kd.R_far (p := ⟨gb419, 1, none⟩) (Kd.R_far (p := ⟨gb419, 0, none⟩) (Kd.R_types HO418.out BK419.out (by decide)) (fun _ hk => hk.2) (.int .i64 t412)) (fun _ hk => hk.2) (.int .i64 t413)) (fun _ hk => hk.2) (.int .i64 t414)) (fun _ hk => hk.2) (.int .i64 t415)) (fun _ h_ => h_.1))) hb); have n1_ := Aside0.mk (Kd.R_lower ho0 (below_size (by repeat (first | (with_reducible first | exact HB.out | apply below_alloc | apply pw_below_drewN | apply below_drew1 | refine below_set ?_ GE419.out) | exact HB.out)))); have n2_ := Aside0.mk (blk_below (g := gb419) (o := .cells #[.int .i64 t412, .int .i64 t413, .int .i64 t414, .int .i64 t415] 29 (0, 0)) (by (with_reducible repeat (first | refine blk_drewN ?_ _ | refine blk_drew ?_ | refine blk_alloc ?_ _)); refine blk_put (cs := #[.int .i64 t412, .int .i64 t413, .int .i64 t414, .int .i64 0]) ?_ 3 _ rfl; (with_reducible repeat (first | refine blk_drewN ?_ _ | refine blk_drew ?_ | refine blk_alloc ?_ _)); refine blk_put (cs := #[.int .i64 t412, .int .i64 t413, .int .i64 0, .int .i64 0]) ?_ 2 _ rfl; (with_reducible repeat (first | refine blk_drewN ?_ _ | refine blk_drew ?_ | refine blk_alloc ?_ _)); refine blk_put (cs := #[.int .i64 t412, .int .i64 0, .int .i64 0, .int .i64 0]) ?_ 1 _ rfl; (with_reducible repeat (first | refine blk_drewN ?_ _ | refine blk_drew ?_ | refine blk_alloc ?_ _)); refine blk_put (cs := #[.int .i64 0, .int .i64 0, .int .i64 0, .int .i64 0]) ?_ 0 _ rfl; (with_reducible repeat (first | refine blk_drewN ?_ _ | refine blk_drew ?_ | refine blk_alloc ?_ _)); exact BK419.out) hb); have n3_ := Aside0.mk (below_step (by repeat (first | (with_reducible first | exact HB.out | apply below_alloc | apply pw_below_drewN | apply below_drew1 | refine below_set ?_ GE419.out) | exact HB.out)) hb); clear HO418; clear BK419; clear HB; have HO418 := n0_; have HO422 := n1_; have BK419 := n2_; have HB := n3_; clear n0_ n1_ n2_ n3_; (try clear hb); (try clear hb2); (try clear hk); (try clear hi); (try clear ho0); obtain ⟨Ao14, co14, eo14⟩ := Kd.R_slice HO422.out; subst eo14; have hcz15_0 : w13.cell? ⟨gb419, 0, none⟩ = some (.int .i64 t412) := (blk_cell BK419.out 0).trans rfl; have hcz15_1 : w13.cell? ⟨gb419, 1, none⟩ = some (.int .i64 t413) := (blk_cell BK419.out 1).trans rfl; have hcz15_2 : w13.cell? ⟨gb419, 2, none⟩ = some (.int .i64 t414) := (blk_cell BK419.out 2).trans rfl; have hcz15_3 : w13.cell? ⟨gb419, 3, none⟩ = some (.int .i64 t415) := (blk_cell BK419.out 3).trans rfl; have hfz15_0 := blk_frozen BK419.out 0; have hfz15_1 := blk_frozen BK419.out 1; have hfz15_2 := blk_frozen BK419.out 2; have hfz15_3 := blk_frozen BK419.out 3) | (go_at_call 48; (with_reducible refine (spec_ChanPlay.calls k t412 t413 t414 t415 _ _ t416 t423 _ ?side1 ?side2 A6.out).mono ?_); (case side1 => repeat (first | exact (Kd.R_reads' HO418.out).2.2 | (with_reducible refine Kd.C_alloc ?_ _) | (with_reducible refine Kd.C_drewN ?_ _) | (with_reducible refine Kd.C_drew ?_))); (case side2 => exact (Kd.R_reads' HO418.out).2.1); rintro e w16 ⟨v424, rfl, ho0, hb⟩; have n0_ := Aside0.mk (Kd.R_below (rq HO418.out) hb); have n1_ := Aside0.mk (Kd.R_elder' (rq HO422.out) (Kd.R_base ho0) hb); have n2_ := Aside0.mk (Kd.R_lower (Kd.R_new' ho0 (Kd.R_lt (rq HO422.out))) (below_size (lq HB.out))); have n3_ := Aside0.mk (blk_below (bq BK419.out) hb); have n4_ := Aside0.mk (below_step (lq HB.out) hb); clear HO418; clear HO422; clear BK419; clear HB; have HO418 := n0_; have HO422 := n1_; have HO425 := n2_; have BK419 := n3_; have HB := n4_; clear n0_ n1_ n2_ n3_ n4_; (try clear hb); (try clear hb2); (try clear hk); (try clear hi); (try clear ho0); obtain ⟨Ao17, co17, eo17⟩ := Kd.R_slice HO425.out; subst eo17)))
   (try simp only [Act.put, List.setIfInBounds_toArray, List.set_cons_zero, List.set_cons_succ])
   go_cut [36] (fun v36 wc => ∃ (kq : Nat) (x36_7 : Bool), v36 = .bool x36_7 ∧ Aside0 (laws_FnQueue.j0 kq t416 t420 x36_7 t412 t413 t414 t415 = some true) ∧ Aside0 (kq ≤ k) ∧ Aside0 (Kd.R k70 70 wc w.heap.size (fun _ => True) (.slice Ao12 t416.length co12) t416) ∧ Aside0 (Kd.R k72 72 wc w.heap.size (fun _ => True) (.slice Ao14 t420.length co14) t420) ∧ Aside0 (wc.heap[gb419]? = some (.cells #[.int .i64 t412, .int .i64 t413, .int .i64 t414, .int .i64 t415] 29 (0, 0))) ∧ Aside0 (Below w.heap.size w wc))
   case first =>
    have H := HC8.out
    clear HC8
    replace H := Option.bind_eq_some_iff.mp H
    obtain ⟨t426, A180, H⟩ := H
    (try dsimp only at H)
    have A18 := Aside0.mk A180
    clear A180
    by_cases c19 : t426 = true
    ·subst c19
     rw [if_pos rfl] at H
     have H' := Aside0.mk H
     clear H
     have hcz20_0 : w16.cell? ⟨gb419, 0, none⟩ = some (.int .i64 t412) := (blk_cell BK419.out 0).trans rfl
     have hcz20_1 : w16.cell? ⟨gb419, 1, none⟩ = some (.int .i64 t413) := (blk_cell BK419.out 1).trans rfl
     have hcz20_2 : w16.cell? ⟨gb419, 2, none⟩ = some (.int .i64 t414) := (blk_cell BK419.out 2).trans rfl
     have hcz20_3 : w16.cell? ⟨gb419, 3, none⟩ = some (.int .i64 t415) := (blk_cell BK419.out 3).trans rfl
     have hfz20_0 := blk_frozen BK419.out 0
     have hfz20_1 := blk_frozen BK419.out 1
     have hfz20_2 := blk_frozen BK419.out 2
     have hfz20_3 := blk_frozen BK419.out 3
     go_wp2_with (first | (go_at_call 49; (with_reducible refine (spec_ChanOk.calls t412 t413 t414 t415 true _ A18.out).mono ?_); rintro e w21 ⟨rfl, hb⟩; have n0_ := Aside0.mk (Kd.R_below (rq HO418.out) hb); have n1_ := Aside0.mk (Kd.R_below (rq HO422.out) hb); have n2_ := Aside0.mk (Kd.R_below (rq HO425.out) hb); have n3_ := Aside0.mk (blk_below (bq BK419.out) hb); have n4_ := Aside0.mk (below_step (lq HB.out) hb); clear HO418; clear HO422; clear HO425; clear BK419; clear HB; have HO418 := n0_; have HO422 := n1_; have HO425 := n2_; have BK419 := n3_; have HB := n4_; clear n0_ n1_ n2_ n3_ n4_; (try clear hb); (try clear hb2); (try clear hk); (try clear hi); have hcz22_0 : w21.cell? ⟨gb419, 0, none⟩ = some (.int .i64 t412) := (blk_cell BK419.out 0).trans rfl; have hcz22_1 : w21.cell? ⟨gb419, 1, none⟩ = some (.int .i64 t413) := (blk_cell BK419.out 1).trans rfl; have hcz22_2 : w21.cell? ⟨gb419, 2, none⟩ = some (.int .i64 t414) := (blk_cell BK419.out 2).trans rfl; have hcz22_3 : w21.cell? ⟨gb419, 3, none⟩ = some (.int .i64 t415) := (blk_cell BK419.out 3).trans rfl; have hfz22_0 := blk_frozen BK419.out 0; have hfz22_1 := blk_frozen BK419.out 1; have hfz22_2 := blk_frozen BK419.out 2; have hfz22_3 := blk_frozen BK419.out 3))
     repeat (go_quiet (first | (go_at_call 49; (with_reducible refine (spec_ChanOk.calls t412 t413 t414 t415 true _ A18.out).mono ?_); rintro e w21 ⟨rfl, hb⟩; have n0_ := Aside0.mk (Kd.R_below (rq HO418.out) hb); have n1_ := Aside0.mk (Kd.R_below (rq HO422.out) hb); have n2_ := Aside0.mk (Kd.R_below (rq HO425.out) hb); have n3_ := Aside0.mk (blk_below (bq BK419.out) hb); have n4_ := Aside0.mk (below_step (lq HB.out) hb); clear HO418; clear HO422; clear HO425; clear BK419; clear HB; have HO418 := n0_; have HO422 := n1_; have HO425 := n2_; have BK419 := n3_; have HB := n4_; clear n0_ n1_ n2_ n3_ n4_; (try clear hb); (try clear hb2); (try clear hk); (try clear hi); have hcz22_0 : w21.cell? ⟨gb419, 0, none⟩ = some (.int .i64 t412) := (blk_cell BK419.out 0).trans rfl; have hcz22_1 : w21.cell? ⟨gb419, 1, none⟩ = some (.int .i64 t413) := (blk_cell BK419.out 1).trans rfl; have hcz22_2 : w21.cell? ⟨gb419, 2, none⟩ = some (.int .i64 t414) := (blk_cell BK419.out 2).trans rfl; have hcz22_3 : w21.cell? ⟨gb419, 3, none⟩ = some (.int .i64 t415) := (blk_cell BK419.out 3).trans rfl; have hfz22_0 := blk_frozen BK419.out 0; have hfz22_1 := blk_frozen BK419.out 1; have hfz22_2 := blk_frozen BK419.out 2; have hfz22_3 := blk_frozen BK419.out 3)); try go_wp2_with (first | (go_at_call 49; (with_reducible refine (spec_ChanOk.calls t412 t413 t414 t415 true _ A18.out).mono ?_); rintro e w21 ⟨rfl, hb⟩; have n0_ := Aside0.mk (Kd.R_below (rq HO418.out) hb); have n1_ := Aside0.mk (Kd.R_below (rq HO422.out) hb); have n2_ := Aside0.mk (Kd.R_below (rq HO425.out) hb); have n3_ := Aside0.mk (blk_below (bq BK419.out) hb); have n4_ := Aside0.mk (below_step (lq HB.out) hb); clear HO418; clear HO422; clear HO425; clear BK419; clear HB; have HO418 := n0_; have HO422 := n1_; have HO425 := n2_; have BK419 := n3_; have HB := n4_; clear n0_ n1_ n2_ n3_ n4_; (try clear hb); (try clear hb2); (try clear hk); (try clear hi); have hcz22_0 : w21.cell? ⟨gb419, 0, none⟩ = some (.int .i64 t412) := (blk_cell BK419.out 0).trans rfl; have hcz22_1 : w21.cell? ⟨gb419, 1, none⟩ = some (.int .i64 t413) := (blk_cell BK419.out 1).trans rfl; have hcz22_2 : w21.cell? ⟨gb419, 2, none⟩ = some (.int .i64 t414) := (blk_cell BK419.out 2).trans rfl; have hcz22_3 : w21.cell? ⟨gb419, 3, none⟩ = some (.int .i64 t415) := (blk_cell BK419.out 3).trans rfl; have hfz22_0 := blk_frozen BK419.out 0; have hfz22_1 := blk_frozen BK419.out 1; have hfz22_2 := blk_frozen BK419.out 2; have hfz22_3 := blk_frozen BK419.out 3)))
     go_meet
     case rel => exact ⟨_, ((t412 != 1)), (by first | rfl | (simp; done) | (simp [*]; done)), H', ⟨by first | omega | exact Nat.le_refl _⟩, ⟨by (with_reducible repeat (first | apply Kd.R_alloc | apply Kd.R_drewN | apply Kd.R_drew)); exact HO418.out⟩, ⟨by (with_reducible repeat (first | apply Kd.R_alloc | apply Kd.R_drewN | apply Kd.R_drew)); exact Kd.R_mono HO422.out (fun _ hk => trivial)⟩, ⟨by (with_reducible repeat (first | refine blk_drewN ?_ _ | refine blk_drew ?_ | refine blk_alloc ?_ _)); exact BK419.out⟩, ⟨by exact lq HB.out⟩⟩
    ·replace c19 := Bool.eq_false_iff.mpr c19
     subst c19
     rw [if_neg (show ¬ (false = true) by decide)] at H
     have H' := Aside0.mk H
     clear H
     have hcz23_0 : w16.cell? ⟨gb419, 0, none⟩ = some (.int .i64 t412) := (blk_cell BK419.out 0).trans rfl
     have hcz23_1 : w16.cell? ⟨gb419, 1, none⟩ = some (.int .i64 t413) := (blk_cell BK419.out 1).trans rfl
     have hcz23_2 : w16.cell? ⟨gb419, 2, none⟩ = some (.int .i64 t414) := (blk_cell BK419.out 2).trans rfl
     have hcz23_3 : w16.cell? ⟨gb419, 3, none⟩ = some (.int .i64 t415) := (blk_cell BK419.out 3).trans rfl
     have hfz23_0 := blk_frozen BK419.out 0
     have hfz23_1 := blk_frozen BK419.out 1
     have hfz23_2 := blk_frozen BK419.out 2
     have hfz23_3 := blk_frozen BK419.out 3
     go_wp2_with (first | (go_at_call 49; (with_reducible refine (spec_ChanOk.calls t412 t413 t414 t415 false _ A18.out).mono ?_); rintro e w24 ⟨rfl, hb⟩; have n0_ := Aside0.mk (Kd.R_below (rq HO418.out) hb); have n1_ := Aside0.mk (Kd.R_below (rq HO422.out) hb); have n2_ := Aside0.mk (Kd.R_below (rq HO425.out) hb); have n3_ := Aside0.mk (blk_below (bq BK419.out) hb); have n4_ := Aside0.mk (below_step (lq HB.out) hb); clear HO418; clear HO422; clear HO425; clear BK419; clear HB; have HO418 := n0_; have HO422 := n1_; have HO425 := n2_; have BK419 := n3_; have HB := n4_; clear n0_ n1_ n2_ n3_ n4_; (try clear hb); (try clear hb2); (try clear hk); (try clear hi)))
     repeat (go_quiet (first | (go_at_call 49; (with_reducible refine (spec_ChanOk.calls t412 t413 t414 t415 false _ A18.out).mono ?_); rintro e w24 ⟨rfl, hb⟩; have n0_ := Aside0.mk (Kd.R_below (rq HO418.out) hb); have n1_ := Aside0.mk (Kd.R_below (rq HO422.out) hb); have n2_ := Aside0.mk (Kd.R_below (rq HO425.out) hb); have n3_ := Aside0.mk (blk_below (bq BK419.out) hb); have n4_ := Aside0.mk (below_step (lq HB.out) hb); clear HO418; clear HO422; clear HO425; clear BK419; clear HB; have HO418 := n0_; have HO422 := n1_; have HO425 := n2_; have BK419 := n3_; have HB := n4_; clear n0_ n1_ n2_ n3_ n4_; (try clear hb); (try clear hb2); (try clear hk); (try clear hi))); try go_wp2_with (first | (go_at_call 49; (with_reducible refine (spec_ChanOk.calls t412 t413 t414 t415 false _ A18.out).mono ?_); rintro e w24 ⟨rfl, hb⟩; have n0_ := Aside0.mk (Kd.R_below (rq HO418.out) hb); have n1_ := Aside0.mk (Kd.R_below (rq HO422.out) hb); have n2_ := Aside0.mk (Kd.R_below (rq HO425.out) hb); have n3_ := Aside0.mk (blk_below (bq BK419.out) hb); have n4_ := Aside0.mk (below_step (lq HB.out) hb); clear HO418; clear HO422; clear HO425; clear BK419; clear HB; have HO418 := n0_; have HO422 := n1_; have HO425 := n2_; have BK419 := n3_; have HB := n4_; clear n0_ n1_ n2_ n3_ n4_; (try clear hb); (try clear hb2); (try clear hk); (try clear hi))))
     go_meet
     case rel => exact ⟨_, (true), (by first | rfl | (simp; done) | (simp [*]; done)), H', ⟨by first | omega | exact Nat.le_refl _⟩, ⟨by (with_reducible repeat (first | apply Kd.R_alloc | apply Kd.R_drewN | apply Kd.R_drew)); exact HO418.out⟩, ⟨by (with_reducible repeat (first | apply Kd.R_alloc | apply Kd.R_drewN | apply Kd.R_drew)); exact Kd.R_mono HO422.out (fun _ hk => trivial)⟩, ⟨by (with_reducible repeat (first | refine blk_drewN ?_ _ | refine blk_drew ?_ | refine blk_alloc ?_ _)); exact BK419.out⟩, ⟨by exact lq HB.out⟩⟩
   case rest =>
    clear HC8
    try clear c1
    try clear p2
    try clear c3
    try clear c7
    try clear c7b0
    try clear c7b1
    try clear c7b2
    try clear c11
    try clear c19
    try clear hcz11_0
    try clear hcz11_1
    try clear hcz11_2
    try clear hcz11_3
    try clear hcz15_0
    try clear hcz15_1
    try clear hcz15_2
    try clear hcz15_3
    try clear hcz20_0
    try clear hcz20_1
    try clear hcz20_2
    try clear hcz20_3
    try clear hcz22_0
    try clear hcz22_1
    try clear hcz22_2
    try clear hcz22_3
    try clear hcz23_0
    try clear hcz23_1
    try clear hcz23_2
    try clear hcz23_3
    try clear hfz11_0
    try clear hfz11_1
    try clear hfz11_2
    try clear hfz11_3
    try clear hfz15_0
    try clear hfz15_1
    try clear hfz15_2
    try clear hfz15_3
    try clear hfz20_0
    try clear hfz20_1
    try clear hfz20_2
    try clear hfz20_3
    try clear hfz22_0
    try clear hfz22_1
    try clear hfz22_2
    try clear hfz22_3
    try clear hfz23_0
    try clear hfz23_1
    try clear hfz23_2
    try clear hfz23_3
    obtain ⟨kq, x36_7, rfl, HA, HJ7, HO_4, HO_5, BK419, HB⟩ := hcut
    cases kq with
    | zero => exact absurd HA.out (by simp [laws_FnQueue.j0])
    | succ kj7 =>
     have H := HA.out
     clear HA
     simp only [laws_FnQueue.j0] at H
     by_cases c25 : x36_7 = true
     ·subst c25
      rw [if_pos rfl] at H
      clear H
      go_wp2
      repeat (go_quiet (fail); try go_wp2)
      go_ret
      exact ⟨by first | rfl | (simp [errW_none, errW_some] <;> rfl) | (simp [*, errW_none, errW_some] <;> rfl), by exact lq HB.out⟩
     ·replace c25 := Bool.eq_false_iff.mpr c25
      subst c25
      rw [if_neg (show ¬ (false = true) by decide)] at H
      obtain ⟨y427, hy427⟩ : ∃ y_ : List Int, y_ = (([] : List Int)) := ⟨_, rfl⟩
      replace H : (laws_FnQueue.l0 kj7 t416 t420 y427 (([] : List Int)) 0 0 0 t412 t413 t414 t415) = some true := by first | (rw [hy427]; with_reducible exact H) | (have H2_ := (Option.bind_some _ _).symm.trans H; rw [hy427]; with_reducible exact H2_) | (have H2_ := (Option.bind_some _ _).symm.trans H; with_reducible exact H2_) | with_reducible exact H | (rw [hy427]; exact H) | exact H
      have Ny427 := Aside0.mk hy427
      clear hy427
      obtain ⟨y430, hy430⟩ : ∃ y_ : List Int, y_ = (([] : List Int)) := ⟨_, rfl⟩
      replace H : (laws_FnQueue.l0 kj7 t416 t420 y427 y430 0 0 0 t412 t413 t414 t415) = some true := by first | (rw [hy430]; with_reducible exact H) | (have H2_ := (Option.bind_some _ _).symm.trans H; rw [hy430]; with_reducible exact H2_) | (have H2_ := (Option.bind_some _ _).symm.trans H; with_reducible exact H2_) | with_reducible exact H | (rw [hy430]; exact H) | exact H
      have Ny430 := Aside0.mk hy430
      clear hy430
      have H' := Aside0.mk H
      clear H
      go_wp2_with (first | ((with_reducible refine gate_dst (N := 37) rfl ?_); refine Kd.R_lit (Kd.int .u32) _ 46 ?hg (N := 37) ?hd (xs := ([] : List Int)) (inner := []) (ok := fun _ => True) (okp := fun _ => True) ?hr ?hp (fun _ hk => hk) trivial (Below.refl _ _) (Nat.le_refl _) (by simp) ?_; (case hd => rfl); (case hg => rfl); (case hr => first | (go_simp; done) | (go_simp; rfl)); (case hp => exact (Reps.none _ _)); intro v428 w26 ho27 hb hg_ hnew_; clear hg_ hnew_; (first | rw [← Ny427.out] at ho27 | (simp only [Int.reduceToNat] at ho27; rw [← Ny427.out] at ho27)); have n0_ := Aside0.mk (Kd.R_below (rq HO_4.out) hb); have n1_ := Aside0.mk (Kd.R_below (rq HO_5.out) hb); have n2_ := Aside0.mk (Kd.R_lower ho27 (below_size (lq HB.out))); have n3_ := Aside0.mk (blk_below (bq BK419.out) hb); have n4_ := Aside0.mk (below_step (lq HB.out) hb); clear HO_4; clear HO_5; clear BK419; clear HB; have HO_4 := n0_; have HO_5 := n1_; have HO429 := n2_; have BK419 := n3_; have HB := n4_; clear n0_ n1_ n2_ n3_ n4_; clear hb ho27) | ((with_reducible refine gate_dst (N := 38) rfl ?_); refine Kd.R_lit (Kd.int .u32) _ 46 ?hg (N := 38) ?hd (xs := ([] : List Int)) (inner := []) (ok := fun _ => True) (okp := fun _ => True) ?hr ?hp (fun _ hk => hk) trivial (Below.refl _ _) (Nat.le_refl _) (by simp) ?_; (case hd => rfl); (case hg => rfl); (case hr => first | (go_simp; done) | (go_simp; rfl)); (case hp => exact (Reps.none _ _)); intro v431 w28 ho29 hb hg_ hnew_; clear hg_ hnew_; (first | rw [← Ny430.out] at ho29 | (simp only [Int.reduceToNat] at ho29; rw [← Ny430.out] at ho29)); have n0_ := Aside0.mk (Kd.R_below (rq HO_4.out) hb); have n1_ := Aside0.mk (Kd.R_below (rq HO_5.out) hb); have n2_ := Aside0.mk (Kd.R_elder' (rq HO429.out) (Kd.R_base ho29) hb); have n3_ := Aside0.mk (Kd.R_lower (Kd.R_new' ho29 (Kd.R_lt (rq HO429.out))) (below_size (lq HB.out))); have n4_ := Aside0.mk (blk_below (bq BK419.out) hb); have n5_ := Aside0.mk (below_step (lq HB.out) hb); clear HO_4; clear HO_5; clear HO429; clear BK419; clear HB; have HO_4 := n0_; have HO_5 := n1_; have HO429 := n2_; have HO432 := n3_; have BK419 := n4_; have HB := n5_; clear n0_ n1_ n2_ n3_ n4_ n5_; clear hb ho29))
      repeat (go_quiet (first | ((with_reducible refine gate_dst (N := 37) rfl ?_); refine Kd.R_lit (Kd.int .u32) _ 46 ?hg (N := 37) ?hd (xs := ([] : List Int)) (inner := []) (ok := fun _ => True) (okp := fun _ => True) ?hr ?hp (fun _ hk => hk) trivial (Below.refl _ _) (Nat.le_refl _) (by simp) ?_; (case hd => rfl); (case hg => rfl); (case hr => first | (go_simp; done) | (go_simp; rfl)); (case hp => exact (Reps.none _ _)); intro v428 w26 ho27 hb hg_ hnew_; clear hg_ hnew_; (first | rw [← Ny427.out] at ho27 | (simp only [Int.reduceToNat] at ho27; rw [← Ny427.out] at ho27)); have n0_ := Aside0.mk (Kd.R_below (rq HO_4.out) hb); have n1_ := Aside0.mk (Kd.R_below (rq HO_5.out) hb); have n2_ := Aside0.mk (Kd.R_lower ho27 (below_size (lq HB.out))); have n3_ := Aside0.mk (blk_below (bq BK419.out) hb); have n4_ := Aside0.mk (below_step (lq HB.out) hb); clear HO_4; clear HO_5; clear BK419; clear HB; have HO_4 := n0_; have HO_5 := n1_; have HO429 := n2_; have BK419 := n3_; have HB := n4_; clear n0_ n1_ n2_ n3_ n4_; clear hb ho27) | ((with_reducible refine gate_dst (N := 38) rfl ?_); refine Kd.R_lit (Kd.int .u32) _ 46 ?hg (N := 38) ?hd (xs := ([] : List Int)) (inner := []) (ok := fun _ => True) (okp := fun _ => True) ?hr ?hp (fun _ hk => hk) trivial (Below.refl _ _) (Nat.le_refl _) (by simp) ?_; (case hd => rfl); (case hg => rfl); (case hr => first | (go_simp; done) | (go_simp; rfl)); (case hp => exact (Reps.none _ _)); intro v431 w28 ho29 hb hg_ hnew_; clear hg_ hnew_; (first | rw [← Ny430.out] at ho29 | (simp only [Int.reduceToNat] at ho29; rw [← Ny430.out] at ho29)); have n0_ := Aside0.mk (Kd.R_below (rq HO_4.out) hb); have n1_ := Aside0.mk (Kd.R_below (rq HO_5.out) hb); have n2_ := Aside0.mk (Kd.R_elder' (rq HO429.out) (Kd.R_base ho29) hb); have n3_ := Aside0.mk (Kd.R_lower (Kd.R_new' ho29 (Kd.R_lt (rq HO429.out))) (below_size (lq HB.out))); have n4_ := Aside0.mk (blk_below (bq BK419.out) hb); have n5_ := Aside0.mk (below_step (lq HB.out) hb); clear HO_4; clear HO_5; clear HO429; clear BK419; clear HB; have HO_4 := n0_; have HO_5 := n1_; have HO429 := n2_; have HO432 := n3_; have BK419 := n4_; have HB := n5_; clear n0_ n1_ n2_ n3_ n4_ n5_; clear hb ho29)); try go_wp2_with (first | ((with_reducible refine gate_dst (N := 37) rfl ?_); refine Kd.R_lit (Kd.int .u32) _ 46 ?hg (N := 37) ?hd (xs := ([] : List Int)) (inner := []) (ok := fun _ => True) (okp := fun _ => True) ?hr ?hp (fun _ hk => hk) trivial (Below.refl _ _) (Nat.le_refl _) (by simp) ?_; (case hd => rfl); (case hg => rfl); (case hr => first | (go_simp; done) | (go_simp; rfl)); (case hp => exact (Reps.none _ _)); intro v428 w26 ho27 hb hg_ hnew_; clear hg_ hnew_; (first | rw [← Ny427.out] at ho27 | (simp only [Int.reduceToNat] at ho27; rw [← Ny427.out] at ho27)); have n0_ := Aside0.mk (Kd.R_below (rq HO_4.out) hb); have n1_ := Aside0.mk (Kd.R_below (rq HO_5.out) hb); have n2_ := Aside0.mk (Kd.R_lower ho27 (below_size (lq HB.out))); have n3_ := Aside0.mk (blk_below (bq BK419.out) hb); have n4_ := Aside0.mk (below_step (lq HB.out) hb); clear HO_4; clear HO_5; clear BK419; clear HB; have HO_4 := n0_; have HO_5 := n1_; have HO429 := n2_; have BK419 := n3_; have HB := n4_; clear n0_ n1_ n2_ n3_ n4_; clear hb ho27) | ((with_reducible refine gate_dst (N := 38) rfl ?_); refine Kd.R_lit (Kd.int .u32) _ 46 ?hg (N := 38) ?hd (xs := ([] : List Int)) (inner := []) (ok := fun _ => True) (okp := fun _ => True) ?hr ?hp (fun _ hk => hk) trivial (Below.refl _ _) (Nat.le_refl _) (by simp) ?_; (case hd => rfl); (case hg => rfl); (case hr => first | (go_simp; done) | (go_simp; rfl)); (case hp => exact (Reps.none _ _)); intro v431 w28 ho29 hb hg_ hnew_; clear hg_ hnew_; (first | rw [← Ny430.out] at ho29 | (simp only [Int.reduceToNat] at ho29; rw [← Ny430.out] at ho29)); have n0_ := Aside0.mk (Kd.R_below (rq HO_4.out) hb); have n1_ := Aside0.mk (Kd.R_below (rq HO_5.out) hb); have n2_ := Aside0.mk (Kd.R_elder' (rq HO429.out) (Kd.R_base ho29) hb); have n3_ := Aside0.mk (Kd.R_lower (Kd.R_new' ho29 (Kd.R_lt (rq HO429.out))) (below_size (lq HB.out))); have n4_ := Aside0.mk (blk_below (bq BK419.out) hb); have n5_ := Aside0.mk (below_step (lq HB.out) hb); clear HO_4; clear HO_5; clear HO429; clear BK419; clear HB; have HO_4 := n0_; have HO_5 := n1_; have HO429 := n2_; have HO432 := n3_; have BK419 := n4_; have HB := n5_; clear n0_ n1_ n2_ n3_ n4_ n5_; clear hb ho29)))
      go_loopg [6, 7, 8, 9, 10] kj7 (fun kq v6 v7 v8 v9 v10 w' => ∃ (x6_2 : List Int) (x7_2 : List Int) (x8_2 : Int) (x9_2 : Int) (x10_2 : Int), v8 = .int .i64 x8_2 ∧ v9 = .int .i64 x9_2 ∧ v10 = .int .i64 x10_2 ∧ Aside0 (laws_FnQueue.l0 kq t416 t420 x6_2 x7_2 x8_2 x9_2 x10_2 t412 t413 t414 t415 = some true) ∧ Aside0 (kq ≤ kj7) ∧ Aside0 (Kd.R k70 70 w' w.heap.size (fun _ => True) (.slice Ao12 t416.length co12) t416) ∧ Aside0 (Kd.R k72 72 w' w.heap.size (fun _ => True) (.slice Ao14 t420.length co14) t420) ∧ Aside0 (Kd.R (Kd.int .u32) 46 w' w.heap.size (fun k_ => some k_ ≠ (v7 : Value).ownBlock) v6 x6_2) ∧ Aside0 (Kd.R (Kd.int .u32) 46 w' w.heap.size (fun k_ => some k_ ≠ (v6 : Value).ownBlock) v7 x7_2) ∧ Aside0 (w'.heap[gb419]? = some (.cells #[.int .i64 t412, .int .i64 t413, .int .i64 t414, .int .i64 t415] 29 (0, 0))) ∧ Aside0 (Below w.heap.size w w'))
      case atStart => exact ⟨(y427), (y430), (0), (0), (0), (by first | rfl | (simp; done) | (simp [*]; done)), (by first | rfl | (simp; done) | (simp [*]; done)), (by first | rfl | (simp; done) | (simp [*]; done)), H', ⟨Nat.le_refl _⟩, ⟨by (with_reducible repeat (first | apply Kd.R_alloc | apply Kd.R_drewN | apply Kd.R_drew)); exact HO_4.out⟩, ⟨by (with_reducible repeat (first | apply Kd.R_alloc | apply Kd.R_drewN | apply Kd.R_drew)); exact HO_5.out⟩, ⟨by (with_reducible repeat (first | apply Kd.R_alloc | apply Kd.R_drewN | apply Kd.R_drew)); exact Kd.R_mono HO429.out (fun _ hk => hk.2)⟩, ⟨by (with_reducible repeat (first | apply Kd.R_alloc | apply Kd.R_drewN | apply Kd.R_drew)); exact Kd.R_mono HO432.out (fun _ hk => hk.2)⟩, ⟨by (with_reducible repeat (first | refine blk_drewN ?_ _ | refine blk_drew ?_ | refine blk_alloc ?_ _)); exact BK419.out⟩, ⟨by exact lq HB.out⟩⟩
      case round =>
       clear H'
       try clear c1
       try clear c2
       try clear p2
       try clear c3
       try clear c7
       try clear c7b0
       try clear c7b1
       try clear c7b2
       try clear c11
       try clear c19
       try clear c25
       try clear hcz11_0
       try clear hcz11_1
       try clear hcz11_2
       try clear hcz11_3
       try clear hcz15_0
       try clear hcz15_1
       try clear hcz15_2
       try clear hcz15_3
       try clear hcz20_0
       try clear hcz20_1
       try clear hcz20_2
       try clear hcz20_3
       try clear hcz22_0
       try clear hcz22_1
       try clear hcz22_2
       try clear hcz22_3
       try clear hcz23_0
       try clear hcz23_1
       try clear hcz23_2
       try clear hcz23_3
       try clear hfz11_0
       try clear hfz11_1
       try clear hfz11_2
       try clear hfz11_3
       try clear hfz15_0
       try clear hfz15_1
       try clear hfz15_2
       try clear hfz15_3
       try clear hfz20_0
       try clear hfz20_1
       try clear hfz20_2
       try clear hfz20_3
       try clear hfz22_0
       try clear hfz22_1
       try clear hfz22_2
       try clear hfz22_3
       try clear hfz23_0
       try clear hfz23_1
       try clear hfz23_2
       try clear hfz23_3
       try clear p2
       obtain ⟨x6_2, x7_2, x8_2, x9_2, x10_2, rfl, rfl, rfl, HA, HK2, HO_4, HO_5, HO_6, HO_7, BK419, HB⟩ := hrel
       cases gk with
       | zero => exact absurd HA.out (by simp [laws_FnQueue.l0])
       | succ k2 =>
        have H := HA.out
        clear HA
        simp only [laws_FnQueue.l0] at H
        by_cases c30 : x10_2 < (t420.length : Int)
        ·rw [if_pos c30] at H
         have c30b0 : decide (x10_2 < (t420.length : Int)) = true := decide_eq_true c30
         clear c30
         by_cases c31 : 0 ≤ x10_2
         ·rw [if_pos c31] at H
          have c31b0 : decide (0 ≤ x10_2) = true := decide_eq_true c31
          clear c31
          by_cases c32 : x10_2 < (t416.length : Int)
          ·rw [if_pos c32] at H
           have c32b0 : decide (x10_2 < (t416.length : Int)) = true := decide_eq_true c32
           clear c32
           by_cases c33 : ((rd_T70 t416 x10_2).f0) = 0
           ·rw [if_pos c33] at H
            have c33b0 : (((rd_T70 t416 x10_2).f0) == 0) = true := beq_iff_eq.mpr c33
            have c33b1 : (((rd_T70 t416 x10_2).f0) != 0) = false := bne_eq_false_iff_eq.mpr c33
            clear c33
            have HC34 := Aside0.mk H
            clear H
            have p433 : 0 ≤ (x10_2 : Int) := of_decide_eq_true (by first | (with_reducible assumption) | assumption)
            have q433 : x10_2 < (t416.length : Int) := of_decide_eq_true (by first | (with_reducible assumption) | assumption)
            obtain ⟨ad433, e433, hx433_0, hx433_1⟩ := at_T70 (Kd.R_reads' HO_4.out).2.2 x10_2 p433 q433
            cases e433
            replace p433 := eq_true p433
            replace q433 := eq_true q433
            obtain ⟨Ao35, co35, eo35⟩ := Kd.R_slice HO_7.out
            subst eo35
            have hcz36_0 : wr.cell? ⟨gb419, 0, none⟩ = some (.int .i64 t412) := (blk_cell BK419.out 0).trans rfl
            have hcz36_1 : wr.cell? ⟨gb419, 1, none⟩ = some (.int .i64 t413) := (blk_cell BK419.out 1).trans rfl
            have hcz36_2 : wr.cell? ⟨gb419, 2, none⟩ = some (.int .i64 t414) := (blk_cell BK419.out 2).trans rfl
            have hcz36_3 : wr.cell? ⟨gb419, 3, none⟩ = some (.int .i64 t415) := (blk_cell BK419.out 3).trans rfl
            have hfz36_0 := blk_frozen BK419.out 0
            have hfz36_1 := blk_frozen BK419.out 1
            have hfz36_2 := blk_frozen BK419.out 2
            have hfz36_3 := blk_frozen BK419.out 3
            go_upto_region 18 with (fail)
            repeat (go_quiet (fail); go_upto_region 18 with (fail))
            go_cut [79] (fun v79 wc => ∃ (kq : Nat) (x79_33 : Bool), v79 = .bool x79_33 ∧ Aside0 (laws_FnQueue.j2 kq t416 t420 x6_2 x7_2 x8_2 x9_2 x10_2 ((wrap64 (x9_2 + (x7_2.length : Int))) == t415) x79_33 t412 t413 t414 t415 = some true) ∧ Aside0 (kq ≤ k2) ∧ Aside0 (Kd.R k70 70 wc w.heap.size (fun _ => True) (.slice (some ad433) t416.length co12) t416) ∧ Aside0 (Kd.R k72 72 wc w.heap.size (fun _ => True) (.slice Ao14 t420.length co14) t420) ∧ Aside0 (Kd.R (Kd.int .u32) 46 wc w.heap.size (fun k_ => some k_ ≠ ((.slice Ao35 x7_2.length co35) : Value).ownBlock) u6 x6_2) ∧ Aside0 (Kd.R (Kd.int .u32) 46 wc w.heap.size (fun k_ => some k_ ≠ (u6 : Value).ownBlock) (.slice Ao35 x7_2.length co35) x7_2) ∧ Aside0 (wc.heap[gb419]? = some (.cells #[.int .i64 t412, .int .i64 t413, .int .i64 t414, .int .i64 t415] 29 (0, 0))) ∧ Aside0 (Below w.heap.size w wc))
            case first =>
             have H := HC34.out
             clear HC34
             by_cases c37 : (((wrap64 (x9_2 + (x7_2.length : Int))) == t415) != (((rd_T72 t420 x10_2).f0) == 2)) = true
             ·rw [if_pos c37] at H
              have c37b0 : (((wrap64 (x9_2 + (x7_2.length : Int))) == t415) != (((rd_T72 t420 x10_2).f0) == 2)) = true := c37
              (try (have c37b1 : decide (((wrap64 (x9_2 + (x7_2.length : Int))) == t415) = (((rd_T72 t420 x10_2).f0) == 2)) = false := by simpa using c37))
              (try (have c37b2 : (((wrap64 (x9_2 + (x7_2.length : Int))) == t415) == (((rd_T72 t420 x10_2).f0) == 2)) = false := by simpa using c37))
              (try (have c37b3 : ¬ (((wrap64 (x9_2 + (x7_2.length : Int))) == t415) = (((rd_T72 t420 x10_2).f0) == 2)) := by simpa using c37))
              clear c37
              (first | rw [c37b0] | (simp only [i64_w, i32_w]; rw [c37b0]) | skip)
              have H' := Aside0.mk H
              clear H
              have p434 : 0 ≤ (x10_2 : Int) := of_decide_eq_true (by first | (with_reducible assumption) | assumption)
              have q434 : x10_2 < (t420.length : Int) := of_decide_eq_true (by first | (with_reducible assumption) | assumption)
              obtain ⟨ad434, e434, hx434_0, hx434_1⟩ := at_T72 (Kd.R_reads' HO_5.out).2.2 x10_2 p434 q434
              cases e434
              replace p434 := eq_true p434
              replace q434 := eq_true q434
              go_wp2
              repeat (go_quiet (fail); try go_wp2)
              go_meet
              case rel => exact ⟨_, (true), (by first | rfl | (simp; done) | (simp [*]; done)), H', ⟨by have := HJ7.out; have := HK2.out; first | omega | exact Nat.le_refl _⟩, ⟨by (with_reducible repeat (first | apply Kd.R_alloc | apply Kd.R_drewN | apply Kd.R_drew)); exact HO_4.out⟩, ⟨by (with_reducible repeat (first | apply Kd.R_alloc | apply Kd.R_drewN | apply Kd.R_drew)); exact HO_5.out⟩, ⟨by (with_reducible repeat (first | apply Kd.R_alloc | apply Kd.R_drewN | apply Kd.R_drew)); exact HO_6.out⟩, ⟨by (with_reducible repeat (first | apply Kd.R_alloc | apply Kd.R_drewN | apply Kd.R_drew)); exact HO_7.out⟩, ⟨by (with_reducible repeat (first | refine blk_drewN ?_ _ | refine blk_drew ?_ | refine blk_alloc ?_ _)); exact BK419.out⟩, ⟨by exact lq HB.out⟩⟩
             ·rw [if_neg c37] at H
              have c37b0 : (((wrap64 (x9_2 + (x7_2.length : Int))) == t415) != (((rd_T72 t420 x10_2).f0) == 2)) = false := by simpa using c37
              (try (have c37b1 : decide (((wrap64 (x9_2 + (x7_2.length : Int))) == t415) = (((rd_T72 t420 x10_2).f0) == 2)) = true := by simpa using c37))
              (try (have c37b2 : (((wrap64 (x9_2 + (x7_2.length : Int))) == t415) == (((rd_T72 t420 x10_2).f0) == 2)) = true := by simpa using c37))
              clear c37
              (first | rw [c37b0] | (simp only [i64_w, i32_w]; rw [c37b0]) | skip)
              by_cases c38 : ((wrap64 (x9_2 + (x7_2.length : Int))) = t415)
              ·rw [if_pos c38] at H
               have c38b0 : ((wrap64 (x9_2 + (x7_2.length : Int))) == t415) = true := beq_iff_eq.mpr c38
               have c38b1 : ((wrap64 (x9_2 + (x7_2.length : Int))) != t415) = false := bne_eq_false_iff_eq.mpr c38
               clear c38
               have H' := Aside0.mk H
               clear H
               have p434 : 0 ≤ (x10_2 : Int) := of_decide_eq_true (by first | (with_reducible assumption) | assumption)
               have q434 : x10_2 < (t420.length : Int) := of_decide_eq_true (by first | (with_reducible assumption) | assumption)
               obtain ⟨ad434, e434, hx434_0, hx434_1⟩ := at_T72 (Kd.R_reads' HO_5.out).2.2 x10_2 p434 q434
               cases e434
               replace p434 := eq_true p434
               replace q434 := eq_true q434
               have c39b0 : ((((rd_T72 t420 x10_2).f0) == 2)) = true := by (have z := c37b0; rw [c38b0] at z; simpa using z)
               go_wp2
               repeat (go_quiet (fail); try go_wp2)
               (first | ((conv in (occs := 1) (Value.bool true) => rw [show Value.bool true = Value.bool ((wrap64 (x9_2 + (x7_2.length : Int))) == t415) from congrArg Value.bool c38b0.symm]); go_meet) | ((conv in (occs := 2) (Value.bool true) => rw [show Value.bool true = Value.bool ((wrap64 (x9_2 + (x7_2.length : Int))) == t415) from congrArg Value.bool c38b0.symm]); go_meet) | ((conv in (occs := 3) (Value.bool true) => rw [show Value.bool true = Value.bool ((wrap64 (x9_2 + (x7_2.length : Int))) == t415) from congrArg Value.bool c38b0.symm]); go_meet) | ((conv in (occs := 4) (Value.bool true) => rw [show Value.bool true = Value.bool ((wrap64 (x9_2 + (x7_2.length : Int))) == t415) from congrArg Value.bool c38b0.symm]); go_meet))
               case rel => exact ⟨_, (false), (by first | rfl | (simp; done) | (simp [*]; done)), H', ⟨by have := HJ7.out; have := HK2.out; first | omega | exact Nat.le_refl _⟩, ⟨by (with_reducible repeat (first | apply Kd.R_alloc | apply Kd.R_drewN | apply Kd.R_drew)); exact HO_4.out⟩, ⟨by (with_reducible repeat (first | apply Kd.R_alloc | apply Kd.R_drewN | apply Kd.R_drew)); exact HO_5.out⟩, ⟨by (with_reducible repeat (first | apply Kd.R_alloc | apply Kd.R_drewN | apply Kd.R_drew)); exact HO_6.out⟩, ⟨by (with_reducible repeat (first | apply Kd.R_alloc | apply Kd.R_drewN | apply Kd.R_drew)); exact HO_7.out⟩, ⟨by (with_reducible repeat (first | refine blk_drewN ?_ _ | refine blk_drew ?_ | refine blk_alloc ?_ _)); exact BK419.out⟩, ⟨by exact lq HB.out⟩⟩
              ·rw [if_neg c38] at H
               have c38b0 : ((wrap64 (x9_2 + (x7_2.length : Int))) == t415) = false := beq_eq_false_iff_ne.mpr c38
               have c38b1 : ((wrap64 (x9_2 + (x7_2.length : Int))) != t415) = true := bne_iff_ne.mpr c38
               have H' := Aside0.mk H
               clear H
               have p434 : 0 ≤ (x10_2 : Int) := of_decide_eq_true (by first | (with_reducible assumption) | assumption)
               have q434 : x10_2 < (t420.length : Int) := of_decide_eq_true (by first | (with_reducible assumption) | assumption)
               obtain ⟨ad434, e434, hx434_0, hx434_1⟩ := at_T72 (Kd.R_reads' HO_5.out).2.2 x10_2 p434 q434
               cases e434
               replace p434 := eq_true p434
               replace q434 := eq_true q434
               have p435 : 0 ≤ (x10_2 : Int) := of_decide_eq_true (by first | (with_reducible assumption) | assumption)
               have q435 : x10_2 < (t420.length : Int) := of_decide_eq_true (by first | (with_reducible assumption) | assumption)
               obtain ⟨ad435, e435, hx435_0, hx435_1⟩ := at_T72 (Kd.R_reads' HO_5.out).2.2 x10_2 p435 q435
               obtain rfl : ad434 = ad435 := (by injection e435)
               replace p435 := eq_true p435
               replace q435 := eq_true q435
               have c39b0 : ((((rd_T72 t420 x10_2).f0) == 2)) = false := by (have z := c37b0; rw [c38b0] at z; simpa using z)
               go_wp2
               repeat (go_quiet (fail); try go_wp2)
               (first | ((conv in (occs := 1) (Value.bool false) => rw [show Value.bool false = Value.bool ((wrap64 (x9_2 + (x7_2.length : Int))) == t415) from congrArg Value.bool c38b0.symm]); go_meet) | ((conv in (occs := 2) (Value.bool false) => rw [show Value.bool false = Value.bool ((wrap64 (x9_2 + (x7_2.length : Int))) == t415) from congrArg Value.bool c38b0.symm]); go_meet) | ((conv in (occs := 3) (Value.bool false) => rw [show Value.bool false = Value.bool ((wrap64 (x9_2 + (x7_2.length : Int))) == t415) from congrArg Value.bool c38b0.symm]); go_meet) | ((conv in (occs := 4) (Value.bool false) => rw [show Value.bool false = Value.bool ((wrap64 (x9_2 + (x7_2.length : Int))) == t415) from congrArg Value.bool c38b0.symm]); go_meet))
               case rel => exact ⟨_, ((((rd_T72 t420 x10_2).f0) != 0)), (by first | rfl | (simp; done) | (simp [*]; done)), H', ⟨by have := HJ7.out; have := HK2.out; first | omega | exact Nat.le_refl _⟩, ⟨by (with_reducible repeat (first | apply Kd.R_alloc | apply Kd.R_drewN | apply Kd.R_drew)); exact HO_4.out⟩, ⟨by (with_reducible repeat (first | apply Kd.R_alloc | apply Kd.R_drewN | apply Kd.R_drew)); exact HO_5.out⟩, ⟨by (with_reducible repeat (first | apply Kd.R_alloc | apply Kd.R_drewN | apply Kd.R_drew)); exact HO_6.out⟩, ⟨by (with_reducible repeat (first | apply Kd.R_alloc | apply Kd.R_drewN | apply Kd.R_drew)); exact HO_7.out⟩, ⟨by (with_reducible repeat (first | refine blk_drewN ?_ _ | refine blk_drew ?_ | refine blk_alloc ?_ _)); exact BK419.out⟩, ⟨by exact lq HB.out⟩⟩
            case rest =>
             clear HC34
             try clear c1
             try clear c2
             try clear p2
             try clear c3
             try clear p4
             try clear q4
             try clear hx4
             try clear p6
             try clear c7
             try clear c7b0
             try clear c7b1
             try clear c7b2
             try clear c11
             try clear c19
             try clear c25
             try clear c30
             try clear c30b0
             try clear c31
             try clear c31b0
             try clear c32
             try clear c32b0
             try clear c33
             try clear c33b0
             try clear c33b1
             try clear c37
             try clear c37b0
             try clear c37b1
             try clear c37b2
             try clear c38
             try clear c38b0
             try clear c38b1
             try clear hcz11_0
             try clear hcz11_1
             try clear hcz11_2
             try clear hcz11_3
             try clear hcz15_0
             try clear hcz15_1
             try clear hcz15_2
             try clear hcz15_3
             try clear hcz20_0
             try clear hcz20_1
             try clear hcz20_2
             try clear hcz20_3
             try clear hcz22_0
             try clear hcz22_1
             try clear hcz22_2
             try clear hcz22_3
             try clear hcz23_0
             try clear hcz23_1
             try clear hcz23_2
             try clear hcz23_3
             try clear hcz36_0
             try clear hcz36_1
             try clear hcz36_2
             try clear hcz36_3
             try clear hfz11_0
             try clear hfz11_1
             try clear hfz11_2
             try clear hfz11_3
             try clear hfz15_0
             try clear hfz15_1
             try clear hfz15_2
             try clear hfz15_3
             try clear hfz20_0
             try clear hfz20_1
             try clear hfz20_2
             try clear hfz20_3
             try clear hfz22_0
             try clear hfz22_1
             try clear hfz22_2
             try clear hfz22_3
             try clear hfz23_0
             try clear hfz23_1
             try clear hfz23_2
             try clear hfz23_3
             try clear hfz36_0
             try clear hfz36_1
             try clear hfz36_2
             try clear hfz36_3
             try clear hx433_0
             try clear hx433_1
             try clear hx434_0
             try clear hx434_1
             try clear hx435_0
             try clear hx435_1
             try clear p2
             try clear p433
             try clear p434
             try clear p435
             try clear q433
             try clear q434
             try clear q435
             obtain ⟨kq, x79_33, rfl, HA, HJ33, HO_4, HO_5, HO_6, HO_7, BK419, HB⟩ := hcut
             cases kq with
             | zero => exact absurd HA.out (by simp [laws_FnQueue.j2])
             | succ kj33 =>
              have H := HA.out
              clear HA
              simp only [laws_FnQueue.j2] at H
              by_cases c39 : x79_33 = true
              ·subst c39
               rw [if_pos rfl] at H
               exact absurd H (by simp)
              ·replace c39 := Bool.eq_false_iff.mpr c39
               subst c39
               rw [if_neg (show ¬ (false = true) by decide)] at H
               by_cases c40 : ((wrap64 (x9_2 + (x7_2.length : Int))) == t415) = true
               ·rw [if_pos c40] at H
                have c40b0 : ((wrap64 (x9_2 + (x7_2.length : Int))) == t415) = true := c40
                (try (have c40b1 : decide ((wrap64 (x9_2 + (x7_2.length : Int))) = t415) = true := by simpa using c40))
                (try (have c40b2 : ((wrap64 (x9_2 + (x7_2.length : Int))) == t415) = true := by simpa using c40))
                clear c40
                have H' := Aside0.mk H
                clear H
                go_wp2
                repeat (go_quiet (fail); try go_wp2)
                go_roundg kj33
                case measure => have := HJ7.out; have := HK2.out; have := HJ33.out; omega
                case rel => exact ⟨(x6_2), (x7_2), (x8_2), (x9_2), (wrap64 (x10_2 + 1)), (by first | rfl | (simp; done) | (simp [*]; done)), (by first | rfl | (simp; done) | (simp [*]; done)), (by first | rfl | (simp; done) | (simp [*]; done)), H', ⟨by have := HJ7.out; have := HK2.out; have := HJ33.out; omega⟩, ⟨by (with_reducible repeat (first | apply Kd.R_alloc | apply Kd.R_drewN | apply Kd.R_drew)); exact HO_4.out⟩, ⟨by (with_reducible repeat (first | apply Kd.R_alloc | apply Kd.R_drewN | apply Kd.R_drew)); exact HO_5.out⟩, ⟨by (with_reducible repeat (first | apply Kd.R_alloc | apply Kd.R_drewN | apply Kd.R_drew)); exact HO_6.out⟩, ⟨by (with_reducible repeat (first | apply Kd.R_alloc | apply Kd.R_drewN | apply Kd.R_drew)); exact HO_7.out⟩, ⟨by (with_reducible repeat (first | refine blk_drewN ?_ _ | refine blk_drew ?_ | refine blk_alloc ?_ _)); exact BK419.out⟩, ⟨by exact lq HB.out⟩⟩
               ·rw [if_neg c40] at H
                have c40b0 : ((wrap64 (x9_2 + (x7_2.length : Int))) == t415) = false := by simpa using c40
                (try (have c40b1 : decide ((wrap64 (x9_2 + (x7_2.length : Int))) = t415) = false := by simpa using c40))
                (try (have c40b2 : ((wrap64 (x9_2 + (x7_2.length : Int))) == t415) = false := by simpa using c40))
                (try (have c40b3 : ¬ ((wrap64 (x9_2 + (x7_2.length : Int))) = t415) := by simpa using c40))
                clear c40
                by_cases c41 : 0 ≤ x10_2
                ·rw [if_pos c41] at H
                 have c41b0 : decide (0 ≤ x10_2) = true := decide_eq_true c41
                 clear c41
                 by_cases c42 : x10_2 < (t416.length : Int)
                 ·rw [if_pos c42] at H
                  have c42b0 : decide (x10_2 < (t416.length : Int)) = true := decide_eq_true c42
                  clear c42
                  by_cases c43 : x7_2.length < 35184372088832
                  ·rw [if_pos c43] at H
                   have LMc43 := Aside0.mk c43
                   clear c43
                   obtain ⟨y437, hy437⟩ : ∃ y_ : List Int, y_ = (x7_2 ++ [(rd_T70 t416 x10_2).f1]) := ⟨_, rfl⟩
                   replace H : (laws_FnQueue.l0 kj33 t416 t420 x6_2 y437 x8_2 x9_2 (wrap64 (x10_2 + 1)) t412 t413 t414 t415) = some true := by first | (rw [hy437]; with_reducible exact H) | (have H2_ := (Option.bind_some _ _).symm.trans H; rw [hy437]; with_reducible exact H2_) | (have H2_ := (Option.bind_some _ _).symm.trans H; with_reducible exact H2_) | with_reducible exact H | (rw [hy437]; exact H) | exact H
                   have Ny437 := Aside0.mk hy437
                   clear hy437
                   have H' := Aside0.mk H
                   clear H
                   have p436 : 0 ≤ (x10_2 : Int) := of_decide_eq_true (by first | (with_reducible assumption) | assumption)
                   have q436 : x10_2 < (t416.length : Int) := of_decide_eq_true (by first | (with_reducible assumption) | assumption)
                   obtain ⟨ad436, e436, hx436_0, hx436_1⟩ := at_T70 (Kd.R_reads' HO_4.out).2.2 x10_2 p436 q436
                   obtain rfl : ad433 = ad436 := (by injection e436)
                   replace p436 := eq_true p436
                   replace q436 := eq_true q436
                   go_wp2_with (first | ((with_reducible refine gate_builtin (b := .append) (xs := #[.tmp 82, .tmp 88]) rfl ?_); at_builtin; refine Kd.R_append (Kd.int .u32) (w0 := w) w.heap.size rfl (.tmp 82) (.tmp 88) 24 46 (.int .u32 0) 4 rfl Try.underlying24 info46 rfl (by decide) (by omega) (.slice Ao35 x7_2.length co35) x7_2 ((rd_T70 t416 x10_2).f1) [.int .u32 ((rd_T70 t416 x10_2).f1)] (fun k_ => some k_ ≠ (u6 : Value).ownBlock) (fun _ => False) rfl rfl ?aP (fun _ hk => hk.elim) ?aF ?aO ?aB ?aS ?aL ?_; (case aP => exact rfl); (case aB => exact (lq HB.out)); (case aF => exact (fun k_ hk => Kd.fresh' (Kd.R_lt (rq HO_6.out)) k_ hk)); (case aO => exact (rq HO_7.out)); (case aS => exact (below_size (lq HB.out))); (case aL => have := LMc43.out; omega); intro v438 w44 ho hb hg hat; rw [← Ny437.out] at ho; have n0_ := Aside0.mk (Kd.R_over' (rq HO_4.out) (Kd.R_typed (rq HO_7.out)) (by decide) hg); have n1_ := Aside0.mk (Kd.R_over' (rq HO_5.out) (Kd.R_typed (rq HO_7.out)) (by decide) hg); have n2_ := Aside0.mk (Kd.R_after (ok := (fun _ => True)) (by (with_reducible repeat (first | apply Kd.R_alloc | apply Kd.R_drewN | apply Kd.R_drew)); exact Kd.R_mono HO_6.out (fun _ hk => ⟨trivial, hk⟩)) hg hat); have n3_ := Aside0.mk (blk_grown (g := gb419) (o := .cells #[.int .i64 t412, .int .i64 t413, .int .i64 t414, .int .i64 t415] 29 (0, 0)) (bq BK419.out) hg (Kd.R_ne HO_7.out BK419.out (by decide))); have n4_ := Aside0.mk (hb); have n5_ := Aside0.mk (ho); clear HO_4; clear HO_5; clear HO_6; clear BK419; clear HB; clear HO_7; have HO_4 := n0_; have HO_5 := n1_; have HO_6 := n2_; have BK419 := n3_; have HB := n4_; have HO439 := n5_; clear n0_ n1_ n2_ n3_ n4_ n5_; clear ho hb hg hat))
                   repeat (go_quiet (first | ((with_reducible refine gate_builtin (b := .append) (xs := #[.tmp 82, .tmp 88]) rfl ?_); at_builtin; refine Kd.R_append (Kd.int .u32) (w0 := w) w.heap.size rfl (.tmp 82) (.tmp 88) 24 46 (.int .u32 0) 4 rfl Try.underlying24 info46 rfl (by decide) (by omega) (.slice Ao35 x7_2.length co35) x7_2 ((rd_T70 t416 x10_2).f1) [.int .u32 ((rd_T70 t416 x10_2).f1)] (fun k_ => some k_ ≠ (u6 : Value).ownBlock) (fun _ => False) rfl rfl ?aP (fun _ hk => hk.elim) ?aF ?aO ?aB ?aS ?aL ?_; (case aP => exact rfl); (case aB => exact (lq HB.out)); (case aF => exact (fun k_ hk => Kd.fresh' (Kd.R_lt (rq HO_6.out)) k_ hk)); (case aO => exact (rq HO_7.out)); (case aS => exact (below_size (lq HB.out))); (case aL => have := LMc43.out; omega); intro v438 w44 ho hb hg hat; rw [← Ny437.out] at ho; have n0_ := Aside0.mk (Kd.R_over' (rq HO_4.out) (Kd.R_typed (rq HO_7.out)) (by decide) hg); have n1_ := Aside0.mk (Kd.R_over' (rq HO_5.out) (Kd.R_typed (rq HO_7.out)) (by decide) hg); have n2_ := Aside0.mk (Kd.R_after (ok := (fun _ => True)) (by (with_reducible repeat (first | apply Kd.R_alloc | apply Kd.R_drewN | apply Kd.R_drew)); exact Kd.R_mono HO_6.out (fun _ hk => ⟨trivial, hk⟩)) hg hat); have n3_ := Aside0.mk (blk_grown (g := gb419) (o := .cells #[.int .i64 t412, .int .i64 t413, .int .i64 t414, .int .i64 t415] 29 (0, 0)) (bq BK419.out) hg (Kd.R_ne HO_7.out BK419.out (by decide))); have n4_ := Aside0.mk (hb); have n5_ := Aside0.mk (ho); clear HO_4; clear HO_5; clear HO_6; clear BK419; clear HB; clear HO_7; have HO_4 := n0_; have HO_5 := n1_; have HO_6 := n2_; have BK419 := n3_; have HB := n4_; have HO439 := n5_; clear n0_ n1_ n2_ n3_ n4_ n5_; clear ho hb hg hat)); try go_wp2_with (first | ((with_reducible refine gate_builtin (b := .append) (xs := #[.tmp 82, .tmp 88]) rfl ?_); at_builtin; refine Kd.R_append (Kd.int .u32) (w0 := w) w.heap.size rfl (.tmp 82) (.tmp 88) 24 46 (.int .u32 0) 4 rfl Try.underlying24 info46 rfl (by decide) (by omega) (.slice Ao35 x7_2.length co35) x7_2 ((rd_T70 t416 x10_2).f1) [.int .u32 ((rd_T70 t416 x10_2).f1)] (fun k_ => some k_ ≠ (u6 : Value).ownBlock) (fun _ => False) rfl rfl ?aP (fun _ hk => hk.elim) ?aF ?aO ?aB ?aS ?aL ?_; (case aP => exact rfl); (case aB => exact (lq HB.out)); (case aF => exact (fun k_ hk => Kd.fresh' (Kd.R_lt (rq HO_6.out)) k_ hk)); (case aO => exact (rq HO_7.out)); (case aS => exact (below_size (lq HB.out))); (case aL => have := LMc43.out; omega); intro v438 w44 ho hb hg hat; rw [← Ny437.out] at ho; have n0_ := Aside0.mk (Kd.R_over' (rq HO_4.out) (Kd.R_typed (rq HO_7.out)) (by decide) hg); have n1_ := Aside0.mk (Kd.R_over' (rq HO_5.out) (Kd.R_typed (rq HO_7.out)) (by decide) hg); have n2_ := Aside0.mk (Kd.R_after (ok := (fun _ => True)) (by (with_reducible repeat (first | apply Kd.R_alloc | apply Kd.R_drewN | apply Kd.R_drew)); exact Kd.R_mono HO_6.out (fun _ hk => ⟨trivial, hk⟩)) hg hat); have n3_ := Aside0.mk (blk_grown (g := gb419) (o := .cells #[.int .i64 t412, .int .i64 t413, .int .i64 t414, .int .i64 t415] 29 (0, 0)) (bq BK419.out) hg (Kd.R_ne HO_7.out BK419.out (by decide))); have n4_ := Aside0.mk (hb); have n5_ := Aside0.mk (ho); clear HO_4; clear HO_5; clear HO_6; clear BK419; clear HB; clear HO_7; have HO_4 := n0_; have HO_5 := n1_; have HO_6 := n2_; have BK419 := n3_; have HB := n4_; have HO439 := n5_; clear n0_ n1_ n2_ n3_ n4_ n5_; clear ho hb hg hat)))
                   go_roundg kj33
                   case measure => have := HJ7.out; have := HK2.out; have := HJ33.out; omega
                   case rel => exact ⟨(x6_2), (y437), (x8_2), (x9_2), (wrap64 (x10_2 + 1)), (by first | rfl | (simp; done) | (simp [*]; done)), (by first | rfl | (simp; done) | (simp [*]; done)), (by first | rfl | (simp; done) | (simp [*]; done)), H', ⟨by have := HJ7.out; have := HK2.out; have := HJ33.out; omega⟩, ⟨by (with_reducible repeat (first | apply Kd.R_alloc | apply Kd.R_drewN | apply Kd.R_drew)); exact HO_4.out⟩, ⟨by (with_reducible repeat (first | apply Kd.R_alloc | apply Kd.R_drewN | apply Kd.R_drew)); exact HO_5.out⟩, ⟨by (with_reducible repeat (first | apply Kd.R_alloc | apply Kd.R_drewN | apply Kd.R_drew)); exact Kd.R_mono HO_6.out (fun _ hk => hk.2)⟩, ⟨by (with_reducible repeat (first | apply Kd.R_alloc | apply Kd.R_drewN | apply Kd.R_drew)); exact HO439.out⟩, ⟨by (with_reducible repeat (first | refine blk_drewN ?_ _ | refine blk_drew ?_ | refine blk_alloc ?_ _)); exact BK419.out⟩, ⟨by exact lq HB.out⟩⟩
                  ·rw [if_neg c43] at H
                   exact absurd H (by simp)
                 ·rw [if_neg c42] at H
                  exact absurd H (by simp)
                ·rw [if_neg c41] at H
                 exact absurd H (by simp)
           ·rw [if_neg c33] at H
            have c33b0 : (((rd_T70 t416 x10_2).f0) == 0) = false := beq_eq_false_iff_ne.mpr c33
            have c33b1 : (((rd_T70 t416 x10_2).f0) != 0) = true := bne_iff_ne.mpr c33
            by_cases c45 : ((rd_T70 t416 x10_2).f0) = 1
            ·rw [if_pos c45] at H
             have c45b0 : (((rd_T70 t416 x10_2).f0) == 1) = true := beq_iff_eq.mpr c45
             have c45b1 : (((rd_T70 t416 x10_2).f0) != 1) = false := bne_eq_false_iff_eq.mpr c45
             clear c45
             by_cases c46 : x8_2 = (x6_2.length : Int)
             ·rw [if_pos c46] at H
              have c46b0 : (x8_2 == (x6_2.length : Int)) = true := beq_iff_eq.mpr c46
              have c46b1 : (x8_2 != (x6_2.length : Int)) = false := bne_eq_false_iff_eq.mpr c46
              clear c46
              by_cases c47 : ((rd_T72 t420 x10_2).f0) = 1
              ·rw [if_pos c47] at H
               have c47b0 : (((rd_T72 t420 x10_2).f0) == 1) = true := beq_iff_eq.mpr c47
               have c47b1 : (((rd_T72 t420 x10_2).f0) != 1) = false := bne_eq_false_iff_eq.mpr c47
               clear c47
               by_cases c48 : ((rd_T72 t420 x10_2).f1) = 0
               ·rw [if_pos c48] at H
                have c48b0 : (((rd_T72 t420 x10_2).f1) == 0) = true := beq_iff_eq.mpr c48
                have c48b1 : (((rd_T72 t420 x10_2).f1) != 0) = false := bne_eq_false_iff_eq.mpr c48
                clear c48
                have H' := Aside0.mk H
                clear H
                have p433 : 0 ≤ (x10_2 : Int) := of_decide_eq_true (by first | (with_reducible assumption) | assumption)
                have q433 : x10_2 < (t416.length : Int) := of_decide_eq_true (by first | (with_reducible assumption) | assumption)
                obtain ⟨ad433, e433, hx433_0, hx433_1⟩ := at_T70 (Kd.R_reads' HO_4.out).2.2 x10_2 p433 q433
                cases e433
                replace p433 := eq_true p433
                replace q433 := eq_true q433
                obtain ⟨Ao49, co49, eo49⟩ := Kd.R_slice HO_6.out
                subst eo49
                have p440 : 0 ≤ (x10_2 : Int) := of_decide_eq_true (by first | (with_reducible assumption) | assumption)
                have q440 : x10_2 < (t420.length : Int) := of_decide_eq_true (by first | (with_reducible assumption) | assumption)
                obtain ⟨ad440, e440, hx440_0, hx440_1⟩ := at_T72 (Kd.R_reads' HO_5.out).2.2 x10_2 p440 q440
                cases e440
                replace p440 := eq_true p440
                replace q440 := eq_true q440
                have p441 : 0 ≤ (x10_2 : Int) := of_decide_eq_true (by first | (with_reducible assumption) | assumption)
                have q441 : x10_2 < (t420.length : Int) := of_decide_eq_true (by first | (with_reducible assumption) | assumption)
                obtain ⟨ad441, e441, hx441_0, hx441_1⟩ := at_T72 (Kd.R_reads' HO_5.out).2.2 x10_2 p441 q441
                obtain rfl : ad440 = ad441 := (by injection e441)
                replace p441 := eq_true p441
                replace q441 := eq_true q441
                go_wp2
                repeat (go_quiet (fail); try go_wp2)
                go_roundg k2
                case measure => have := HJ7.out; have := HK2.out; omega
                case rel => exact ⟨(x6_2), (x7_2), (x8_2), (x9_2), (wrap64 (x10_2 + 1)), (by first | rfl | (simp; done) | (simp [*]; done)), (by first | rfl | (simp; done) | (simp [*]; done)), (by first | rfl | (simp; done) | (simp [*]; done)), H', ⟨by have := HJ7.out; have := HK2.out; omega⟩, ⟨by (with_reducible repeat (first | apply Kd.R_alloc | apply Kd.R_drewN | apply Kd.R_drew)); exact HO_4.out⟩, ⟨by (with_reducible repeat (first | apply Kd.R_alloc | apply Kd.R_drewN | apply Kd.R_drew)); exact HO_5.out⟩, ⟨by (with_reducible repeat (first | apply Kd.R_alloc | apply Kd.R_drewN | apply Kd.R_drew)); exact HO_6.out⟩, ⟨by (with_reducible repeat (first | apply Kd.R_alloc | apply Kd.R_drewN | apply Kd.R_drew)); exact HO_7.out⟩, ⟨by (with_reducible repeat (first | refine blk_drewN ?_ _ | refine blk_drew ?_ | refine blk_alloc ?_ _)); exact BK419.out⟩, ⟨by exact lq HB.out⟩⟩
               ·rw [if_neg c48] at H
                have c48b0 : (((rd_T72 t420 x10_2).f1) == 0) = false := beq_eq_false_iff_ne.mpr c48
                have c48b1 : (((rd_T72 t420 x10_2).f1) != 0) = true := bne_iff_ne.mpr c48
                exact absurd H (by simp)
              ·rw [if_neg c47] at H
               have c47b0 : (((rd_T72 t420 x10_2).f0) == 1) = false := beq_eq_false_iff_ne.mpr c47
               have c47b1 : (((rd_T72 t420 x10_2).f0) != 1) = true := bne_iff_ne.mpr c47
               exact absurd H (by simp)
             ·rw [if_neg c46] at H
              have c46b0 : (x8_2 == (x6_2.length : Int)) = false := beq_eq_false_iff_ne.mpr c46
              have c46b1 : (x8_2 != (x6_2.length : Int)) = true := bne_iff_ne.mpr c46
              by_cases c50 : ((rd_T72 t420 x10_2).f0) = 0
              ·rw [if_pos c50] at H
               have c50b0 : (((rd_T72 t420 x10_2).f0) == 0) = true := beq_iff_eq.mpr c50
               have c50b1 : (((rd_T72 t420 x10_2).f0) != 0) = false := bne_eq_false_iff_eq.mpr c50
               clear c50
               by_cases c51 : 0 ≤ x8_2
               ·rw [if_pos c51] at H
                have c51b0 : decide (0 ≤ x8_2) = true := decide_eq_true c51
                clear c51
                by_cases c52 : x8_2 < (x6_2.length : Int)
                ·rw [if_pos c52] at H
                 have c52b0 : decide (x8_2 < (x6_2.length : Int)) = true := decide_eq_true c52
                 clear c52
                 by_cases c53 : ((rd_T72 t420 x10_2).f1) = (rd x6_2 x8_2)
                 ·rw [if_pos c53] at H
                  have c53b0 : (((rd_T72 t420 x10_2).f1) == (rd x6_2 x8_2)) = true := beq_iff_eq.mpr c53
                  have c53b1 : (((rd_T72 t420 x10_2).f1) != (rd x6_2 x8_2)) = false := bne_eq_false_iff_eq.mpr c53
                  clear c53
                  have H' := Aside0.mk H
                  clear H
                  have p433 : 0 ≤ (x10_2 : Int) := of_decide_eq_true (by first | (with_reducible assumption) | assumption)
                  have q433 : x10_2 < (t416.length : Int) := of_decide_eq_true (by first | (with_reducible assumption) | assumption)
                  obtain ⟨ad433, e433, hx433_0, hx433_1⟩ := at_T70 (Kd.R_reads' HO_4.out).2.2 x10_2 p433 q433
                  cases e433
                  replace p433 := eq_true p433
                  replace q433 := eq_true q433
                  obtain ⟨Ao54, co54, eo54⟩ := Kd.R_slice HO_6.out
                  subst eo54
                  have p442 : 0 ≤ (x10_2 : Int) := of_decide_eq_true (by first | (with_reducible assumption) | assumption)
                  have q442 : x10_2 < (t420.length : Int) := of_decide_eq_true (by first | (with_reducible assumption) | assumption)
                  obtain ⟨ad442, e442, hx442_0, hx442_1⟩ := at_T72 (Kd.R_reads' HO_5.out).2.2 x10_2 p442 q442
                  cases e442
                  replace p442 := eq_true p442
                  replace q442 := eq_true q442
                  have p443 : 0 ≤ (x10_2 : Int) := of_decide_eq_true (by first | (with_reducible assumption) | assumption)
                  have q443 : x10_2 < (t420.length : Int) := of_decide_eq_true (by first | (with_reducible assumption) | assumption)
                  obtain ⟨ad443, e443, hx443_0, hx443_1⟩ := at_T72 (Kd.R_reads' HO_5.out).2.2 x10_2 p443 q443
                  obtain rfl : ad442 = ad443 := (by injection e443)
                  replace p443 := eq_true p443
                  replace q443 := eq_true q443
                  have p444 : 0 ≤ (x8_2 : Int) := of_decide_eq_true (by first | (with_reducible assumption) | assumption)
                  have q444 : x8_2 < (x6_2.length : Int) := of_decide_eq_true (by first | (with_reducible assumption) | assumption)
                  obtain ⟨ad444, e444, hx444_0⟩ := Kd.at_int (Kd.R_reads' HO_6.out).2.2 x8_2 p444 q444
                  cases e444
                  replace p444 := eq_true p444
                  replace q444 := eq_true q444
                  go_wp2
                  repeat (go_quiet (fail); try go_wp2)
                  go_roundg k2
                  case measure => have := HJ7.out; have := HK2.out; omega
                  case rel => exact ⟨(x6_2), (x7_2), (wrap64 (x8_2 + 1)), (x9_2), (wrap64 (x10_2 + 1)), (by first | rfl | (simp; done) | (simp [*]; done)), (by first | rfl | (simp; done) | (simp [*]; done)), (by first | rfl | (simp; done) | (simp [*]; done)), H', ⟨by have := HJ7.out; have := HK2.out; omega⟩, ⟨by (with_reducible repeat (first | apply Kd.R_alloc | apply Kd.R_drewN | apply Kd.R_drew)); exact HO_4.out⟩, ⟨by (with_reducible repeat (first | apply Kd.R_alloc | apply Kd.R_drewN | apply Kd.R_drew)); exact HO_5.out⟩, ⟨by (with_reducible repeat (first | apply Kd.R_alloc | apply Kd.R_drewN | apply Kd.R_drew)); exact HO_6.out⟩, ⟨by (with_reducible repeat (first | apply Kd.R_alloc | apply Kd.R_drewN | apply Kd.R_drew)); exact HO_7.out⟩, ⟨by (with_reducible repeat (first | refine blk_drewN ?_ _ | refine blk_drew ?_ | refine blk_alloc ?_ _)); exact BK419.out⟩, ⟨by exact lq HB.out⟩⟩
                 ·rw [if_neg c53] at H
                  have c53b0 : (((rd_T72 t420 x10_2).f1) == (rd x6_2 x8_2)) = false := beq_eq_false_iff_ne.mpr c53
                  have c53b1 : (((rd_T72 t420 x10_2).f1) != (rd x6_2 x8_2)) = true := bne_iff_ne.mpr c53
                  exact absurd H (by simp)
                ·rw [if_neg c52] at H
                 exact absurd H (by simp)
               ·rw [if_neg c51] at H
                exact absurd H (by simp)
              ·rw [if_neg c50] at H
               have c50b0 : (((rd_T72 t420 x10_2).f0) == 0) = false := beq_eq_false_iff_ne.mpr c50
               have c50b1 : (((rd_T72 t420 x10_2).f0) != 0) = true := bne_iff_ne.mpr c50
               exact absurd H (by simp)
            ·rw [if_neg c45] at H
             have c45b0 : (((rd_T70 t416 x10_2).f0) == 1) = false := beq_eq_false_iff_ne.mpr c45
             have c45b1 : (((rd_T70 t416 x10_2).f0) != 1) = true := bne_iff_ne.mpr c45
             by_cases c55 : ((rd_T70 t416 x10_2).f0) = 2
             ·rw [if_pos c55] at H
              have c55b0 : (((rd_T70 t416 x10_2).f0) == 2) = true := beq_iff_eq.mpr c55
              have c55b1 : (((rd_T70 t416 x10_2).f0) != 2) = false := bne_eq_false_iff_eq.mpr c55
              clear c55
              by_cases c56 : x6_2.length + x7_2.length < 35184372088832
              ·rw [if_pos c56] at H
               have LMc56 := Aside0.mk c56
               clear c56
               obtain ⟨y445, hy445⟩ : ∃ y_ : List Int, y_ = (x6_2 ++ x7_2) := ⟨_, rfl⟩
               replace H : (laws_FnQueue.l0 k2 t416 t420 y445 (([] : List Int)) x8_2 (wrap64 ((y445.length : Int) - x8_2)) (wrap64 (x10_2 + 1)) t412 t413 t414 t415) = some true := by first | (rw [hy445]; with_reducible exact H) | (have H2_ := (Option.bind_some _ _).symm.trans H; rw [hy445]; with_reducible exact H2_) | (have H2_ := (Option.bind_some _ _).symm.trans H; with_reducible exact H2_) | with_reducible exact H | (rw [hy445]; exact H) | exact H
               have Ny445 := Aside0.mk hy445
               clear hy445
               obtain ⟨y448, hy448⟩ : ∃ y_ : List Int, y_ = (([] : List Int)) := ⟨_, rfl⟩
               replace H : (laws_FnQueue.l0 k2 t416 t420 y445 y448 x8_2 (wrap64 ((y445.length : Int) - x8_2)) (wrap64 (x10_2 + 1)) t412 t413 t414 t415) = some true := by first | (rw [hy448]; with_reducible exact H) | (have H2_ := (Option.bind_some _ _).symm.trans H; rw [hy448]; with_reducible exact H2_) | (have H2_ := (Option.bind_some _ _).symm.trans H; with_reducible exact H2_) | with_reducible exact H | (rw [hy448]; exact H) | exact H
               have Ny448 := Aside0.mk hy448
               clear hy448
               have H' := Aside0.mk H
               clear H
               have p433 : 0 ≤ (x10_2 : Int) := of_decide_eq_true (by first | (with_reducible assumption) | assumption)
               have q433 : x10_2 < (t416.length : Int) := of_decide_eq_true (by first | (with_reducible assumption) | assumption)
               obtain ⟨ad433, e433, hx433_0, hx433_1⟩ := at_T70 (Kd.R_reads' HO_4.out).2.2 x10_2 p433 q433
               cases e433
               replace p433 := eq_true p433
               replace q433 := eq_true q433
               obtain ⟨Ao58, co58, eo58⟩ := Kd.R_slice HO_7.out
               subst eo58
               go_wp2_with (first | ((with_reducible refine gate_builtin (b := .append) (xs := #[.tmp 132, .tmp 133]) rfl ?_); at_builtin; refine Kd.R_append_rows (Kd.int .u32) (w0 := w) w.heap.size rfl (.tmp 132) (.tmp 133) 24 46 (.int .u32 0) 4 rfl Try.underlying24 info46 rfl (by decide) (by omega) u6 x6_2 x7_2 _ _ _ (fun k_ => some k_ ≠ (.slice Ao58 x7_2.length co58 : Value).ownBlock) (fun _ => False) rfl rfl ?aO ?aR (fun _ _ h => h) (fun _ h => h.elim) ?aF ?aB ?aS ?aL ?_; (case aR => repeat (first | exact (Kd.R_reads' HO_7.out).2.2 | (with_reducible refine Kd.C_alloc ?_ _) | (with_reducible refine Kd.C_drewN ?_ _) | (with_reducible refine Kd.C_drew ?_))); (case aB => exact (lq HB.out)); (case aF => exact (fun k_ hk => Kd.fresh' (Kd.R_lt (rq HO_7.out)) k_ hk)); (case aO => exact (rq HO_6.out)); (case aS => exact (below_size (lq HB.out))); (case aL => have := LMc56.out; omega); intro v446 w57 ho hb hg hat; rw [← Ny445.out] at ho; have n0_ := Aside0.mk (Kd.R_over' (rq HO_4.out) (Kd.R_typed (rq HO_6.out)) (by decide) hg); have n1_ := Aside0.mk (Kd.R_over' (rq HO_5.out) (Kd.R_typed (rq HO_6.out)) (by decide) hg); have n2_ := Aside0.mk (Kd.R_after (ok := (fun _ => True)) (by (with_reducible repeat (first | apply Kd.R_alloc | apply Kd.R_drewN | apply Kd.R_drew)); exact Kd.R_mono HO_7.out (fun _ hk => ⟨trivial, hk⟩)) hg hat); have n3_ := Aside0.mk (blk_grown (g := gb419) (o := .cells #[.int .i64 t412, .int .i64 t413, .int .i64 t414, .int .i64 t415] 29 (0, 0)) (bq BK419.out) hg (Kd.R_ne HO_6.out BK419.out (by decide))); have n4_ := Aside0.mk (hb); have n5_ := Aside0.mk (ho); clear HO_4; clear HO_5; clear HO_7; clear BK419; clear HB; clear HO_6; have HO_4 := n0_; have HO_5 := n1_; have HO_7 := n2_; have BK419 := n3_; have HB := n4_; have HO447 := n5_; clear n0_ n1_ n2_ n3_ n4_ n5_; clear ho hb hg hat) | ((with_reducible refine gate_dst (N := 135) rfl ?_); refine Kd.R_lit (Kd.int .u32) _ 46 ?hg (N := 135) ?hd (xs := ([] : List Int)) (inner := []) (ok := fun _ => True) (okp := fun _ => True) ?hr ?hp (fun _ hk => hk) trivial (Below.refl _ _) (Nat.le_refl _) (by simp) ?_; (case hd => rfl); (case hg => rfl); (case hr => first | (go_simp; done) | (go_simp; rfl)); (case hp => exact (Reps.none _ _)); intro v449 w59 ho60 hb hg_ hnew_; clear hg_ hnew_; (first | rw [← Ny448.out] at ho60 | (simp only [Int.reduceToNat] at ho60; rw [← Ny448.out] at ho60)); have n0_ := Aside0.mk (Kd.R_below (rq HO_4.out) hb); have n1_ := Aside0.mk (Kd.R_below (rq HO_5.out) hb); have n2_ := Aside0.mk (Kd.R_elder' (rq HO_7.out) (Kd.R_base ho60) hb); have n3_ := Aside0.mk (Kd.R_elder' (rq HO447.out) (Kd.R_base ho60) hb); have n4_ := Aside0.mk (Kd.R_lower (Kd.R_new' (Kd.R_new' ho60 (Kd.R_lt (rq HO_7.out))) (Kd.R_lt (rq HO447.out))) (below_size (lq HB.out))); have n5_ := Aside0.mk (blk_below (bq BK419.out) hb); have n6_ := Aside0.mk (below_step (lq HB.out) hb); clear HO_4; clear HO_5; clear HO_7; clear HO447; clear BK419; clear HB; have HO_4 := n0_; have HO_5 := n1_; have HO_7 := n2_; have HO447 := n3_; have HO450 := n4_; have BK419 := n5_; have HB := n6_; clear n0_ n1_ n2_ n3_ n4_ n5_ n6_; clear hb ho60; obtain ⟨Ao61, co61, eo61⟩ := Kd.R_slice HO447.out; subst eo61))
               repeat (go_quiet (first | ((with_reducible refine gate_builtin (b := .append) (xs := #[.tmp 132, .tmp 133]) rfl ?_); at_builtin; refine Kd.R_append_rows (Kd.int .u32) (w0 := w) w.heap.size rfl (.tmp 132) (.tmp 133) 24 46 (.int .u32 0) 4 rfl Try.underlying24 info46 rfl (by decide) (by omega) u6 x6_2 x7_2 _ _ _ (fun k_ => some k_ ≠ (.slice Ao58 x7_2.length co58 : Value).ownBlock) (fun _ => False) rfl rfl ?aO ?aR (fun _ _ h => h) (fun _ h => h.elim) ?aF ?aB ?aS ?aL ?_; (case aR => repeat (first | exact (Kd.R_reads' HO_7.out).2.2 | (with_reducible refine Kd.C_alloc ?_ _) | (with_reducible refine Kd.C_drewN ?_ _) | (with_reducible refine Kd.C_drew ?_))); (case aB => exact (lq HB.out)); (case aF => exact (fun k_ hk => Kd.fresh' (Kd.R_lt (rq HO_7.out)) k_ hk)); (case aO => exact (rq HO_6.out)); (case aS => exact (below_size (lq HB.out))); (case aL => have := LMc56.out; omega); intro v446 w57 ho hb hg hat; rw [← Ny445.out] at ho; have n0_ := Aside0.mk (Kd.R_over' (rq HO_4.out) (Kd.R_typed (rq HO_6.out)) (by decide) hg); have n1_ := Aside0.mk (Kd.R_over' (rq HO_5.out) (Kd.R_typed (rq HO_6.out)) (by decide) hg); have n2_ := Aside0.mk (Kd.R_after (ok := (fun _ => True)) (by (with_reducible repeat (first | apply Kd.R_alloc | apply Kd.R_drewN | apply Kd.R_drew)); exact Kd.R_mono HO_7.out (fun _ hk => ⟨trivial, hk⟩)) hg hat); have n3_ := Aside0.mk (blk_grown (g := gb419) (o := .cells #[.int .i64 t412, .int .i64 t413, .int .i64 t414, .int .i64 t415] 29 (0, 0)) (bq BK419.out) hg (Kd.R_ne HO_6.out BK419.out (by decide))); have n4_ := Aside0.mk (hb); have n5_ := Aside0.mk (ho); clear HO_4; clear HO_5; clear HO_7; clear BK419; clear HB; clear HO_6; have HO_4 := n0_; have HO_5 := n1_; have HO_7 := n2_; have BK419 := n3_; have HB := n4_; have HO447 := n5_; clear n0_ n1_ n2_ n3_ n4_ n5_; clear ho hb hg hat) | ((with_reducible refine gate_dst (N := 135) rfl ?_); refine Kd.R_lit (Kd.int .u32) _ 46 ?hg (N := 135) ?hd (xs := ([] : List Int)) (inner := []) (ok := fun _ => True) (okp := fun _ => True) ?hr ?hp (fun _ hk => hk) trivial (Below.refl _ _) (Nat.le_refl _) (by simp) ?_; (case hd => rfl); (case hg => rfl); (case hr => first | (go_simp; done) | (go_simp; rfl)); (case hp => exact (Reps.none _ _)); intro v449 w59 ho60 hb hg_ hnew_; clear hg_ hnew_; (first | rw [← Ny448.out] at ho60 | (simp only [Int.reduceToNat] at ho60; rw [← Ny448.out] at ho60)); have n0_ := Aside0.mk (Kd.R_below (rq HO_4.out) hb); have n1_ := Aside0.mk (Kd.R_below (rq HO_5.out) hb); have n2_ := Aside0.mk (Kd.R_elder' (rq HO_7.out) (Kd.R_base ho60) hb); have n3_ := Aside0.mk (Kd.R_elder' (rq HO447.out) (Kd.R_base ho60) hb); have n4_ := Aside0.mk (Kd.R_lower (Kd.R_new' (Kd.R_new' ho60 (Kd.R_lt (rq HO_7.out))) (Kd.R_lt (rq HO447.out))) (below_size (lq HB.out))); have n5_ := Aside0.mk (blk_below (bq BK419.out) hb); have n6_ := Aside0.mk (below_step (lq HB.out) hb); clear HO_4; clear HO_5; clear HO_7; clear HO447; clear BK419; clear HB; have HO_4 := n0_; have HO_5 := n1_; have HO_7 := n2_; have HO447 := n3_; have HO450 := n4_; have BK419 := n5_; have HB := n6_; clear n0_ n1_ n2_ n3_ n4_ n5_ n6_; clear hb ho60; obtain ⟨Ao61, co61, eo61⟩ := Kd.R_slice HO447.out; subst eo61)); try go_wp2_with (first | ((with_reducible refine gate_builtin (b := .append) (xs := #[.tmp 132, .tmp 133]) rfl ?_); at_builtin; refine Kd.R_append_rows (Kd.int .u32) (w0 := w) w.heap.size rfl (.tmp 132) (.tmp 133) 24 46 (.int .u32 0) 4 rfl Try.underlying24 info46 rfl (by decide) (by omega) u6 x6_2 x7_2 _ _ _ (fun k_ => some k_ ≠ (.slice Ao58 x7_2.length co58 : Value).ownBlock) (fun _ => False) rfl rfl ?aO ?aR (fun _ _ h => h) (fun _ h => h.elim) ?aF ?aB ?aS ?aL ?_; (case aR => repeat (first | exact (Kd.R_reads' HO_7.out).2.2 | (with_reducible refine Kd.C_alloc ?_ _) | (with_reducible refine Kd.C_drewN ?_ _) | (with_reducible refine Kd.C_drew ?_))); (case aB => exact (lq HB.out)); (case aF => exact (fun k_ hk => Kd.fresh' (Kd.R_lt (rq HO_7.out)) k_ hk)); (case aO => exact (rq HO_6.out)); (case aS => exact (below_size (lq HB.out))); (case aL => have := LMc56.out; omega); intro v446 w57 ho hb hg hat; rw [← Ny445.out] at ho; have n0_ := Aside0.mk (Kd.R_over' (rq HO_4.out) (Kd.R_typed (rq HO_6.out)) (by decide) hg); have n1_ := Aside0.mk (Kd.R_over' (rq HO_5.out) (Kd.R_typed (rq HO_6.out)) (by decide) hg); have n2_ := Aside0.mk (Kd.R_after (ok := (fun _ => True)) (by (with_reducible repeat (first | apply Kd.R_alloc | apply Kd.R_drewN | apply Kd.R_drew)); exact Kd.R_mono HO_7.out (fun _ hk => ⟨trivial, hk⟩)) hg hat); have n3_ := Aside0.mk (blk_grown (g := gb419) (o := .cells #[.int .i64 t412, .int .i64 t413, .int .i64 t414, .int .i64 t415] 29 (0, 0)) (bq BK419.out) hg (Kd.R_ne HO_6.out BK419.out (by decide))); have n4_ := Aside0.mk (hb); have n5_ := Aside0.mk (ho); clear HO_4; clear HO_5; clear HO_7; clear BK419; clear HB; clear HO_6; have HO_4 := n0_; have HO_5 := n1_; have HO_7 := n2_; have BK419 := n3_; have HB := n4_; have HO447 := n5_; clear n0_ n1_ n2_ n3_ n4_ n5_; clear ho hb hg hat) | ((with_reducible refine gate_dst (N := 135) rfl ?_); refine Kd.R_lit (Kd.int .u32) _ 46 ?hg (N := 135) ?hd (xs := ([] : List Int)) (inner := []) (ok := fun _ => True) (okp := fun _ => True) ?hr ?hp (fun _ hk => hk) trivial (Below.refl _ _) (Nat.le_refl _) (by simp) ?_; (case hd => rfl); (case hg => rfl); (case hr => first | (go_simp; done) | (go_simp; rfl)); (case hp => exact (Reps.none _ _)); intro v449 w59 ho60 hb hg_ hnew_; clear hg_ hnew_; (first | rw [← Ny448.out] at ho60 | (simp only [Int.reduceToNat] at ho60; rw [← Ny448.out] at ho60)); have n0_ := Aside0.mk (Kd.R_below (rq HO_4.out) hb); have n1_ := Aside0.mk (Kd.R_below (rq HO_5.out) hb); have n2_ := Aside0.mk (Kd.R_elder' (rq HO_7.out) (Kd.R_base ho60) hb); have n3_ := Aside0.mk (Kd.R_elder' (rq HO447.out) (Kd.R_base ho60) hb); have n4_ := Aside0.mk (Kd.R_lower (Kd.R_new' (Kd.R_new' ho60 (Kd.R_lt (rq HO_7.out))) (Kd.R_lt (rq HO447.out))) (below_size (lq HB.out))); have n5_ := Aside0.mk (blk_below (bq BK419.out) hb); have n6_ := Aside0.mk (below_step (lq HB.out) hb); clear HO_4; clear HO_5; clear HO_7; clear HO447; clear BK419; clear HB; have HO_4 := n0_; have HO_5 := n1_; have HO_7 := n2_; have HO447 := n3_; have HO450 := n4_; have BK419 := n5_; have HB := n6_; clear n0_ n1_ n2_ n3_ n4_ n5_ n6_; clear hb ho60; obtain ⟨Ao61, co61, eo61⟩ := Kd.R_slice HO447.out; subst eo61)))
               go_roundg k2
               case measure => have := HJ7.out; have := HK2.out; omega
               case rel => exact ⟨(y445), (y448), (x8_2), (wrap64 ((y445.length : Int) - x8_2)), (wrap64 (x10_2 + 1)), (by first | rfl | (simp; done) | (simp [*]; done)), (by first | rfl | (simp; done) | (simp [*]; done)), (by first | rfl | (simp; done) | (simp [*]; done)), H', ⟨by have := HJ7.out; have := HK2.out; omega⟩, ⟨by (with_reducible repeat (first | apply Kd.R_alloc | apply Kd.R_drewN | apply Kd.R_drew)); exact HO_4.out⟩, ⟨by (with_reducible repeat (first | apply Kd.R_alloc | apply Kd.R_drewN | apply Kd.R_drew)); exact HO_5.out⟩, ⟨by (with_reducible repeat (first | apply Kd.R_alloc | apply Kd.R_drewN | apply Kd.R_drew)); exact Kd.R_mono HO447.out (fun _ hk => hk.2)⟩, ⟨by (with_reducible repeat (first | apply Kd.R_alloc | apply Kd.R_drewN | apply Kd.R_drew)); exact Kd.R_mono HO450.out (fun _ hk => hk.2)⟩, ⟨by (with_reducible repeat (first | refine blk_drewN ?_ _ | refine blk_drew ?_ | refine blk_alloc ?_ _)); exact BK419.out⟩, ⟨by exact lq HB.out⟩⟩
              ·rw [if_neg c56] at H
               exact absurd H (by simp)
             ·rw [if_neg c55] at H
              have c55b0 : (((rd_T70 t416 x10_2).f0) == 2) = false := beq_eq_false_iff_ne.mpr c55
              have c55b1 : (((rd_T70 t416 x10_2).f0) != 2) = true := bne_iff_ne.mpr c55
              obtain ⟨y451, hy451⟩ : ∃ y_ : List Int, y_ = (([] : List Int)) := ⟨_, rfl⟩
              replace H : (laws_FnQueue.l0 k2 t416 t420 x6_2 y451 x8_2 x9_2 (wrap64 (x10_2 + 1)) t412 t413 t414 t415) = some true := by first | (rw [hy451]; with_reducible exact H) | (have H2_ := (Option.bind_some _ _).symm.trans H; rw [hy451]; with_reducible exact H2_) | (have H2_ := (Option.bind_some _ _).symm.trans H; with_reducible exact H2_) | with_reducible exact H | (rw [hy451]; exact H) | exact H
              have Ny451 := Aside0.mk hy451
              clear hy451
              have H' := Aside0.mk H
              clear H
              have p433 : 0 ≤ (x10_2 : Int) := of_decide_eq_true (by first | (with_reducible assumption) | assumption)
              have q433 : x10_2 < (t416.length : Int) := of_decide_eq_true (by first | (with_reducible assumption) | assumption)
              obtain ⟨ad433, e433, hx433_0, hx433_1⟩ := at_T70 (Kd.R_reads' HO_4.out).2.2 x10_2 p433 q433
              cases e433
              replace p433 := eq_true p433
              replace q433 := eq_true q433
              go_wp2_with (first | ((with_reducible refine gate_dst (N := 50) rfl ?_); refine Kd.R_lit (Kd.int .u32) _ 46 ?hg (N := 50) ?hd (xs := ([] : List Int)) (inner := []) (ok := fun _ => True) (okp := fun _ => True) ?hr ?hp (fun _ hk => hk) trivial (Below.refl _ _) (Nat.le_refl _) (by simp) ?_; (case hd => rfl); (case hg => rfl); (case hr => first | (go_simp; done) | (go_simp; rfl)); (case hp => exact (Reps.none _ _)); intro v452 w62 ho63 hb hg_ hnew_; clear hg_ hnew_; (first | rw [← Ny451.out] at ho63 | (simp only [Int.reduceToNat] at ho63; rw [← Ny451.out] at ho63)); have n0_ := Aside0.mk (Kd.R_below (rq HO_4.out) hb); have n1_ := Aside0.mk (Kd.R_below (rq HO_5.out) hb); have n2_ := Aside0.mk (Kd.R_elder' (rq HO_6.out) (Kd.R_base ho63) hb); have n3_ := Aside0.mk (Kd.R_elder' (rq HO_7.out) (Kd.R_base ho63) hb); have n4_ := Aside0.mk (Kd.R_lower (Kd.R_new' (Kd.R_new' ho63 (Kd.R_lt (rq HO_6.out))) (Kd.R_lt (rq HO_7.out))) (below_size (lq HB.out))); have n5_ := Aside0.mk (blk_below (bq BK419.out) hb); have n6_ := Aside0.mk (below_step (lq HB.out) hb); clear HO_4; clear HO_5; clear HO_6; clear HO_7; clear BK419; clear HB; have HO_4 := n0_; have HO_5 := n1_; have HO_6 := n2_; have HO_7 := n3_; have HO453 := n4_; have BK419 := n5_; have HB := n6_; clear n0_ n1_ n2_ n3_ n4_ n5_ n6_; clear hb ho63))
              repeat (go_quiet (first | ((with_reducible refine gate_dst (N := 50) rfl ?_); refine Kd.R_lit (Kd.int .u32) _ 46 ?hg (N := 50) ?hd (xs := ([] : List Int)) (inner := []) (ok := fun _ => True) (okp := fun _ => True) ?hr ?hp (fun _ hk => hk) trivial (Below.refl _ _) (Nat.le_refl _) (by simp) ?_; (case hd => rfl); (case hg => rfl); (case hr => first | (go_simp; done) | (go_simp; rfl)); (case hp => exact (Reps.none _ _)); intro v452 w62 ho63 hb hg_ hnew_; clear hg_ hnew_; (first | rw [← Ny451.out] at ho63 | (simp only [Int.reduceToNat] at ho63; rw [← Ny451.out] at ho63)); have n0_ := Aside0.mk (Kd.R_below (rq HO_4.out) hb); have n1_ := Aside0.mk (Kd.R_below (rq HO_5.out) hb); have n2_ := Aside0.mk (Kd.R_elder' (rq HO_6.out) (Kd.R_base ho63) hb); have n3_ := Aside0.mk (Kd.R_elder' (rq HO_7.out) (Kd.R_base ho63) hb); have n4_ := Aside0.mk (Kd.R_lower (Kd.R_new' (Kd.R_new' ho63 (Kd.R_lt (rq HO_6.out))) (Kd.R_lt (rq HO_7.out))) (below_size (lq HB.out))); have n5_ := Aside0.mk (blk_below (bq BK419.out) hb); have n6_ := Aside0.mk (below_step (lq HB.out) hb); clear HO_4; clear HO_5; clear HO_6; clear HO_7; clear BK419; clear HB; have HO_4 := n0_; have HO_5 := n1_; have HO_6 := n2_; have HO_7 := n3_; have HO453 := n4_; have BK419 := n5_; have HB := n6_; clear n0_ n1_ n2_ n3_ n4_ n5_ n6_; clear hb ho63)); try go_wp2_with (first | ((with_reducible refine gate_dst (N := 50) rfl ?_); refine Kd.R_lit (Kd.int .u32) _ 46 ?hg (N := 50) ?hd (xs := ([] : List Int)) (inner := []) (ok := fun _ => True) (okp := fun _ => True) ?hr ?hp (fun _ hk => hk) trivial (Below.refl _ _) (Nat.le_refl _) (by simp) ?_; (case hd => rfl); (case hg => rfl); (case hr => first | (go_simp; done) | (go_simp; rfl)); (case hp => exact (Reps.none _ _)); intro v452 w62 ho63 hb hg_ hnew_; clear hg_ hnew_; (first | rw [← Ny451.out] at ho63 | (simp only [Int.reduceToNat] at ho63; rw [← Ny451.out] at ho63)); have n0_ := Aside0.mk (Kd.R_below (rq HO_4.out) hb); have n1_ := Aside0.mk (Kd.R_below (rq HO_5.out) hb); have n2_ := Aside0.mk (Kd.R_elder' (rq HO_6.out) (Kd.R_base ho63) hb); have n3_ := Aside0.mk (Kd.R_elder' (rq HO_7.out) (Kd.R_base ho63) hb); have n4_ := Aside0.mk (Kd.R_lower (Kd.R_new' (Kd.R_new' ho63 (Kd.R_lt (rq HO_6.out))) (Kd.R_lt (rq HO_7.out))) (below_size (lq HB.out))); have n5_ := Aside0.mk (blk_below (bq BK419.out) hb); have n6_ := Aside0.mk (below_step (lq HB.out) hb); clear HO_4; clear HO_5; clear HO_6; clear HO_7; clear BK419; clear HB; have HO_4 := n0_; have HO_5 := n1_; have HO_6 := n2_; have HO_7 := n3_; have HO453 := n4_; have BK419 := n5_; have HB := n6_; clear n0_ n1_ n2_ n3_ n4_ n5_ n6_; clear hb ho63)))
              go_roundg k2
              case measure => have := HJ7.out; have := HK2.out; omega
              case rel => exact ⟨(x6_2), (y451), (x8_2), (x9_2), (wrap64 (x10_2 + 1)), (by first | rfl | (simp; done) | (simp [*]; done)), (by first | rfl | (simp; done) | (simp [*]; done)), (by first | rfl | (simp; done) | (simp [*]; done)), H', ⟨by have := HJ7.out; have := HK2.out; omega⟩, ⟨by (with_reducible repeat (first | apply Kd.R_alloc | apply Kd.R_drewN | apply Kd.R_drew)); exact HO_4.out⟩, ⟨by (with_reducible repeat (first | apply Kd.R_alloc | apply Kd.R_drewN | apply Kd.R_drew)); exact HO_5.out⟩, ⟨by (with_reducible repeat (first | apply Kd.R_alloc | apply Kd.R_drewN | apply Kd.R_drew)); exact Kd.R_mono HO_6.out (fun _ hk => hk.2)⟩, ⟨by (with_reducible repeat (first | apply Kd.R_alloc | apply Kd.R_drewN | apply Kd.R_drew)); exact Kd.R_mono HO453.out (fun _ hk => hk.1.2)⟩, ⟨by (with_reducible repeat (first | refine blk_drewN ?_ _ | refine blk_drew ?_ | refine blk_alloc ?_ _)); exact BK419.out⟩, ⟨by exact lq HB.out⟩⟩
          ·rw [if_neg c32] at H
           exact absurd H (by simp)
         ·rw [if_neg c31] at H
          exact absurd H (by simp)
        ·rw [if_neg c30] at H
         have c30b0 : decide (x10_2 < (t420.length : Int)) = false := decide_eq_false c30
         clear c30
         clear H
         go_wp2
         repeat (go_quiet (fail); try go_wp2)
         go_ret
         exact ⟨by first | rfl | (simp [errW_none, errW_some] <;> rfl) | (simp [*, errW_none, errW_some] <;> rfl), by exact lq HB.out⟩
  ·rw [if_neg c7] at H
   have c7b0 : ((t420.length : Int) == (t423.length : Int)) = false := beq_eq_false_iff_ne.mpr c7
   have c7b1 : ((t420.length : Int) != (t423.length : Int)) = true := bne_iff_ne.mpr c7
   have c7b2 : (t420.length == t423.length) = false := by first | simpa using c7 | (simp at c7 ⊢; omega)
   exact absurd H (by simp)

end Go.Proofs.Ytioifcanipijhaa.GK
