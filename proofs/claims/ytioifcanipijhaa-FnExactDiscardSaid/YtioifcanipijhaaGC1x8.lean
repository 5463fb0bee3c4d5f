/- Told by a program of this session, out of the translation: each function of the group as a plain Lean function, and that Go's call comes to just its answer. Lean checks it. -/
import Derived.Test.YtioifcanipijhaaGC1x0
import Derived.Test.YtioifcanipijhaaGC1x1
import Derived.Test.YtioifcanipijhaaGC1x3
import Derived.Test.YtioifcanipijhaaGC1x5
import Derived.Test.YtioifcanipijhaaGC1x6
import Derived.Test.YtioifcanipijhaaGC1x7
namespace Go.Proofs.Ytioifcanipijhaa.GC1
open Go.RowKit Go.Proofs.YtioifcanipijhaaW.PrintWords Go.Proofs.YtioifcanipijhaaW.PrintLast Go.Proofs.YtioifcanipijhaaW.PrintMore Go.Proofs.Ytioifcanipijhaa.Q
attribute [local go_sem] max2_int min2_int max_two min_two max_three min_three max_four min_four   -- for this text's walks alone
set_option linter.unusedVariables false
set_option linter.unusedSimpArgs false

/-! ### laws_FnExactDiscard: function 6 -/
def laws_FnExactDiscard.j0 : Nat → Bool → Int → Int → Int → Int → Int → List Int → Int → List Int → Int → List Int → Option (Bool)
 | 0, _, _, _, _, _, _, _, _, _, _, _ => none
 | k + 1, x48, x269000, x269001, x269002, x269003, x270000, x270001, x284000, x284001, x298000, x298001 => if x48 = true then (some false) else ((laws_markOutEnd.f k x298000 x298001 1).bind fun bt307 => ((laws_heldOutEnd.f k x298000 bt307.2 1).bind fun t309 => (if t309 < 0 then (some false) else (if t309 = bt307.1 then ((laws_toChanRow.f x269000 x269001 x269002 x269003).bind fun bt310 => ((laws_toOutEnd.f k x270000 x270001).bind fun bt314 => ((impl_Discard.f bt310.1 bt310.2.1 bt310.2.2.1 bt310.2.2.2 bt314.1 bt314.2).bind fun bt318 => ((laws_eqOutEnd.f k bt318.1 bt318.2 x284000 x284001).bind fun t323 => (if t323 = true then ((laws_heldOutEnd.f k x298000 bt307.2 1).bind fun t324 => (if t324 < 0 then (some false) else (if t324 = bt307.1 then (some true) else (some false)))) else (some false)))))) else (some false)))))
def laws_FnExactDiscard.f (k : Nat) (a0_0 : Int) (a0_1 : Int) (a0_2 : Int) (a0_3 : Int) (a1_0 : Int) (l1_1 : List Int) : Option (Bool) := (laws_szOutEnd.f a1_0 l1_1 1048576).bind fun t270 => (if t270 < 0 then (some true) else ((laws_toChanRow.f a0_0 a0_1 a0_2 a0_3).bind fun bt271 => ((laws_toOutEnd.f k a1_0 l1_1).bind fun bt275 => ((spec_Discard.f bt271.1 bt271.2.1 bt271.2.2.1 bt271.2.2.2 bt275.1 bt275.2).bind fun bt279 => ((laws_toOutEnd.f k a1_0 l1_1).bind fun bt284 => ((laws_toChanRow.f a0_0 a0_1 a0_2 a0_3).bind fun bt289 => ((impl_Discard.f bt289.1 bt289.2.1 bt289.2.2.1 bt289.2.2.2 bt284.1 bt284.2).bind fun bt293 => ((laws_eqOutEnd.f k bt293.1 bt293.2 bt279.1 bt279.2).bind fun t298 => (if t298 = true then ((laws_toOutEnd.f k a1_0 l1_1).bind fun bt299 => ((laws_eqOutEnd.f k bt284.1 bt284.2 bt299.1 bt299.2).bind fun t303 => (if t303 = true then ((laws_markOutEnd.f k bt284.1 bt284.2 1).bind fun bt304 => (if bt304.1 < 0 then (laws_FnExactDiscard.j0 k true a0_0 a0_1 a0_2 a0_3 a1_0 l1_1 bt279.1 bt279.2 bt293.1 bt293.2) else ((laws_eqOutEnd.f k bt293.1 bt293.2 bt279.1 bt279.2).bind fun t306 => (laws_FnExactDiscard.j0 k (!t306) a0_0 a0_1 a0_2 a0_3 a1_0 l1_1 bt279.1 bt279.2 bt293.1 bt293.2)))) else (some false)))) else (some false))))))))))
theorem laws_FnExactDiscard.mono_l : ∀ k, (∀ y0 y1 y2 y3 y4 y5 y6 y7 y8 y9 y10, LeO (laws_FnExactDiscard.j0 k y0 y1 y2 y3 y4 y5 y6 y7 y8 y9 y10) (laws_FnExactDiscard.j0 (k + 1) y0 y1 y2 y3 y4 y5 y6 y7 y8 y9 y10))
 | 0 => fun _ _ _ _ _ _ _ _ _ _ _ r h => by simp [laws_FnExactDiscard.j0] at h
 | k + 1 => by
  have ih0 := laws_FnExactDiscard.mono_l k
  ·intro y0 y1 y2 y3 y4 y5 y6 y7 y8 y9 y10
   unfold laws_FnExactDiscard.j0
   repeat' first
   | (with_reducible exact ih0 _ _ _ _ _ _ _ _ _ _ _)
   | (with_reducible exact laws_eqOutEnd.mono _ _ _ _ _)
   | (with_reducible exact laws_heldOutEnd.mono _ _ _ _)
   | (with_reducible exact laws_markOutEnd.mono _ _ _ _)
   | (with_reducible exact laws_toOutEnd.mono _ _ _)
   | (with_reducible exact LeO.refl _)
   | (with_reducible exact LeO.none _)
   | (with_reducible refine LeO.ite ?_ ?_)
   | (with_reducible refine LeO.bind ?_ (fun _ => ?_))
   | exact ih0 _ _ _ _ _ _ _ _ _ _ _
   | exact laws_eqOutEnd.mono _ _ _ _ _
   | exact laws_heldOutEnd.mono _ _ _ _
   | exact laws_markOutEnd.mono _ _ _ _
   | exact laws_toOutEnd.mono _ _ _
   | exact LeO.none _
   | refine LeO.ite ?_ ?_
   | refine LeO.bind ?_ (fun _ => ?_)
theorem laws_FnExactDiscard.mono : ∀ a0 a1 a2 a3 a4 a5 k, LeO (laws_FnExactDiscard.f k a0 a1 a2 a3 a4 a5) (laws_FnExactDiscard.f (k + 1) a0 a1 a2 a3 a4 a5) := by
 intro a0 a1 a2 a3 a4 a5 k
 have ih0 := laws_FnExactDiscard.mono_l k
 unfold laws_FnExactDiscard.f
 repeat' first
   | (with_reducible exact ih0 _ _ _ _ _ _ _ _ _ _ _)
   | (with_reducible exact laws_eqOutEnd.mono _ _ _ _ _)
   | (with_reducible exact laws_heldOutEnd.mono _ _ _ _)
   | (with_reducible exact laws_markOutEnd.mono _ _ _ _)
   | (with_reducible exact laws_toOutEnd.mono _ _ _)
   | (with_reducible exact LeO.refl _)
   | (with_reducible exact LeO.none _)
   | (with_reducible refine LeO.ite ?_ ?_)
   | (with_reducible refine LeO.bind ?_ (fun _ => ?_))
   | exact ih0 _ _ _ _ _ _ _ _ _ _ _
   | exact laws_eqOutEnd.mono _ _ _ _ _
   | exact laws_heldOutEnd.mono _ _ _ _
   | exact laws_markOutEnd.mono _ _ _ _
   | exact laws_toOutEnd.mono _ _ _
   | exact LeO.none _
   | refine LeO.ite ?_ ?_
   | refine LeO.bind ?_ (fun _ => ?_)
set_option maxHeartbeats 8000000 in
set_option maxRecDepth 100000 in
theorem laws_FnExactDiscard.calls (k : Nat) (a0_0 : Int) (a0_1 : Int) (a0_2 : Int) (a0_3 : Int) (a1_0 : Int) (A1_1 : Option Addr) (c1_1 : Nat) (l1_1 : List Int) (w : World) (hr1_1 : Kd.C (Kd.int .u32) w A1_1 l1_1.length l1_1) (hc1_1 : l1_1.length ≤ c1_1) (h : laws_FnExactDiscard.f k a0_0 a0_1 a0_2 a0_3 a1_0 l1_1 = some true) :
  Calls Try.prog 6 #[.agg #[.int .i64 a0_0, .int .i64 a0_1, .int .i64 a0_2, .int .i64 a0_3], .agg #[.int .i64 a1_0, .slice A1_1 l1_1.length c1_1]] w fun e w' => e = .returned (.bool true) ∧ Below w.heap.size w w' := by
 have hu23 := Try.underlying23
 have hu36 := Try.underlying36
 have hu39 := Try.underlying39
 have HR1_1 := Aside0.mk hr1_1
 have HC1_1 := Aside0.mk hc1_1
 clear hr1_1 hc1_1
 have HB := Aside0.mk (Below.refl w.heap.size w)
 have H : ((laws_szOutEnd.f a1_0 l1_1 1048576).bind fun t270 => (if t270 < 0 then (some true) else ((laws_toChanRow.f a0_0 a0_1 a0_2 a0_3).bind fun bt271 => ((laws_toOutEnd.f k a1_0 l1_1).bind fun bt275 => ((spec_Discard.f bt271.1 bt271.2.1 bt271.2.2.1 bt271.2.2.2 bt275.1 bt275.2).bind fun bt279 => ((laws_toOutEnd.f k a1_0 l1_1).bind fun bt284 => ((laws_toChanRow.f a0_0 a0_1 a0_2 a0_3).bind fun bt289 => ((impl_Discard.f bt289.1 bt289.2.1 bt289.2.2.1 bt289.2.2.2 bt284.1 bt284.2).bind fun bt293 => ((laws_eqOutEnd.f k bt293.1 bt293.2 bt279.1 bt279.2).bind fun t298 => (if t298 = true then ((laws_toOutEnd.f k a1_0 l1_1).bind fun bt299 => ((laws_eqOutEnd.f k bt284.1 bt284.2 bt299.1 bt299.2).bind fun t303 => (if t303 = true then ((laws_markOutEnd.f k bt284.1 bt284.2 1).bind fun bt304 => (if bt304.1 < 0 then (laws_FnExactDiscard.j0 k true a0_0 a0_1 a0_2 a0_3 a1_0 l1_1 bt279.1 bt279.2 bt293.1 bt293.2) else ((laws_eqOutEnd.f k bt293.1 bt293.2 bt279.1 bt279.2).bind fun t306 => (laws_FnExactDiscard.j0 k (!t306) a0_0 a0_1 a0_2 a0_3 a1_0 l1_1 bt279.1 bt279.2 bt293.1 bt293.2)))) else (some false)))) else (some false))))))))))) = some true := h
 clear h
 replace H := Option.bind_eq_some_iff.mp H
 obtain ⟨t270, A30, H⟩ := H
 (try dsimp only at H)
 have A3 := Aside0.mk A30
 clear A30
 by_cases c4 : t270 < 0
 ·rw [if_pos c4] at H
  have c4b0 : decide (t270 < 0) = true := decide_eq_true c4
  clear c4
  clear H
  go_enter Try.func6, Try.ntmps6
  go_wp2_with (first | ((with_reducible refine gate_dst (N := 2) rfl ?_); refine box_event ?hg (N := 2) ?hd (cs := #[.int .i64 a0_0, .int .i64 a0_1, .int .i64 a0_2, .int .i64 a0_3]) (t := 23) ?hr ?_; (case hd => rfl); (case hg => rfl); (case hr => first | (go_simp; done) | (go_simp; rfl)); intro gb268 hg w5 hbox hb; have n0_ := Aside0.mk (below_step (lq HB.out) hb); have n1_ := Aside0.mk (hbox); have n2_ := Aside0.mk ((ge_new hg (lq HB.out) : w.heap.size ≤ gb268)); have n3_ := Aside0.mk ((ge_new hg (lq HB.out) : w.heap.size ≤ gb268)); clear HB; have HB := n0_; have BK268 := n1_; have GW268 := n2_; have GE268 := n3_; clear n0_ n1_ n2_ n3_; clear hb hbox hg) | ((with_reducible refine gate_dst (N := 3) rfl ?_); refine box_event ?hg (N := 3) ?hd (cs := #[.int .i64 a1_0, .slice A1_1 l1_1.length c1_1]) (t := 36) ?hr ?_; (case hd => rfl); (case hg => rfl); (case hr => first | (go_simp; done) | (go_simp; rfl)); intro gb269 hg w6 hbox hb; have n0_ := Aside0.mk (blk_below (bq BK268.out) hb); have n1_ := Aside0.mk (below_step (lq HB.out) hb); have n2_ := Aside0.mk (hbox); have n3_ := Aside0.mk ((ge_new hg (lq HB.out) : w.heap.size ≤ gb269)); have n4_ := Aside0.mk ((ge_new hg (lq HB.out) : w.heap.size ≤ gb269)); have n5_ := Aside0.mk ((ne_new hg (bq BK268.out) : gb268 ≠ gb269)); have n6_ := Aside0.mk ((new_ne hg (bq BK268.out) : gb269 ≠ gb268)); clear BK268; clear HB; have BK268 := n0_; have HB := n1_; have BK269 := n2_; have GW269 := n3_; have GE269 := n4_; have NB268_269 := n5_; have NB269_268 := n6_; clear n0_ n1_ n2_ n3_ n4_ n5_ n6_; clear hb hbox hg; have hnb7 := NB269_268.out; have hnc7 := NB268_269.out; have hcz8_0 : w6.cell? ⟨gb269, 0, none⟩ = some (.int .i64 a1_0) := (blk_cell BK269.out 0).trans rfl; have hcz8_1 : w6.cell? ⟨gb269, 1, none⟩ = some (.slice A1_1 l1_1.length c1_1) := (blk_cell BK269.out 1).trans rfl; have hfz8_0 := blk_frozen BK269.out 0; have hfz8_1 := blk_frozen BK269.out 1) | ((with_reducible refine gate_callee (f := 20) rfl ?_); refine goesL_ (some 15) rfl rfl Try.func20 (by kernel_rfl) rfl #[.agg #[.int .i64 a1_0, .slice A1_1 l1_1.length c1_1], .int .i64 1048576] rfl (by (try simp only [List.map_toArray, List.map_cons, List.map_nil]); first | done | rfl | (simp only [List.length_drop, List.length_take]; rfl)) ?_; (with_reducible refine (laws_szOutEnd.calls a1_0 _ _ l1_1 1048576 t270 _ ?side1 ?side2 A3.out).mono ?_); (case side1 => repeat (first | exact (Kd.C_below HR1_1.out HB.out) | (with_reducible refine Kd.C_alloc ?_ _) | (with_reducible refine Kd.C_drewN ?_ _) | (with_reducible refine Kd.C_drew ?_))); (case side2 => exact HC1_1.out); rintro e w9 ⟨rfl, hb⟩; refine ⟨_, rfl, ?_⟩; have n0_ := Aside0.mk (blk_below (bq BK268.out) hb); have n1_ := Aside0.mk (blk_below (bq BK269.out) hb); have n2_ := Aside0.mk (below_step (lq HB.out) hb); clear BK268; clear BK269; clear HB; have BK268 := n0_; have BK269 := n1_; have HB := n2_; clear n0_ n1_ n2_; (try clear hb); (try clear hb2); (try clear hk); (try clear hi)))
  go_ret
  exact ⟨by first | rfl | (simp [errW_none, errW_some] <;> rfl) | (simp [*, errW_none, errW_some] <;> rfl), by exact lq HB.out⟩
 ·rw [if_neg c4] at H
  have c4b0 : decide (t270 < 0) = false := decide_eq_false c4
  clear c4
  replace H := Option.bind_eq_some_iff.mp H
  obtain ⟨⟨t271, t272, t273, t274⟩, A100, H⟩ := H
  (try dsimp only at H)
  have A10 := Aside0.mk A100
  clear A100
  replace H := Option.bind_eq_some_iff.mp H
  obtain ⟨⟨t275, t276⟩, A110, H⟩ := H
  (try dsimp only at H)
  have A11 := Aside0.mk A110
  clear A110
  replace H := Option.bind_eq_some_iff.mp H
  obtain ⟨⟨t279, t280⟩, A120, H⟩ := H
  (try dsimp only at H)
  have A12 := Aside0.mk A120
  clear A120
  replace H := Option.bind_eq_some_iff.mp H
  obtain ⟨⟨t284, t285⟩, A130, H⟩ := H
  (try dsimp only at H)
  have A13 := Aside0.mk A130
  clear A130
  replace H := Option.bind_eq_some_iff.mp H
  obtain ⟨⟨t289, t290, t291, t292⟩, A140, H⟩ := H
  (try dsimp only at H)
  have A14 := Aside0.mk A140
  clear A140
  replace H := Option.bind_eq_some_iff.mp H
  obtain ⟨⟨t293, t294⟩, A150, H⟩ := H
  (try dsimp only at H)
  have A15 := Aside0.mk A150
  clear A150
  replace H := Option.bind_eq_some_iff.mp H
  obtain ⟨t298, A160, H⟩ := H
  (try dsimp only at H)
  have A16 := Aside0.mk A160
  clear A160
  by_cases c17 : t298 = true
  ·subst c17
   rw [if_pos rfl] at H
   replace H := Option.bind_eq_some_iff.mp H
   obtain ⟨⟨t299, t300⟩, A180, H⟩ := H
   (try dsimp only at H)
   have A18 := Aside0.mk A180
   clear A180
   replace H := Option.bind_eq_some_iff.mp H
   obtain ⟨t303, A190, H⟩ := H
   (try dsimp only at H)
   have A19 := Aside0.mk A190
   clear A190
   by_cases c20 : t303 = true
   ·subst c20
    rw [if_pos rfl] at H
    replace H := Option.bind_eq_some_iff.mp H
    obtain ⟨⟨t304, t305⟩, A210, H⟩ := H
    (try dsimp only at H)
    have A21 := Aside0.mk A210
    clear A210
    have HC22 := Aside0.mk H
    clear H
    go_enter Try.func6, Try.ntmps6
    try go_wp2_with (first | ((with_reducible refine gate_dst (N := 2) rfl ?_); refine box_event ?hg (N := 2) ?hd (cs := #[.int .i64 a0_0, .int .i64 a0_1, .int .i64 a0_2, .int .i64 a0_3]) (t := 23) ?hr ?_; (case hd => rfl); (case hg => rfl); (case hr => first | (go_simp; done) | (go_simp; rfl)); intro gb268 hg w23 hbox hb; have n0_ := Aside0.mk (below_step (lq HB.out) hb); have n1_ := Aside0.mk (hbox); have n2_ := Aside0.mk ((ge_new hg (lq HB.out) : w.heap.size ≤ gb268)); have n3_ := Aside0.mk ((ge_new hg (lq HB.out) : w.heap.size ≤ gb268)); clear HB; have HB := n0_; have BK268 := n1_; have GW268 := n2_; have GE268 := n3_; clear n0_ n1_ n2_ n3_; clear hb hbox hg) | ((with_reducible refine gate_dst (N := 3) rfl ?_); refine box_event ?hg (N := 3) ?hd (cs := #[.int .i64 a1_0, .slice A1_1 l1_1.length c1_1]) (t := 36) ?hr ?_; (case hd => rfl); (case hg => rfl); (case hr => first | (go_simp; done) | (go_simp; rfl)); intro gb269 hg w24 hbox hb; have n0_ := Aside0.mk (blk_below (bq BK268.out) hb); have n1_ := Aside0.mk (below_step (lq HB.out) hb); have n2_ := Aside0.mk (hbox); have n3_ := Aside0.mk ((ge_new hg (lq HB.out) : w.heap.size ≤ gb269)); have n4_ := Aside0.mk ((ge_new hg (lq HB.out) : w.heap.size ≤ gb269)); have n5_ := Aside0.mk ((ne_new hg (bq BK268.out) : gb268 ≠ gb269)); have n6_ := Aside0.mk ((new_ne hg (bq BK268.out) : gb269 ≠ gb268)); clear BK268; clear HB; have BK268 := n0_; have HB := n1_; have BK269 := n2_; have GW269 := n3_; have GE269 := n4_; have NB268_269 := n5_; have NB269_268 := n6_; clear n0_ n1_ n2_ n3_ n4_ n5_ n6_; clear hb hbox hg; have hnb25 := NB269_268.out; have hnc25 := NB268_269.out; have hcz26_0 : w24.cell? ⟨gb269, 0, none⟩ = some (.int .i64 a1_0) := (blk_cell BK269.out 0).trans rfl; have hcz26_1 : w24.cell? ⟨gb269, 1, none⟩ = some (.slice A1_1 l1_1.length c1_1) := (blk_cell BK269.out 1).trans rfl; have hfz26_0 := blk_frozen BK269.out 0; have hfz26_1 := blk_frozen BK269.out 1) | ((with_reducible refine gate_callee (f := 20) rfl ?_); refine goesL_ (some 15) rfl rfl Try.func20 (by kernel_rfl) rfl #[.agg #[.int .i64 a1_0, .slice A1_1 l1_1.length c1_1], .int .i64 1048576] rfl (by (try simp only [List.map_toArray, List.map_cons, List.map_nil]); first | done | rfl | (simp only [List.length_drop, List.length_take]; rfl)) ?_; (with_reducible refine (laws_szOutEnd.calls a1_0 _ _ l1_1 1048576 t270 _ ?side1 ?side2 A3.out).mono ?_); (case side1 => repeat (first | exact (Kd.C_below HR1_1.out HB.out) | (with_reducible refine Kd.C_alloc ?_ _) | (with_reducible refine Kd.C_drewN ?_ _) | (with_reducible refine Kd.C_drew ?_))); (case side2 => exact HC1_1.out); rintro e w27 ⟨rfl, hb⟩; refine ⟨_, rfl, ?_⟩; have n0_ := Aside0.mk (blk_below (bq BK268.out) hb); have n1_ := Aside0.mk (blk_below (bq BK269.out) hb); have n2_ := Aside0.mk (below_step (lq HB.out) hb); clear BK268; clear BK269; clear HB; have BK268 := n0_; have BK269 := n1_; have HB := n2_; clear n0_ n1_ n2_; (try clear hb); (try clear hb2); (try clear hk); (try clear hi)))
    have n0_ := Aside0.mk (blk_drew BK268.out)
    have n1_ := Aside0.mk (blk_drew BK269.out)
    have n2_ := Aside0.mk (below_drew1 HB.out)
    clear BK268
    clear BK269
    clear HB
    have BK268 := n0_
    have BK269 := n1_
    have HB := n2_
    clear n0_ n1_ n2_
    refine start_ (n := 7) (S := fun w' => w'.cell? ⟨gb268, 0, none⟩ = some (.int .i64 a0_0) ∧ w'.cell? ⟨gb268, 1, none⟩ = some (.int .i64 a0_1) ∧ w'.cell? ⟨gb268, 2, none⟩ = some (.int .i64 a0_2) ∧ w'.cell? ⟨gb268, 3, none⟩ = some (.int .i64 a0_3) ∧ w'.cell? ⟨gb269, 0, none⟩ = some (.int .i64 a1_0) ∧ w'.cell? ⟨gb269, 1, none⟩ = some (.slice A1_1 l1_1.length c1_1)) (ds := []) #[false, false, false, false, false, false, false] (by kernel_rfl) rfl rfl ⟨(blk_cell BK268.out 0).trans rfl, (blk_cell BK268.out 1).trans rfl, (blk_cell BK268.out 2).trans rfl, (blk_cell BK268.out 3).trans rfl, (blk_cell BK269.out 0).trans rfl, (blk_cell BK269.out 1).trans rfl⟩ (fun hHeld => ?_)
    generalize w27.drew = w28 at BK268 BK269 HB hHeld ⊢
    refine take_ (i := 0) (N := some 18) (v := ?_) (a' := ?_) #[true, false, false, false, false, false, false] rfl rfl (by kernel_rfl) (fun _ _ _ h => h) (Or.inl ⟨by rfl, ?_⟩) hHeld ?_ ?_
    rotate_left
    ·rintro w' ⟨s0, s1, s2, s3, s4, s5⟩
     go_simp
     with_reducible rfl
    rotate_left
    ·simp only [Act.put, List.setIfInBounds_toArray, List.set_cons_zero, List.set_cons_succ, i64_w, i32_w]
     rfl
    refine take_ (i := 2) (N := some 20) (v := ?_) (a' := ?_) #[true, false, true, false, false, false, false] rfl rfl (by kernel_rfl) (fun _ _ _ h => h) (Or.inl ⟨by rfl, ?_⟩) hHeld ?_ ?_
    rotate_left
    ·rintro w' ⟨s0, s1, s2, s3, s4, s5⟩
     go_simp
     with_reducible rfl
    rotate_left
    ·simp only [Act.put, List.setIfInBounds_toArray, List.set_cons_zero, List.set_cons_succ, i64_w, i32_w]
     rfl
    refine join_ (σ := Value × Value × Nat) 1 #[true, true, true, true, true, true, false] (fun s_ => [(19, .agg #[.int .i64 t271, .int .i64 t272, .int .i64 t273, .int .i64 t274]), (21, .agg #[.int .i64 t275, s_.1]), (22, .agg #[.int .i64 t279, s_.2.1]), (6, .pointer (some ⟨s_.2.2, 0, none⟩))]) (fun s_ w' => (w'.cell? ⟨gb268, 0, none⟩ = some (.int .i64 a0_0) ∧ w'.cell? ⟨gb268, 1, none⟩ = some (.int .i64 a0_1) ∧ w'.cell? ⟨gb268, 2, none⟩ = some (.int .i64 a0_2) ∧ w'.cell? ⟨gb268, 3, none⟩ = some (.int .i64 a0_3) ∧ w'.cell? ⟨gb269, 0, none⟩ = some (.int .i64 a1_0) ∧ w'.cell? ⟨gb269, 1, none⟩ = some (.slice A1_1 l1_1.length c1_1)) ∧ (Kd.R (Kd.int .u32) 46 w' w.heap.size (fun k_ => some k_ ≠ (s_.2.1 : Value).ownBlock) s_.1 t276) ∧ (Kd.R (Kd.int .u32) 46 w' w.heap.size (fun k_ => some k_ ≠ (s_.1 : Value).ownBlock) s_.2.1 t280) ∧ (w'.heap[gb268]? = some (.cells #[.int .i64 a0_0, .int .i64 a0_1, .int .i64 a0_2, .int .i64 a0_3] 23 (0, 0))) ∧ (w'.heap[gb269]? = some (.cells #[.int .i64 a1_0, .slice A1_1 l1_1.length c1_1] 36 (0, 0))) ∧ (w'.heap[s_.2.2]? = some (.cells #[.int .i64 0, .slice none 0 0] 39 (0, 0))) ∧ (w.heap.size ≤ s_.2.2) ∧ (w.heap.size ≤ s_.2.2) ∧ (gb268 ≠ s_.2.2) ∧ (s_.2.2 ≠ gb268) ∧ (gb269 ≠ s_.2.2) ∧ (s_.2.2 ≠ gb269) ∧ (Below w.heap.size w w')) ?_ ?_
    rotate_left
    ·intro hCont
     refine two_ (i := 1) (j := 5) (Ni := some 19) (Nj := some 6) #[true, true, true, false, false, false, false] #[true, false, true, false, false, true, false] rfl rfl rfl rfl (by kernel_rfl) (by decide) (by decide) (fun K hK => ?_) (fun K hK => ?_)
     ·skip
      refine goes_ Try.func16 (by kernel_rfl) rfl #[.agg #[.int .i64 a0_0, .int .i64 a0_1, .int .i64 a0_2, .int .i64 a0_3]] (by rfl) rfl rfl (by (try simp only [List.map_toArray, List.map_cons, List.map_nil]); first | done | rfl | (simp only [List.length_drop, List.length_take]; rfl)) ?_
      with_reducible refine (laws_toChanRow.calls a0_0 a0_1 a0_2 a0_3 t271 t272 t273 t274 _ A10.out).mono ?_
      rintro e w29 ⟨rfl, hb⟩
      refine ⟨_, rfl, ?_⟩
      have n0_ := Aside0.mk (blk_below (bq BK268.out) hb)
      have n1_ := Aside0.mk (blk_below (bq BK269.out) hb)
      have n2_ := Aside0.mk (below_step (lq HB.out) hb)
      clear BK268
      clear BK269
      clear HB
      have BK268 := n0_
      have BK269 := n1_
      have HB := n2_
      clear n0_ n1_ n2_
      (try clear hb)
      (try clear hb2)
      (try clear hk)
      (try clear hi)
      refine hK.out _ _ ⟨(blk_cell BK268.out 0).trans rfl, (blk_cell BK268.out 1).trans rfl, (blk_cell BK268.out 2).trans rfl, (blk_cell BK268.out 3).trans rfl, (blk_cell BK269.out 0).trans rfl, (blk_cell BK269.out 1).trans rfl⟩ (fun hHeld => ?_)
      clear hK K
      refine norm_ (a' := ?_) ?_ ?_
      rotate_left
      ·show Act.put _ (some 19) _ = _
       simp only [Act.put, List.setIfInBounds_toArray, List.set_cons_zero, List.set_cons_succ, i64_w, i32_w]
       rfl
      refine two_ (i := 3) (j := 5) (Ni := some 21) (Nj := some 6) #[true, true, true, true, false, false, false] #[true, true, true, false, false, true, false] rfl rfl rfl rfl (by kernel_rfl) (by decide) (by decide) (fun K hK => ?_) (fun K hK => ?_)
      ·skip
       refine goes_ Try.func22 (by kernel_rfl) rfl #[.agg #[.int .i64 a1_0, .slice A1_1 l1_1.length c1_1]] (by rfl) rfl rfl (by (try simp only [List.map_toArray, List.map_cons, List.map_nil]); first | done | rfl | (simp only [List.length_drop, List.length_take]; rfl)) ?_
       with_reducible refine (laws_toOutEnd.calls k a1_0 _ _ l1_1 t275 t276 _ ?side1 ?side2 A11.out).mono ?_
       (case side1 => repeat (first | exact (Kd.C_below HR1_1.out HB.out) | (with_reducible refine Kd.C_alloc ?_ _) | (with_reducible refine Kd.C_drewN ?_ _) | (with_reducible refine Kd.C_drew ?_)))
       (case side2 => exact HC1_1.out)
       rintro e w30 ⟨v277, rfl, ho0, hb⟩
       refine ⟨_, rfl, ?_⟩
       have n0_ := Aside0.mk (Kd.R_lower ho0 (below_size (lq HB.out)))
       have n1_ := Aside0.mk (blk_below (bq BK268.out) hb)
       have n2_ := Aside0.mk (blk_below (bq BK269.out) hb)
       have n3_ := Aside0.mk (below_step (lq HB.out) hb)
       clear BK268
       clear BK269
       clear HB
       have HO278 := n0_
       have BK268 := n1_
       have BK269 := n2_
       have HB := n3_
       clear n0_ n1_ n2_ n3_
       (try clear hb)
       (try clear hb2)
       (try clear hk)
       (try clear hi)
       (try clear ho0)
       obtain ⟨Ao31, co31, eo31⟩ := Kd.R_slice HO278.out
       (first | subst eo31 | (injection eo31 with f1_ f2_ f3_; have f4_ := f1_.symm; have f5_ := f3_.symm; clear f1_ f2_ f3_; subst f4_; subst f5_))
       refine hK.out _ _ ⟨(blk_cell BK268.out 0).trans rfl, (blk_cell BK268.out 1).trans rfl, (blk_cell BK268.out 2).trans rfl, (blk_cell BK268.out 3).trans rfl, (blk_cell BK269.out 0).trans rfl, (blk_cell BK269.out 1).trans rfl⟩ (fun hHeld => ?_)
       clear hK K
       refine norm_ (a' := ?_) ?_ ?_
       rotate_left
       ·show Act.put _ (some 21) _ = _
        simp only [Act.put, List.setIfInBounds_toArray, List.set_cons_zero, List.set_cons_succ, i64_w, i32_w]
        rfl
       refine two_ (i := 4) (j := 5) (Ni := some 22) (Nj := some 6) #[true, true, true, true, true, false, false] #[true, true, true, true, false, true, false] rfl rfl rfl rfl (by kernel_rfl) (by decide) (by decide) (fun K hK => ?_) (fun K hK => ?_)
       ·skip
        refine goes_ Try.func27 (by kernel_rfl) rfl #[.agg #[.int .i64 t271, .int .i64 t272, .int .i64 t273, .int .i64 t274], .agg #[.int .i64 t275, .slice Ao31 t276.length co31]] (by rfl) rfl rfl (by (try simp only [List.map_toArray, List.map_cons, List.map_nil]); first | done | rfl | (simp only [List.length_drop, List.length_take]; rfl)) ?_
        with_reducible refine (spec_Discard.calls t271 t272 t273 t274 t275 _ _ t276 t279 t280 _ ?side1 ?side2 A12.out).mono ?_
        (case side1 => repeat (first | exact (Kd.R_reads' HO278.out).2.2 | (with_reducible refine Kd.C_alloc ?_ _) | (with_reducible refine Kd.C_drewN ?_ _) | (with_reducible refine Kd.C_drew ?_)))
        (case side2 => exact (Kd.R_reads' HO278.out).2.1)
        rintro e w32 ⟨v281, rfl, ho0, hb⟩
        refine ⟨_, rfl, ?_⟩
        have n0_ := Aside0.mk (Kd.R_elder' (rq HO278.out) (Kd.R_base ho0) hb)
        have n1_ := Aside0.mk (Kd.R_lower (Kd.R_new' ho0 (Kd.R_lt (rq HO278.out))) (below_size (lq HB.out)))
        have n2_ := Aside0.mk (blk_below (bq BK268.out) hb)
        have n3_ := Aside0.mk (blk_below (bq BK269.out) hb)
        have n4_ := Aside0.mk (below_step (lq HB.out) hb)
        clear HO278
        clear BK268
        clear BK269
        clear HB
        have HO278 := n0_
        have HO282 := n1_
        have BK268 := n2_
        have BK269 := n3_
        have HB := n4_
        clear n0_ n1_ n2_ n3_ n4_
        (try clear hb)
        (try clear hb2)
        (try clear hk)
        (try clear hi)
        (try clear ho0)
        refine hK.out _ _ ⟨(blk_cell BK268.out 0).trans rfl, (blk_cell BK268.out 1).trans rfl, (blk_cell BK268.out 2).trans rfl, (blk_cell BK268.out 3).trans rfl, (blk_cell BK269.out 0).trans rfl, (blk_cell BK269.out 1).trans rfl⟩ (fun hHeld => ?_)
        clear hK K
        refine norm_ (a' := ?_) ?_ ?_
        rotate_left
        ·show Act.put _ (some 22) _ = _
         simp only [Act.put, List.setIfInBounds_toArray, List.set_cons_zero, List.set_cons_succ, i64_w, i32_w]
         rfl
        refine one_ (i := 5) (N := some 6) #[true, true, true, true, true, true, false] rfl rfl (by kernel_rfl) (by decide) (fun K hK => ?_)
        refine box_step ?hg (N := 6) ?hd (cs := #[.int .i64 0, .slice none 0 0]) (t := 39) ?hr ?_; (case hd => rfl); (case hg => rfl); (case hr => first | (go_simp; done) | (go_simp; rfl))
        intro gb283 hg w33 hbox hb
        have n0_ := Aside0.mk (Kd.R_below (rq HO278.out) hb)
        have n1_ := Aside0.mk (Kd.R_below (rq HO282.out) hb)
        have n2_ := Aside0.mk (blk_below (bq BK268.out) hb)
        have n3_ := Aside0.mk (blk_below (bq BK269.out) hb)
        have n4_ := Aside0.mk (below_step (lq HB.out) hb)
        have n5_ := Aside0.mk (hbox)
        have n6_ := Aside0.mk ((ge_new hg (lq HB.out) : w.heap.size ≤ gb283))
        have n7_ := Aside0.mk ((ge_new hg (lq HB.out) : w.heap.size ≤ gb283))
        have n8_ := Aside0.mk ((ne_new hg (bq BK268.out) : gb268 ≠ gb283))
        have n9_ := Aside0.mk ((new_ne hg (bq BK268.out) : gb283 ≠ gb268))
        have n10_ := Aside0.mk ((ne_new hg (bq BK269.out) : gb269 ≠ gb283))
        have n11_ := Aside0.mk ((new_ne hg (bq BK269.out) : gb283 ≠ gb269))
        clear HO278
        clear HO282
        clear BK268
        clear BK269
        clear HB
        have HO278 := n0_
        have HO282 := n1_
        have BK268 := n2_
        have BK269 := n3_
        have HB := n4_
        have BK283 := n5_
        have GW283 := n6_
        have GE283 := n7_
        have NB268_283 := n8_
        have NB283_268 := n9_
        have NB269_283 := n10_
        have NB283_269 := n11_
        clear n0_ n1_ n2_ n3_ n4_ n5_ n6_ n7_ n8_ n9_ n10_ n11_
        clear hb hbox hg
        refine hK.out _ _ ⟨(blk_cell BK268.out 0).trans rfl, (blk_cell BK268.out 1).trans rfl, (blk_cell BK268.out 2).trans rfl, (blk_cell BK268.out 3).trans rfl, (blk_cell BK269.out 0).trans rfl, (blk_cell BK269.out 1).trans rfl⟩ (fun hHeld => ?_)
        clear hK K
        refine norm_ (a' := ?_) ?_ ?_
        rotate_left
        ·show Act.put _ (some 6) _ = _
         simp only [Act.put, List.setIfInBounds_toArray, List.set_cons_zero, List.set_cons_succ, i64_w, i32_w]
         rfl
        exact norm_ (by simp only [putAll, Act.put, List.setIfInBounds_toArray, List.set_cons_zero, List.set_cons_succ]) (hCont (.slice Ao31 t276.length co31, v281, gb283) _ ⟨hHeld, (by (with_reducible repeat (first | apply Kd.R_alloc | apply Kd.R_drewN | apply Kd.R_drew)); exact Kd.R_mono HO278.out (fun _ hk => hk.2)), (by (with_reducible repeat (first | apply Kd.R_alloc | apply Kd.R_drewN | apply Kd.R_drew)); exact Kd.R_mono HO282.out (fun _ hk => hk.2)), (bq BK268.out), (bq BK269.out), (bq BK283.out), GW283.out, GE283.out, NB268_283.out, NB283_268.out, NB269_283.out, NB283_269.out, (lq HB.out)⟩)
       ·skip
        refine box_step ?hg (N := 6) ?hd (cs := #[.int .i64 0, .slice none 0 0]) (t := 39) ?hr ?_; (case hd => rfl); (case hg => rfl); (case hr => first | (go_simp; done) | (go_simp; rfl))
        intro gb283 hg w31 hbox hb
        have n0_ := Aside0.mk (Kd.R_below (rq HO278.out) hb)
        have n1_ := Aside0.mk (blk_below (bq BK268.out) hb)
        have n2_ := Aside0.mk (blk_below (bq BK269.out) hb)
        have n3_ := Aside0.mk (below_step (lq HB.out) hb)
        have n4_ := Aside0.mk (hbox)
        have n5_ := Aside0.mk ((ge_new hg (lq HB.out) : w.heap.size ≤ gb283))
        have n6_ := Aside0.mk ((ge_new hg (lq HB.out) : w.heap.size ≤ gb283))
        have n7_ := Aside0.mk ((ne_new hg (bq BK268.out) : gb268 ≠ gb283))
        have n8_ := Aside0.mk ((new_ne hg (bq BK268.out) : gb283 ≠ gb268))
        have n9_ := Aside0.mk ((ne_new hg (bq BK269.out) : gb269 ≠ gb283))
        have n10_ := Aside0.mk ((new_ne hg (bq BK269.out) : gb283 ≠ gb269))
        clear HO278
        clear BK268
        clear BK269
        clear HB
        have HO278 := n0_
        have BK268 := n1_
        have BK269 := n2_
        have HB := n3_
        have BK283 := n4_
        have GW283 := n5_
        have GE283 := n6_
        have NB268_283 := n7_
        have NB283_268 := n8_
        have NB269_283 := n9_
        have NB283_269 := n10_
        clear n0_ n1_ n2_ n3_ n4_ n5_ n6_ n7_ n8_ n9_ n10_
        clear hb hbox hg
        obtain ⟨Ao32, co32, eo32⟩ := Kd.R_slice HO278.out
        (first | subst eo32 | (injection eo32 with f1_ f2_ f3_; have f4_ := f1_.symm; have f5_ := f3_.symm; clear f1_ f2_ f3_; subst f4_; subst f5_))
        refine hK.out _ _ ⟨(blk_cell BK268.out 0).trans rfl, (blk_cell BK268.out 1).trans rfl, (blk_cell BK268.out 2).trans rfl, (blk_cell BK268.out 3).trans rfl, (blk_cell BK269.out 0).trans rfl, (blk_cell BK269.out 1).trans rfl⟩ (fun hHeld => ?_)
        clear hK K
        refine norm_ (a' := ?_) ?_ ?_
        rotate_left
        ·show Act.put _ (some 6) _ = _
         simp only [Act.put, List.setIfInBounds_toArray, List.set_cons_zero, List.set_cons_succ, i64_w, i32_w]
         rfl
        refine one_ (i := 4) (N := some 22) #[true, true, true, true, true, true, false] rfl rfl (by kernel_rfl) (by decide) (fun K hK => ?_)
        refine goes_ Try.func27 (by kernel_rfl) rfl #[.agg #[.int .i64 t271, .int .i64 t272, .int .i64 t273, .int .i64 t274], .agg #[.int .i64 t275, .slice Ao32 t276.length co32]] (by rfl) rfl rfl (by (try simp only [List.map_toArray, List.map_cons, List.map_nil]); first | done | rfl | (simp only [List.length_drop, List.length_take]; rfl)) ?_
        with_reducible refine (spec_Discard.calls t271 t272 t273 t274 t275 _ _ t276 t279 t280 _ ?side1 ?side2 A12.out).mono ?_
        (case side1 => repeat (first | exact (Kd.R_reads' HO278.out).2.2 | (with_reducible refine Kd.C_alloc ?_ _) | (with_reducible refine Kd.C_drewN ?_ _) | (with_reducible refine Kd.C_drew ?_)))
        (case side2 => exact (Kd.R_reads' HO278.out).2.1)
        rintro e w33 ⟨v281, rfl, ho0, hb⟩
        refine ⟨_, rfl, ?_⟩
        have n0_ := Aside0.mk (Kd.R_elder' (rq HO278.out) (Kd.R_base ho0) hb)
        have n1_ := Aside0.mk (Kd.R_lower (Kd.R_new' ho0 (Kd.R_lt (rq HO278.out))) (below_size (lq HB.out)))
        have n2_ := Aside0.mk (blk_below (bq BK268.out) hb)
        have n3_ := Aside0.mk (blk_below (bq BK269.out) hb)
        have n4_ := Aside0.mk (blk_below (bq BK283.out) hb)
        have n5_ := Aside0.mk (below_step (lq HB.out) hb)
        clear HO278
        clear BK268
        clear BK269
        clear BK283
        clear HB
        have HO278 := n0_
        have HO282 := n1_
        have BK268 := n2_
        have BK269 := n3_
        have BK283 := n4_
        have HB := n5_
        clear n0_ n1_ n2_ n3_ n4_ n5_
        (try clear hb)
        (try clear hb2)
        (try clear hk)
        (try clear hi)
        (try clear ho0)
        refine hK.out _ _ ⟨(blk_cell BK268.out 0).trans rfl, (blk_cell BK268.out 1).trans rfl, (blk_cell BK268.out 2).trans rfl, (blk_cell BK268.out 3).trans rfl, (blk_cell BK269.out 0).trans rfl, (blk_cell BK269.out 1).trans rfl⟩ (fun hHeld => ?_)
        clear hK K
        refine norm_ (a' := ?_) ?_ ?_
        rotate_left
        ·show Act.put _ (some 22) _ = _
         simp only [Act.put, List.setIfInBounds_toArray, List.set_cons_zero, List.set_cons_succ, i64_w, i32_w]
         rfl
        exact norm_ (by simp only [putAll, Act.put, List.setIfInBounds_toArray, List.set_cons_zero, List.set_cons_succ]) (hCont (.slice Ao32 t276.length co32, v281, gb283) _ ⟨hHeld, (by (with_reducible repeat (first | apply Kd.R_alloc | apply Kd.R_drewN | apply Kd.R_drew)); exact Kd.R_mono HO278.out (fun _ hk => hk.2)), (by (with_reducible repeat (first | apply Kd.R_alloc | apply Kd.R_drewN | apply Kd.R_drew)); exact Kd.R_mono HO282.out (fun _ hk => hk.2)), (bq BK268.out), (bq BK269.out), (bq BK283.out), GW283.out, GE283.out, NB268_283.out, NB283_268.out, NB269_283.out, NB283_269.out, (lq HB.out)⟩)
      ·skip
       refine box_step ?hg (N := 6) ?hd (cs := #[.int .i64 0, .slice none 0 0]) (t := 39) ?hr ?_; (case hd => rfl); (case hg => rfl); (case hr => first | (go_simp; done) | (go_simp; rfl))
       intro gb283 hg w30 hbox hb
       have n0_ := Aside0.mk (blk_below (bq BK268.out) hb)
       have n1_ := Aside0.mk (blk_below (bq BK269.out) hb)
       have n2_ := Aside0.mk (below_step (lq HB.out) hb)
       have n3_ := Aside0.mk (hbox)
       have n4_ := Aside0.mk ((ge_new hg (lq HB.out) : w.heap.size ≤ gb283))
       have n5_ := Aside0.mk ((ge_new hg (lq HB.out) : w.heap.size ≤ gb283))
       have n6_ := Aside0.mk ((ne_new hg (bq BK268.out) : gb268 ≠ gb283))
       have n7_ := Aside0.mk ((new_ne hg (bq BK268.out) : gb283 ≠ gb268))
       have n8_ := Aside0.mk ((ne_new hg (bq BK269.out) : gb269 ≠ gb283))
       have n9_ := Aside0.mk ((new_ne hg (bq BK269.out) : gb283 ≠ gb269))
       clear BK268
       clear BK269
       clear HB
       have BK268 := n0_
       have BK269 := n1_
       have HB := n2_
       have BK283 := n3_
       have GW283 := n4_
       have GE283 := n5_
       have NB268_283 := n6_
       have NB283_268 := n7_
       have NB269_283 := n8_
       have NB283_269 := n9_
       clear n0_ n1_ n2_ n3_ n4_ n5_ n6_ n7_ n8_ n9_
       clear hb hbox hg
       refine hK.out _ _ ⟨(blk_cell BK268.out 0).trans rfl, (blk_cell BK268.out 1).trans rfl, (blk_cell BK268.out 2).trans rfl, (blk_cell BK268.out 3).trans rfl, (blk_cell BK269.out 0).trans rfl, (blk_cell BK269.out 1).trans rfl⟩ (fun hHeld => ?_)
       clear hK K
       refine norm_ (a' := ?_) ?_ ?_
       rotate_left
       ·show Act.put _ (some 6) _ = _
        simp only [Act.put, List.setIfInBounds_toArray, List.set_cons_zero, List.set_cons_succ, i64_w, i32_w]
        rfl
       refine one_ (i := 3) (N := some 21) #[true, true, true, true, false, true, false] rfl rfl (by kernel_rfl) (by decide) (fun K hK => ?_)
       refine goes_ Try.func22 (by kernel_rfl) rfl #[.agg #[.int .i64 a1_0, .slice A1_1 l1_1.length c1_1]] (by rfl) rfl rfl (by (try simp only [List.map_toArray, List.map_cons, List.map_nil]); first | done | rfl | (simp only [List.length_drop, List.length_take]; rfl)) ?_
       with_reducible refine (laws_toOutEnd.calls k a1_0 _ _ l1_1 t275 t276 _ ?side1 ?side2 A11.out).mono ?_
       (case side1 => repeat (first | exact (Kd.C_below HR1_1.out HB.out) | (with_reducible refine Kd.C_alloc ?_ _) | (with_reducible refine Kd.C_drewN ?_ _) | (with_reducible refine Kd.C_drew ?_)))
       (case side2 => exact HC1_1.out)
       rintro e w31 ⟨v277, rfl, ho0, hb⟩
       refine ⟨_, rfl, ?_⟩
       have n0_ := Aside0.mk (Kd.R_lower ho0 (below_size (lq HB.out)))
       have n1_ := Aside0.mk (blk_below (bq BK268.out) hb)
       have n2_ := Aside0.mk (blk_below (bq BK269.out) hb)
       have n3_ := Aside0.mk (blk_below (bq BK283.out) hb)
       have n4_ := Aside0.mk (below_step (lq HB.out) hb)
       clear BK268
       clear BK269
       clear BK283
       clear HB
       have HO278 := n0_
       have BK268 := n1_
       have BK269 := n2_
       have BK283 := n3_
       have HB := n4_
       clear n0_ n1_ n2_ n3_ n4_
       (try clear hb)
       (try clear hb2)
       (try clear hk)
       (try clear hi)
       (try clear ho0)
       obtain ⟨Ao32, co32, eo32⟩ := Kd.R_slice HO278.out
       (first | subst eo32 | (injection eo32 with f1_ f2_ f3_; have f4_ := f1_.symm; have f5_ := f3_.symm; clear f1_ f2_ f3_; subst f4_; subst f5_))
       refine hK.out _ _ ⟨(blk_cell BK268.out 0).trans rfl, (blk_cell BK268.out 1).trans rfl, (blk_cell BK268.out 2).trans rfl, (blk_cell BK268.out 3).trans rfl, (blk_cell BK269.out 0).trans rfl, (blk_cell BK269.out 1).trans rfl⟩ (fun hHeld => ?_)
       clear hK K
       refine norm_ (a' := ?_) ?_ ?_
       rotate_left
       ·show Act.put _ (some 21) _ = _
        simp only [Act.put, List.setIfInBounds_toArray, List.set_cons_zero, List.set_cons_succ, i64_w, i32_w]
        rfl
       refine one_ (i := 4) (N := some 22) #[true, true, true, true, true, true, false] rfl rfl (by kernel_rfl) (by decide) (fun K hK => ?_)
       refine goes_ Try.func27 (by kernel_rfl) rfl #[.agg #[.int .i64 t271, .int .i64 t272, .int .i64 t273, .int .i64 t274], .agg #[.int .i64 t275, .slice Ao32 t276.length co32]] (by rfl) rfl rfl (by (try simp only [List.map_toArray, List.map_cons, List.map_nil]); first | done | rfl | (simp only [List.length_drop, List.length_take]; rfl)) ?_
       with_reducible refine (spec_Discard.calls t271 t272 t273 t274 t275 _ _ t276 t279 t280 _ ?side1 ?side2 A12.out).mono ?_
       (case side1 => repeat (first | exact (Kd.R_reads' HO278.out).2.2 | (with_reducible refine Kd.C_alloc ?_ _) | (with_reducible refine Kd.C_drewN ?_ _) | (with_reducible refine Kd.C_drew ?_)))
       (case side2 => exact (Kd.R_reads' HO278.out).2.1)
       rintro e w33 ⟨v281, rfl, ho0, hb⟩
       refine ⟨_, rfl, ?_⟩
       have n0_ := Aside0.mk (Kd.R_elder' (rq HO278.out) (Kd.R_base ho0) hb)
       have n1_ := Aside0.mk (Kd.R_lower (Kd.R_new' ho0 (Kd.R_lt (rq HO278.out))) (below_size (lq HB.out)))
       have n2_ := Aside0.mk (blk_below (bq BK268.out) hb)
       have n3_ := Aside0.mk (blk_below (bq BK269.out) hb)
       have n4_ := Aside0.mk (blk_below (bq BK283.out) hb)
       have n5_ := Aside0.mk (below_step (lq HB.out) hb)
       clear HO278
       clear BK268
       clear BK269
       clear BK283
       clear HB
       have HO278 := n0_
       have HO282 := n1_
       have BK268 := n2_
       have BK269 := n3_
       have BK283 := n4_
       have HB := n5_
       clear n0_ n1_ n2_ n3_ n4_ n5_
       (try clear hb)
       (try clear hb2)
       (try clear hk)
       (try clear hi)
       (try clear ho0)
       refine hK.out _ _ ⟨(blk_cell BK268.out 0).trans rfl, (blk_cell BK268.out 1).trans rfl, (blk_cell BK268.out 2).trans rfl, (blk_cell BK268.out 3).trans rfl, (blk_cell BK269.out 0).trans rfl, (blk_cell BK269.out 1).trans rfl⟩ (fun hHeld => ?_)
       clear hK K
       refine norm_ (a' := ?_) ?_ ?_
       rotate_left
       ·show Act.put _ (some 22) _ = _
        simp only [Act.put, List.setIfInBounds_toArray, List.set_cons_zero, List.set_cons_succ, i64_w, i32_w]
        rfl
       exact norm_ (by simp only [putAll, Act.put, List.setIfInBounds_toArray, List.set_cons_zero, List.set_cons_succ]) (hCont (.slice Ao32 t276.length co32, v281, gb283) _ ⟨hHeld, (by (with_reducible repeat (first | apply Kd.R_alloc | apply Kd.R_drewN | apply Kd.R_drew)); exact Kd.R_mono HO278.out (fun _ hk => hk.2)), (by (with_reducible repeat (first | apply Kd.R_alloc | apply Kd.R_drewN | apply Kd.R_drew)); exact Kd.R_mono HO282.out (fun _ hk => hk.2)), (bq BK268.out), (bq BK269.out), (bq BK283.out), GW283.out, GE283.out, NB268_283.out, NB283_268.out, NB269_283.out, NB283_269.out, (lq HB.out)⟩)
     ·skip
      refine box_step ?hg (N := 6) ?hd (cs := #[.int .i64 0, .slice none 0 0]) (t := 39) ?hr ?_; (case hd => rfl); (case hg => rfl); (case hr => first | (go_simp; done) | (go_simp; rfl))
      intro gb283 hg w29 hbox hb
      have n0_ := Aside0.mk (blk_below (bq BK268.out) hb)
      have n1_ := Aside0.mk (blk_below (bq BK269.out) hb)
      have n2_ := Aside0.mk (below_step (lq HB.out) hb)
      have n3_ := Aside0.mk (hbox)
      have n4_ := Aside0.mk ((ge_new hg (lq HB.out) : w.heap.size ≤ gb283))
      have n5_ := Aside0.mk ((ge_new hg (lq HB.out) : w.heap.size ≤ gb283))
      have n6_ := Aside0.mk ((ne_new hg (bq BK268.out) : gb268 ≠ gb283))
      have n7_ := Aside0.mk ((new_ne hg (bq BK268.out) : gb283 ≠ gb268))
      have n8_ := Aside0.mk ((ne_new hg (bq BK269.out) : gb269 ≠ gb283))
      have n9_ := Aside0.mk ((new_ne hg (bq BK269.out) : gb283 ≠ gb269))
      clear BK268
      clear BK269
      clear HB
      have BK268 := n0_
      have BK269 := n1_
      have HB := n2_
      have BK283 := n3_
      have GW283 := n4_
      have GE283 := n5_
      have NB268_283 := n6_
      have NB283_268 := n7_
      have NB269_283 := n8_
      have NB283_269 := n9_
      clear n0_ n1_ n2_ n3_ n4_ n5_ n6_ n7_ n8_ n9_
      clear hb hbox hg
      refine hK.out _ _ ⟨(blk_cell BK268.out 0).trans rfl, (blk_cell BK268.out 1).trans rfl, (blk_cell BK268.out 2).trans rfl, (blk_cell BK268.out 3).trans rfl, (blk_cell BK269.out 0).trans rfl, (blk_cell BK269.out 1).trans rfl⟩ (fun hHeld => ?_)
      clear hK K
      refine norm_ (a' := ?_) ?_ ?_
      rotate_left
      ·show Act.put _ (some 6) _ = _
       simp only [Act.put, List.setIfInBounds_toArray, List.set_cons_zero, List.set_cons_succ, i64_w, i32_w]
       rfl
      refine one_ (i := 1) (N := some 19) #[true, true, true, false, false, true, false] rfl rfl (by kernel_rfl) (by decide) (fun K hK => ?_)
      refine goes_ Try.func16 (by kernel_rfl) rfl #[.agg #[.int .i64 a0_0, .int .i64 a0_1, .int .i64 a0_2, .int .i64 a0_3]] (by rfl) rfl rfl (by (try simp only [List.map_toArray, List.map_cons, List.map_nil]); first | done | rfl | (simp only [List.length_drop, List.length_take]; rfl)) ?_
      with_reducible refine (laws_toChanRow.calls a0_0 a0_1 a0_2 a0_3 t271 t272 t273 t274 _ A10.out).mono ?_
      rintro e w30 ⟨rfl, hb⟩
      refine ⟨_, rfl, ?_⟩
      have n0_ := Aside0.mk (blk_below (bq BK268.out) hb)
      have n1_ := Aside0.mk (blk_below (bq BK269.out) hb)
      have n2_ := Aside0.mk (blk_below (bq BK283.out) hb)
      have n3_ := Aside0.mk (below_step (lq HB.out) hb)
      clear BK268
      clear BK269
      clear BK283
      clear HB
      have BK268 := n0_
      have BK269 := n1_
      have BK283 := n2_
      have HB := n3_
      clear n0_ n1_ n2_ n3_
      (try clear hb)
      (try clear hb2)
      (try clear hk)
      (try clear hi)
      refine hK.out _ _ ⟨(blk_cell BK268.out 0).trans rfl, (blk_cell BK268.out 1).trans rfl, (blk_cell BK268.out 2).trans rfl, (blk_cell BK268.out 3).trans rfl, (blk_cell BK269.out 0).trans rfl, (blk_cell BK269.out 1).trans rfl⟩ (fun hHeld => ?_)
      clear hK K
      refine norm_ (a' := ?_) ?_ ?_
      rotate_left
      ·show Act.put _ (some 19) _ = _
       simp only [Act.put, List.setIfInBounds_toArray, List.set_cons_zero, List.set_cons_succ, i64_w, i32_w]
       rfl
      refine one_ (i := 3) (N := some 21) #[true, true, true, true, false, true, false] rfl rfl (by kernel_rfl) (by decide) (fun K hK => ?_)
      refine goes_ Try.func22 (by kernel_rfl) rfl #[.agg #[.int .i64 a1_0, .slice A1_1 l1_1.length c1_1]] (by rfl) rfl rfl (by (try simp only [List.map_toArray, List.map_cons, List.map_nil]); first | done | rfl | (simp only [List.length_drop, List.length_take]; rfl)) ?_
      with_reducible refine (laws_toOutEnd.calls k a1_0 _ _ l1_1 t275 t276 _ ?side1 ?side2 A11.out).mono ?_
      (case side1 => repeat (first | exact (Kd.C_below HR1_1.out HB.out) | (with_reducible refine Kd.C_alloc ?_ _) | (with_reducible refine Kd.C_drewN ?_ _) | (with_reducible refine Kd.C_drew ?_)))
      (case side2 => exact HC1_1.out)
      rintro e w31 ⟨v277, rfl, ho0, hb⟩
      refine ⟨_, rfl, ?_⟩
      have n0_ := Aside0.mk (Kd.R_lower ho0 (below_size (lq HB.out)))
      have n1_ := Aside0.mk (blk_below (bq BK268.out) hb)
      have n2_ := Aside0.mk (blk_below (bq BK269.out) hb)
      have n3_ := Aside0.mk (blk_below (bq BK283.out) hb)
      have n4_ := Aside0.mk (below_step (lq HB.out) hb)
      clear BK268
      clear BK269
      clear BK283
      clear HB
      have HO278 := n0_
      have BK268 := n1_
      have BK269 := n2_
      have BK283 := n3_
      have HB := n4_
      clear n0_ n1_ n2_ n3_ n4_
      (try clear hb)
      (try clear hb2)
      (try clear hk)
      (try clear hi)
      (try clear ho0)
      obtain ⟨Ao32, co32, eo32⟩ := Kd.R_slice HO278.out
      (first | subst eo32 | (injection eo32 with f1_ f2_ f3_; have f4_ := f1_.symm; have f5_ := f3_.symm; clear f1_ f2_ f3_; subst f4_; subst f5_))
      refine hK.out _ _ ⟨(blk_cell BK268.out 0).trans rfl, (blk_cell BK268.out 1).trans rfl, (blk_cell BK268.out 2).trans rfl, (blk_cell BK268.out 3).trans rfl, (blk_cell BK269.out 0).trans rfl, (blk_cell BK269.out 1).trans rfl⟩ (fun hHeld => ?_)
      clear hK K
      refine norm_ (a' := ?_) ?_ ?_
      rotate_left
      ·show Act.put _ (some 21) _ = _
       simp only [Act.put, List.setIfInBounds_toArray, List.set_cons_zero, List.set_cons_succ, i64_w, i32_w]
       rfl
      refine one_ (i := 4) (N := some 22) #[true, true, true, true, true, true, false] rfl rfl (by kernel_rfl) (by decide) (fun K hK => ?_)
      refine goes_ Try.func27 (by kernel_rfl) rfl #[.agg #[.int .i64 t271, .int .i64 t272, .int .i64 t273, .int .i64 t274], .agg #[.int .i64 t275, .slice Ao32 t276.length co32]] (by rfl) rfl rfl (by (try simp only [List.map_toArray, List.map_cons, List.map_nil]); first | done | rfl | (simp only [List.length_drop, List.length_take]; rfl)) ?_
      with_reducible refine (spec_Discard.calls t271 t272 t273 t274 t275 _ _ t276 t279 t280 _ ?side1 ?side2 A12.out).mono ?_
      (case side1 => repeat (first | exact (Kd.R_reads' HO278.out).2.2 | (with_reducible refine Kd.C_alloc ?_ _) | (with_reducible refine Kd.C_drewN ?_ _) | (with_reducible refine Kd.C_drew ?_)))
      (case side2 => exact (Kd.R_reads' HO278.out).2.1)
      rintro e w33 ⟨v281, rfl, ho0, hb⟩
      refine ⟨_, rfl, ?_⟩
      have n0_ := Aside0.mk (Kd.R_elder' (rq HO278.out) (Kd.R_base ho0) hb)
      have n1_ := Aside0.mk (Kd.R_lower (Kd.R_new' ho0 (Kd.R_lt (rq HO278.out))) (below_size (lq HB.out)))
      have n2_ := Aside0.mk (blk_below (bq BK268.out) hb)
      have n3_ := Aside0.mk (blk_below (bq BK269.out) hb)
      have n4_ := Aside0.mk (blk_below (bq BK283.out) hb)
      have n5_ := Aside0.mk (below_step (lq HB.out) hb)
      clear HO278
      clear BK268
      clear BK269
      clear BK283
      clear HB
      have HO278 := n0_
      have HO282 := n1_
      have BK268 := n2_
      have BK269 := n3_
      have BK283 := n4_
      have HB := n5_
      clear n0_ n1_ n2_ n3_ n4_ n5_
      (try clear hb)
      (try clear hb2)
      (try clear hk)
      (try clear hi)
      (try clear ho0)
      refine hK.out _ _ ⟨(blk_cell BK268.out 0).trans rfl, (blk_cell BK268.out 1).trans rfl, (blk_cell BK268.out 2).trans rfl, (blk_cell BK268.out 3).trans rfl, (blk_cell BK269.out 0).trans rfl, (blk_cell BK269.out 1).trans rfl⟩ (fun hHeld => ?_)
      clear hK K
      refine norm_ (a' := ?_) ?_ ?_
      rotate_left
      ·show Act.put _ (some 22) _ = _
       simp only [Act.put, List.setIfInBounds_toArray, List.set_cons_zero, List.set_cons_succ, i64_w, i32_w]
       rfl
      exact norm_ (by simp only [putAll, Act.put, List.setIfInBounds_toArray, List.set_cons_zero, List.set_cons_succ]) (hCont (.slice Ao32 t276.length co32, v281, gb283) _ ⟨hHeld, (by (with_reducible repeat (first | apply Kd.R_alloc | apply Kd.R_drewN | apply Kd.R_drew)); exact Kd.R_mono HO278.out (fun _ hk => hk.2)), (by (with_reducible repeat (first | apply Kd.R_alloc | apply Kd.R_drewN | apply Kd.R_drew)); exact Kd.R_mono HO282.out (fun _ hk => hk.2)), (bq BK268.out), (bq BK269.out), (bq BK283.out), GW283.out, GE283.out, NB268_283.out, NB283_268.out, NB269_283.out, NB283_269.out, (lq HB.out)⟩)
    rintro ⟨v277, v281, gb283⟩ w34 ⟨hS_, h0_, h1_, h2_, h3_, h4_, h5_, h6_, h7_, h8_, h9_, h10_, h11_⟩
    have n0_ : Aside0 (Kd.R (Kd.int .u32) 46 w34 w.heap.size (fun k_ => some k_ ≠ (v281 : Value).ownBlock) v277 t276) := ⟨h0_⟩
    have n1_ : Aside0 (Kd.R (Kd.int .u32) 46 w34 w.heap.size (fun k_ => some k_ ≠ (v277 : Value).ownBlock) v281 t280) := ⟨h1_⟩
    have n2_ : Aside0 (w34.heap[gb268]? = some (.cells #[.int .i64 a0_0, .int .i64 a0_1, .int .i64 a0_2, .int .i64 a0_3] 23 (0, 0))) := ⟨h2_⟩
    have n3_ : Aside0 (w34.heap[gb269]? = some (.cells #[.int .i64 a1_0, .slice A1_1 l1_1.length c1_1] 36 (0, 0))) := ⟨h3_⟩
    have n4_ : Aside0 (w34.heap[gb283]? = some (.cells #[.int .i64 0, .slice none 0 0] 39 (0, 0))) := ⟨h4_⟩
    have n5_ : Aside0 (w.heap.size ≤ gb283) := ⟨h5_⟩
    have n6_ : Aside0 (w.heap.size ≤ gb283) := ⟨h6_⟩
    have n7_ : Aside0 (gb268 ≠ gb283) := ⟨h7_⟩
    have n8_ : Aside0 (gb283 ≠ gb268) := ⟨h8_⟩
    have n9_ : Aside0 (gb269 ≠ gb283) := ⟨h9_⟩
    have n10_ : Aside0 (gb283 ≠ gb269) := ⟨h10_⟩
    have n11_ : Aside0 (Below w.heap.size w w34) := ⟨h11_⟩
    clear BK268
    clear BK269
    clear HB
    clear h0_ h1_ h2_ h3_ h4_ h5_ h6_ h7_ h8_ h9_ h10_ h11_
    have HO278 := n0_
    have HO282 := n1_
    have BK268 := n2_
    have BK269 := n3_
    have BK283 := n4_
    have GW283 := n5_
    have GE283 := n6_
    have NB268_283 := n7_
    have NB283_268 := n8_
    have NB269_283 := n9_
    have NB283_269 := n10_
    have HB := n11_
    clear n0_ n1_ n2_ n3_ n4_ n5_ n6_ n7_ n8_ n9_ n10_ n11_
    have hHeld : w34.cell? ⟨gb268, 0, none⟩ = some (.int .i64 a0_0) ∧ w34.cell? ⟨gb268, 1, none⟩ = some (.int .i64 a0_1) ∧ w34.cell? ⟨gb268, 2, none⟩ = some (.int .i64 a0_2) ∧ w34.cell? ⟨gb268, 3, none⟩ = some (.int .i64 a0_3) ∧ w34.cell? ⟨gb269, 0, none⟩ = some (.int .i64 a1_0) ∧ w34.cell? ⟨gb269, 1, none⟩ = some (.slice A1_1 l1_1.length c1_1) := hS_
    obtain ⟨Ao36, co36, eo36⟩ := Kd.R_slice HO282.out
    (first | subst eo36 | (injection eo36 with f1_ f2_ f3_; have f4_ := f1_.symm; have f5_ := f3_.symm; clear f1_ f2_ f3_; subst f4_; subst f5_))
    refine norm_ (a' := ?_) ?_ ?_
    rotate_left
    ·simp only [putAll, Act.put, List.setIfInBounds_toArray, List.set_cons_zero, List.set_cons_succ]
     rfl
    refine one_ (i := 6) (N := none) #[true, true, true, true, true, true, true] rfl rfl (by kernel_rfl) (by decide) (fun K hK => ?_)
    have hs35 : w34.cell? ⟨gb283, 0, none⟩ = some (.int .i64 0) := (blk_cell BK283.out 0).trans rfl
    have hfs35 := blk_frozen BK283.out 0
    have hns35_0 := NB268_283.out
    have hns35_1 := NB269_283.out
    have hms35_0 := NB283_268.out
    have hms35_1 := NB283_269.out
    have hs37 : w34.cell? ⟨gb283, 1, none⟩ = some (.slice none 0 0) := (blk_cell BK283.out 1).trans rfl
    have hfs37 := blk_frozen BK283.out 1
    have hns37_0 := NB268_283.out
    have hns37_1 := NB269_283.out
    have hms37_0 := NB283_268.out
    have hms37_1 := NB283_269.out
    refine skip_ (w1 := ?_) (by rfl) rfl ?_ ?_
    rotate_left
    ·go_simp
     rfl
    refine hK.out _ _ ⟨((cell_far (p := ⟨gb283, _, none⟩) NB268_283.out _).trans (((cell_far (p := ⟨gb283, _, none⟩) NB268_283.out _).trans (hHeld.1)))), ((cell_far (p := ⟨gb283, _, none⟩) NB268_283.out _).trans (((cell_far (p := ⟨gb283, _, none⟩) NB268_283.out _).trans (hHeld.2.1)))), ((cell_far (p := ⟨gb283, _, none⟩) NB268_283.out _).trans (((cell_far (p := ⟨gb283, _, none⟩) NB268_283.out _).trans (hHeld.2.2.1)))), ((cell_far (p := ⟨gb283, _, none⟩) NB268_283.out _).trans (((cell_far (p := ⟨gb283, _, none⟩) NB268_283.out _).trans (hHeld.2.2.2.1)))), ((cell_far (p := ⟨gb283, _, none⟩) NB269_283.out _).trans (((cell_far (p := ⟨gb283, _, none⟩) NB269_283.out _).trans (hHeld.2.2.2.2.1)))), ((cell_far (p := ⟨gb283, _, none⟩) NB269_283.out _).trans (((cell_far (p := ⟨gb283, _, none⟩) NB269_283.out _).trans (hHeld.2.2.2.2.2))))⟩ (fun hHeld => ?_)
    clear hK K
    refine done_ (by kernel_rfl) ?_
    have hnb38 := NB269_283.out
    have hnc38 := NB283_269.out
    have hcz39_0 : w34.cell? ⟨gb269, 0, none⟩ = some (.int .i64 a1_0) := (blk_cell BK269.out 0).trans rfl
    have hcz39_1 : w34.cell? ⟨gb269, 1, none⟩ = some (.slice A1_1 l1_1.length c1_1) := (blk_cell BK269.out 1).trans rfl
    have hfz39_0 := blk_frozen BK269.out 0
    have hfz39_1 := blk_frozen BK269.out 1
    try go_wp2_with (first | ((with_reducible refine gate_callee (f := 22) rfl ?_); refine goesL_ (some 24) rfl rfl Try.func22 (by kernel_rfl) rfl #[.agg #[.int .i64 a1_0, .slice A1_1 l1_1.length c1_1]] rfl (by (try simp only [List.map_toArray, List.map_cons, List.map_nil]); first | done | rfl | (simp only [List.length_drop, List.length_take]; rfl)) ?_; (with_reducible refine (laws_toOutEnd.calls k a1_0 _ _ l1_1 t284 t285 _ ?side1 ?side2 A13.out).mono ?_); (case side1 => exact Kd.C_below HR1_1.out (by repeat (first | (with_reducible first | exact HB.out | apply below_alloc | apply pw_below_drewN | apply below_drew1 | refine below_set ?_ GE283.out) | exact HB.out))); (case side2 => exact HC1_1.out); rintro e w40 ⟨v286, rfl, ho0, hb⟩; refine ⟨_, rfl, ?_⟩; have n0_ := Aside0.mk (Kd.R_elder' (rq (Kd.R_mono (Kd.R_far (p := ⟨gb283, 1, none⟩) (Kd.R_far (p := ⟨gb283, 0, none⟩) (Kd.R_types HO278.out BK283.out (by decide)) (fun _ hk => hk.2) (.int .i64 t279)) (fun _ hk => hk.2) (.slice Ao36 t280.length co36)) (fun _ h_ => h_.1))) (Kd.R_base ho0) hb); have n1_ := Aside0.mk (Kd.R_elder' (rq (Kd.R_mono (Kd.R_far (p := ⟨gb283, 1, none⟩) (Kd.R_far (p := ⟨gb283, 0, none⟩) (Kd.R_types HO282.out BK283.out (by decide)) (fun _ hk => hk.2) (.int .i64 t279)) (fun _ hk => hk.2) (.slice Ao36 t280.length co36)) (fun _ h_ => h_.1))) (Kd.R_base ho0) hb); have n2_ := Aside0.mk (Kd.R_lower (Kd.R_new' (Kd.R_new' ho0 (Kd.R_lt (rq (Kd.R_mono (Kd.R_far (p := ⟨gb283, 1, none⟩) (Kd.R_far (p := ⟨gb283, 0, none⟩) (Kd.R_types HO278.out BK283.out (by decide)) (fun _ hk => hk.2) (.int .i64 t279)) (fun _ hk => hk.2) (.slice Ao36 t280.length co36)) (fun _ h_ => h_.1))))) (Kd.R_lt (rq (Kd.R_mono (Kd.R_far (p := ⟨gb283, 1, none⟩) (Kd.R_far (p := ⟨gb283, 0, none⟩) (Kd.R_types HO282.out BK283.out (by decide)) (fun _ hk => hk.2) (.int .i64 t279)) (fun _ hk => hk.2) (.slice Ao36 t280.length co36)) (fun _ h_ => h_.1))))) (below_size (by repeat (first | (with_reducible first | exact HB.out | apply below_alloc | apply pw_below_drewN | apply below_drew1 | refine below_set ?_ GE283.out) | exact HB.out)))); have n3_ := Aside0.mk (blk_below (g := gb268) (o := .cells #[.int .i64 a0_0, .int .i64 a0_1, .int .i64 a0_2, .int .i64 a0_3] 23 (0, 0)) (by (with_reducible repeat (first | refine blk_drewN ?_ _ | refine blk_drew ?_ | refine blk_alloc ?_ _)); refine blk_far ?_ NB268_283.out _; (with_reducible repeat (first | refine blk_drewN ?_ _ | refine blk_drew ?_ | refine blk_alloc ?_ _)); refine blk_far ?_ NB268_283.out _; (with_reducible repeat (first | refine blk_drewN ?_ _ | refine blk_drew ?_ | refine blk_alloc ?_ _)); exact BK268.out) hb); have n4_ := Aside0.mk (blk_below (g := gb269) (o := .cells #[.int .i64 a1_0, .slice A1_1 l1_1.length c1_1] 36 (0, 0)) (by (with_reducible repeat (first | refine blk_drewN ?_ _ | refine blk_drew ?_ | refine blk_alloc ?_ _)); refine blk_far ?_ NB269_283.out _; (with_reducible repeat (first | refine blk_drewN ?_ _ | refine blk_drew ?_ | refine blk_alloc ?_ _)); refine blk_far ?_ NB269_283.out _; (with_reducible repeat (first | refine blk_drewN ?_ _ | refine blk_drew ?_ | refine blk_alloc ?_ _)); exact BK269.out) hb); have n5_ := Aside0.mk (blk_below (g := gb283) (o := .cells #[.int .i64 t279, .slice Ao36 t280.length co36] 39 (0, 0)) (by (with_reducible repeat (first | refine blk_drewN ?_ _ | refine blk_drew ?_ | refine blk_alloc ?_ _)); refine blk_put (cs := #[.int .i64 t279, .slice none 0 0]) ?_ 1 _ rfl; (with_reducible repeat (first | refine blk_drewN ?_ _ | refine blk_drew ?_ | refine blk_alloc ?_ _)); refine blk_put (cs := #[.int .i64 0, .slice none 0 0]) ?_ 0 _ rfl; (with_reducible repeat (first | refine blk_drewN ?_ _ | refine blk_drew ?_ | refine blk_alloc ?_ _)); exact BK283.out) hb); have n6_ := Aside0.mk (below_step (by repeat (first | (with_reducible first | exact HB.out | apply below_alloc | apply pw_below_drewN | apply below_drew1 | refine below_set ?_ GE283.out) | exact HB.out)) hb); clear HO278; clear HO282; clear BK268; clear BK269; clear BK283; clear HB; have HO278 := n0_; have HO282 := n1_; have HO287 := n2_; have BK268 := n3_; have BK269 := n4_; have BK283 := n5_; have HB := n6_; clear n0_ n1_ n2_ n3_ n4_ n5_ n6_; (try clear hb); (try clear hb2); (try clear hk); (try clear hi); (try clear ho0)) | ((with_reducible refine gate_dst (N := 7) rfl ?_); refine box_event ?hg (N := 7) ?hd (cs := #[.int .i64 0, .slice none 0 0]) (t := 39) ?hr ?_; (case hd => rfl); (case hg => rfl); (case hr => first | (go_simp; done) | (go_simp; rfl)); intro gb288 hg w41 hbox hb; have n0_ := Aside0.mk (Kd.R_below (rq HO278.out) hb); have n1_ := Aside0.mk (Kd.R_below (rq HO282.out) hb); have n2_ := Aside0.mk (Kd.R_below (rq HO287.out) hb); have n3_ := Aside0.mk (blk_below (bq BK268.out) hb); have n4_ := Aside0.mk (blk_below (bq BK269.out) hb); have n5_ := Aside0.mk (blk_below (bq BK283.out) hb); have n6_ := Aside0.mk (below_step (lq HB.out) hb); have n7_ := Aside0.mk (hbox); have n8_ := Aside0.mk ((ge_new hg (lq HB.out) : w.heap.size ≤ gb288)); have n9_ := Aside0.mk ((ge_new hg (lq HB.out) : w.heap.size ≤ gb288)); have n10_ := Aside0.mk ((ne_new hg (bq BK268.out) : gb268 ≠ gb288)); have n11_ := Aside0.mk ((new_ne hg (bq BK268.out) : gb288 ≠ gb268)); have n12_ := Aside0.mk ((ne_new hg (bq BK269.out) : gb269 ≠ gb288)); have n13_ := Aside0.mk ((new_ne hg (bq BK269.out) : gb288 ≠ gb269)); have n14_ := Aside0.mk ((ne_new hg (bq BK283.out) : gb283 ≠ gb288)); have n15_ := Aside0.mk ((new_ne hg (bq BK283.out) : gb288 ≠ gb283)); clear HO278; clear HO282; clear HO287; clear BK268; clear BK269; clear BK283; clear HB; have HO278 := n0_; have HO282 := n1_; have HO287 := n2_; have BK268 := n3_; have BK269 := n4_; have BK283 := n5_; have HB := n6_; have BK288 := n7_; have GW288 := n8_; have GE288 := n9_; have NB268_288 := n10_; have NB288_268 := n11_; have NB269_288 := n12_; have NB288_269 := n13_; have NB283_288 := n14_; have NB288_283 := n15_; clear n0_ n1_ n2_ n3_ n4_ n5_ n6_ n7_ n8_ n9_ n10_ n11_ n12_ n13_ n14_ n15_; clear hb hbox hg; have hnb42 := NB288_268.out; have hnc42 := NB268_288.out; have hnb43 := NB288_269.out; have hnc43 := NB269_288.out; have hnb44 := NB288_283.out; have hnc44 := NB283_288.out; have hcz45_0 : w41.cell? ⟨gb288, 0, none⟩ = some (.int .i64 0) := (blk_cell BK288.out 0).trans rfl; have hcz45_1 : w41.cell? ⟨gb288, 1, none⟩ = some (.slice none 0 0) := (blk_cell BK288.out 1).trans rfl; have hfz45_0 := blk_frozen BK288.out 0; have hfz45_1 := blk_frozen BK288.out 1; obtain ⟨Ao46, co46, eo46⟩ := Kd.R_slice HO287.out; subst eo46))
    have n0_ : Aside0 (Kd.R (Kd.int .u32) 46 ((w41.setCell ⟨gb288, 0, none⟩ (.int .i64 t284)).setCell ⟨gb288, 1, none⟩ (.slice Ao46 t285.length co46)) w.heap.size (fun k_ => some k_ ≠ (.slice Ao36 t280.length co36 : Value).ownBlock ∧ some k_ ≠ (.slice Ao46 t285.length co46 : Value).ownBlock) v277 t276) := ⟨by (with_reducible repeat (first | apply Kd.R_alloc | apply Kd.R_drewN | apply Kd.R_drew)); exact Kd.R_mono (Kd.R_far (p := ⟨gb288, 1, none⟩) (Kd.R_far (p := ⟨gb288, 0, none⟩) (Kd.R_types HO278.out BK288.out (by decide)) (fun _ hk => hk.2) (.int .i64 t284)) (fun _ hk => hk.2) (.slice Ao46 t285.length co46)) (fun _ hk => ⟨hk.1.1, hk.1.2⟩)⟩
    have n1_ : Aside0 (Kd.R (Kd.int .u32) 46 ((w41.setCell ⟨gb288, 0, none⟩ (.int .i64 t284)).setCell ⟨gb288, 1, none⟩ (.slice Ao46 t285.length co46)) w.heap.size (fun k_ => some k_ ≠ (v277 : Value).ownBlock ∧ some k_ ≠ (.slice Ao46 t285.length co46 : Value).ownBlock) (.slice Ao36 t280.length co36) t280) := ⟨by (with_reducible repeat (first | apply Kd.R_alloc | apply Kd.R_drewN | apply Kd.R_drew)); exact Kd.R_mono (Kd.R_far (p := ⟨gb288, 1, none⟩) (Kd.R_far (p := ⟨gb288, 0, none⟩) (Kd.R_types HO282.out BK288.out (by decide)) (fun _ hk => hk.2) (.int .i64 t284)) (fun _ hk => hk.2) (.slice Ao46 t285.length co46)) (fun _ hk => ⟨hk.1.1, hk.1.2⟩)⟩
    have n2_ : Aside0 (Kd.R (Kd.int .u32) 46 ((w41.setCell ⟨gb288, 0, none⟩ (.int .i64 t284)).setCell ⟨gb288, 1, none⟩ (.slice Ao46 t285.length co46)) w.heap.size (fun k_ => some k_ ≠ (v277 : Value).ownBlock ∧ some k_ ≠ (.slice Ao36 t280.length co36 : Value).ownBlock) (.slice Ao46 t285.length co46) t285) := ⟨by (with_reducible repeat (first | apply Kd.R_alloc | apply Kd.R_drewN | apply Kd.R_drew)); exact Kd.R_mono (Kd.R_far (p := ⟨gb288, 1, none⟩) (Kd.R_far (p := ⟨gb288, 0, none⟩) (Kd.R_types HO287.out BK288.out (by decide)) (fun _ hk => hk.2) (.int .i64 t284)) (fun _ hk => hk.2) (.slice Ao46 t285.length co46)) (fun _ hk => ⟨hk.1.1.2, hk.1.2⟩)⟩
    have n3_ : Aside0 (((w41.setCell ⟨gb288, 0, none⟩ (.int .i64 t284)).setCell ⟨gb288, 1, none⟩ (.slice Ao46 t285.length co46)).heap[gb268]? = some (.cells #[.int .i64 a0_0, .int .i64 a0_1, .int .i64 a0_2, .int .i64 a0_3] 23 (0, 0))) := ⟨by (with_reducible repeat (first | refine blk_drewN ?_ _ | refine blk_drew ?_ | refine blk_alloc ?_ _)); refine blk_far ?_ NB268_288.out _; (with_reducible repeat (first | refine blk_drewN ?_ _ | refine blk_drew ?_ | refine blk_alloc ?_ _)); refine blk_far ?_ NB268_288.out _; (with_reducible repeat (first | refine blk_drewN ?_ _ | refine blk_drew ?_ | refine blk_alloc ?_ _)); exact BK268.out⟩
    have n4_ : Aside0 (((w41.setCell ⟨gb288, 0, none⟩ (.int .i64 t284)).setCell ⟨gb288, 1, none⟩ (.slice Ao46 t285.length co46)).heap[gb269]? = some (.cells #[.int .i64 a1_0, .slice A1_1 l1_1.length c1_1] 36 (0, 0))) := ⟨by (with_reducible repeat (first | refine blk_drewN ?_ _ | refine blk_drew ?_ | refine blk_alloc ?_ _)); refine blk_far ?_ NB269_288.out _; (with_reducible repeat (first | refine blk_drewN ?_ _ | refine blk_drew ?_ | refine blk_alloc ?_ _)); refine blk_far ?_ NB269_288.out _; (with_reducible repeat (first | refine blk_drewN ?_ _ | refine blk_drew ?_ | refine blk_alloc ?_ _)); exact BK269.out⟩
    have n5_ : Aside0 (((w41.setCell ⟨gb288, 0, none⟩ (.int .i64 t284)).setCell ⟨gb288, 1, none⟩ (.slice Ao46 t285.length co46)).heap[gb283]? = some (.cells #[.int .i64 t279, .slice Ao36 t280.length co36] 39 (0, 0))) := ⟨by (with_reducible repeat (first | refine blk_drewN ?_ _ | refine blk_drew ?_ | refine blk_alloc ?_ _)); refine blk_far ?_ NB283_288.out _; (with_reducible repeat (first | refine blk_drewN ?_ _ | refine blk_drew ?_ | refine blk_alloc ?_ _)); refine blk_far ?_ NB283_288.out _; (with_reducible repeat (first | refine blk_drewN ?_ _ | refine blk_drew ?_ | refine blk_alloc ?_ _)); exact BK283.out⟩
    have n6_ : Aside0 (((w41.setCell ⟨gb288, 0, none⟩ (.int .i64 t284)).setCell ⟨gb288, 1, none⟩ (.slice Ao46 t285.length co46)).heap[gb288]? = some (.cells #[.int .i64 t284, .slice Ao46 t285.length co46] 39 (0, 0))) := ⟨by (with_reducible repeat (first | refine blk_drewN ?_ _ | refine blk_drew ?_ | refine blk_alloc ?_ _)); refine blk_put (cs := #[.int .i64 t284, .slice none 0 0]) ?_ 1 _ rfl; (with_reducible repeat (first | refine blk_drewN ?_ _ | refine blk_drew ?_ | refine blk_alloc ?_ _)); refine blk_put (cs := #[.int .i64 0, .slice none 0 0]) ?_ 0 _ rfl; (with_reducible repeat (first | refine blk_drewN ?_ _ | refine blk_drew ?_ | refine blk_alloc ?_ _)); exact BK288.out⟩
    have n7_ : Aside0 (Below w.heap.size w ((w41.setCell ⟨gb288, 0, none⟩ (.int .i64 t284)).setCell ⟨gb288, 1, none⟩ (.slice Ao46 t285.length co46))) := ⟨by repeat (first | (with_reducible first | exact HB.out | apply below_alloc | apply pw_below_drewN | apply below_drew1 | refine below_set ?_ GE288.out) | exact HB.out)⟩
    (try clear HO278)
    (try clear HO282)
    (try clear HO287)
    (try clear BK268)
    (try clear BK269)
    (try clear BK283)
    (try clear BK288)
    (try clear HB)
    generalize ((w41.setCell ⟨gb288, 0, none⟩ (.int .i64 t284)).setCell ⟨gb288, 1, none⟩ (.slice Ao46 t285.length co46)) = w47 at n0_ n1_ n2_ n3_ n4_ n5_ n6_ n7_ ⊢
    have HO278 := n0_
    have HO282 := n1_
    have HO287 := n2_
    have BK268 := n3_
    have BK269 := n4_
    have BK283 := n5_
    have BK288 := n6_
    have HB := n7_
    clear n0_ n1_ n2_ n3_ n4_ n5_ n6_ n7_
    have n0_ := Aside0.mk (Kd.R_drew HO278.out)
    have n1_ := Aside0.mk (Kd.R_drew HO282.out)
    have n2_ := Aside0.mk (Kd.R_drew HO287.out)
    have n3_ := Aside0.mk (blk_drew BK268.out)
    have n4_ := Aside0.mk (blk_drew BK269.out)
    have n5_ := Aside0.mk (blk_drew BK283.out)
    have n6_ := Aside0.mk (blk_drew BK288.out)
    have n7_ := Aside0.mk (below_drew1 HB.out)
    clear HO278
    clear HO282
    clear HO287
    clear BK268
    clear BK269
    clear BK283
    clear BK288
    clear HB
    have HO278 := n0_
    have HO282 := n1_
    have HO287 := n2_
    have BK268 := n3_
    have BK269 := n4_
    have BK283 := n5_
    have BK288 := n6_
    have HB := n7_
    clear n0_ n1_ n2_ n3_ n4_ n5_ n6_ n7_
    refine start_ (n := 6) (S := fun w' => w'.cell? ⟨gb268, 0, none⟩ = some (.int .i64 a0_0) ∧ w'.cell? ⟨gb268, 1, none⟩ = some (.int .i64 a0_1) ∧ w'.cell? ⟨gb268, 2, none⟩ = some (.int .i64 a0_2) ∧ w'.cell? ⟨gb268, 3, none⟩ = some (.int .i64 a0_3) ∧ w'.cell? ⟨gb288, 0, none⟩ = some (.int .i64 t284) ∧ w'.cell? ⟨gb288, 1, none⟩ = some (.slice Ao46 t285.length co46)) (ds := []) #[false, false, false, false, false, false] (by kernel_rfl) rfl rfl ⟨(blk_cell BK268.out 0).trans rfl, (blk_cell BK268.out 1).trans rfl, (blk_cell BK268.out 2).trans rfl, (blk_cell BK268.out 3).trans rfl, (blk_cell BK288.out 0).trans rfl, (blk_cell BK288.out 1).trans rfl⟩ (fun hHeld => ?_)
    generalize w47.drew = w48 at HO278 HO282 HO287 BK268 BK269 BK283 BK288 HB hHeld ⊢
    refine take_ (i := 0) (N := some 25) (v := ?_) (a' := ?_) #[true, false, false, false, false, false] rfl rfl (by kernel_rfl) (fun _ _ _ h => h) (Or.inl ⟨by rfl, ?_⟩) hHeld ?_ ?_
    rotate_left
    ·rintro w' ⟨s0, s1, s2, s3, s4, s5⟩
     go_simp
     with_reducible rfl
    rotate_left
    ·simp only [Act.put, List.setIfInBounds_toArray, List.set_cons_zero, List.set_cons_succ, i64_w, i32_w]
     rfl
    refine take_ (i := 2) (N := some 27) (v := ?_) (a' := ?_) #[true, false, true, false, false, false] rfl rfl (by kernel_rfl) (fun _ _ _ h => h) (Or.inl ⟨by rfl, ?_⟩) hHeld ?_ ?_
    rotate_left
    ·rintro w' ⟨s0, s1, s2, s3, s4, s5⟩
     go_simp
     with_reducible rfl
    rotate_left
    ·simp only [Act.put, List.setIfInBounds_toArray, List.set_cons_zero, List.set_cons_succ, i64_w, i32_w]
     rfl
    refine join_ (σ := Value × Nat) 1 #[true, true, true, true, true, false] (fun s_ => [(26, .agg #[.int .i64 t289, .int .i64 t290, .int .i64 t291, .int .i64 t292]), (28, .agg #[.int .i64 t293, s_.1]), (8, .pointer (some ⟨s_.2, 0, none⟩))]) (fun s_ w' => (w'.cell? ⟨gb268, 0, none⟩ = some (.int .i64 a0_0) ∧ w'.cell? ⟨gb268, 1, none⟩ = some (.int .i64 a0_1) ∧ w'.cell? ⟨gb268, 2, none⟩ = some (.int .i64 a0_2) ∧ w'.cell? ⟨gb268, 3, none⟩ = some (.int .i64 a0_3) ∧ w'.cell? ⟨gb288, 0, none⟩ = some (.int .i64 t284) ∧ w'.cell? ⟨gb288, 1, none⟩ = some (.slice Ao46 t285.length co46)) ∧ (Kd.R (Kd.int .u32) 46 w' w.heap.size (fun k_ => some k_ ≠ (.slice Ao36 t280.length co36 : Value).ownBlock ∧ some k_ ≠ (.slice Ao46 t285.length co46 : Value).ownBlock ∧ some k_ ≠ (s_.1 : Value).ownBlock) v277 t276) ∧ (Kd.R (Kd.int .u32) 46 w' w.heap.size (fun k_ => some k_ ≠ (v277 : Value).ownBlock ∧ some k_ ≠ (.slice Ao46 t285.length co46 : Value).ownBlock ∧ some k_ ≠ (s_.1 : Value).ownBlock) (.slice Ao36 t280.length co36) t280) ∧ (Kd.R (Kd.int .u32) 46 w' w.heap.size (fun k_ => some k_ ≠ (v277 : Value).ownBlock ∧ some k_ ≠ (.slice Ao36 t280.length co36 : Value).ownBlock ∧ some k_ ≠ (s_.1 : Value).ownBlock) (.slice Ao46 t285.length co46) t285) ∧ (Kd.R (Kd.int .u32) 46 w' w.heap.size (fun k_ => some k_ ≠ (v277 : Value).ownBlock ∧ some k_ ≠ (.slice Ao36 t280.length co36 : Value).ownBlock ∧ some k_ ≠ (.slice Ao46 t285.length co46 : Value).ownBlock) s_.1 t294) ∧ (w'.heap[gb268]? = some (.cells #[.int .i64 a0_0, .int .i64 a0_1, .int .i64 a0_2, .int .i64 a0_3] 23 (0, 0))) ∧ (w'.heap[gb269]? = some (.cells #[.int .i64 a1_0, .slice A1_1 l1_1.length c1_1] 36 (0, 0))) ∧ (w'.heap[gb283]? = some (.cells #[.int .i64 t279, .slice Ao36 t280.length co36] 39 (0, 0))) ∧ (w'.heap[gb288]? = some (.cells #[.int .i64 t284, .slice Ao46 t285.length co46] 39 (0, 0))) ∧ (w'.heap[s_.2]? = some (.cells #[.int .i64 0, .slice none 0 0] 39 (0, 0))) ∧ (w.heap.size ≤ s_.2) ∧ (w.heap.size ≤ s_.2) ∧ (gb268 ≠ s_.2) ∧ (s_.2 ≠ gb268) ∧ (gb269 ≠ s_.2) ∧ (s_.2 ≠ gb269) ∧ (gb283 ≠ s_.2) ∧ (s_.2 ≠ gb283) ∧ (gb288 ≠ s_.2) ∧ (s_.2 ≠ gb288) ∧ (Below w.heap.size w w')) ?_ ?_
    rotate_left
    ·intro hCont
     refine two_ (i := 1) (j := 4) (Ni := some 26) (Nj := some 8) #[true, true, true, false, false, false] #[true, false, true, false, true, false] rfl rfl rfl rfl (by kernel_rfl) (by decide) (by decide) (fun K hK => ?_) (fun K hK => ?_)
     ·skip
      refine goes_ Try.func16 (by kernel_rfl) rfl #[.agg #[.int .i64 a0_0, .int .i64 a0_1, .int .i64 a0_2, .int .i64 a0_3]] (by rfl) rfl rfl (by (try simp only [List.map_toArray, List.map_cons, List.map_nil]); first | done | rfl | (simp only [List.length_drop, List.length_take]; rfl)) ?_
      with_reducible refine (laws_toChanRow.calls a0_0 a0_1 a0_2 a0_3 t289 t290 t291 t292 _ A14.out).mono ?_
      rintro e w49 ⟨rfl, hb⟩
      refine ⟨_, rfl, ?_⟩
      have n0_ := Aside0.mk (Kd.R_below (rq HO278.out) hb)
      have n1_ := Aside0.mk (Kd.R_below (rq HO282.out) hb)
      have n2_ := Aside0.mk (Kd.R_below (rq HO287.out) hb)
      have n3_ := Aside0.mk (blk_below (bq BK268.out) hb)
      have n4_ := Aside0.mk (blk_below (bq BK269.out) hb)
      have n5_ := Aside0.mk (blk_below (bq BK283.out) hb)
      have n6_ := Aside0.mk (blk_below (bq BK288.out) hb)
      have n7_ := Aside0.mk (below_step (lq HB.out) hb)
      clear HO278
      clear HO282
      clear HO287
      clear BK268
      clear BK269
      clear BK283
      clear BK288
      clear HB
      have HO278 := n0_
      have HO282 := n1_
      have HO287 := n2_
      have BK268 := n3_
      have BK269 := n4_
      have BK283 := n5_
      have BK288 := n6_
      have HB := n7_
      clear n0_ n1_ n2_ n3_ n4_ n5_ n6_ n7_
      (try clear hb)
      (try clear hb2)
      (try clear hk)
      (try clear hi)
      refine hK.out _ _ ⟨(blk_cell BK268.out 0).trans rfl, (blk_cell BK268.out 1).trans rfl, (blk_cell BK268.out 2).trans rfl, (blk_cell BK268.out 3).trans rfl, (blk_cell BK288.out 0).trans rfl, (blk_cell BK288.out 1).trans rfl⟩ (fun hHeld => ?_)
      clear hK K
      refine norm_ (a' := ?_) ?_ ?_
      rotate_left
      ·show Act.put _ (some 26) _ = _
       simp only [Act.put, List.setIfInBounds_toArray, List.set_cons_zero, List.set_cons_succ, i64_w, i32_w]
       rfl
      refine two_ (i := 3) (j := 4) (Ni := some 28) (Nj := some 8) #[true, true, true, true, false, false] #[true, true, true, false, true, false] rfl rfl rfl rfl (by kernel_rfl) (by decide) (by decide) (fun K hK => ?_) (fun K hK => ?_)
      ·skip
       refine goes_ Try.func28 (by kernel_rfl) rfl #[.agg #[.int .i64 t289, .int .i64 t290, .int .i64 t291, .int .i64 t292], .agg #[.int .i64 t284, .slice Ao46 t285.length co46]] (by rfl) rfl rfl (by (try simp only [List.map_toArray, List.map_cons, List.map_nil]); first | done | rfl | (simp only [List.length_drop, List.length_take]; rfl)) ?_
       with_reducible refine (impl_Discard.calls t289 t290 t291 t292 t284 _ _ t285 t293 t294 _ ?side1 ?side2 A15.out).mono ?_
       (case side1 => repeat (first | exact (Kd.R_reads' HO287.out).2.2 | (with_reducible refine Kd.C_alloc ?_ _) | (with_reducible refine Kd.C_drewN ?_ _) | (with_reducible refine Kd.C_drew ?_)))
       (case side2 => exact (Kd.R_reads' HO287.out).2.1)
       rintro e w50 ⟨v295, rfl, ho0, hb⟩
       refine ⟨_, rfl, ?_⟩
       have n0_ := Aside0.mk (Kd.R_elder' (rq HO278.out) (Kd.R_base ho0) hb)
       have n1_ := Aside0.mk (Kd.R_elder' (rq HO282.out) (Kd.R_base ho0) hb)
       have n2_ := Aside0.mk (Kd.R_elder' (rq HO287.out) (Kd.R_base ho0) hb)
       have n3_ := Aside0.mk (Kd.R_lower (Kd.R_new' (Kd.R_new' (Kd.R_new' ho0 (Kd.R_lt (rq HO278.out))) (Kd.R_lt (rq HO282.out))) (Kd.R_lt (rq HO287.out))) (below_size (lq HB.out)))
       have n4_ := Aside0.mk (blk_below (bq BK268.out) hb)
       have n5_ := Aside0.mk (blk_below (bq BK269.out) hb)
       have n6_ := Aside0.mk (blk_below (bq BK283.out) hb)
       have n7_ := Aside0.mk (blk_below (bq BK288.out) hb)
       have n8_ := Aside0.mk (below_step (lq HB.out) hb)
       clear HO278
       clear HO282
       clear HO287
       clear BK268
       clear BK269
       clear BK283
       clear BK288
       clear HB
       have HO278 := n0_
       have HO282 := n1_
       have HO287 := n2_
       have HO296 := n3_
       have BK268 := n4_
       have BK269 := n5_
       have BK283 := n6_
       have BK288 := n7_
       have HB := n8_
       clear n0_ n1_ n2_ n3_ n4_ n5_ n6_ n7_ n8_
       (try clear hb)
       (try clear hb2)
       (try clear hk)
       (try clear hi)
       (try clear ho0)
       refine hK.out _ _ ⟨(blk_cell BK268.out 0).trans rfl, (blk_cell BK268.out 1).trans rfl, (blk_cell BK268.out 2).trans rfl, (blk_cell BK268.out 3).trans rfl, (blk_cell BK288.out 0).trans rfl, (blk_cell BK288.out 1).trans rfl⟩ (fun hHeld => ?_)
       clear hK K
       refine norm_ (a' := ?_) ?_ ?_
       rotate_left
       ·show Act.put _ (some 28) _ = _
        simp only [Act.put, List.setIfInBounds_toArray, List.set_cons_zero, List.set_cons_succ, i64_w, i32_w]
        rfl
       refine one_ (i := 4) (N := some 8) #[true, true, true, true, true, false] rfl rfl (by kernel_rfl) (by decide) (fun K hK => ?_)
       refine box_step ?hg (N := 8) ?hd (cs := #[.int .i64 0, .slice none 0 0]) (t := 39) ?hr ?_; (case hd => rfl); (case hg => rfl); (case hr => first | (go_simp; done) | (go_simp; rfl))
       intro gb297 hg w51 hbox hb
       have n0_ := Aside0.mk (Kd.R_below (rq HO278.out) hb)
       have n1_ := Aside0.mk (Kd.R_below (rq HO282.out) hb)
       have n2_ := Aside0.mk (Kd.R_below (rq HO287.out) hb)
       have n3_ := Aside0.mk (Kd.R_below (rq HO296.out) hb)
       have n4_ := Aside0.mk (blk_below (bq BK268.out) hb)
       have n5_ := Aside0.mk (blk_below (bq BK269.out) hb)
       have n6_ := Aside0.mk (blk_below (bq BK283.out) hb)
       have n7_ := Aside0.mk (blk_below (bq BK288.out) hb)
       have n8_ := Aside0.mk (below_step (lq HB.out) hb)
       have n9_ := Aside0.mk (hbox)
       have n10_ := Aside0.mk ((ge_new hg (lq HB.out) : w.heap.size ≤ gb297))
       have n11_ := Aside0.mk ((ge_new hg (lq HB.out) : w.heap.size ≤ gb297))
       have n12_ := Aside0.mk ((ne_new hg (bq BK268.out) : gb268 ≠ gb297))
       have n13_ := Aside0.mk ((new_ne hg (bq BK268.out) : gb297 ≠ gb268))
       have n14_ := Aside0.mk ((ne_new hg (bq BK269.out) : gb269 ≠ gb297))
       have n15_ := Aside0.mk ((new_ne hg (bq BK269.out) : gb297 ≠ gb269))
       have n16_ := Aside0.mk ((ne_new hg (bq BK283.out) : gb283 ≠ gb297))
       have n17_ := Aside0.mk ((new_ne hg (bq BK283.out) : gb297 ≠ gb283))
       have n18_ := Aside0.mk ((ne_new hg (bq BK288.out) : gb288 ≠ gb297))
       have n19_ := Aside0.mk ((new_ne hg (bq BK288.out) : gb297 ≠ gb288))
       clear HO278
       clear HO282
       clear HO287
       clear HO296
       clear BK268
       clear BK269
       clear BK283
       clear BK288
       clear HB
       have HO278 := n0_
       have HO282 := n1_
       have HO287 := n2_
       have HO296 := n3_
       have BK268 := n4_
       have BK269 := n5_
       have BK283 := n6_
       have BK288 := n7_
       have HB := n8_
       have BK297 := n9_
       have GW297 := n10_
       have GE297 := n11_
       have NB268_297 := n12_
       have NB297_268 := n13_
       have NB269_297 := n14_
       have NB297_269 := n15_
       have NB283_297 := n16_
       have NB297_283 := n17_
       have NB288_297 := n18_
       have NB297_288 := n19_
       clear n0_ n1_ n2_ n3_ n4_ n5_ n6_ n7_ n8_ n9_ n10_ n11_ n12_ n13_ n14_ n15_ n16_ n17_ n18_ n19_
       clear hb hbox hg
       refine hK.out _ _ ⟨(blk_cell BK268.out 0).trans rfl, (blk_cell BK268.out 1).trans rfl, (blk_cell BK268.out 2).trans rfl, (blk_cell BK268.out 3).trans rfl, (blk_cell BK288.out 0).trans rfl, (blk_cell BK288.out 1).trans rfl⟩ (fun hHeld => ?_)
       clear hK K
       refine norm_ (a' := ?_) ?_ ?_
       rotate_left
       ·show Act.put _ (some 8) _ = _
        simp only [Act.put, List.setIfInBounds_toArray, List.set_cons_zero, List.set_cons_succ, i64_w, i32_w]
        rfl
       exact norm_ (by simp only [putAll, Act.put, List.setIfInBounds_toArray, List.set_cons_zero, List.set_cons_succ]) (hCont (v295, gb297) _ ⟨hHeld, (by (with_reducible repeat (first | apply Kd.R_alloc | apply Kd.R_drewN | apply Kd.R_drew)); exact Kd.R_mono HO278.out (fun _ hk => ⟨hk.1.1, ⟨hk.1.2, hk.2⟩⟩)), (by (with_reducible repeat (first | apply Kd.R_alloc | apply Kd.R_drewN | apply Kd.R_drew)); exact Kd.R_mono HO282.out (fun _ hk => ⟨hk.1.1, ⟨hk.1.2, hk.2⟩⟩)), (by (with_reducible repeat (first | apply Kd.R_alloc | apply Kd.R_drewN | apply Kd.R_drew)); exact Kd.R_mono HO287.out (fun _ hk => ⟨hk.1.1, ⟨hk.1.2, hk.2⟩⟩)), (by (with_reducible repeat (first | apply Kd.R_alloc | apply Kd.R_drewN | apply Kd.R_drew)); exact Kd.R_mono HO296.out (fun _ hk => ⟨hk.1.1.2, ⟨hk.1.2, hk.2⟩⟩)), (bq BK268.out), (bq BK269.out), (bq BK283.out), (bq BK288.out), (bq BK297.out), GW297.out, GE297.out, NB268_297.out, NB297_268.out, NB269_297.out, NB297_269.out, NB283_297.out, NB297_283.out, NB288_297.out, NB297_288.out, (lq HB.out)⟩)
      ·skip
       refine box_step ?hg (N := 8) ?hd (cs := #[.int .i64 0, .slice none 0 0]) (t := 39) ?hr ?_; (case hd => rfl); (case hg => rfl); (case hr => first | (go_simp; done) | (go_simp; rfl))
       intro gb297 hg w50 hbox hb
       have n0_ := Aside0.mk (Kd.R_below (rq HO278.out) hb)
       have n1_ := Aside0.mk (Kd.R_below (rq HO282.out) hb)
       have n2_ := Aside0.mk (Kd.R_below (rq HO287.out) hb)
       have n3_ := Aside0.mk (blk_below (bq BK268.out) hb)
       have n4_ := Aside0.mk (blk_below (bq BK269.out) hb)
       have n5_ := Aside0.mk (blk_below (bq BK283.out) hb)
       have n6_ := Aside0.mk (blk_below (bq BK288.out) hb)
       have n7_ := Aside0.mk (below_step (lq HB.out) hb)
       have n8_ := Aside0.mk (hbox)
       have n9_ := Aside0.mk ((ge_new hg (lq HB.out) : w.heap.size ≤ gb297))
       have n10_ := Aside0.mk ((ge_new hg (lq HB.out) : w.heap.size ≤ gb297))
       have n11_ := Aside0.mk ((ne_new hg (bq BK268.out) : gb268 ≠ gb297))
       have n12_ := Aside0.mk ((new_ne hg (bq BK268.out) : gb297 ≠ gb268))
       have n13_ := Aside0.mk ((ne_new hg (bq BK269.out) : gb269 ≠ gb297))
       have n14_ := Aside0.mk ((new_ne hg (bq BK269.out) : gb297 ≠ gb269))
       have n15_ := Aside0.mk ((ne_new hg (bq BK283.out) : gb283 ≠ gb297))
       have n16_ := Aside0.mk ((new_ne hg (bq BK283.out) : gb297 ≠ gb283))
       have n17_ := Aside0.mk ((ne_new hg (bq BK288.out) : gb288 ≠ gb297))
       have n18_ := Aside0.mk ((new_ne hg (bq BK288.out) : gb297 ≠ gb288))
       clear HO278
       clear HO282
       clear HO287
       clear BK268
       clear BK269
       clear BK283
       clear BK288
       clear HB
       have HO278 := n0_
       have HO282 := n1_
       have HO287 := n2_
       have BK268 := n3_
       have BK269 := n4_
       have BK283 := n5_
       have BK288 := n6_
       have HB := n7_
       have BK297 := n8_
       have GW297 := n9_
       have GE297 := n10_
       have NB268_297 := n11_
       have NB297_268 := n12_
       have NB269_297 := n13_
       have NB297_269 := n14_
       have NB283_297 := n15_
       have NB297_283 := n16_
       have NB288_297 := n17_
       have NB297_288 := n18_
       clear n0_ n1_ n2_ n3_ n4_ n5_ n6_ n7_ n8_ n9_ n10_ n11_ n12_ n13_ n14_ n15_ n16_ n17_ n18_
       clear hb hbox hg
       refine hK.out _ _ ⟨(blk_cell BK268.out 0).trans rfl, (blk_cell BK268.out 1).trans rfl, (blk_cell BK268.out 2).trans rfl, (blk_cell BK268.out 3).trans rfl, (blk_cell BK288.out 0).trans rfl, (blk_cell BK288.out 1).trans rfl⟩ (fun hHeld => ?_)
       clear hK K
       refine norm_ (a' := ?_) ?_ ?_
       rotate_left
       ·show Act.put _ (some 8) _ = _
        simp only [Act.put, List.setIfInBounds_toArray, List.set_cons_zero, List.set_cons_succ, i64_w, i32_w]
        rfl
       refine one_ (i := 3) (N := some 28) #[true, true, true, true, true, false] rfl rfl (by kernel_rfl) (by decide) (fun K hK => ?_)
       refine goes_ Try.func28 (by kernel_rfl) rfl #[.agg #[.int .i64 t289, .int .i64 t290, .int .i64 t291, .int .i64 t292], .agg #[.int .i64 t284, .slice Ao46 t285.length co46]] (by rfl) rfl rfl (by (try simp only [List.map_toArray, List.map_cons, List.map_nil]); first | done | rfl | (simp only [List.length_drop, List.length_take]; rfl)) ?_
       with_reducible refine (impl_Discard.calls t289 t290 t291 t292 t284 _ _ t285 t293 t294 _ ?side1 ?side2 A15.out).mono ?_
       (case side1 => repeat (first | exact (Kd.R_reads' HO287.out).2.2 | (with_reducible refine Kd.C_alloc ?_ _) | (with_reducible refine Kd.C_drewN ?_ _) | (with_reducible refine Kd.C_drew ?_)))
       (case side2 => exact (Kd.R_reads' HO287.out).2.1)
       rintro e w51 ⟨v295, rfl, ho0, hb⟩
       refine ⟨_, rfl, ?_⟩
       have n0_ := Aside0.mk (Kd.R_elder' (rq HO278.out) (Kd.R_base ho0) hb)
       have n1_ := Aside0.mk (Kd.R_elder' (rq HO282.out) (Kd.R_base ho0) hb)
       have n2_ := Aside0.mk (Kd.R_elder' (rq HO287.out) (Kd.R_base ho0) hb)
       have n3_ := Aside0.mk (Kd.R_lower (Kd.R_new' (Kd.R_new' (Kd.R_new' ho0 (Kd.R_lt (rq HO278.out))) (Kd.R_lt (rq HO282.out))) (Kd.R_lt (rq HO287.out))) (below_size (lq HB.out)))
       have n4_ := Aside0.mk (blk_below (bq BK268.out) hb)
       have n5_ := Aside0.mk (blk_below (bq BK269.out) hb)
       have n6_ := Aside0.mk (blk_below (bq BK283.out) hb)
       have n7_ := Aside0.mk (blk_below (bq BK288.out) hb)
       have n8_ := Aside0.mk (blk_below (bq BK297.out) hb)
       have n9_ := Aside0.mk (below_step (lq HB.out) hb)
       clear HO278
       clear HO282
       clear HO287
       clear BK268
       clear BK269
       clear BK283
       clear BK288
       clear BK297
       clear HB
       have HO278 := n0_
       have HO282 := n1_
       have HO287 := n2_
       have HO296 := n3_
       have BK268 := n4_
       have BK269 := n5_
       have BK283 := n6_
       have BK288 := n7_
       have BK297 := n8_
       have HB := n9_
       clear n0_ n1_ n2_ n3_ n4_ n5_ n6_ n7_ n8_ n9_
       (try clear hb)
       (try clear hb2)
       (try clear hk)
       (try clear hi)
       (try clear ho0)
       refine hK.out _ _ ⟨(blk_cell BK268.out 0).trans rfl, (blk_cell BK268.out 1).trans rfl, (blk_cell BK268.out 2).trans rfl, (blk_cell BK268.out 3).trans rfl, (blk_cell BK288.out 0).trans rfl, (blk_cell BK288.out 1).trans rfl⟩ (fun hHeld => ?_)
       clear hK K
       refine norm_ (a' := ?_) ?_ ?_
       rotate_left
       ·show Act.put _ (some 28) _ = _
        simp only [Act.put, List.setIfInBounds_toArray, List.set_cons_zero, List.set_cons_succ, i64_w, i32_w]
        rfl
       exact norm_ (by simp only [putAll, Act.put, List.setIfInBounds_toArray, List.set_cons_zero, List.set_cons_succ]) (hCont (v295, gb297) _ ⟨hHeld, (by (with_reducible repeat (first | apply Kd.R_alloc | apply Kd.R_drewN | apply Kd.R_drew)); exact Kd.R_mono HO278.out (fun _ hk => ⟨hk.1.1, ⟨hk.1.2, hk.2⟩⟩)), (by (with_reducible repeat (first | apply Kd.R_alloc | apply Kd.R_drewN | apply Kd.R_drew)); exact Kd.R_mono HO282.out (fun _ hk => ⟨hk.1.1, ⟨hk.1.2, hk.2⟩⟩)), (by (with_reducible repeat (first | apply Kd.R_alloc | apply Kd.R_drewN | apply Kd.R_drew)); exact Kd.R_mono HO287.out (fun _ hk => ⟨hk.1.1, ⟨hk.1.2, hk.2⟩⟩)), (by (with_reducible repeat (first | apply Kd.R_alloc | apply Kd.R_drewN | apply Kd.R_drew)); exact Kd.R_mono HO296.out (fun _ hk => ⟨hk.1.1.2, ⟨hk.1.2, hk.2⟩⟩)), (bq BK268.out), (bq BK269.out), (bq BK283.out), (bq BK288.out), (bq BK297.out), GW297.out, GE297.out, NB268_297.out, NB297_268.out, NB269_297.out, NB297_269.out, NB283_297.out, NB297_283.out, NB288_297.out, NB297_288.out, (lq HB.out)⟩)
     ·skip
      refine box_step ?hg (N := 8) ?hd (cs := #[.int .i64 0, .slice none 0 0]) (t := 39) ?hr ?_; (case hd => rfl); (case hg => rfl); (case hr => first | (go_simp; done) | (go_simp; rfl))
      intro gb297 hg w49 hbox hb
      have n0_ := Aside0.mk (Kd.R_below (rq HO278.out) hb)
      have n1_ := Aside0.mk (Kd.R_below (rq HO282.out) hb)
      have n2_ := Aside0.mk (Kd.R_below (rq HO287.out) hb)
      have n3_ := Aside0.mk (blk_below (bq BK268.out) hb)
      have n4_ := Aside0.mk (blk_below (bq BK269.out) hb)
      have n5_ := Aside0.mk (blk_below (bq BK283.out) hb)
      have n6_ := Aside0.mk (blk_below (bq BK288.out) hb)
      have n7_ := Aside0.mk (below_step (lq HB.out) hb)
      have n8_ := Aside0.mk (hbox)
      have n9_ := Aside0.mk ((ge_new hg (lq HB.out) : w.heap.size ≤ gb297))
      have n10_ := Aside0.mk ((ge_new hg (lq HB.out) : w.heap.size ≤ gb297))
      have n11_ := Aside0.mk ((ne_new hg (bq BK268.out) : gb268 ≠ gb297))
      have n12_ := Aside0.mk ((new_ne hg (bq BK268.out) : gb297 ≠ gb268))
      have n13_ := Aside0.mk ((ne_new hg (bq BK269.out) : gb269 ≠ gb297))
      have n14_ := Aside0.mk ((new_ne hg (bq BK269.out) : gb297 ≠ gb269))
      have n15_ := Aside0.mk ((ne_new hg (bq BK283.out) : gb283 ≠ gb297))
      have n16_ := Aside0.mk ((new_ne hg (bq BK283.out) : gb297 ≠ gb283))
      have n17_ := Aside0.mk ((ne_new hg (bq BK288.out) : gb288 ≠ gb297))
      have n18_ := Aside0.mk ((new_ne hg (bq BK288.out) : gb297 ≠ gb288))
      clear HO278
      clear HO282
      clear HO287
      clear BK268
      clear BK269
      clear BK283
      clear BK288
      clear HB
      have HO278 := n0_
      have HO282 := n1_
      have HO287 := n2_
      have BK268 := n3_
      have BK269 := n4_
      have BK283 := n5_
      have BK288 := n6_
      have HB := n7_
      have BK297 := n8_
      have GW297 := n9_
      have GE297 := n10_
      have NB268_297 := n11_
      have NB297_268 := n12_
      have NB269_297 := n13_
      have NB297_269 := n14_
      have NB283_297 := n15_
      have NB297_283 := n16_
      have NB288_297 := n17_
      have NB297_288 := n18_
      clear n0_ n1_ n2_ n3_ n4_ n5_ n6_ n7_ n8_ n9_ n10_ n11_ n12_ n13_ n14_ n15_ n16_ n17_ n18_
      clear hb hbox hg
      refine hK.out _ _ ⟨(blk_cell BK268.out 0).trans rfl, (blk_cell BK268.out 1).trans rfl, (blk_cell BK268.out 2).trans rfl, (blk_cell BK268.out 3).trans rfl, (blk_cell BK288.out 0).trans rfl, (blk_cell BK288.out 1).trans rfl⟩ (fun hHeld => ?_)
      clear hK K
      refine norm_ (a' := ?_) ?_ ?_
      rotate_left
      ·show Act.put _ (some 8) _ = _
       simp only [Act.put, List.setIfInBounds_toArray, List.set_cons_zero, List.set_cons_succ, i64_w, i32_w]
       rfl
      refine one_ (i := 1) (N := some 26) #[true, true, true, false, true, false] rfl rfl (by kernel_rfl) (by decide) (fun K hK => ?_)
      refine goes_ Try.func16 (by kernel_rfl) rfl #[.agg #[.int .i64 a0_0, .int .i64 a0_1, .int .i64 a0_2, .int .i64 a0_3]] (by rfl) rfl rfl (by (try simp only [List.map_toArray, List.map_cons, List.map_nil]); first | done | rfl | (simp only [List.length_drop, List.length_take]; rfl)) ?_
      with_reducible refine (laws_toChanRow.calls a0_0 a0_1 a0_2 a0_3 t289 t290 t291 t292 _ A14.out).mono ?_
      rintro e w50 ⟨rfl, hb⟩
      refine ⟨_, rfl, ?_⟩
      have n0_ := Aside0.mk (Kd.R_below (rq HO278.out) hb)
      have n1_ := Aside0.mk (Kd.R_below (rq HO282.out) hb)
      have n2_ := Aside0.mk (Kd.R_below (rq HO287.out) hb)
      have n3_ := Aside0.mk (blk_below (bq BK268.out) hb)
      have n4_ := Aside0.mk (blk_below (bq BK269.out) hb)
      have n5_ := Aside0.mk (blk_below (bq BK283.out) hb)
      have n6_ := Aside0.mk (blk_below (bq BK288.out) hb)
      have n7_ := Aside0.mk (blk_below (bq BK297.out) hb)
      have n8_ := Aside0.mk (below_step (lq HB.out) hb)
      clear HO278
      clear HO282
      clear HO287
      clear BK268
      clear BK269
      clear BK283
      clear BK288
      clear BK297
      clear HB
      have HO278 := n0_
      have HO282 := n1_
      have HO287 := n2_
      have BK268 := n3_
      have BK269 := n4_
      have BK283 := n5_
      have BK288 := n6_
      have BK297 := n7_
      have HB := n8_
      clear n0_ n1_ n2_ n3_ n4_ n5_ n6_ n7_ n8_
      (try clear hb)
      (try clear hb2)
      (try clear hk)
      (try clear hi)
      refine hK.out _ _ ⟨(blk_cell BK268.out 0).trans rfl, (blk_cell BK268.out 1).trans rfl, (blk_cell BK268.out 2).trans rfl, (blk_cell BK268.out 3).trans rfl, (blk_cell BK288.out 0).trans rfl, (blk_cell BK288.out 1).trans rfl⟩ (fun hHeld => ?_)
      clear hK K
      refine norm_ (a' := ?_) ?_ ?_
      rotate_left
      ·show Act.put _ (some 26) _ = _
       simp only [Act.put, List.setIfInBounds_toArray, List.set_cons_zero, List.set_cons_succ, i64_w, i32_w]
       rfl
      refine one_ (i := 3) (N := some 28) #[true, true, true, true, true, false] rfl rfl (by kernel_rfl) (by decide) (fun K hK => ?_)
      refine goes_ Try.func28 (by kernel_rfl) rfl #[.agg #[.int .i64 t289, .int .i64 t290, .int .i64 t291, .int .i64 t292], .agg #[.int .i64 t284, .slice Ao46 t285.length co46]] (by rfl) rfl rfl (by (try simp only [List.map_toArray, List.map_cons, List.map_nil]); first | done | rfl | (simp only [List.length_drop, List.length_take]; rfl)) ?_
      with_reducible refine (impl_Discard.calls t289 t290 t291 t292 t284 _ _ t285 t293 t294 _ ?side1 ?side2 A15.out).mono ?_
      (case side1 => repeat (first | exact (Kd.R_reads' HO287.out).2.2 | (with_reducible refine Kd.C_alloc ?_ _) | (with_reducible refine Kd.C_drewN ?_ _) | (with_reducible refine Kd.C_drew ?_)))
      (case side2 => exact (Kd.R_reads' HO287.out).2.1)
      rintro e w51 ⟨v295, rfl, ho0, hb⟩
      refine ⟨_, rfl, ?_⟩
      have n0_ := Aside0.mk (Kd.R_elder' (rq HO278.out) (Kd.R_base ho0) hb)
      have n1_ := Aside0.mk (Kd.R_elder' (rq HO282.out) (Kd.R_base ho0) hb)
      have n2_ := Aside0.mk (Kd.R_elder' (rq HO287.out) (Kd.R_base ho0) hb)
      have n3_ := Aside0.mk (Kd.R_lower (Kd.R_new' (Kd.R_new' (Kd.R_new' ho0 (Kd.R_lt (rq HO278.out))) (Kd.R_lt (rq HO282.out))) (Kd.R_lt (rq HO287.out))) (below_size (lq HB.out)))
      have n4_ := Aside0.mk (blk_below (bq BK268.out) hb)
      have n5_ := Aside0.mk (blk_below (bq BK269.out) hb)
      have n6_ := Aside0.mk (blk_below (bq BK283.out) hb)
      have n7_ := Aside0.mk (blk_below (bq BK288.out) hb)
      have n8_ := Aside0.mk (blk_below (bq BK297.out) hb)
      have n9_ := Aside0.mk (below_step (lq HB.out) hb)
      clear HO278
      clear HO282
      clear HO287
      clear BK268
      clear BK269
      clear BK283
      clear BK288
      clear BK297
      clear HB
      have HO278 := n0_
      have HO282 := n1_
      have HO287 := n2_
      have HO296 := n3_
      have BK268 := n4_
      have BK269 := n5_
      have BK283 := n6_
      have BK288 := n7_
      have BK297 := n8_
      have HB := n9_
      clear n0_ n1_ n2_ n3_ n4_ n5_ n6_ n7_ n8_ n9_
      (try clear hb)
      (try clear hb2)
      (try clear hk)
      (try clear hi)
      (try clear ho0)
      refine hK.out _ _ ⟨(blk_cell BK268.out 0).trans rfl, (blk_cell BK268.out 1).trans rfl, (blk_cell BK268.out 2).trans rfl, (blk_cell BK268.out 3).trans rfl, (blk_cell BK288.out 0).trans rfl, (blk_cell BK288.out 1).trans rfl⟩ (fun hHeld => ?_)
      clear hK K
      refine norm_ (a' := ?_) ?_ ?_
      rotate_left
      ·show Act.put _ (some 28) _ = _
       simp only [Act.put, List.setIfInBounds_toArray, List.set_cons_zero, List.set_cons_succ, i64_w, i32_w]
       rfl
      exact norm_ (by simp only [putAll, Act.put, List.setIfInBounds_toArray, List.set_cons_zero, List.set_cons_succ]) (hCont (v295, gb297) _ ⟨hHeld, (by (with_reducible repeat (first | apply Kd.R_alloc | apply Kd.R_drewN | apply Kd.R_drew)); exact Kd.R_mono HO278.out (fun _ hk => ⟨hk.1.1, ⟨hk.1.2, hk.2⟩⟩)), (by (with_reducible repeat (first | apply Kd.R_alloc | apply Kd.R_drewN | apply Kd.R_drew)); exact Kd.R_mono HO282.out (fun _ hk => ⟨hk.1.1, ⟨hk.1.2, hk.2⟩⟩)), (by (with_reducible repeat (first | apply Kd.R_alloc | apply Kd.R_drewN | apply Kd.R_drew)); exact Kd.R_mono HO287.out (fun _ hk => ⟨hk.1.1, ⟨hk.1.2, hk.2⟩⟩)), (by (with_reducible repeat (first | apply Kd.R_alloc | apply Kd.R_drewN | apply Kd.R_drew)); exact Kd.R_mono HO296.out (fun _ hk => ⟨hk.1.1.2, ⟨hk.1.2, hk.2⟩⟩)), (bq BK268.out), (bq BK269.out), (bq BK283.out), (bq BK288.out), (bq BK297.out), GW297.out, GE297.out, NB268_297.out, NB297_268.out, NB269_297.out, NB297_269.out, NB283_297.out, NB297_283.out, NB288_297.out, NB297_288.out, (lq HB.out)⟩)
    rintro ⟨v295, gb297⟩ w52 ⟨hS_, h0_, h1_, h2_, h3_, h4_, h5_, h6_, h7_, h8_, h9_, h10_, h11_, h12_, h13_, h14_, h15_, h16_, h17_, h18_, h19_⟩
    have n0_ : Aside0 (Kd.R (Kd.int .u32) 46 w52 w.heap.size (fun k_ => some k_ ≠ (.slice Ao36 t280.length co36 : Value).ownBlock ∧ some k_ ≠ (.slice Ao46 t285.length co46 : Value).ownBlock ∧ some k_ ≠ (v295 : Value).ownBlock) v277 t276) := ⟨h0_⟩
    have n1_ : Aside0 (Kd.R (Kd.int .u32) 46 w52 w.heap.size (fun k_ => some k_ ≠ (v277 : Value).ownBlock ∧ some k_ ≠ (.slice Ao46 t285.length co46 : Value).ownBlock ∧ some k_ ≠ (v295 : Value).ownBlock) (.slice Ao36 t280.length co36) t280) := ⟨h1_⟩
    have n2_ : Aside0 (Kd.R (Kd.int .u32) 46 w52 w.heap.size (fun k_ => some k_ ≠ (v277 : Value).ownBlock ∧ some k_ ≠ (.slice Ao36 t280.length co36 : Value).ownBlock ∧ some k_ ≠ (v295 : Value).ownBlock) (.slice Ao46 t285.length co46) t285) := ⟨h2_⟩
    have n3_ : Aside0 (Kd.R (Kd.int .u32) 46 w52 w.heap.size (fun k_ => some k_ ≠ (v277 : Value).ownBlock ∧ some k_ ≠ (.slice Ao36 t280.length co36 : Value).ownBlock ∧ some k_ ≠ (.slice Ao46 t285.length co46 : Value).ownBlock) v295 t294) := ⟨h3_⟩
    have n4_ : Aside0 (w52.heap[gb268]? = some (.cells #[.int .i64 a0_0, .int .i64 a0_1, .int .i64 a0_2, .int .i64 a0_3] 23 (0, 0))) := ⟨h4_⟩
    have n5_ : Aside0 (w52.heap[gb269]? = some (.cells #[.int .i64 a1_0, .slice A1_1 l1_1.length c1_1] 36 (0, 0))) := ⟨h5_⟩
    have n6_ : Aside0 (w52.heap[gb283]? = some (.cells #[.int .i64 t279, .slice Ao36 t280.length co36] 39 (0, 0))) := ⟨h6_⟩
    have n7_ : Aside0 (w52.heap[gb288]? = some (.cells #[.int .i64 t284, .slice Ao46 t285.length co46] 39 (0, 0))) := ⟨h7_⟩
    have n8_ : Aside0 (w52.heap[gb297]? = some (.cells #[.int .i64 0, .slice none 0 0] 39 (0, 0))) := ⟨h8_⟩
    have n9_ : Aside0 (w.heap.size ≤ gb297) := ⟨h9_⟩
    have n10_ : Aside0 (w.heap.size ≤ gb297) := ⟨h10_⟩
    have n11_ : Aside0 (gb268 ≠ gb297) := ⟨h11_⟩
    have n12_ : Aside0 (gb297 ≠ gb268) := ⟨h12_⟩
    have n13_ : Aside0 (gb269 ≠ gb297) := ⟨h13_⟩
    have n14_ : Aside0 (gb297 ≠ gb269) := ⟨h14_⟩
    have n15_ : Aside0 (gb283 ≠ gb297) := ⟨h15_⟩
    have n16_ : Aside0 (gb297 ≠ gb283) := ⟨h16_⟩
    have n17_ : Aside0 (gb288 ≠ gb297) := ⟨h17_⟩
    have n18_ : Aside0 (gb297 ≠ gb288) := ⟨h18_⟩
    have n19_ : Aside0 (Below w.heap.size w w52) := ⟨h19_⟩
    clear HO278
    clear HO282
    clear HO287
    clear BK268
    clear BK269
    clear BK283
    clear BK288
    clear HB
    clear h0_ h1_ h2_ h3_ h4_ h5_ h6_ h7_ h8_ h9_ h10_ h11_ h12_ h13_ h14_ h15_ h16_ h17_ h18_ h19_
    have HO278 := n0_
    have HO282 := n1_
    have HO287 := n2_
    have HO296 := n3_
    have BK268 := n4_
    have BK269 := n5_
    have BK283 := n6_
    have BK288 := n7_
    have BK297 := n8_
    have GW297 := n9_
    have GE297 := n10_
    have NB268_297 := n11_
    have NB297_268 := n12_
    have NB269_297 := n13_
    have NB297_269 := n14_
    have NB283_297 := n15_
    have NB297_283 := n16_
    have NB288_297 := n17_
    have NB297_288 := n18_
    have HB := n19_
    clear n0_ n1_ n2_ n3_ n4_ n5_ n6_ n7_ n8_ n9_ n10_ n11_ n12_ n13_ n14_ n15_ n16_ n17_ n18_ n19_
    have hHeld : w52.cell? ⟨gb268, 0, none⟩ = some (.int .i64 a0_0) ∧ w52.cell? ⟨gb268, 1, none⟩ = some (.int .i64 a0_1) ∧ w52.cell? ⟨gb268, 2, none⟩ = some (.int .i64 a0_2) ∧ w52.cell? ⟨gb268, 3, none⟩ = some (.int .i64 a0_3) ∧ w52.cell? ⟨gb288, 0, none⟩ = some (.int .i64 t284) ∧ w52.cell? ⟨gb288, 1, none⟩ = some (.slice Ao46 t285.length co46) := hS_
    obtain ⟨Ao54, co54, eo54⟩ := Kd.R_slice HO296.out
    (first | subst eo54 | (injection eo54 with f1_ f2_ f3_; have f4_ := f1_.symm; have f5_ := f3_.symm; clear f1_ f2_ f3_; subst f4_; subst f5_))
    refine norm_ (a' := ?_) ?_ ?_
    rotate_left
    ·simp only [putAll, Act.put, List.setIfInBounds_toArray, List.set_cons_zero, List.set_cons_succ]
     rfl
    refine one_ (i := 5) (N := none) #[true, true, true, true, true, true] rfl rfl (by kernel_rfl) (by decide) (fun K hK => ?_)
    have hs53 : w52.cell? ⟨gb297, 0, none⟩ = some (.int .i64 0) := (blk_cell BK297.out 0).trans rfl
    have hfs53 := blk_frozen BK297.out 0
    have hns53_0 := NB268_297.out
    have hns53_1 := NB269_297.out
    have hns53_2 := NB283_297.out
    have hns53_3 := NB288_297.out
    have hms53_0 := NB297_268.out
    have hms53_1 := NB297_269.out
    have hms53_2 := NB297_283.out
    have hms53_3 := NB297_288.out
    have hs55 : w52.cell? ⟨gb297, 1, none⟩ = some (.slice none 0 0) := (blk_cell BK297.out 1).trans rfl
    have hfs55 := blk_frozen BK297.out 1
    have hns55_0 := NB268_297.out
    have hns55_1 := NB269_297.out
    have hns55_2 := NB283_297.out
    have hns55_3 := NB288_297.out
    have hms55_0 := NB297_268.out
    have hms55_1 := NB297_269.out
    have hms55_2 := NB297_283.out
    have hms55_3 := NB297_288.out
    refine skip_ (w1 := ?_) (by rfl) rfl ?_ ?_
    rotate_left
    ·go_simp
     rfl
    refine hK.out _ _ ⟨((cell_far (p := ⟨gb297, _, none⟩) NB268_297.out _).trans (((cell_far (p := ⟨gb297, _, none⟩) NB268_297.out _).trans (hHeld.1)))), ((cell_far (p := ⟨gb297, _, none⟩) NB268_297.out _).trans (((cell_far (p := ⟨gb297, _, none⟩) NB268_297.out _).trans (hHeld.2.1)))), ((cell_far (p := ⟨gb297, _, none⟩) NB268_297.out _).trans (((cell_far (p := ⟨gb297, _, none⟩) NB268_297.out _).trans (hHeld.2.2.1)))), ((cell_far (p := ⟨gb297, _, none⟩) NB268_297.out _).trans (((cell_far (p := ⟨gb297, _, none⟩) NB268_297.out _).trans (hHeld.2.2.2.1)))), ((cell_far (p := ⟨gb297, _, none⟩) NB288_297.out _).trans (((cell_far (p := ⟨gb297, _, none⟩) NB288_297.out _).trans (hHeld.2.2.2.2.1)))), ((cell_far (p := ⟨gb297, _, none⟩) NB288_297.out _).trans (((cell_far (p := ⟨gb297, _, none⟩) NB288_297.out _).trans (hHeld.2.2.2.2.2))))⟩ (fun hHeld => ?_)
    clear hK K
    refine done_ (by kernel_rfl) ?_
    have hnb56 := NB297_268.out
    have hnc56 := NB268_297.out
    have hnb57 := NB297_269.out
    have hnc57 := NB269_297.out
    have hnb58 := NB297_283.out
    have hnc58 := NB283_297.out
    have hnb59 := NB297_288.out
    have hnc59 := NB288_297.out
    have hcz60_0 : w52.cell? ⟨gb297, 0, none⟩ = some (.int .i64 0) := (blk_cell BK297.out 0).trans rfl
    have hcz60_1 : w52.cell? ⟨gb297, 1, none⟩ = some (.slice none 0 0) := (blk_cell BK297.out 1).trans rfl
    have hfz60_0 := blk_frozen BK297.out 0
    have hfz60_1 := blk_frozen BK297.out 1
    have hnb61 := NB283_268.out
    have hnc61 := NB268_283.out
    have hcz62_0 : w52.cell? ⟨gb283, 0, none⟩ = some (.int .i64 t279) := (blk_cell BK283.out 0).trans rfl
    have hcz62_1 : w52.cell? ⟨gb283, 1, none⟩ = some (.slice Ao36 t280.length co36) := (blk_cell BK283.out 1).trans rfl
    have hfz62_0 := blk_frozen BK283.out 0
    have hfz62_1 := blk_frozen BK283.out 1
    try go_wp2_with (first | ((with_reducible refine gate_callee (f := 24) rfl ?_); refine goesL_ (some 31) rfl rfl Try.func24 (by kernel_rfl) rfl #[.agg #[.int .i64 t293, .slice Ao54 t294.length co54], .agg #[.int .i64 t279, .slice Ao36 t280.length co36]] rfl (by (try simp only [List.map_toArray, List.map_cons, List.map_nil]); first | done | rfl | (simp only [List.length_drop, List.length_take]; rfl)) ?_; (with_reducible refine (laws_eqOutEnd.calls k t293 _ _ t294 t279 _ _ t280 true _ ?side1 ?side2 ?side3 ?side4 A16.out).mono ?_); (case side1 => refine (Kd.R_reads' (e := 46) (base := w.heap.size) (ok := fun k_ => (some k_ ≠ (v277 : Value).ownBlock ∧ (some k_ ≠ (.slice Ao36 t280.length co36 : Value).ownBlock ∧ some k_ ≠ (.slice Ao46 t285.length co46 : Value).ownBlock))) (n := t294.length) (c := co54) ?_).2.2; exact (rq (Kd.R_mono (Kd.R_far (p := ⟨gb297, 1, none⟩) (Kd.R_far (p := ⟨gb297, 0, none⟩) (Kd.R_types HO296.out BK297.out (by decide)) (fun _ hk => hk.2) (.int .i64 t293)) (fun _ hk => hk.2) (.slice Ao54 t294.length co54)) (fun _ h_ => h_.1)))); (case side2 => exact (Kd.R_reads' HO296.out).2.1); (case side3 => refine (Kd.R_reads' (e := 46) (base := w.heap.size) (ok := fun k_ => (some k_ ≠ (v277 : Value).ownBlock ∧ (some k_ ≠ (.slice Ao46 t285.length co46 : Value).ownBlock ∧ some k_ ≠ (.slice Ao54 t294.length co54 : Value).ownBlock))) (n := t280.length) (c := co36) ?_).2.2; exact (rq (Kd.R_mono (Kd.R_far (p := ⟨gb297, 1, none⟩) (Kd.R_far (p := ⟨gb297, 0, none⟩) (Kd.R_types HO282.out BK297.out (by decide)) (fun _ hk => hk.2) (.int .i64 t293)) (fun _ hk => hk.2) (.slice Ao54 t294.length co54)) (fun _ h_ => h_.1)))); (case side4 => exact (Kd.R_reads' HO282.out).2.1); rintro e w63 ⟨rfl, hb⟩; refine ⟨_, rfl, ?_⟩; have n0_ := Aside0.mk (Kd.R_below (rq (Kd.R_mono (Kd.R_far (p := ⟨gb297, 1, none⟩) (Kd.R_far (p := ⟨gb297, 0, none⟩) (Kd.R_types HO278.out BK297.out (by decide)) (fun _ hk => hk.2) (.int .i64 t293)) (fun _ hk => hk.2) (.slice Ao54 t294.length co54)) (fun _ h_ => h_.1))) hb); have n1_ := Aside0.mk (Kd.R_below (rq (Kd.R_mono (Kd.R_far (p := ⟨gb297, 1, none⟩) (Kd.R_far (p := ⟨gb297, 0, none⟩) (Kd.R_types HO282.out BK297.out (by decide)) (fun _ hk => hk.2) (.int .i64 t293)) (fun _ hk => hk.2) (.slice Ao54 t294.length co54)) (fun _ h_ => h_.1))) hb); have n2_ := Aside0.mk (Kd.R_below (rq (Kd.R_mono (Kd.R_far (p := ⟨gb297, 1, none⟩) (Kd.R_far (p := ⟨gb297, 0, none⟩) (Kd.R_types HO287.out BK297.out (by decide)) (fun _ hk => hk.2) (.int .i64 t293)) (fun _ hk => hk.2) (.slice Ao54 t294.length co54)) (fun _ h_ => h_.1))) hb); have n3_ := Aside0.mk (Kd.R_below (rq (Kd.R_mono (Kd.R_far (p := ⟨gb297, 1, none⟩) (Kd.R_far (p := ⟨gb297, 0, none⟩) (Kd.R_types HO296.out BK297.out (by decide)) (fun _ hk => hk.2) (.int .i64 t293)) (fun _ hk => hk.2) (.slice Ao54 t294.length co54)) (fun _ h_ => h_.1))) hb); have n4_ := Aside0.mk (blk_below (g := gb268) (o := .cells #[.int .i64 a0_0, .int .i64 a0_1, .int .i64 a0_2, .int .i64 a0_3] 23 (0, 0)) (by (with_reducible repeat (first | refine blk_drewN ?_ _ | refine blk_drew ?_ | refine blk_alloc ?_ _)); refine blk_far ?_ NB268_297.out _; (with_reducible repeat (first | refine blk_drewN ?_ _ | refine blk_drew ?_ | refine blk_alloc ?_ _)); refine blk_far ?_ NB268_297.out _; (with_reducible repeat (first | refine blk_drewN ?_ _ | refine blk_drew ?_ | refine blk_alloc ?_ _)); exact BK268.out) hb); have n5_ := Aside0.mk (blk_below (g := gb269) (o := .cells #[.int .i64 a1_0, .slice A1_1 l1_1.length c1_1] 36 (0, 0)) (by (with_reducible repeat (first | refine blk_drewN ?_ _ | refine blk_drew ?_ | refine blk_alloc ?_ _)); refine blk_far ?_ NB269_297.out _; (with_reducible repeat (first | refine blk_drewN ?_ _ | refine blk_drew ?_ | refine blk_alloc ?_ _)); refine blk_far ?_ NB269_297.out _; (with_reducible repeat (first | refine blk_drewN ?_ _ | refine blk_drew ?_ | refine blk_alloc ?_ _)); exact BK269.out) hb); have n6_ := Aside0.mk (blk_below (g := gb283) (o := .cells #[.int .i64 t279, .slice Ao36 t280.length co36] 39 (0, 0)) (by (with_reducible repeat (first | refine blk_drewN ?_ _ | refine blk_drew ?_ | refine blk_alloc ?_ _)); refine blk_far ?_ NB283_297.out _; (with_reducible repeat (first | refine blk_drewN ?_ _ | refine blk_drew ?_ | refine blk_alloc ?_ _)); refine blk_far ?_ NB283_297.out _; (with_reducible repeat (first | refine blk_drewN ?_ _ | refine blk_drew ?_ | refine blk_alloc ?_ _)); exact BK283.out) hb); have n7_ := Aside0.mk (blk_below (g := gb288) (o := .cells #[.int .i64 t284, .slice Ao46 t285.length co46] 39 (0, 0)) (by (with_reducible repeat (first | refine blk_drewN ?_ _ | refine blk_drew ?_ | refine blk_alloc ?_ _)); refine blk_far ?_ NB288_297.out _; (with_reducible repeat (first | refine blk_drewN ?_ _ | refine blk_drew ?_ | refine blk_alloc ?_ _)); refine blk_far ?_ NB288_297.out _; (with_reducible repeat (first | refine blk_drewN ?_ _ | refine blk_drew ?_ | refine blk_alloc ?_ _)); exact BK288.out) hb); have n8_ := Aside0.mk (blk_below (g := gb297) (o := .cells #[.int .i64 t293, .slice Ao54 t294.length co54] 39 (0, 0)) (by (with_reducible repeat (first | refine blk_drewN ?_ _ | refine blk_drew ?_ | refine blk_alloc ?_ _)); refine blk_put (cs := #[.int .i64 t293, .slice none 0 0]) ?_ 1 _ rfl; (with_reducible repeat (first | refine blk_drewN ?_ _ | refine blk_drew ?_ | refine blk_alloc ?_ _)); refine blk_put (cs := #[.int .i64 0, .slice none 0 0]) ?_ 0 _ rfl; (with_reducible repeat (first | refine blk_drewN ?_ _ | refine blk_drew ?_ | refine blk_alloc ?_ _)); exact BK297.out) hb); have n9_ := Aside0.mk (below_step (by repeat (first | (with_reducible first | exact HB.out | apply below_alloc | apply pw_below_drewN | apply below_drew1 | refine below_set ?_ GE297.out) | exact HB.out)) hb); clear HO278; clear HO282; clear HO287; clear HO296; clear BK268; clear BK269; clear BK283; clear BK288; clear BK297; clear HB; have HO278 := n0_; have HO282 := n1_; have HO287 := n2_; have HO296 := n3_; have BK268 := n4_; have BK269 := n5_; have BK283 := n6_; have BK288 := n7_; have BK297 := n8_; have HB := n9_; clear n0_ n1_ n2_ n3_ n4_ n5_ n6_ n7_ n8_ n9_; (try clear hb); (try clear hb2); (try clear hk); (try clear hi)))
    have n0_ := Aside0.mk (Kd.R_drew HO278.out)
    have n1_ := Aside0.mk (Kd.R_drew HO282.out)
    have n2_ := Aside0.mk (Kd.R_drew HO287.out)
    have n3_ := Aside0.mk (Kd.R_drew HO296.out)
    have n4_ := Aside0.mk (blk_drew BK268.out)
    have n5_ := Aside0.mk (blk_drew BK269.out)
    have n6_ := Aside0.mk (blk_drew BK283.out)
    have n7_ := Aside0.mk (blk_drew BK288.out)
    have n8_ := Aside0.mk (blk_drew BK297.out)
    have n9_ := Aside0.mk (below_drew1 HB.out)
    clear HO278
    clear HO282
    clear HO287
    clear HO296
    clear BK268
    clear BK269
    clear BK283
    clear BK288
    clear BK297
    clear HB
    have HO278 := n0_
    have HO282 := n1_
    have HO287 := n2_
    have HO296 := n3_
    have BK268 := n4_
    have BK269 := n5_
    have BK283 := n6_
    have BK288 := n7_
    have BK297 := n8_
    have HB := n9_
    clear n0_ n1_ n2_ n3_ n4_ n5_ n6_ n7_ n8_ n9_
    refine start_ (n := 5) (S := fun w' => w'.cell? ⟨gb288, 0, none⟩ = some (.int .i64 t284) ∧ w'.cell? ⟨gb288, 1, none⟩ = some (.slice Ao46 t285.length co46) ∧ w'.cell? ⟨gb269, 0, none⟩ = some (.int .i64 a1_0) ∧ w'.cell? ⟨gb269, 1, none⟩ = some (.slice A1_1 l1_1.length c1_1)) (ds := []) #[false, false, false, false, false] (by kernel_rfl) rfl rfl ⟨(blk_cell BK288.out 0).trans rfl, (blk_cell BK288.out 1).trans rfl, (blk_cell BK269.out 0).trans rfl, (blk_cell BK269.out 1).trans rfl⟩ (fun hHeld => ?_)
    generalize w63.drew = w64 at HO278 HO282 HO287 HO296 BK268 BK269 BK283 BK288 BK297 HB hHeld ⊢
    refine take_ (i := 0) (N := some 33) (v := ?_) (a' := ?_) #[true, false, false, false, false] rfl rfl (by kernel_rfl) (fun _ _ _ h => h) (Or.inl ⟨by rfl, ?_⟩) hHeld ?_ ?_
    rotate_left
    ·rintro w' ⟨s0, s1, s2, s3⟩
     go_simp
     with_reducible rfl
    rotate_left
    ·simp only [Act.put, List.setIfInBounds_toArray, List.set_cons_zero, List.set_cons_succ, i64_w, i32_w]
     rfl
    refine take_ (i := 1) (N := some 34) (v := ?_) (a' := ?_) #[true, true, false, false, false] rfl rfl (by kernel_rfl) (fun _ _ _ h => h) (Or.inl ⟨by rfl, ?_⟩) hHeld ?_ ?_
    rotate_left
    ·rintro w' ⟨s0, s1, s2, s3⟩
     go_simp
     with_reducible rfl
    rotate_left
    ·simp only [Act.put, List.setIfInBounds_toArray, List.set_cons_zero, List.set_cons_succ, i64_w, i32_w]
     rfl
    refine one_ (i := 2) (N := some 35) #[true, true, true, false, false] rfl rfl (by kernel_rfl) (by decide) (fun K hK => ?_)
    refine goes_ Try.func22 (by kernel_rfl) rfl #[.agg #[.int .i64 a1_0, .slice A1_1 l1_1.length c1_1]] (by rfl) rfl rfl (by (try simp only [List.map_toArray, List.map_cons, List.map_nil]); first | done | rfl | (simp only [List.length_drop, List.length_take]; rfl)) ?_
    with_reducible refine (laws_toOutEnd.calls k a1_0 _ _ l1_1 t299 t300 _ ?side1 ?side2 A18.out).mono ?_
    (case side1 => repeat (first | exact (Kd.C_below HR1_1.out HB.out) | (with_reducible refine Kd.C_alloc ?_ _) | (with_reducible refine Kd.C_drewN ?_ _) | (with_reducible refine Kd.C_drew ?_)))
    (case side2 => exact HC1_1.out)
    rintro e w65 ⟨v301, rfl, ho0, hb⟩
    refine ⟨_, rfl, ?_⟩
    have n0_ := Aside0.mk (Kd.R_elder' (rq HO278.out) (Kd.R_base ho0) hb)
    have n1_ := Aside0.mk (Kd.R_elder' (rq HO282.out) (Kd.R_base ho0) hb)
    have n2_ := Aside0.mk (Kd.R_elder' (rq HO287.out) (Kd.R_base ho0) hb)
    have n3_ := Aside0.mk (Kd.R_elder' (rq HO296.out) (Kd.R_base ho0) hb)
    have n4_ := Aside0.mk (Kd.R_lower (Kd.R_new' (Kd.R_new' (Kd.R_new' (Kd.R_new' ho0 (Kd.R_lt (rq HO278.out))) (Kd.R_lt (rq HO282.out))) (Kd.R_lt (rq HO287.out))) (Kd.R_lt (rq HO296.out))) (below_size (lq HB.out)))
    have n5_ := Aside0.mk (blk_below (bq BK268.out) hb)
    have n6_ := Aside0.mk (blk_below (bq BK269.out) hb)
    have n7_ := Aside0.mk (blk_below (bq BK283.out) hb)
    have n8_ := Aside0.mk (blk_below (bq BK288.out) hb)
    have n9_ := Aside0.mk (blk_below (bq BK297.out) hb)
    have n10_ := Aside0.mk (below_step (lq HB.out) hb)
    clear HO278
    clear HO282
    clear HO287
    clear HO296
    clear BK268
    clear BK269
    clear BK283
    clear BK288
    clear BK297
    clear HB
    have HO278 := n0_
    have HO282 := n1_
    have HO287 := n2_
    have HO296 := n3_
    have HO302 := n4_
    have BK268 := n5_
    have BK269 := n6_
    have BK283 := n7_
    have BK288 := n8_
    have BK297 := n9_
    have HB := n10_
    clear n0_ n1_ n2_ n3_ n4_ n5_ n6_ n7_ n8_ n9_ n10_
    (try clear hb)
    (try clear hb2)
    (try clear hk)
    (try clear hi)
    (try clear ho0)
    obtain ⟨Ao66, co66, eo66⟩ := Kd.R_slice HO302.out
    (first | subst eo66 | (injection eo66 with f1_ f2_ f3_; have f4_ := f1_.symm; have f5_ := f3_.symm; clear f1_ f2_ f3_; subst f4_; subst f5_))
    refine hK.out _ _ ⟨(blk_cell BK288.out 0).trans rfl, (blk_cell BK288.out 1).trans rfl, (blk_cell BK269.out 0).trans rfl, (blk_cell BK269.out 1).trans rfl⟩ (fun hHeld => ?_)
    clear hK K
    refine norm_ (a' := ?_) ?_ ?_
    rotate_left
    ·show Act.put _ (some 35) _ = _
     simp only [Act.put, List.setIfInBounds_toArray, List.set_cons_zero, List.set_cons_succ, i64_w, i32_w]
     rfl
    refine one_ (i := 3) (N := some 36) #[true, true, true, true, false] rfl rfl (by kernel_rfl) (by decide) (fun K hK => ?_)
    refine goes_ Try.func24 (by kernel_rfl) rfl #[.agg #[.int .i64 t284, .slice Ao46 t285.length co46], .agg #[.int .i64 t299, .slice Ao66 t300.length co66]] (by rfl) rfl rfl (by (try simp only [List.map_toArray, List.map_cons, List.map_nil]); first | done | rfl | (simp only [List.length_drop, List.length_take]; rfl)) ?_
    with_reducible refine (laws_eqOutEnd.calls k t284 _ _ t285 t299 _ _ t300 true _ ?side1 ?side2 ?side3 ?side4 A19.out).mono ?_
    (case side1 => repeat (first | exact (Kd.R_reads' HO287.out).2.2 | (with_reducible refine Kd.C_alloc ?_ _) | (with_reducible refine Kd.C_drewN ?_ _) | (with_reducible refine Kd.C_drew ?_)))
    (case side2 => exact (Kd.R_reads' HO287.out).2.1)
    (case side3 => repeat (first | exact (Kd.R_reads' HO302.out).2.2 | (with_reducible refine Kd.C_alloc ?_ _) | (with_reducible refine Kd.C_drewN ?_ _) | (with_reducible refine Kd.C_drew ?_)))
    (case side4 => exact (Kd.R_reads' HO302.out).2.1)
    rintro e w67 ⟨rfl, hb⟩
    refine ⟨_, rfl, ?_⟩
    have n0_ := Aside0.mk (Kd.R_below (rq HO278.out) hb)
    have n1_ := Aside0.mk (Kd.R_below (rq HO282.out) hb)
    have n2_ := Aside0.mk (Kd.R_below (rq HO287.out) hb)
    have n3_ := Aside0.mk (Kd.R_below (rq HO296.out) hb)
    have n4_ := Aside0.mk (Kd.R_below (rq HO302.out) hb)
    have n5_ := Aside0.mk (blk_below (bq BK268.out) hb)
    have n6_ := Aside0.mk (blk_below (bq BK269.out) hb)
    have n7_ := Aside0.mk (blk_below (bq BK283.out) hb)
    have n8_ := Aside0.mk (blk_below (bq BK288.out) hb)
    have n9_ := Aside0.mk (blk_below (bq BK297.out) hb)
    have n10_ := Aside0.mk (below_step (lq HB.out) hb)
    clear HO278
    clear HO282
    clear HO287
    clear HO296
    clear HO302
    clear BK268
    clear BK269
    clear BK283
    clear BK288
    clear BK297
    clear HB
    have HO278 := n0_
    have HO282 := n1_
    have HO287 := n2_
    have HO296 := n3_
    have HO302 := n4_
    have BK268 := n5_
    have BK269 := n6_
    have BK283 := n7_
    have BK288 := n8_
    have BK297 := n9_
    have HB := n10_
    clear n0_ n1_ n2_ n3_ n4_ n5_ n6_ n7_ n8_ n9_ n10_
    (try clear hb)
    (try clear hb2)
    (try clear hk)
    (try clear hi)
    refine hK.out _ _ ⟨(blk_cell BK288.out 0).trans rfl, (blk_cell BK288.out 1).trans rfl, (blk_cell BK269.out 0).trans rfl, (blk_cell BK269.out 1).trans rfl⟩ (fun hHeld => ?_)
    clear hK K
    refine norm_ (a' := ?_) ?_ ?_
    rotate_left
    ·show Act.put _ (some 36) _ = _
     simp only [Act.put, List.setIfInBounds_toArray, List.set_cons_zero, List.set_cons_succ, i64_w, i32_w]
     rfl
    refine pure_ (i := 4) (N := some 37) (v := ?_) (a' := ?_) #[true, true, true, true, true] rfl rfl (by kernel_rfl) (fun _ _ _ h => h) (Or.inl ⟨by rfl, ?_⟩) ?_ ?_
    rotate_left
    ·intro w'
     go_simp
     with_reducible rfl
    rotate_left
    ·simp only [Act.put, List.setIfInBounds_toArray, List.set_cons_zero, List.set_cons_succ, i64_w, i32_w]
     rfl
    refine done_ (by kernel_rfl) ?_
    have hcz68_0 : w67.cell? ⟨gb288, 0, none⟩ = some (.int .i64 t284) := (blk_cell BK288.out 0).trans rfl
    have hcz68_1 : w67.cell? ⟨gb288, 1, none⟩ = some (.slice Ao46 t285.length co46) := (blk_cell BK288.out 1).trans rfl
    have hfz68_0 := blk_frozen BK288.out 0
    have hfz68_1 := blk_frozen BK288.out 1
    go_upto_region 14 with (first | ((with_reducible refine gate_callee (f := 29) rfl ?_); refine goesL_ (some 40) rfl rfl Try.func29 (by kernel_rfl) rfl #[.agg #[.int .i64 t284, .slice Ao46 t285.length co46], .int .i64 1] rfl (by (try simp only [List.map_toArray, List.map_cons, List.map_nil]); first | done | rfl | (simp only [List.length_drop, List.length_take]; rfl)) ?_; (with_reducible refine (laws_markOutEnd.calls k t284 (fun k_ => some k_ = (.slice Ao46 t285.length co46 : Value).ownBlock) (.slice Ao46 t285.length co46) t285 1 t304 t305 w _ ?side1 ?side2 A21.out).mono ?_); (case side1 => exact lq HB.out); (case side2 => exact Kd.R_tight rfl HO287.out); rintro e w69 ⟨rfl, hy0, hb, hkp⟩; refine ⟨_, rfl, ?_⟩; have n0_ := Aside0.mk (blk_kept (bq BK268.out) hkp (fun hs_ => (fun e_ => (Kd.R_ne HO287.out BK268.out (by decide)) e_) hs_)); have n1_ := Aside0.mk (blk_kept (bq BK269.out) hkp (fun hs_ => (fun e_ => (Kd.R_ne HO287.out BK269.out (by decide)) e_) hs_)); have n2_ := Aside0.mk (Kd.R_mono (ok' := fun k_ => some k_ ≠ (.slice Ao36 t280.length co36 : Value).ownBlock ∧ some k_ ≠ (.slice Ao46 t285.length co46 : Value).ownBlock ∧ some k_ ≠ (.slice Ao54 t294.length co54 : Value).ownBlock ∧ some k_ ≠ (.slice Ao66 t300.length co66 : Value).ownBlock) (Kd.R_keptB (HO278.out) hkp (fun k_ hk_ hs_ => (hk_.1.2.1) hs_)) (fun k_ hk_ => ⟨hk_.1.1.1, hk_.1.1.2.1, hk_.1.1.2.2, hk_.1.2⟩)); have n3_ := Aside0.mk (Kd.R_mono (ok' := fun k_ => some k_ ≠ (v277 : Value).ownBlock ∧ some k_ ≠ (.slice Ao46 t285.length co46 : Value).ownBlock ∧ some k_ ≠ (.slice Ao54 t294.length co54 : Value).ownBlock ∧ some k_ ≠ (.slice Ao66 t300.length co66 : Value).ownBlock) (Kd.R_keptB (HO282.out) hkp (fun k_ hk_ hs_ => (hk_.1.2.1) hs_)) (fun k_ hk_ => ⟨hk_.1.1.1, hk_.1.1.2.1, hk_.1.1.2.2, hk_.1.2⟩)); have n4_ := Aside0.mk (blk_kept (bq BK283.out) hkp (fun hs_ => (fun e_ => (Kd.R_ne HO287.out BK283.out (by decide)) e_) hs_)); have n5_ := Aside0.mk (Kd.R_reok rfl hy0 (fun k_ e_ => HO287.out.1 k_ e_)); have n6_ := Aside0.mk (blk_kept (bq BK288.out) hkp (fun hs_ => (fun e_ => (Kd.R_ne HO287.out BK288.out (by decide)) e_) hs_)); have n7_ := Aside0.mk (Kd.R_mono (ok' := fun k_ => some k_ ≠ (v277 : Value).ownBlock ∧ some k_ ≠ (.slice Ao36 t280.length co36 : Value).ownBlock ∧ some k_ ≠ (.slice Ao46 t285.length co46 : Value).ownBlock ∧ some k_ ≠ (.slice Ao66 t300.length co66 : Value).ownBlock) (Kd.R_keptB (HO296.out) hkp (fun k_ hk_ hs_ => (hk_.1.2.2) hs_)) (fun k_ hk_ => ⟨hk_.1.1.1, hk_.1.1.2.1, hk_.1.1.2.2, hk_.1.2⟩)); have n8_ := Aside0.mk (blk_kept (bq BK297.out) hkp (fun hs_ => (fun e_ => (Kd.R_ne HO287.out BK297.out (by decide)) e_) hs_)); have n9_ := Aside0.mk (Kd.R_mono (ok' := fun k_ => some k_ ≠ (v277 : Value).ownBlock ∧ some k_ ≠ (.slice Ao36 t280.length co36 : Value).ownBlock ∧ some k_ ≠ (.slice Ao46 t285.length co46 : Value).ownBlock ∧ some k_ ≠ (.slice Ao54 t294.length co54 : Value).ownBlock) (Kd.R_keptB (HO302.out) hkp (fun k_ hk_ hs_ => (hk_.1.2) hs_)) (fun k_ hk_ => ⟨hk_.1.1.1.1.2, hk_.1.1.1.2, hk_.1.1.2, hk_.1.2⟩)); have n10_ := Aside0.mk (hb); clear BK268; clear BK269; clear HO278; clear HO282; clear BK283; clear HO287; clear BK288; clear HO296; clear BK297; clear HO302; clear HB; have BK268 := n0_; have BK269 := n1_; have HO278 := n2_; have HO282 := n3_; have BK283 := n4_; have HO287 := n5_; have BK288 := n6_; have HO296 := n7_; have BK297 := n8_; have HO302 := n9_; have HB := n10_; clear n0_ n1_ n2_ n3_ n4_ n5_ n6_ n7_ n8_ n9_ n10_; (try clear hb); (try clear hkp); (try clear hy0)))
    (try simp only [Act.put, List.setIfInBounds_toArray, List.set_cons_zero, List.set_cons_succ])
    go_cut [48] (fun v48 wc => ∃ (kq : Nat) (x48_21 : Bool), v48 = .bool x48_21 ∧ Aside0 (laws_FnExactDiscard.j0 kq x48_21 a0_0 a0_1 a0_2 a0_3 a1_0 l1_1 t279 t280 t293 t294 = some true) ∧ Aside0 (kq ≤ k) ∧ Aside0 (Kd.R (Kd.int .u32) 46 wc w.heap.size (fun k_ => some k_ ≠ ((.slice Ao46 t285.length co46) : Value).ownBlock ∧ some k_ ≠ ((.slice Ao54 t294.length co54) : Value).ownBlock) (.slice Ao36 t280.length co36) t280) ∧ Aside0 (Kd.R (Kd.int .u32) 46 wc w.heap.size (fun k_ => some k_ ≠ ((.slice Ao36 t280.length co36) : Value).ownBlock ∧ some k_ ≠ ((.slice Ao54 t294.length co54) : Value).ownBlock) (.slice Ao46 t285.length co46) t305) ∧ Aside0 (Kd.R (Kd.int .u32) 46 wc w.heap.size (fun k_ => some k_ ≠ ((.slice Ao36 t280.length co36) : Value).ownBlock ∧ some k_ ≠ ((.slice Ao46 t285.length co46) : Value).ownBlock) (.slice Ao54 t294.length co54) t294) ∧ Aside0 (wc.heap[gb268]? = some (.cells #[.int .i64 a0_0, .int .i64 a0_1, .int .i64 a0_2, .int .i64 a0_3] 23 (0, 0))) ∧ Aside0 (wc.heap[gb269]? = some (.cells #[.int .i64 a1_0, (.slice A1_1 l1_1.length c1_1)] 36 (0, 0))) ∧ Aside0 (wc.heap[gb283]? = some (.cells #[.int .i64 t279, (.slice Ao36 t280.length co36)] 39 (0, 0))) ∧ Aside0 (wc.heap[gb288]? = some (.cells #[.int .i64 t284, (.slice Ao46 t285.length co46)] 39 (0, 0))) ∧ Aside0 (wc.heap[gb297]? = some (.cells #[.int .i64 t293, (.slice Ao54 t294.length co54)] 39 (0, 0))) ∧ Aside0 (Below w.heap.size w wc))
    case first =>
     have H := HC22.out
     clear HC22
     by_cases c70 : t304 < 0
     ·rw [if_pos c70] at H
      have c70b0 : decide (t304 < 0) = true := decide_eq_true c70
      clear c70
      (first | rw [c70b0] | (simp only [i64_w, i32_w]; rw [c70b0]) | skip)
      have H' := Aside0.mk H
      clear H
      go_wp2
      go_meet
      case rel => exact ⟨_, (true), (by first | rfl | (simp; done) | (simp [*]; done)), H', ⟨by first | omega | exact Nat.le_refl _⟩, ⟨by (with_reducible repeat (first | apply Kd.R_alloc | apply Kd.R_drewN | apply Kd.R_drew)); exact Kd.R_mono HO282.out (fun _ hk => ⟨hk.2.1, hk.2.2.1⟩)⟩, ⟨by (with_reducible repeat (first | apply Kd.R_alloc | apply Kd.R_drewN | apply Kd.R_drew)); exact Kd.R_mono HO287.out (fun _ hk => ⟨hk.1.2.1, hk.1.2.2⟩)⟩, ⟨by (with_reducible repeat (first | apply Kd.R_alloc | apply Kd.R_drewN | apply Kd.R_drew)); exact Kd.R_mono HO296.out (fun _ hk => ⟨hk.2.1, hk.2.2.1⟩)⟩, ⟨by (with_reducible repeat (first | refine blk_drewN ?_ _ | refine blk_drew ?_ | refine blk_alloc ?_ _)); exact BK268.out⟩, ⟨by (with_reducible repeat (first | refine blk_drewN ?_ _ | refine blk_drew ?_ | refine blk_alloc ?_ _)); exact BK269.out⟩, ⟨by (with_reducible repeat (first | refine blk_drewN ?_ _ | refine blk_drew ?_ | refine blk_alloc ?_ _)); exact BK283.out⟩, ⟨by (with_reducible repeat (first | refine blk_drewN ?_ _ | refine blk_drew ?_ | refine blk_alloc ?_ _)); exact BK288.out⟩, ⟨by (with_reducible repeat (first | refine blk_drewN ?_ _ | refine blk_drew ?_ | refine blk_alloc ?_ _)); exact BK297.out⟩, ⟨by exact lq HB.out⟩⟩
     ·rw [if_neg c70] at H
      have c70b0 : decide (t304 < 0) = false := decide_eq_false c70
      clear c70
      (first | rw [c70b0] | (simp only [i64_w, i32_w]; rw [c70b0]) | skip)
      replace H := Option.bind_eq_some_iff.mp H
      obtain ⟨t306, A710, H⟩ := H
      (try dsimp only at H)
      have A71 := Aside0.mk A710
      clear A710
      have H' := Aside0.mk H
      clear H
      have hnb72 := NB297_268.out
      have hnc72 := NB268_297.out
      have hnb73 := NB297_269.out
      have hnc73 := NB269_297.out
      have hnb74 := NB297_283.out
      have hnc74 := NB283_297.out
      have hnb75 := NB297_288.out
      have hnc75 := NB288_297.out
      have hcz76_0 : w69.cell? ⟨gb297, 0, none⟩ = some (.int .i64 t293) := (blk_cell BK297.out 0).trans rfl
      have hcz76_1 : w69.cell? ⟨gb297, 1, none⟩ = some (.slice Ao54 t294.length co54) := (blk_cell BK297.out 1).trans rfl
      have hfz76_0 := blk_frozen BK297.out 0
      have hfz76_1 := blk_frozen BK297.out 1
      have hnb77 := NB283_268.out
      have hnc77 := NB268_283.out
      have hnb78 := NB283_269.out
      have hnc78 := NB269_283.out
      have hnb79 := NB283_288.out
      have hnc79 := NB288_283.out
      have hcz80_0 : w69.cell? ⟨gb283, 0, none⟩ = some (.int .i64 t279) := (blk_cell BK283.out 0).trans rfl
      have hcz80_1 : w69.cell? ⟨gb283, 1, none⟩ = some (.slice Ao36 t280.length co36) := (blk_cell BK283.out 1).trans rfl
      have hfz80_0 := blk_frozen BK283.out 0
      have hfz80_1 := blk_frozen BK283.out 1
      go_wp2_with (first | (go_at_call 24; (with_reducible refine (laws_eqOutEnd.calls k t293 _ _ t294 t279 _ _ t280 t306 _ ?side1 ?side2 ?side3 ?side4 A71.out).mono ?_); (case side1 => repeat (first | exact (Kd.R_reads' HO296.out).2.2 | (with_reducible refine Kd.C_alloc ?_ _) | (with_reducible refine Kd.C_drewN ?_ _) | (with_reducible refine Kd.C_drew ?_))); (case side2 => exact (Kd.R_reads' HO296.out).2.1); (case side3 => repeat (first | exact (Kd.R_reads' HO282.out).2.2 | (with_reducible refine Kd.C_alloc ?_ _) | (with_reducible refine Kd.C_drewN ?_ _) | (with_reducible refine Kd.C_drew ?_))); (case side4 => exact (Kd.R_reads' HO282.out).2.1); rintro e w81 ⟨rfl, hb⟩; have n0_ := Aside0.mk (Kd.R_below (rq HO278.out) hb); have n1_ := Aside0.mk (Kd.R_below (rq HO282.out) hb); have n2_ := Aside0.mk (Kd.R_below (rq HO287.out) hb); have n3_ := Aside0.mk (Kd.R_below (rq HO296.out) hb); have n4_ := Aside0.mk (Kd.R_below (rq HO302.out) hb); have n5_ := Aside0.mk (blk_below (bq BK268.out) hb); have n6_ := Aside0.mk (blk_below (bq BK269.out) hb); have n7_ := Aside0.mk (blk_below (bq BK283.out) hb); have n8_ := Aside0.mk (blk_below (bq BK288.out) hb); have n9_ := Aside0.mk (blk_below (bq BK297.out) hb); have n10_ := Aside0.mk (below_step (lq HB.out) hb); clear HO278; clear HO282; clear HO287; clear HO296; clear HO302; clear BK268; clear BK269; clear BK283; clear BK288; clear BK297; clear HB; have HO278 := n0_; have HO282 := n1_; have HO287 := n2_; have HO296 := n3_; have HO302 := n4_; have BK268 := n5_; have BK269 := n6_; have BK283 := n7_; have BK288 := n8_; have BK297 := n9_; have HB := n10_; clear n0_ n1_ n2_ n3_ n4_ n5_ n6_ n7_ n8_ n9_ n10_; (try clear hb); (try clear hb2); (try clear hk); (try clear hi)))
      go_meet
      case rel => exact ⟨_, (!t306), (by first | rfl | (simp; done) | (simp [*]; done)), H', ⟨by first | omega | exact Nat.le_refl _⟩, ⟨by (with_reducible repeat (first | apply Kd.R_alloc | apply Kd.R_drewN | apply Kd.R_drew)); exact Kd.R_mono HO282.out (fun _ hk => ⟨hk.2.1, hk.2.2.1⟩)⟩, ⟨by (with_reducible repeat (first | apply Kd.R_alloc | apply Kd.R_drewN | apply Kd.R_drew)); exact Kd.R_mono HO287.out (fun _ hk => ⟨hk.1.2.1, hk.1.2.2⟩)⟩, ⟨by (with_reducible repeat (first | apply Kd.R_alloc | apply Kd.R_drewN | apply Kd.R_drew)); exact Kd.R_mono HO296.out (fun _ hk => ⟨hk.2.1, hk.2.2.1⟩)⟩, ⟨by (with_reducible repeat (first | refine blk_drewN ?_ _ | refine blk_drew ?_ | refine blk_alloc ?_ _)); exact BK268.out⟩, ⟨by (with_reducible repeat (first | refine blk_drewN ?_ _ | refine blk_drew ?_ | refine blk_alloc ?_ _)); exact BK269.out⟩, ⟨by (with_reducible repeat (first | refine blk_drewN ?_ _ | refine blk_drew ?_ | refine blk_alloc ?_ _)); exact BK283.out⟩, ⟨by (with_reducible repeat (first | refine blk_drewN ?_ _ | refine blk_drew ?_ | refine blk_alloc ?_ _)); exact BK288.out⟩, ⟨by (with_reducible repeat (first | refine blk_drewN ?_ _ | refine blk_drew ?_ | refine blk_alloc ?_ _)); exact BK297.out⟩, ⟨by exact lq HB.out⟩⟩
    case rest =>
     clear HC22
     try clear c1
     try clear c2
     try clear p2
     try clear c5
     try clear c6
     try clear c7
     try clear c16
     try clear c22
     try clear c24
     try clear c28
     try clear c29
     try clear c56
     try clear c57
     try clear c58
     try clear c59
     try clear c61
     try clear c70
     try clear c70b0
     try clear c72
     try clear c73
     try clear c74
     try clear c75
     try clear c77
     try clear c78
     try clear c79
     try clear hcz60_0
     try clear hcz60_1
     try clear hcz62_0
     try clear hcz62_1
     try clear hcz68_0
     try clear hcz68_1
     try clear hcz76_0
     try clear hcz76_1
     try clear hcz80_0
     try clear hcz80_1
     try clear hfz60_0
     try clear hfz60_1
     try clear hfz62_0
     try clear hfz62_1
     try clear hfz68_0
     try clear hfz68_1
     try clear hfz76_0
     try clear hfz76_1
     try clear hfz80_0
     try clear hfz80_1
     obtain ⟨kq, x48_21, rfl, HA, HJ21, HO_284001, HO_289001, HO_298001, BK268, BK269, BK283, BK288, BK297, HB⟩ := hcut
     have hl289001_21 := (Kd.R_reads' HO_289001.out).1
     rw [hl289001_21] at HO_289001
     (try simp only [hl289001_21])
     (try simp only [hl289001_21] at BK268)
     (try simp only [hl289001_21] at BK269)
     (try simp only [hl289001_21] at BK283)
     (try simp only [hl289001_21] at BK288)
     (try simp only [hl289001_21] at BK297)
     (try simp only [hl289001_21] at HO_284001)
     (try simp only [hl289001_21] at HO_298001)
     cases kq with
     | zero => exact absurd HA.out (by simp [laws_FnExactDiscard.j0])
     | succ kj21 =>
      have H := HA.out
      clear HA
      simp only [laws_FnExactDiscard.j0] at H
      by_cases c82 : x48_21 = true
      ·subst c82
       rw [if_pos rfl] at H
       exact absurd H (by simp)
      ·replace c82 := Bool.eq_false_iff.mpr c82
       subst c82
       rw [if_neg (show ¬ (false = true) by decide)] at H
       replace H := Option.bind_eq_some_iff.mp H
       obtain ⟨⟨t307, t308⟩, A830, H⟩ := H
       (try dsimp only at H)
       have A83 := Aside0.mk A830
       clear A830
       replace H := Option.bind_eq_some_iff.mp H
       obtain ⟨t309, A840, H⟩ := H
       (try dsimp only at H)
       have A84 := Aside0.mk A840
       clear A840
       by_cases c85 : t309 < 0
       ·rw [if_pos c85] at H
        have c85b0 : decide (t309 < 0) = true := decide_eq_true c85
        clear c85
        exact absurd H (by simp)
       ·rw [if_neg c85] at H
        have c85b0 : decide (t309 < 0) = false := decide_eq_false c85
        clear c85
        by_cases c86 : t309 = t307
        ·rw [if_pos c86] at H
         have c86b0 : (t309 == t307) = true := beq_iff_eq.mpr c86
         have c86b1 : (t309 != t307) = false := bne_eq_false_iff_eq.mpr c86
         clear c86
         replace H := Option.bind_eq_some_iff.mp H
         obtain ⟨⟨t310, t311, t312, t313⟩, A870, H⟩ := H
         (try dsimp only at H)
         have A87 := Aside0.mk A870
         clear A870
         replace H := Option.bind_eq_some_iff.mp H
         obtain ⟨⟨t314, t315⟩, A880, H⟩ := H
         (try dsimp only at H)
         have A88 := Aside0.mk A880
         clear A880
         replace H := Option.bind_eq_some_iff.mp H
         obtain ⟨⟨t318, t319⟩, A890, H⟩ := H
         (try dsimp only at H)
         have A89 := Aside0.mk A890
         clear A890
         replace H := Option.bind_eq_some_iff.mp H
         obtain ⟨t323, A900, H⟩ := H
         (try dsimp only at H)
         have A90 := Aside0.mk A900
         clear A900
         by_cases c91 : t323 = true
         ·subst c91
          rw [if_pos rfl] at H
          replace H := Option.bind_eq_some_iff.mp H
          obtain ⟨t324, A920, H⟩ := H
          (try dsimp only at H)
          have A92 := Aside0.mk A920
          clear A920
          by_cases c93 : t324 < 0
          ·rw [if_pos c93] at H
           have c93b0 : decide (t324 < 0) = true := decide_eq_true c93
           clear c93
           exact absurd H (by simp)
          ·rw [if_neg c93] at H
           have c93b0 : decide (t324 < 0) = false := decide_eq_false c93
           clear c93
           by_cases c94 : t324 = t307
           ·rw [if_pos c94] at H
            have c94b0 : (t324 == t307) = true := beq_iff_eq.mpr c94
            have c94b1 : (t324 != t307) = false := bne_eq_false_iff_eq.mpr c94
            clear c94
            clear H
            have hnb95 := NB297_268.out
            have hnc95 := NB268_297.out
            have hnb96 := NB297_269.out
            have hnc96 := NB269_297.out
            have hnb97 := NB297_283.out
            have hnc97 := NB283_297.out
            have hnb98 := NB297_288.out
            have hnc98 := NB288_297.out
            have hcz99_0 : wc.cell? ⟨gb297, 0, none⟩ = some (.int .i64 t293) := (blk_cell BK297.out 0).trans rfl
            have hcz99_1 : wc.cell? ⟨gb297, 1, none⟩ = some (.slice Ao54 t294.length co54) := (blk_cell BK297.out 1).trans rfl
            have hfz99_0 := blk_frozen BK297.out 0
            have hfz99_1 := blk_frozen BK297.out 1
            try go_wp2_with (first | ((with_reducible refine gate_callee (f := 29) rfl ?_); refine goesL_ (some 51) rfl rfl Try.func29 (by kernel_rfl) rfl #[.agg #[.int .i64 t293, .slice Ao54 t294.length co54], .int .i64 1] rfl (by (try simp only [List.map_toArray, List.map_cons, List.map_nil]); first | done | rfl | (simp only [List.length_drop, List.length_take]; rfl)) ?_; (with_reducible refine (laws_markOutEnd.calls kj21 t293 (fun k_ => some k_ = (.slice Ao54 t294.length co54 : Value).ownBlock) (.slice Ao54 t294.length co54) t294 1 t307 t308 w _ ?side1 ?side2 A83.out).mono ?_); (case side1 => exact lq HB.out); (case side2 => exact Kd.R_tight rfl HO_298001.out); rintro e w100 ⟨rfl, hy0, hb, hkp⟩; refine ⟨_, rfl, ?_⟩; have n0_ := Aside0.mk (Kd.R_mono (ok' := fun k_ => some k_ ≠ (.slice Ao46 t305.length co46 : Value).ownBlock ∧ some k_ ≠ (.slice Ao54 t294.length co54 : Value).ownBlock) (Kd.R_keptB (HO_284001.out) hkp (fun k_ hk_ hs_ => (hk_.2) hs_)) (fun k_ hk_ => ⟨hk_.1.1, hk_.1.2⟩)); have n1_ := Aside0.mk (Kd.R_mono (ok' := fun k_ => some k_ ≠ (.slice Ao36 t280.length co36 : Value).ownBlock ∧ some k_ ≠ (.slice Ao54 t294.length co54 : Value).ownBlock) (Kd.R_keptB (HO_289001.out) hkp (fun k_ hk_ hs_ => (hk_.2) hs_)) (fun k_ hk_ => ⟨hk_.1.1, hk_.1.2⟩)); have n2_ := Aside0.mk (Kd.R_reok rfl hy0 (fun k_ e_ => HO_298001.out.1 k_ e_)); have n3_ := Aside0.mk (blk_kept (bq BK268.out) hkp (fun hs_ => (fun e_ => (Kd.R_ne HO_298001.out BK268.out (by decide)) e_) hs_)); have n4_ := Aside0.mk (blk_kept (bq BK269.out) hkp (fun hs_ => (fun e_ => (Kd.R_ne HO_298001.out BK269.out (by decide)) e_) hs_)); have n5_ := Aside0.mk (blk_kept (bq BK283.out) hkp (fun hs_ => (fun e_ => (Kd.R_ne HO_298001.out BK283.out (by decide)) e_) hs_)); have n6_ := Aside0.mk (blk_kept (bq BK288.out) hkp (fun hs_ => (fun e_ => (Kd.R_ne HO_298001.out BK288.out (by decide)) e_) hs_)); have n7_ := Aside0.mk (blk_kept (bq BK297.out) hkp (fun hs_ => (fun e_ => (Kd.R_ne HO_298001.out BK297.out (by decide)) e_) hs_)); have n8_ := Aside0.mk (hb); clear HO_284001; clear HO_289001; clear HO_298001; clear BK268; clear BK269; clear BK283; clear BK288; clear BK297; clear HB; have HO_284001 := n0_; have HO_289001 := n1_; have HO_298001 := n2_; have BK268 := n3_; have BK269 := n4_; have BK283 := n5_; have BK288 := n6_; have BK297 := n7_; have HB := n8_; clear n0_ n1_ n2_ n3_ n4_ n5_ n6_ n7_ n8_; (try clear hb); (try clear hkp); (try clear hy0); have hcz101_0 : w100.cell? ⟨gb297, 0, none⟩ = some (.int .i64 t293) := (blk_cell BK297.out 0).trans rfl; have hcz101_1 : w100.cell? ⟨gb297, 1, none⟩ = some (.slice Ao54 t294.length co54) := (blk_cell BK297.out 1).trans rfl; have hfz101_0 := blk_frozen BK297.out 0; have hfz101_1 := blk_frozen BK297.out 1) | ((with_reducible refine gate_callee (f := 30) rfl ?_); refine goesL_ (some 54) rfl rfl Try.func30 (by kernel_rfl) rfl #[.agg #[.int .i64 t293, .slice Ao54 t308.length co54], .int .i64 1] rfl (by (try simp only [List.map_toArray, List.map_cons, List.map_nil]); first | done | (rw [show t308.length = t294.length from (Kd.R_reads' HO_298001.out).1.symm] <;> rfl) | rfl | (simp only [List.length_drop, List.length_take]; rfl)) ?_; (with_reducible refine (laws_heldOutEnd.calls kj21 t293 _ _ t308 1 t309 _ ?side1 ?side2 A84.out).mono ?_); (case side1 => repeat (first | exact (Kd.R_reads' HO_298001.out).2.2 | (with_reducible refine Kd.C_alloc ?_ _) | (with_reducible refine Kd.C_drewN ?_ _) | (with_reducible refine Kd.C_drew ?_))); (case side2 => rw [show t308.length = t294.length from (Kd.R_reads' HO_298001.out).1.symm]; exact (Kd.R_reads' HO_298001.out).2.1); rintro e w102 ⟨rfl, hb⟩; refine ⟨_, rfl, ?_⟩; have n0_ := Aside0.mk (Kd.R_below (rq HO_284001.out) hb); have n1_ := Aside0.mk (Kd.R_below (rq HO_289001.out) hb); have n2_ := Aside0.mk (Kd.R_below (rq HO_298001.out) hb); have n3_ := Aside0.mk (blk_below (bq BK268.out) hb); have n4_ := Aside0.mk (blk_below (bq BK269.out) hb); have n5_ := Aside0.mk (blk_below (bq BK283.out) hb); have n6_ := Aside0.mk (blk_below (bq BK288.out) hb); have n7_ := Aside0.mk (blk_below (bq BK297.out) hb); have n8_ := Aside0.mk (below_step (lq HB.out) hb); clear HO_284001; clear HO_289001; clear HO_298001; clear BK268; clear BK269; clear BK283; clear BK288; clear BK297; clear HB; have HO_284001 := n0_; have HO_289001 := n1_; have HO_298001 := n2_; have BK268 := n3_; have BK269 := n4_; have BK283 := n5_; have BK288 := n6_; have BK297 := n7_; have HB := n8_; clear n0_ n1_ n2_ n3_ n4_ n5_ n6_ n7_ n8_; (try clear hb); (try clear hb2); (try clear hk); (try clear hi)))
            have n0_ := Aside0.mk (Kd.R_drew HO_284001.out)
            have n1_ := Aside0.mk (Kd.R_drew HO_289001.out)
            have n2_ := Aside0.mk (Kd.R_drew HO_298001.out)
            have n3_ := Aside0.mk (blk_drew BK268.out)
            have n4_ := Aside0.mk (blk_drew BK269.out)
            have n5_ := Aside0.mk (blk_drew BK283.out)
            have n6_ := Aside0.mk (blk_drew BK288.out)
            have n7_ := Aside0.mk (blk_drew BK297.out)
            have n8_ := Aside0.mk (below_drew1 HB.out)
            clear HO_284001
            clear HO_289001
            clear HO_298001
            clear BK268
            clear BK269
            clear BK283
            clear BK288
            clear BK297
            clear HB
            have HO_284001 := n0_
            have HO_289001 := n1_
            have HO_298001 := n2_
            have BK268 := n3_
            have BK269 := n4_
            have BK283 := n5_
            have BK288 := n6_
            have BK297 := n7_
            have HB := n8_
            clear n0_ n1_ n2_ n3_ n4_ n5_ n6_ n7_ n8_
            refine start_ (n := 7) (S := fun w' => w'.cell? ⟨gb268, 0, none⟩ = some (.int .i64 a0_0) ∧ w'.cell? ⟨gb268, 1, none⟩ = some (.int .i64 a0_1) ∧ w'.cell? ⟨gb268, 2, none⟩ = some (.int .i64 a0_2) ∧ w'.cell? ⟨gb268, 3, none⟩ = some (.int .i64 a0_3) ∧ w'.cell? ⟨gb269, 0, none⟩ = some (.int .i64 a1_0) ∧ w'.cell? ⟨gb269, 1, none⟩ = some (.slice A1_1 l1_1.length c1_1)) (ds := []) #[false, false, false, false, false, false, false] (by kernel_rfl) rfl rfl ⟨(blk_cell BK268.out 0).trans rfl, (blk_cell BK268.out 1).trans rfl, (blk_cell BK268.out 2).trans rfl, (blk_cell BK268.out 3).trans rfl, (blk_cell BK269.out 0).trans rfl, (blk_cell BK269.out 1).trans rfl⟩ (fun hHeld => ?_)
            generalize w102.drew = w103 at HO_284001 HO_289001 HO_298001 BK268 BK269 BK283 BK288 BK297 HB hHeld ⊢
            refine take_ (i := 0) (N := some 60) (v := ?_) (a' := ?_) #[true, false, false, false, false, false, false] rfl rfl (by kernel_rfl) (fun _ _ _ h => h) (Or.inl ⟨by rfl, ?_⟩) hHeld ?_ ?_
            rotate_left
            ·rintro w' ⟨s0, s1, s2, s3, s4, s5⟩
             go_simp
             with_reducible rfl
            rotate_left
            ·simp only [Act.put, List.setIfInBounds_toArray, List.set_cons_zero, List.set_cons_succ, i64_w, i32_w]
             rfl
            refine take_ (i := 2) (N := some 62) (v := ?_) (a' := ?_) #[true, false, true, false, false, false, false] rfl rfl (by kernel_rfl) (fun _ _ _ h => h) (Or.inl ⟨by rfl, ?_⟩) hHeld ?_ ?_
            rotate_left
            ·rintro w' ⟨s0, s1, s2, s3, s4, s5⟩
             go_simp
             with_reducible rfl
            rotate_left
            ·simp only [Act.put, List.setIfInBounds_toArray, List.set_cons_zero, List.set_cons_succ, i64_w, i32_w]
             rfl
            refine join_ (σ := Value × Value × Nat) 1 #[true, true, true, true, true, true, false] (fun s_ => [(61, .agg #[.int .i64 t310, .int .i64 t311, .int .i64 t312, .int .i64 t313]), (63, .agg #[.int .i64 t314, s_.1]), (64, .agg #[.int .i64 t318, s_.2.1]), (12, .pointer (some ⟨s_.2.2, 0, none⟩))]) (fun s_ w' => (w'.cell? ⟨gb268, 0, none⟩ = some (.int .i64 a0_0) ∧ w'.cell? ⟨gb268, 1, none⟩ = some (.int .i64 a0_1) ∧ w'.cell? ⟨gb268, 2, none⟩ = some (.int .i64 a0_2) ∧ w'.cell? ⟨gb268, 3, none⟩ = some (.int .i64 a0_3) ∧ w'.cell? ⟨gb269, 0, none⟩ = some (.int .i64 a1_0) ∧ w'.cell? ⟨gb269, 1, none⟩ = some (.slice A1_1 l1_1.length c1_1)) ∧ (Kd.R (Kd.int .u32) 46 w' w.heap.size (fun k_ => some k_ ≠ (s_.2.1 : Value).ownBlock ∧ some k_ ≠ (.slice Ao36 t280.length co36 : Value).ownBlock ∧ some k_ ≠ (.slice Ao46 t305.length co46 : Value).ownBlock ∧ some k_ ≠ (.slice Ao54 t294.length co54 : Value).ownBlock) s_.1 t315) ∧ (Kd.R (Kd.int .u32) 46 w' w.heap.size (fun k_ => some k_ ≠ (s_.1 : Value).ownBlock ∧ some k_ ≠ (.slice Ao36 t280.length co36 : Value).ownBlock ∧ some k_ ≠ (.slice Ao46 t305.length co46 : Value).ownBlock ∧ some k_ ≠ (.slice Ao54 t294.length co54 : Value).ownBlock) s_.2.1 t319) ∧ (Kd.R (Kd.int .u32) 46 w' w.heap.size (fun k_ => some k_ ≠ (s_.1 : Value).ownBlock ∧ some k_ ≠ (s_.2.1 : Value).ownBlock ∧ some k_ ≠ (.slice Ao46 t305.length co46 : Value).ownBlock ∧ some k_ ≠ (.slice Ao54 t294.length co54 : Value).ownBlock) (.slice Ao36 t280.length co36) t280) ∧ (Kd.R (Kd.int .u32) 46 w' w.heap.size (fun k_ => some k_ ≠ (s_.1 : Value).ownBlock ∧ some k_ ≠ (s_.2.1 : Value).ownBlock ∧ some k_ ≠ (.slice Ao36 t280.length co36 : Value).ownBlock ∧ some k_ ≠ (.slice Ao54 t294.length co54 : Value).ownBlock) (.slice Ao46 t305.length co46) t305) ∧ (Kd.R (Kd.int .u32) 46 w' w.heap.size (fun k_ => some k_ ≠ (s_.1 : Value).ownBlock ∧ some k_ ≠ (s_.2.1 : Value).ownBlock ∧ some k_ ≠ (.slice Ao36 t280.length co36 : Value).ownBlock ∧ some k_ ≠ (.slice Ao46 t305.length co46 : Value).ownBlock) (.slice Ao54 t294.length co54) t308) ∧ (w'.heap[gb268]? = some (.cells #[.int .i64 a0_0, .int .i64 a0_1, .int .i64 a0_2, .int .i64 a0_3] 23 (0, 0))) ∧ (w'.heap[gb269]? = some (.cells #[.int .i64 a1_0, .slice A1_1 l1_1.length c1_1] 36 (0, 0))) ∧ (w'.heap[gb283]? = some (.cells #[.int .i64 t279, .slice Ao36 t280.length co36] 39 (0, 0))) ∧ (w'.heap[gb288]? = some (.cells #[.int .i64 t284, .slice Ao46 t305.length co46] 39 (0, 0))) ∧ (w'.heap[gb297]? = some (.cells #[.int .i64 t293, .slice Ao54 t294.length co54] 39 (0, 0))) ∧ (w'.heap[s_.2.2]? = some (.cells #[.int .i64 0, .slice none 0 0] 39 (0, 0))) ∧ (w.heap.size ≤ s_.2.2) ∧ (w.heap.size ≤ s_.2.2) ∧ (gb268 ≠ s_.2.2) ∧ (s_.2.2 ≠ gb268) ∧ (gb269 ≠ s_.2.2) ∧ (s_.2.2 ≠ gb269) ∧ (gb283 ≠ s_.2.2) ∧ (s_.2.2 ≠ gb283) ∧ (gb288 ≠ s_.2.2) ∧ (s_.2.2 ≠ gb288) ∧ (gb297 ≠ s_.2.2) ∧ (s_.2.2 ≠ gb297) ∧ (Below w.heap.size w w')) ?_ ?_
            rotate_left
            ·intro hCont
             refine two_ (i := 1) (j := 5) (Ni := some 61) (Nj := some 12) #[true, true, true, false, false, false, false] #[true, false, true, false, false, true, false] rfl rfl rfl rfl (by kernel_rfl) (by decide) (by decide) (fun K hK => ?_) (fun K hK => ?_)
             ·skip
              refine goes_ Try.func16 (by kernel_rfl) rfl #[.agg #[.int .i64 a0_0, .int .i64 a0_1, .int .i64 a0_2, .int .i64 a0_3]] (by rfl) rfl rfl (by (try simp only [List.map_toArray, List.map_cons, List.map_nil]); first | done | rfl | (simp only [List.length_drop, List.length_take]; rfl)) ?_
              with_reducible refine (laws_toChanRow.calls a0_0 a0_1 a0_2 a0_3 t310 t311 t312 t313 _ A87.out).mono ?_
              rintro e w104 ⟨rfl, hb⟩
              refine ⟨_, rfl, ?_⟩
              have n0_ := Aside0.mk (Kd.R_below (rq HO_284001.out) hb)
              have n1_ := Aside0.mk (Kd.R_below (rq HO_289001.out) hb)
              have n2_ := Aside0.mk (Kd.R_below (rq HO_298001.out) hb)
              have n3_ := Aside0.mk (blk_below (bq BK268.out) hb)
              have n4_ := Aside0.mk (blk_below (bq BK269.out) hb)
              have n5_ := Aside0.mk (blk_below (bq BK283.out) hb)
              have n6_ := Aside0.mk (blk_below (bq BK288.out) hb)
              have n7_ := Aside0.mk (blk_below (bq BK297.out) hb)
              have n8_ := Aside0.mk (below_step (lq HB.out) hb)
              clear HO_284001
              clear HO_289001
              clear HO_298001
              clear BK268
              clear BK269
              clear BK283
              clear BK288
              clear BK297
              clear HB
              have HO_284001 := n0_
              have HO_289001 := n1_
              have HO_298001 := n2_
              have BK268 := n3_
              have BK269 := n4_
              have BK283 := n5_
              have BK288 := n6_
              have BK297 := n7_
              have HB := n8_
              clear n0_ n1_ n2_ n3_ n4_ n5_ n6_ n7_ n8_
              (try clear hb)
              (try clear hb2)
              (try clear hk)
              (try clear hi)
              refine hK.out _ _ ⟨(blk_cell BK268.out 0).trans rfl, (blk_cell BK268.out 1).trans rfl, (blk_cell BK268.out 2).trans rfl, (blk_cell BK268.out 3).trans rfl, (blk_cell BK269.out 0).trans rfl, (blk_cell BK269.out 1).trans rfl⟩ (fun hHeld => ?_)
              clear hK K
              refine norm_ (a' := ?_) ?_ ?_
              rotate_left
              ·show Act.put _ (some 61) _ = _
               simp only [Act.put, List.setIfInBounds_toArray, List.set_cons_zero, List.set_cons_succ, i64_w, i32_w]
               rfl
              refine two_ (i := 3) (j := 5) (Ni := some 63) (Nj := some 12) #[true, true, true, true, false, false, false] #[true, true, true, false, false, true, false] rfl rfl rfl rfl (by kernel_rfl) (by decide) (by decide) (fun K hK => ?_) (fun K hK => ?_)
              ·skip
               refine goes_ Try.func22 (by kernel_rfl) rfl #[.agg #[.int .i64 a1_0, .slice A1_1 l1_1.length c1_1]] (by rfl) rfl rfl (by (try simp only [List.map_toArray, List.map_cons, List.map_nil]); first | done | rfl | (simp only [List.length_drop, List.length_take]; rfl)) ?_
               with_reducible refine (laws_toOutEnd.calls kj21 a1_0 _ _ l1_1 t314 t315 _ ?side1 ?side2 A88.out).mono ?_
               (case side1 => repeat (first | exact (Kd.C_below HR1_1.out HB.out) | (with_reducible refine Kd.C_alloc ?_ _) | (with_reducible refine Kd.C_drewN ?_ _) | (with_reducible refine Kd.C_drew ?_)))
               (case side2 => exact HC1_1.out)
               rintro e w105 ⟨v316, rfl, ho0, hb⟩
               refine ⟨_, rfl, ?_⟩
               have n0_ := Aside0.mk (Kd.R_elder' (rq HO_284001.out) (Kd.R_base ho0) hb)
               have n1_ := Aside0.mk (Kd.R_elder' (rq HO_289001.out) (Kd.R_base ho0) hb)
               have n2_ := Aside0.mk (Kd.R_elder' (rq HO_298001.out) (Kd.R_base ho0) hb)
               have n3_ := Aside0.mk (Kd.R_lower (Kd.R_new' (Kd.R_new' (Kd.R_new' ho0 (Kd.R_lt (rq HO_284001.out))) (Kd.R_lt (rq HO_289001.out))) (Kd.R_lt (rq HO_298001.out))) (below_size (lq HB.out)))
               have n4_ := Aside0.mk (blk_below (bq BK268.out) hb)
               have n5_ := Aside0.mk (blk_below (bq BK269.out) hb)
               have n6_ := Aside0.mk (blk_below (bq BK283.out) hb)
               have n7_ := Aside0.mk (blk_below (bq BK288.out) hb)
               have n8_ := Aside0.mk (blk_below (bq BK297.out) hb)
               have n9_ := Aside0.mk (below_step (lq HB.out) hb)
               clear HO_284001
               clear HO_289001
               clear HO_298001
               clear BK268
               clear BK269
               clear BK283
               clear BK288
               clear BK297
               clear HB
               have HO_284001 := n0_
               have HO_289001 := n1_
               have HO_298001 := n2_
               have HO317 := n3_
               have BK268 := n4_
               have BK269 := n5_
               have BK283 := n6_
               have BK288 := n7_
               have BK297 := n8_
               have HB := n9_
               clear n0_ n1_ n2_ n3_ n4_ n5_ n6_ n7_ n8_ n9_
               (try clear hb)
               (try clear hb2)
               (try clear hk)
               (try clear hi)
               (try clear ho0)
               obtain ⟨Ao106, co106, eo106⟩ := Kd.R_slice HO317.out
               (first | subst eo106 | (injection eo106 with f1_ f2_ f3_; have f4_ := f1_.symm; have f5_ := f3_.symm; clear f1_ f2_ f3_; subst f4_; subst f5_))
               refine hK.out _ _ ⟨(blk_cell BK268.out 0).trans rfl, (blk_cell BK268.out 1).trans rfl, (blk_cell BK268.out 2).trans rfl, (blk_cell BK268.out 3).trans rfl, (blk_cell BK269.out 0).trans rfl, (blk_cell BK269.out 1).trans rfl⟩ (fun hHeld => ?_)
               clear hK K
               refine norm_ (a' := ?_) ?_ ?_
               rotate_left
               ·show Act.put _ (some 63) _ = _
                simp only [Act.put, List.setIfInBounds_toArray, List.set_cons_zero, List.set_cons_succ, i64_w, i32_w]
                rfl
               refine two_ (i := 4) (j := 5) (Ni := some 64) (Nj := some 12) #[true, true, true, true, true, false, false] #[true, true, true, true, false, true, false] rfl rfl rfl rfl (by kernel_rfl) (by decide) (by decide) (fun K hK => ?_) (fun K hK => ?_)
               ·skip
                refine goes_ Try.func28 (by kernel_rfl) rfl #[.agg #[.int .i64 t310, .int .i64 t311, .int .i64 t312, .int .i64 t313], .agg #[.int .i64 t314, .slice Ao106 t315.length co106]] (by rfl) rfl rfl (by (try simp only [List.map_toArray, List.map_cons, List.map_nil]); first | done | rfl | (simp only [List.length_drop, List.length_take]; rfl)) ?_
                with_reducible refine (impl_Discard.calls t310 t311 t312 t313 t314 _ _ t315 t318 t319 _ ?side1 ?side2 A89.out).mono ?_
                (case side1 => repeat (first | exact (Kd.R_reads' HO317.out).2.2 | (with_reducible refine Kd.C_alloc ?_ _) | (with_reducible refine Kd.C_drewN ?_ _) | (with_reducible refine Kd.C_drew ?_)))
                (case side2 => exact (Kd.R_reads' HO317.out).2.1)
                rintro e w107 ⟨v320, rfl, ho0, hb⟩
                refine ⟨_, rfl, ?_⟩
                have n0_ := Aside0.mk (Kd.R_elder' (rq HO_284001.out) (Kd.R_base ho0) hb)
                have n1_ := Aside0.mk (Kd.R_elder' (rq HO_289001.out) (Kd.R_base ho0) hb)
                have n2_ := Aside0.mk (Kd.R_elder' (rq HO_298001.out) (Kd.R_base ho0) hb)
                have n3_ := Aside0.mk (Kd.R_elder' (rq HO317.out) (Kd.R_base ho0) hb)
                have n4_ := Aside0.mk (Kd.R_lower (Kd.R_new' (Kd.R_new' (Kd.R_new' (Kd.R_new' ho0 (Kd.R_lt (rq HO_284001.out))) (Kd.R_lt (rq HO_289001.out))) (Kd.R_lt (rq HO_298001.out))) (Kd.R_lt (rq HO317.out))) (below_size (lq HB.out)))
                have n5_ := Aside0.mk (blk_below (bq BK268.out) hb)
                have n6_ := Aside0.mk (blk_below (bq BK269.out) hb)
                have n7_ := Aside0.mk (blk_below (bq BK283.out) hb)
                have n8_ := Aside0.mk (blk_below (bq BK288.out) hb)
                have n9_ := Aside0.mk (blk_below (bq BK297.out) hb)
                have n10_ := Aside0.mk (below_step (lq HB.out) hb)
                clear HO_284001
                clear HO_289001
                clear HO_298001
                clear HO317
                clear BK268
                clear BK269
                clear BK283
                clear BK288
                clear BK297
                clear HB
                have HO_284001 := n0_
                have HO_289001 := n1_
                have HO_298001 := n2_
                have HO317 := n3_
                have HO321 := n4_
                have BK268 := n5_
                have BK269 := n6_
                have BK283 := n7_
                have BK288 := n8_
                have BK297 := n9_
                have HB := n10_
                clear n0_ n1_ n2_ n3_ n4_ n5_ n6_ n7_ n8_ n9_ n10_
                (try clear hb)
                (try clear hb2)
                (try clear hk)
                (try clear hi)
                (try clear ho0)
                refine hK.out _ _ ⟨(blk_cell BK268.out 0).trans rfl, (blk_cell BK268.out 1).trans rfl, (blk_cell BK268.out 2).trans rfl, (blk_cell BK268.out 3).trans rfl, (blk_cell BK269.out 0).trans rfl, (blk_cell BK269.out 1).trans rfl⟩ (fun hHeld => ?_)
                clear hK K
                refine norm_ (a' := ?_) ?_ ?_
                rotate_left
                ·show Act.put _ (some 64) _ = _
                 simp only [Act.put, List.setIfInBounds_toArray, List.set_cons_zero, List.set_cons_succ, i64_w, i32_w]
                 rfl
                refine one_ (i := 5) (N := some 12) #[true, true, true, true, true, true, false] rfl rfl (by kernel_rfl) (by decide) (fun K hK => ?_)
                refine box_step ?hg (N := 12) ?hd (cs := #[.int .i64 0, .slice none 0 0]) (t := 39) ?hr ?_; (case hd => rfl); (case hg => rfl); (case hr => first | (go_simp; done) | (go_simp; rfl))
                intro gb322 hg w108 hbox hb
                have n0_ := Aside0.mk (Kd.R_below (rq HO_284001.out) hb)
                have n1_ := Aside0.mk (Kd.R_below (rq HO_289001.out) hb)
                have n2_ := Aside0.mk (Kd.R_below (rq HO_298001.out) hb)
                have n3_ := Aside0.mk (Kd.R_below (rq HO317.out) hb)
                have n4_ := Aside0.mk (Kd.R_below (rq HO321.out) hb)
                have n5_ := Aside0.mk (blk_below (bq BK268.out) hb)
                have n6_ := Aside0.mk (blk_below (bq BK269.out) hb)
                have n7_ := Aside0.mk (blk_below (bq BK283.out) hb)
                have n8_ := Aside0.mk (blk_below (bq BK288.out) hb)
                have n9_ := Aside0.mk (blk_below (bq BK297.out) hb)
                have n10_ := Aside0.mk (below_step (lq HB.out) hb)
                have n11_ := Aside0.mk (hbox)
                have n12_ := Aside0.mk ((ge_new hg (lq HB.out) : w.heap.size ≤ gb322))
                have n13_ := Aside0.mk ((ge_new hg (lq HB.out) : w.heap.size ≤ gb322))
                have n14_ := Aside0.mk ((ne_new hg (bq BK268.out) : gb268 ≠ gb322))
                have n15_ := Aside0.mk ((new_ne hg (bq BK268.out) : gb322 ≠ gb268))
                have n16_ := Aside0.mk ((ne_new hg (bq BK269.out) : gb269 ≠ gb322))
                have n17_ := Aside0.mk ((new_ne hg (bq BK269.out) : gb322 ≠ gb269))
                have n18_ := Aside0.mk ((ne_new hg (bq BK283.out) : gb283 ≠ gb322))
                have n19_ := Aside0.mk ((new_ne hg (bq BK283.out) : gb322 ≠ gb283))
                have n20_ := Aside0.mk ((ne_new hg (bq BK288.out) : gb288 ≠ gb322))
                have n21_ := Aside0.mk ((new_ne hg (bq BK288.out) : gb322 ≠ gb288))
                have n22_ := Aside0.mk ((ne_new hg (bq BK297.out) : gb297 ≠ gb322))
                have n23_ := Aside0.mk ((new_ne hg (bq BK297.out) : gb322 ≠ gb297))
                clear HO_284001
                clear HO_289001
                clear HO_298001
                clear HO317
                clear HO321
                clear BK268
                clear BK269
                clear BK283
                clear BK288
                clear BK297
                clear HB
                have HO_284001 := n0_
                have HO_289001 := n1_
                have HO_298001 := n2_
                have HO317 := n3_
                have HO321 := n4_
                have BK268 := n5_
                have BK269 := n6_
                have BK283 := n7_
                have BK288 := n8_
                have BK297 := n9_
                have HB := n10_
                have BK322 := n11_
                have GW322 := n12_
                have GE322 := n13_
                have NB268_322 := n14_
                have NB322_268 := n15_
                have NB269_322 := n16_
                have NB322_269 := n17_
                have NB283_322 := n18_
                have NB322_283 := n19_
                have NB288_322 := n20_
                have NB322_288 := n21_
                have NB297_322 := n22_
                have NB322_297 := n23_
                clear n0_ n1_ n2_ n3_ n4_ n5_ n6_ n7_ n8_ n9_ n10_ n11_ n12_ n13_ n14_ n15_ n16_ n17_ n18_ n19_ n20_ n21_ n22_ n23_
                clear hb hbox hg
                refine hK.out _ _ ⟨(blk_cell BK268.out 0).trans rfl, (blk_cell BK268.out 1).trans rfl, (blk_cell BK268.out 2).trans rfl, (blk_cell BK268.out 3).trans rfl, (blk_cell BK269.out 0).trans rfl, (blk_cell BK269.out 1).trans rfl⟩ (fun hHeld => ?_)
                clear hK K
                refine norm_ (a' := ?_) ?_ ?_
                rotate_left
                ·show Act.put _ (some 12) _ = _
                 simp only [Act.put, List.setIfInBounds_toArray, List.set_cons_zero, List.set_cons_succ, i64_w, i32_w]
                 rfl
                exact norm_ (by simp only [putAll, Act.put, List.setIfInBounds_toArray, List.set_cons_zero, List.set_cons_succ]) (hCont (.slice Ao106 t315.length co106, v320, gb322) _ ⟨hHeld, (by (with_reducible repeat (first | apply Kd.R_alloc | apply Kd.R_drewN | apply Kd.R_drew)); exact Kd.R_mono HO317.out (fun _ hk => ⟨hk.2, ⟨hk.1.1.1.2, ⟨hk.1.1.2, hk.1.2⟩⟩⟩)), (by (with_reducible repeat (first | apply Kd.R_alloc | apply Kd.R_drewN | apply Kd.R_drew)); exact Kd.R_mono HO321.out (fun _ hk => ⟨hk.2, ⟨hk.1.1.1.2, ⟨hk.1.1.2, hk.1.2⟩⟩⟩)), (by (with_reducible repeat (first | apply Kd.R_alloc | apply Kd.R_drewN | apply Kd.R_drew)); exact Kd.R_mono HO_284001.out (fun _ hk => ⟨hk.1.2, ⟨hk.2, ⟨hk.1.1.1, hk.1.1.2⟩⟩⟩)), (by (with_reducible repeat (first | apply Kd.R_alloc | apply Kd.R_drewN | apply Kd.R_drew)); exact Kd.R_mono HO_289001.out (fun _ hk => ⟨hk.1.2, ⟨hk.2, ⟨hk.1.1.1, hk.1.1.2⟩⟩⟩)), (by (with_reducible repeat (first | apply Kd.R_alloc | apply Kd.R_drewN | apply Kd.R_drew)); exact Kd.R_mono HO_298001.out (fun _ hk => ⟨hk.1.2, ⟨hk.2, ⟨hk.1.1.1, hk.1.1.2⟩⟩⟩)), (bq BK268.out), (bq BK269.out), (bq BK283.out), (bq BK288.out), (bq BK297.out), (bq BK322.out), GW322.out, GE322.out, NB268_322.out, NB322_268.out, NB269_322.out, NB322_269.out, NB283_322.out, NB322_283.out, NB288_322.out, NB322_288.out, NB297_322.out, NB322_297.out, (lq HB.out)⟩)
               ·skip
                refine box_step ?hg (N := 12) ?hd (cs := #[.int .i64 0, .slice none 0 0]) (t := 39) ?hr ?_; (case hd => rfl); (case hg => rfl); (case hr => first | (go_simp; done) | (go_simp; rfl))
                intro gb322 hg w106 hbox hb
                have n0_ := Aside0.mk (Kd.R_below (rq HO_284001.out) hb)
                have n1_ := Aside0.mk (Kd.R_below (rq HO_289001.out) hb)
                have n2_ := Aside0.mk (Kd.R_below (rq HO_298001.out) hb)
                have n3_ := Aside0.mk (Kd.R_below (rq HO317.out) hb)
                have n4_ := Aside0.mk (blk_below (bq BK268.out) hb)
                have n5_ := Aside0.mk (blk_below (bq BK269.out) hb)
                have n6_ := Aside0.mk (blk_below (bq BK283.out) hb)
                have n7_ := Aside0.mk (blk_below (bq BK288.out) hb)
                have n8_ := Aside0.mk (blk_below (bq BK297.out) hb)
                have n9_ := Aside0.mk (below_step (lq HB.out) hb)
                have n10_ := Aside0.mk (hbox)
                have n11_ := Aside0.mk ((ge_new hg (lq HB.out) : w.heap.size ≤ gb322))
                have n12_ := Aside0.mk ((ge_new hg (lq HB.out) : w.heap.size ≤ gb322))
                have n13_ := Aside0.mk ((ne_new hg (bq BK268.out) : gb268 ≠ gb322))
                have n14_ := Aside0.mk ((new_ne hg (bq BK268.out) : gb322 ≠ gb268))
                have n15_ := Aside0.mk ((ne_new hg (bq BK269.out) : gb269 ≠ gb322))
                have n16_ := Aside0.mk ((new_ne hg (bq BK269.out) : gb322 ≠ gb269))
                have n17_ := Aside0.mk ((ne_new hg (bq BK283.out) : gb283 ≠ gb322))
                have n18_ := Aside0.mk ((new_ne hg (bq BK283.out) : gb322 ≠ gb283))
                have n19_ := Aside0.mk ((ne_new hg (bq BK288.out) : gb288 ≠ gb322))
                have n20_ := Aside0.mk ((new_ne hg (bq BK288.out) : gb322 ≠ gb288))
                have n21_ := Aside0.mk ((ne_new hg (bq BK297.out) : gb297 ≠ gb322))
                have n22_ := Aside0.mk ((new_ne hg (bq BK297.out) : gb322 ≠ gb297))
                clear HO_284001
                clear HO_289001
                clear HO_298001
                clear HO317
                clear BK268
                clear BK269
                clear BK283
                clear BK288
                clear BK297
                clear HB
                have HO_284001 := n0_
                have HO_289001 := n1_
                have HO_298001 := n2_
                have HO317 := n3_
                have BK268 := n4_
                have BK269 := n5_
                have BK283 := n6_
                have BK288 := n7_
                have BK297 := n8_
                have HB := n9_
                have BK322 := n10_
                have GW322 := n11_
                have GE322 := n12_
                have NB268_322 := n13_
                have NB322_268 := n14_
                have NB269_322 := n15_
                have NB322_269 := n16_
                have NB283_322 := n17_
                have NB322_283 := n18_
                have NB288_322 := n19_
                have NB322_288 := n20_
                have NB297_322 := n21_
                have NB322_297 := n22_
                clear n0_ n1_ n2_ n3_ n4_ n5_ n6_ n7_ n8_ n9_ n10_ n11_ n12_ n13_ n14_ n15_ n16_ n17_ n18_ n19_ n20_ n21_ n22_
                clear hb hbox hg
                obtain ⟨Ao107, co107, eo107⟩ := Kd.R_slice HO317.out
                (first | subst eo107 | (injection eo107 with f1_ f2_ f3_; have f4_ := f1_.symm; have f5_ := f3_.symm; clear f1_ f2_ f3_; subst f4_; subst f5_))
                refine hK.out _ _ ⟨(blk_cell BK268.out 0).trans rfl, (blk_cell BK268.out 1).trans rfl, (blk_cell BK268.out 2).trans rfl, (blk_cell BK268.out 3).trans rfl, (blk_cell BK269.out 0).trans rfl, (blk_cell BK269.out 1).trans rfl⟩ (fun hHeld => ?_)
                clear hK K
                refine norm_ (a' := ?_) ?_ ?_
                rotate_left
                ·show Act.put _ (some 12) _ = _
                 simp only [Act.put, List.setIfInBounds_toArray, List.set_cons_zero, List.set_cons_succ, i64_w, i32_w]
                 rfl
                refine one_ (i := 4) (N := some 64) #[true, true, true, true, true, true, false] rfl rfl (by kernel_rfl) (by decide) (fun K hK => ?_)
                refine goes_ Try.func28 (by kernel_rfl) rfl #[.agg #[.int .i64 t310, .int .i64 t311, .int .i64 t312, .int .i64 t313], .agg #[.int .i64 t314, .slice Ao107 t315.length co107]] (by rfl) rfl rfl (by (try simp only [List.map_toArray, List.map_cons, List.map_nil]); first | done | rfl | (simp only [List.length_drop, List.length_take]; rfl)) ?_
                with_reducible refine (impl_Discard.calls t310 t311 t312 t313 t314 _ _ t315 t318 t319 _ ?side1 ?side2 A89.out).mono ?_
                (case side1 => repeat (first | exact (Kd.R_reads' HO317.out).2.2 | (with_reducible refine Kd.C_alloc ?_ _) | (with_reducible refine Kd.C_drewN ?_ _) | (with_reducible refine Kd.C_drew ?_)))
                (case side2 => exact (Kd.R_reads' HO317.out).2.1)
                rintro e w108 ⟨v320, rfl, ho0, hb⟩
                refine ⟨_, rfl, ?_⟩
                have n0_ := Aside0.mk (Kd.R_elder' (rq HO_284001.out) (Kd.R_base ho0) hb)
                have n1_ := Aside0.mk (Kd.R_elder' (rq HO_289001.out) (Kd.R_base ho0) hb)
                have n2_ := Aside0.mk (Kd.R_elder' (rq HO_298001.out) (Kd.R_base ho0) hb)
                have n3_ := Aside0.mk (Kd.R_elder' (rq HO317.out) (Kd.R_base ho0) hb)
                have n4_ := Aside0.mk (Kd.R_lower (Kd.R_new' (Kd.R_new' (Kd.R_new' (Kd.R_new' ho0 (Kd.R_lt (rq HO_284001.out))) (Kd.R_lt (rq HO_289001.out))) (Kd.R_lt (rq HO_298001.out))) (Kd.R_lt (rq HO317.out))) (below_size (lq HB.out)))
                have n5_ := Aside0.mk (blk_below (bq BK268.out) hb)
                have n6_ := Aside0.mk (blk_below (bq BK269.out) hb)
                have n7_ := Aside0.mk (blk_below (bq BK283.out) hb)
                have n8_ := Aside0.mk (blk_below (bq BK288.out) hb)
                have n9_ := Aside0.mk (blk_below (bq BK297.out) hb)
                have n10_ := Aside0.mk (blk_below (bq BK322.out) hb)
                have n11_ := Aside0.mk (below_step (lq HB.out) hb)
                clear HO_284001
                clear HO_289001
                clear HO_298001
                clear HO317
                clear BK268
                clear BK269
                clear BK283
                clear BK288
                clear BK297
                clear BK322
                clear HB
                have HO_284001 := n0_
                have HO_289001 := n1_
                have HO_298001 := n2_
                have HO317 := n3_
                have HO321 := n4_
                have BK268 := n5_
                have BK269 := n6_
                have BK283 := n7_
                have BK288 := n8_
                have BK297 := n9_
                have BK322 := n10_
                have HB := n11_
                clear n0_ n1_ n2_ n3_ n4_ n5_ n6_ n7_ n8_ n9_ n10_ n11_
                (try clear hb)
                (try clear hb2)
                (try clear hk)
                (try clear hi)
                (try clear ho0)
                refine hK.out _ _ ⟨(blk_cell BK268.out 0).trans rfl, (blk_cell BK268.out 1).trans rfl, (blk_cell BK268.out 2).trans rfl, (blk_cell BK268.out 3).trans rfl, (blk_cell BK269.out 0).trans rfl, (blk_cell BK269.out 1).trans rfl⟩ (fun hHeld => ?_)
                clear hK K
                refine norm_ (a' := ?_) ?_ ?_
                rotate_left
                ·show Act.put _ (some 64) _ = _
                 simp only [Act.put, List.setIfInBounds_toArray, List.set_cons_zero, List.set_cons_succ, i64_w, i32_w]
                 rfl
                exact norm_ (by simp only [putAll, Act.put, List.setIfInBounds_toArray, List.set_cons_zero, List.set_cons_succ]) (hCont (.slice Ao107 t315.length co107, v320, gb322) _ ⟨hHeld, (by (with_reducible repeat (first | apply Kd.R_alloc | apply Kd.R_drewN | apply Kd.R_drew)); exact Kd.R_mono HO317.out (fun _ hk => ⟨hk.2, ⟨hk.1.1.1.2, ⟨hk.1.1.2, hk.1.2⟩⟩⟩)), (by (with_reducible repeat (first | apply Kd.R_alloc | apply Kd.R_drewN | apply Kd.R_drew)); exact Kd.R_mono HO321.out (fun _ hk => ⟨hk.2, ⟨hk.1.1.1.2, ⟨hk.1.1.2, hk.1.2⟩⟩⟩)), (by (with_reducible repeat (first | apply Kd.R_alloc | apply Kd.R_drewN | apply Kd.R_drew)); exact Kd.R_mono HO_284001.out (fun _ hk => ⟨hk.1.2, ⟨hk.2, ⟨hk.1.1.1, hk.1.1.2⟩⟩⟩)), (by (with_reducible repeat (first | apply Kd.R_alloc | apply Kd.R_drewN | apply Kd.R_drew)); exact Kd.R_mono HO_289001.out (fun _ hk => ⟨hk.1.2, ⟨hk.2, ⟨hk.1.1.1, hk.1.1.2⟩⟩⟩)), (by (with_reducible repeat (first | apply Kd.R_alloc | apply Kd.R_drewN | apply Kd.R_drew)); exact Kd.R_mono HO_298001.out (fun _ hk => ⟨hk.1.2, ⟨hk.2, ⟨hk.1.1.1, hk.1.1.2⟩⟩⟩)), (bq BK268.out), (bq BK269.out), (bq BK283.out), (bq BK288.out), (bq BK297.out), (bq BK322.out), GW322.out, GE322.out, NB268_322.out, NB322_268.out, NB269_322.out, NB322_269.out, NB283_322.out, NB322_283.out, NB288_322.out, NB322_288.out, NB297_322.out, NB322_297.out, (lq HB.out)⟩)
              ·skip
               refine box_step ?hg (N := 12) ?hd (cs := #[.int .i64 0, .slice none 0 0]) (t := 39) ?hr ?_; (case hd => rfl); (case hg => rfl); (case hr => first | (go_simp; done) | (go_simp; rfl))
               intro gb322 hg w105 hbox hb
               have n0_ := Aside0.mk (Kd.R_below (rq HO_284001.out) hb)
               have n1_ := Aside0.mk (Kd.R_below (rq HO_289001.out) hb)
               have n2_ := Aside0.mk (Kd.R_below (rq HO_298001.out) hb)
               have n3_ := Aside0.mk (blk_below (bq BK268.out) hb)
               have n4_ := Aside0.mk (blk_below (bq BK269.out) hb)
               have n5_ := Aside0.mk (blk_below (bq BK283.out) hb)
               have n6_ := Aside0.mk (blk_below (bq BK288.out) hb)
               have n7_ := Aside0.mk (blk_below (bq BK297.out) hb)
               have n8_ := Aside0.mk (below_step (lq HB.out) hb)
               have n9_ := Aside0.mk (hbox)
               have n10_ := Aside0.mk ((ge_new hg (lq HB.out) : w.heap.size ≤ gb322))
               have n11_ := Aside0.mk ((ge_new hg (lq HB.out) : w.heap.size ≤ gb322))
               have n12_ := Aside0.mk ((ne_new hg (bq BK268.out) : gb268 ≠ gb322))
               have n13_ := Aside0.mk ((new_ne hg (bq BK268.out) : gb322 ≠ gb268))
               have n14_ := Aside0.mk ((ne_new hg (bq BK269.out) : gb269 ≠ gb322))
               have n15_ := Aside0.mk ((new_ne hg (bq BK269.out) : gb322 ≠ gb269))
               have n16_ := Aside0.mk ((ne_new hg (bq BK283.out) : gb283 ≠ gb322))
               have n17_ := Aside0.mk ((new_ne hg (bq BK283.out) : gb322 ≠ gb283))
               have n18_ := Aside0.mk ((ne_new hg (bq BK288.out) : gb288 ≠ gb322))
               have n19_ := Aside0.mk ((new_ne hg (bq BK288.out) : gb322 ≠ gb288))
               have n20_ := Aside0.mk ((ne_new hg (bq BK297.out) : gb297 ≠ gb322))
               have n21_ := Aside0.mk ((new_ne hg (bq BK297.out) : gb322 ≠ gb297))
               clear HO_284001
               clear HO_289001
               clear HO_298001
               clear BK268
               clear BK269
               clear BK283
               clear BK288
               clear BK297
               clear HB
               have HO_284001 := n0_
               have HO_289001 := n1_
               have HO_298001 := n2_
               have BK268 := n3_
               have BK269 := n4_
               have BK283 := n5_
               have BK288 := n6_
               have BK297 := n7_
               have HB := n8_
               have BK322 := n9_
               have GW322 := n10_
               have GE322 := n11_
               have NB268_322 := n12_
               have NB322_268 := n13_
               have NB269_322 := n14_
               have NB322_269 := n15_
               have NB283_322 := n16_
               have NB322_283 := n17_
               have NB288_322 := n18_
               have NB322_288 := n19_
               have NB297_322 := n20_
               have NB322_297 := n21_
               clear n0_ n1_ n2_ n3_ n4_ n5_ n6_ n7_ n8_ n9_ n10_ n11_ n12_ n13_ n14_ n15_ n16_ n17_ n18_ n19_ n20_ n21_
               clear hb hbox hg
               refine hK.out _ _ ⟨(blk_cell BK268.out 0).trans rfl, (blk_cell BK268.out 1).trans rfl, (blk_cell BK268.out 2).trans rfl, (blk_cell BK268.out 3).trans rfl, (blk_cell BK269.out 0).trans rfl, (blk_cell BK269.out 1).trans rfl⟩ (fun hHeld => ?_)
               clear hK K
               refine norm_ (a' := ?_) ?_ ?_
               rotate_left
               ·show Act.put _ (some 12) _ = _
                simp only [Act.put, List.setIfInBounds_toArray, List.set_cons_zero, List.set_cons_succ, i64_w, i32_w]
                rfl
               refine one_ (i := 3) (N := some 63) #[true, true, true, true, false, true, false] rfl rfl (by kernel_rfl) (by decide) (fun K hK => ?_)
               refine goes_ Try.func22 (by kernel_rfl) rfl #[.agg #[.int .i64 a1_0, .slice A1_1 l1_1.length c1_1]] (by rfl) rfl rfl (by (try simp only [List.map_toArray, List.map_cons, List.map_nil]); first | done | rfl | (simp only [List.length_drop, List.length_take]; rfl)) ?_
               with_reducible refine (laws_toOutEnd.calls kj21 a1_0 _ _ l1_1 t314 t315 _ ?side1 ?side2 A88.out).mono ?_
               (case side1 => repeat (first | exact (Kd.C_below HR1_1.out HB.out) | (with_reducible refine Kd.C_alloc ?_ _) | (with_reducible refine Kd.C_drewN ?_ _) | (with_reducible refine Kd.C_drew ?_)))
               (case side2 => exact HC1_1.out)
               rintro e w106 ⟨v316, rfl, ho0, hb⟩
               refine ⟨_, rfl, ?_⟩
               have n0_ := Aside0.mk (Kd.R_elder' (rq HO_284001.out) (Kd.R_base ho0) hb)
               have n1_ := Aside0.mk (Kd.R_elder' (rq HO_289001.out) (Kd.R_base ho0) hb)
               have n2_ := Aside0.mk (Kd.R_elder' (rq HO_298001.out) (Kd.R_base ho0) hb)
               have n3_ := Aside0.mk (Kd.R_lower (Kd.R_new' (Kd.R_new' (Kd.R_new' ho0 (Kd.R_lt (rq HO_284001.out))) (Kd.R_lt (rq HO_289001.out))) (Kd.R_lt (rq HO_298001.out))) (below_size (lq HB.out)))
               have n4_ := Aside0.mk (blk_below (bq BK268.out) hb)
               have n5_ := Aside0.mk (blk_below (bq BK269.out) hb)
               have n6_ := Aside0.mk (blk_below (bq BK283.out) hb)
               have n7_ := Aside0.mk (blk_below (bq BK288.out) hb)
               have n8_ := Aside0.mk (blk_below (bq BK297.out) hb)
               have n9_ := Aside0.mk (blk_below (bq BK322.out) hb)
               have n10_ := Aside0.mk (below_step (lq HB.out) hb)
               clear HO_284001
               clear HO_289001
               clear HO_298001
               clear BK268
               clear BK269
               clear BK283
               clear BK288
               clear BK297
               clear BK322
               clear HB
               have HO_284001 := n0_
               have HO_289001 := n1_
               have HO_298001 := n2_
               have HO317 := n3_
               have BK268 := n4_
               have BK269 := n5_
               have BK283 := n6_
               have BK288 := n7_
               have BK297 := n8_
               have BK322 := n9_
               have HB := n10_
               clear n0_ n1_ n2_ n3_ n4_ n5_ n6_ n7_ n8_ n9_ n10_
               (try clear hb)
               (try clear hb2)
               (try clear hk)
               (try clear hi)
               (try clear ho0)
               obtain ⟨Ao107, co107, eo107⟩ := Kd.R_slice HO317.out
               (first | subst eo107 | (injection eo107 with f1_ f2_ f3_; have f4_ := f1_.symm; have f5_ := f3_.symm; clear f1_ f2_ f3_; subst f4_; subst f5_))
               refine hK.out _ _ ⟨(blk_cell BK268.out 0).trans rfl, (blk_cell BK268.out 1).trans rfl, (blk_cell BK268.out 2).trans rfl, (blk_cell BK268.out 3).trans rfl, (blk_cell BK269.out 0).trans rfl, (blk_cell BK269.out 1).trans rfl⟩ (fun hHeld => ?_)
               clear hK K
               refine norm_ (a' := ?_) ?_ ?_
               rotate_left
               ·show Act.put _ (some 63) _ = _
                simp only [Act.put, List.setIfInBounds_toArray, List.set_cons_zero, List.set_cons_succ, i64_w, i32_w]
                rfl
               refine one_ (i := 4) (N := some 64) #[true, true, true, true, true, true, false] rfl rfl (by kernel_rfl) (by decide) (fun K hK => ?_)
               refine goes_ Try.func28 (by kernel_rfl) rfl #[.agg #[.int .i64 t310, .int .i64 t311, .int .i64 t312, .int .i64 t313], .agg #[.int .i64 t314, .slice Ao107 t315.length co107]] (by rfl) rfl rfl (by (try simp only [List.map_toArray, List.map_cons, List.map_nil]); first | done | rfl | (simp only [List.length_drop, List.length_take]; rfl)) ?_
               with_reducible refine (impl_Discard.calls t310 t311 t312 t313 t314 _ _ t315 t318 t319 _ ?side1 ?side2 A89.out).mono ?_
               (case side1 => repeat (first | exact (Kd.R_reads' HO317.out).2.2 | (with_reducible refine Kd.C_alloc ?_ _) | (with_reducible refine Kd.C_drewN ?_ _) | (with_reducible refine Kd.C_drew ?_)))
               (case side2 => exact (Kd.R_reads' HO317.out).2.1)
               rintro e w108 ⟨v320, rfl, ho0, hb⟩
               refine ⟨_, rfl, ?_⟩
               have n0_ := Aside0.mk (Kd.R_elder' (rq HO_284001.out) (Kd.R_base ho0) hb)
               have n1_ := Aside0.mk (Kd.R_elder' (rq HO_289001.out) (Kd.R_base ho0) hb)
               have n2_ := Aside0.mk (Kd.R_elder' (rq HO_298001.out) (Kd.R_base ho0) hb)
               have n3_ := Aside0.mk (Kd.R_elder' (rq HO317.out) (Kd.R_base ho0) hb)
               have n4_ := Aside0.mk (Kd.R_lower (Kd.R_new' (Kd.R_new' (Kd.R_new' (Kd.R_new' ho0 (Kd.R_lt (rq HO_284001.out))) (Kd.R_lt (rq HO_289001.out))) (Kd.R_lt (rq HO_298001.out))) (Kd.R_lt (rq HO317.out))) (below_size (lq HB.out)))
               have n5_ := Aside0.mk (blk_below (bq BK268.out) hb)
               have n6_ := Aside0.mk (blk_below (bq BK269.out) hb)
               have n7_ := Aside0.mk (blk_below (bq BK283.out) hb)
               have n8_ := Aside0.mk (blk_below (bq BK288.out) hb)
               have n9_ := Aside0.mk (blk_below (bq BK297.out) hb)
               have n10_ := Aside0.mk (blk_below (bq BK322.out) hb)
               have n11_ := Aside0.mk (below_step (lq HB.out) hb)
               clear HO_284001
               clear HO_289001
               clear HO_298001
               clear HO317
               clear BK268
               clear BK269
               clear BK283
               clear BK288
               clear BK297
               clear BK322
               clear HB
               have HO_284001 := n0_
               have HO_289001 := n1_
               have HO_298001 := n2_
               have HO317 := n3_
               have HO321 := n4_
               have BK268 := n5_
               have BK269 := n6_
               have BK283 := n7_
               have BK288 := n8_
               have BK297 := n9_
               have BK322 := n10_
               have HB := n11_
               clear n0_ n1_ n2_ n3_ n4_ n5_ n6_ n7_ n8_ n9_ n10_ n11_
               (try clear hb)
               (try clear hb2)
               (try clear hk)
               (try clear hi)
               (try clear ho0)
               refine hK.out _ _ ⟨(blk_cell BK268.out 0).trans rfl, (blk_cell BK268.out 1).trans rfl, (blk_cell BK268.out 2).trans rfl, (blk_cell BK268.out 3).trans rfl, (blk_cell BK269.out 0).trans rfl, (blk_cell BK269.out 1).trans rfl⟩ (fun hHeld => ?_)
               clear hK K
               refine norm_ (a' := ?_) ?_ ?_
               rotate_left
               ·show Act.put _ (some 64) _ = _
                simp only [Act.put, List.setIfInBounds_toArray, List.set_cons_zero, List.set_cons_succ, i64_w, i32_w]
                rfl
               exact norm_ (by simp only [putAll, Act.put, List.setIfInBounds_toArray, List.set_cons_zero, List.set_cons_succ]) (hCont (.slice Ao107 t315.length co107, v320, gb322) _ ⟨hHeld, (by (with_reducible repeat (first | apply Kd.R_alloc | apply Kd.R_drewN | apply Kd.R_drew)); exact Kd.R_mono HO317.out (fun _ hk => ⟨hk.2, ⟨hk.1.1.1.2, ⟨hk.1.1.2, hk.1.2⟩⟩⟩)), (by (with_reducible repeat (first | apply Kd.R_alloc | apply Kd.R_drewN | apply Kd.R_drew)); exact Kd.R_mono HO321.out (fun _ hk => ⟨hk.2, ⟨hk.1.1.1.2, ⟨hk.1.1.2, hk.1.2⟩⟩⟩)), (by (with_reducible repeat (first | apply Kd.R_alloc | apply Kd.R_drewN | apply Kd.R_drew)); exact Kd.R_mono HO_284001.out (fun _ hk => ⟨hk.1.2, ⟨hk.2, ⟨hk.1.1.1, hk.1.1.2⟩⟩⟩)), (by (with_reducible repeat (first | apply Kd.R_alloc | apply Kd.R_drewN | apply Kd.R_drew)); exact Kd.R_mono HO_289001.out (fun _ hk => ⟨hk.1.2, ⟨hk.2, ⟨hk.1.1.1, hk.1.1.2⟩⟩⟩)), (by (with_reducible repeat (first | apply Kd.R_alloc | apply Kd.R_drewN | apply Kd.R_drew)); exact Kd.R_mono HO_298001.out (fun _ hk => ⟨hk.1.2, ⟨hk.2, ⟨hk.1.1.1, hk.1.1.2⟩⟩⟩)), (bq BK268.out), (bq BK269.out), (bq BK283.out), (bq BK288.out), (bq BK297.out), (bq BK322.out), GW322.out, GE322.out, NB268_322.out, NB322_268.out, NB269_322.out, NB322_269.out, NB283_322.out, NB322_283.out, NB288_322.out, NB322_288.out, NB297_322.out, NB322_297.out, (lq HB.out)⟩)
             ·skip
              refine box_step ?hg (N := 12) ?hd (cs := #[.int .i64 0, .slice none 0 0]) (t := 39) ?hr ?_; (case hd => rfl); (case hg => rfl); (case hr => first | (go_simp; done) | (go_simp; rfl))
              intro gb322 hg w104 hbox hb
              have n0_ := Aside0.mk (Kd.R_below (rq HO_284001.out) hb)
              have n1_ := Aside0.mk (Kd.R_below (rq HO_289001.out) hb)
              have n2_ := Aside0.mk (Kd.R_below (rq HO_298001.out) hb)
              have n3_ := Aside0.mk (blk_below (bq BK268.out) hb)
              have n4_ := Aside0.mk (blk_below (bq BK269.out) hb)
              have n5_ := Aside0.mk (blk_below (bq BK283.out) hb)
              have n6_ := Aside0.mk (blk_below (bq BK288.out) hb)
              have n7_ := Aside0.mk (blk_below (bq BK297.out) hb)
              have n8_ := Aside0.mk (below_step (lq HB.out) hb)
              have n9_ := Aside0.mk (hbox)
              have n10_ := Aside0.mk ((ge_new hg (lq HB.out) : w.heap.size ≤ gb322))
              have n11_ := Aside0.mk ((ge_new hg (lq HB.out) : w.heap.size ≤ gb322))
              have n12_ := Aside0.mk ((ne_new hg (bq BK268.out) : gb268 ≠ gb322))
              have n13_ := Aside0.mk ((new_ne hg (bq BK268.out) : gb322 ≠ gb268))
              have n14_ := Aside0.mk ((ne_new hg (bq BK269.out) : gb269 ≠ gb322))
              have n15_ := Aside0.mk ((new_ne hg (bq BK269.out) : gb322 ≠ gb269))
              have n16_ := Aside0.mk ((ne_new hg (bq BK283.out) : gb283 ≠ gb322))
              have n17_ := Aside0.mk ((new_ne hg (bq BK283.out) : gb322 ≠ gb283))
              have n18_ := Aside0.mk ((ne_new hg (bq BK288.out) : gb288 ≠ gb322))
              have n19_ := Aside0.mk ((new_ne hg (bq BK288.out) : gb322 ≠ gb288))
              have n20_ := Aside0.mk ((ne_new hg (bq BK297.out) : gb297 ≠ gb322))
              have n21_ := Aside0.mk ((new_ne hg (bq BK297.out) : gb322 ≠ gb297))
              clear HO_284001
              clear HO_289001
              clear HO_298001
              clear BK268
              clear BK269
              clear BK283
              clear BK288
              clear BK297
              clear HB
              have HO_284001 := n0_
              have HO_289001 := n1_
              have HO_298001 := n2_
              have BK268 := n3_
              have BK269 := n4_
              have BK283 := n5_
              have BK288 := n6_
              have BK297 := n7_
              have HB := n8_
              have BK322 := n9_
              have GW322 := n10_
              have GE322 := n11_
              have NB268_322 := n12_
              have NB322_268 := n13_
              have NB269_322 := n14_
              have NB322_269 := n15_
              have NB283_322 := n16_
              have NB322_283 := n17_
              have NB288_322 := n18_
              have NB322_288 := n19_
              have NB297_322 := n20_
              have NB322_297 := n21_
              clear n0_ n1_ n2_ n3_ n4_ n5_ n6_ n7_ n8_ n9_ n10_ n11_ n12_ n13_ n14_ n15_ n16_ n17_ n18_ n19_ n20_ n21_
              clear hb hbox hg
              refine hK.out _ _ ⟨(blk_cell BK268.out 0).trans rfl, (blk_cell BK268.out 1).trans rfl, (blk_cell BK268.out 2).trans rfl, (blk_cell BK268.out 3).trans rfl, (blk_cell BK269.out 0).trans rfl, (blk_cell BK269.out 1).trans rfl⟩ (fun hHeld => ?_)
              clear hK K
              refine norm_ (a' := ?_) ?_ ?_
              rotate_left
              ·show Act.put _ (some 12) _ = _
               simp only [Act.put, List.setIfInBounds_toArray, List.set_cons_zero, List.set_cons_succ, i64_w, i32_w]
               rfl
              refine one_ (i := 1) (N := some 61) #[true, true, true, false, false, true, false] rfl rfl (by kernel_rfl) (by decide) (fun K hK => ?_)
              refine goes_ Try.func16 (by kernel_rfl) rfl #[.agg #[.int .i64 a0_0, .int .i64 a0_1, .int .i64 a0_2, .int .i64 a0_3]] (by rfl) rfl rfl (by (try simp only [List.map_toArray, List.map_cons, List.map_nil]); first | done | rfl | (simp only [List.length_drop, List.length_take]; rfl)) ?_
              with_reducible refine (laws_toChanRow.calls a0_0 a0_1 a0_2 a0_3 t310 t311 t312 t313 _ A87.out).mono ?_
              rintro e w105 ⟨rfl, hb⟩
              refine ⟨_, rfl, ?_⟩
              have n0_ := Aside0.mk (Kd.R_below (rq HO_284001.out) hb)
              have n1_ := Aside0.mk (Kd.R_below (rq HO_289001.out) hb)
              have n2_ := Aside0.mk (Kd.R_below (rq HO_298001.out) hb)
              have n3_ := Aside0.mk (blk_below (bq BK268.out) hb)
              have n4_ := Aside0.mk (blk_below (bq BK269.out) hb)
              have n5_ := Aside0.mk (blk_below (bq BK283.out) hb)
              have n6_ := Aside0.mk (blk_below (bq BK288.out) hb)
              have n7_ := Aside0.mk (blk_below (bq BK297.out) hb)
              have n8_ := Aside0.mk (blk_below (bq BK322.out) hb)
              have n9_ := Aside0.mk (below_step (lq HB.out) hb)
              clear HO_284001
              clear HO_289001
              clear HO_298001
              clear BK268
              clear BK269
              clear BK283
              clear BK288
              clear BK297
              clear BK322
              clear HB
              have HO_284001 := n0_
              have HO_289001 := n1_
              have HO_298001 := n2_
              have BK268 := n3_
              have BK269 := n4_
              have BK283 := n5_
              have BK288 := n6_
              have BK297 := n7_
              have BK322 := n8_
              have HB := n9_
              clear n0_ n1_ n2_ n3_ n4_ n5_ n6_ n7_ n8_ n9_
              (try clear hb)
              (try clear hb2)
              (try clear hk)
              (try clear hi)
              refine hK.out _ _ ⟨(blk_cell BK268.out 0).trans rfl, (blk_cell BK268.out 1).trans rfl, (blk_cell BK268.out 2).trans rfl, (blk_cell BK268.out 3).trans rfl, (blk_cell BK269.out 0).trans rfl, (blk_cell BK269.out 1).trans rfl⟩ (fun hHeld => ?_)
              clear hK K
              refine norm_ (a' := ?_) ?_ ?_
              rotate_left
              ·show Act.put _ (some 61) _ = _
               simp only [Act.put, List.setIfInBounds_toArray, List.set_cons_zero, List.set_cons_succ, i64_w, i32_w]
               rfl
              refine one_ (i := 3) (N := some 63) #[true, true, true, true, false, true, false] rfl rfl (by kernel_rfl) (by decide) (fun K hK => ?_)
              refine goes_ Try.func22 (by kernel_rfl) rfl #[.agg #[.int .i64 a1_0, .slice A1_1 l1_1.length c1_1]] (by rfl) rfl rfl (by (try simp only [List.map_toArray, List.map_cons, List.map_nil]); first | done | rfl | (simp only [List.length_drop, List.length_take]; rfl)) ?_
              with_reducible refine (laws_toOutEnd.calls kj21 a1_0 _ _ l1_1 t314 t315 _ ?side1 ?side2 A88.out).mono ?_
              (case side1 => repeat (first | exact (Kd.C_below HR1_1.out HB.out) | (with_reducible refine Kd.C_alloc ?_ _) | (with_reducible refine Kd.C_drewN ?_ _) | (with_reducible refine Kd.C_drew ?_)))
              (case side2 => exact HC1_1.out)
              rintro e w106 ⟨v316, rfl, ho0, hb⟩
              refine ⟨_, rfl, ?_⟩
              have n0_ := Aside0.mk (Kd.R_elder' (rq HO_284001.out) (Kd.R_base ho0) hb)
              have n1_ := Aside0.mk (Kd.R_elder' (rq HO_289001.out) (Kd.R_base ho0) hb)
              have n2_ := Aside0.mk (Kd.R_elder' (rq HO_298001.out) (Kd.R_base ho0) hb)
              have n3_ := Aside0.mk (Kd.R_lower (Kd.R_new' (Kd.R_new' (Kd.R_new' ho0 (Kd.R_lt (rq HO_284001.out))) (Kd.R_lt (rq HO_289001.out))) (Kd.R_lt (rq HO_298001.out))) (below_size (lq HB.out)))
              have n4_ := Aside0.mk (blk_below (bq BK268.out) hb)
              have n5_ := Aside0.mk (blk_below (bq BK269.out) hb)
              have n6_ := Aside0.mk (blk_below (bq BK283.out) hb)
              have n7_ := Aside0.mk (blk_below (bq BK288.out) hb)
              have n8_ := Aside0.mk (blk_below (bq BK297.out) hb)
              have n9_ := Aside0.mk (blk_below (bq BK322.out) hb)
              have n10_ := Aside0.mk (below_step (lq HB.out) hb)
              clear HO_284001
              clear HO_289001
              clear HO_298001
              clear BK268
              clear BK269
              clear BK283
              clear BK288
              clear BK297
              clear BK322
              clear HB
              have HO_284001 := n0_
              have HO_289001 := n1_
              have HO_298001 := n2_
              have HO317 := n3_
              have BK268 := n4_
              have BK269 := n5_
              have BK283 := n6_
              have BK288 := n7_
              have BK297 := n8_
              have BK322 := n9_
              have HB := n10_
              clear n0_ n1_ n2_ n3_ n4_ n5_ n6_ n7_ n8_ n9_ n10_
              (try clear hb)
              (try clear hb2)
              (try clear hk)
              (try clear hi)
              (try clear ho0)
              obtain ⟨Ao107, co107, eo107⟩ := Kd.R_slice HO317.out
              (first | subst eo107 | (injection eo107 with f1_ f2_ f3_; have f4_ := f1_.symm; have f5_ := f3_.symm; clear f1_ f2_ f3_; subst f4_; subst f5_))
              refine hK.out _ _ ⟨(blk_cell BK268.out 0).trans rfl, (blk_cell BK268.out 1).trans rfl, (blk_cell BK268.out 2).trans rfl, (blk_cell BK268.out 3).trans rfl, (blk_cell BK269.out 0).trans rfl, (blk_cell BK269.out 1).trans rfl⟩ (fun hHeld => ?_)
              clear hK K
              refine norm_ (a' := ?_) ?_ ?_
              rotate_left
              ·show Act.put _ (some 63) _ = _
               simp only [Act.put, List.setIfInBounds_toArray, List.set_cons_zero, List.set_cons_succ, i64_w, i32_w]
               rfl
              refine one_ (i := 4) (N := some 64) #[true, true, true, true, true, true, false] rfl rfl (by kernel_rfl) (by decide) (fun K hK => ?_)
              refine goes_ Try.func28 (by kernel_rfl) rfl #[.agg #[.int .i64 t310, .int .i64 t311, .int .i64 t312, .int .i64 t313], .agg #[.int .i64 t314, .slice Ao107 t315.length co107]] (by rfl) rfl rfl (by (try simp only [List.map_toArray, List.map_cons, List.map_nil]); first | done | rfl | (simp only [List.length_drop, List.length_take]; rfl)) ?_
              with_reducible refine (impl_Discard.calls t310 t311 t312 t313 t314 _ _ t315 t318 t319 _ ?side1 ?side2 A89.out).mono ?_
              (case side1 => repeat (first | exact (Kd.R_reads' HO317.out).2.2 | (with_reducible refine Kd.C_alloc ?_ _) | (with_reducible refine Kd.C_drewN ?_ _) | (with_reducible refine Kd.C_drew ?_)))
              (case side2 => exact (Kd.R_reads' HO317.out).2.1)
              rintro e w108 ⟨v320, rfl, ho0, hb⟩
              refine ⟨_, rfl, ?_⟩
              have n0_ := Aside0.mk (Kd.R_elder' (rq HO_284001.out) (Kd.R_base ho0) hb)
              have n1_ := Aside0.mk (Kd.R_elder' (rq HO_289001.out) (Kd.R_base ho0) hb)
              have n2_ := Aside0.mk (Kd.R_elder' (rq HO_298001.out) (Kd.R_base ho0) hb)
              have n3_ := Aside0.mk (Kd.R_elder' (rq HO317.out) (Kd.R_base ho0) hb)
              have n4_ := Aside0.mk (Kd.R_lower (Kd.R_new' (Kd.R_new' (Kd.R_new' (Kd.R_new' ho0 (Kd.R_lt (rq HO_284001.out))) (Kd.R_lt (rq HO_289001.out))) (Kd.R_lt (rq HO_298001.out))) (Kd.R_lt (rq HO317.out))) (below_size (lq HB.out)))
              have n5_ := Aside0.mk (blk_below (bq BK268.out) hb)
              have n6_ := Aside0.mk (blk_below (bq BK269.out) hb)
              have n7_ := Aside0.mk (blk_below (bq BK283.out) hb)
              have n8_ := Aside0.mk (blk_below (bq BK288.out) hb)
              have n9_ := Aside0.mk (blk_below (bq BK297.out) hb)
              have n10_ := Aside0.mk (blk_below (bq BK322.out) hb)
              have n11_ := Aside0.mk (below_step (lq HB.out) hb)
              clear HO_284001
              clear HO_289001
              clear HO_298001
              clear HO317
              clear BK268
              clear BK269
              clear BK283
              clear BK288
              clear BK297
              clear BK322
              clear HB
              have HO_284001 := n0_
              have HO_289001 := n1_
              have HO_298001 := n2_
              have HO317 := n3_
              have HO321 := n4_
              have BK268 := n5_
              have BK269 := n6_
              have BK283 := n7_
              have BK288 := n8_
              have BK297 := n9_
              have BK322 := n10_
              have HB := n11_
              clear n0_ n1_ n2_ n3_ n4_ n5_ n6_ n7_ n8_ n9_ n10_ n11_
              (try clear hb)
              (try clear hb2)
              (try clear hk)
              (try clear hi)
              (try clear ho0)
              refine hK.out _ _ ⟨(blk_cell BK268.out 0).trans rfl, (blk_cell BK268.out 1).trans rfl, (blk_cell BK268.out 2).trans rfl, (blk_cell BK268.out 3).trans rfl, (blk_cell BK269.out 0).trans rfl, (blk_cell BK269.out 1).trans rfl⟩ (fun hHeld => ?_)
              clear hK K
              refine norm_ (a' := ?_) ?_ ?_
              rotate_left
              ·show Act.put _ (some 64) _ = _
               simp only [Act.put, List.setIfInBounds_toArray, List.set_cons_zero, List.set_cons_succ, i64_w, i32_w]
               rfl
              exact norm_ (by simp only [putAll, Act.put, List.setIfInBounds_toArray, List.set_cons_zero, List.set_cons_succ]) (hCont (.slice Ao107 t315.length co107, v320, gb322) _ ⟨hHeld, (by (with_reducible repeat (first | apply Kd.R_alloc | apply Kd.R_drewN | apply Kd.R_drew)); exact Kd.R_mono HO317.out (fun _ hk => ⟨hk.2, ⟨hk.1.1.1.2, ⟨hk.1.1.2, hk.1.2⟩⟩⟩)), (by (with_reducible repeat (first | apply Kd.R_alloc | apply Kd.R_drewN | apply Kd.R_drew)); exact Kd.R_mono HO321.out (fun _ hk => ⟨hk.2, ⟨hk.1.1.1.2, ⟨hk.1.1.2, hk.1.2⟩⟩⟩)), (by (with_reducible repeat (first | apply Kd.R_alloc | apply Kd.R_drewN | apply Kd.R_drew)); exact Kd.R_mono HO_284001.out (fun _ hk => ⟨hk.1.2, ⟨hk.2, ⟨hk.1.1.1, hk.1.1.2⟩⟩⟩)), (by (with_reducible repeat (first | apply Kd.R_alloc | apply Kd.R_drewN | apply Kd.R_drew)); exact Kd.R_mono HO_289001.out (fun _ hk => ⟨hk.1.2, ⟨hk.2, ⟨hk.1.1.1, hk.1.1.2⟩⟩⟩)), (by (with_reducible repeat (first | apply Kd.R_alloc | apply Kd.R_drewN | apply Kd.R_drew)); exact Kd.R_mono HO_298001.out (fun _ hk => ⟨hk.1.2, ⟨hk.2, ⟨hk.1.1.1, hk.1.1.2⟩⟩⟩)), (bq BK268.out), (bq BK269.out), (bq BK283.out), (bq BK288.out), (bq BK297.out), (bq BK322.out), GW322.out, GE322.out, NB268_322.out, NB322_268.out, NB269_322.out, NB322_269.out, NB283_322.out, NB322_283.out, NB288_322.out, NB322_288.out, NB297_322.out, NB322_297.out, (lq HB.out)⟩)
            rintro ⟨v316, v320, gb322⟩ w109 ⟨hS_, h0_, h1_, h2_, h3_, h4_, h5_, h6_, h7_, h8_, h9_, h10_, h11_, h12_, h13_, h14_, h15_, h16_, h17_, h18_, h19_, h20_, h21_, h22_, h23_⟩
            have n0_ : Aside0 (Kd.R (Kd.int .u32) 46 w109 w.heap.size (fun k_ => some k_ ≠ (v320 : Value).ownBlock ∧ some k_ ≠ (.slice Ao36 t280.length co36 : Value).ownBlock ∧ some k_ ≠ (.slice Ao46 t305.length co46 : Value).ownBlock ∧ some k_ ≠ (.slice Ao54 t294.length co54 : Value).ownBlock) v316 t315) := ⟨h0_⟩
            have n1_ : Aside0 (Kd.R (Kd.int .u32) 46 w109 w.heap.size (fun k_ => some k_ ≠ (v316 : Value).ownBlock ∧ some k_ ≠ (.slice Ao36 t280.length co36 : Value).ownBlock ∧ some k_ ≠ (.slice Ao46 t305.length co46 : Value).ownBlock ∧ some k_ ≠ (.slice Ao54 t294.length co54 : Value).ownBlock) v320 t319) := ⟨h1_⟩
            have n2_ : Aside0 (Kd.R (Kd.int .u32) 46 w109 w.heap.size (fun k_ => some k_ ≠ (v316 : Value).ownBlock ∧ some k_ ≠ (v320 : Value).ownBlock ∧ some k_ ≠ (.slice Ao46 t305.length co46 : Value).ownBlock ∧ some k_ ≠ (.slice Ao54 t294.length co54 : Value).ownBlock) (.slice Ao36 t280.length co36) t280) := ⟨h2_⟩
            have n3_ : Aside0 (Kd.R (Kd.int .u32) 46 w109 w.heap.size (fun k_ => some k_ ≠ (v316 : Value).ownBlock ∧ some k_ ≠ (v320 : Value).ownBlock ∧ some k_ ≠ (.slice Ao36 t280.length co36 : Value).ownBlock ∧ some k_ ≠ (.slice Ao54 t294.length co54 : Value).ownBlock) (.slice Ao46 t305.length co46) t305) := ⟨h3_⟩
            have n4_ : Aside0 (Kd.R (Kd.int .u32) 46 w109 w.heap.size (fun k_ => some k_ ≠ (v316 : Value).ownBlock ∧ some k_ ≠ (v320 : Value).ownBlock ∧ some k_ ≠ (.slice Ao36 t280.length co36 : Value).ownBlock ∧ some k_ ≠ (.slice Ao46 t305.length co46 : Value).ownBlock) (.slice Ao54 t294.length co54) t308) := ⟨h4_⟩
            have n5_ : Aside0 (w109.heap[gb268]? = some (.cells #[.int .i64 a0_0, .int .i64 a0_1, .int .i64 a0_2, .int .i64 a0_3] 23 (0, 0))) := ⟨h5_⟩
            have n6_ : Aside0 (w109.heap[gb269]? = some (.cells #[.int .i64 a1_0, .slice A1_1 l1_1.length c1_1] 36 (0, 0))) := ⟨h6_⟩
            have n7_ : Aside0 (w109.heap[gb283]? = some (.cells #[.int .i64 t279, .slice Ao36 t280.length co36] 39 (0, 0))) := ⟨h7_⟩
            have n8_ : Aside0 (w109.heap[gb288]? = some (.cells #[.int .i64 t284, .slice Ao46 t305.length co46] 39 (0, 0))) := ⟨h8_⟩
            have n9_ : Aside0 (w109.heap[gb297]? = some (.cells #[.int .i64 t293, .slice Ao54 t294.length co54] 39 (0, 0))) := ⟨h9_⟩
            have n10_ : Aside0 (w109.heap[gb322]? = some (.cells #[.int .i64 0, .slice none 0 0] 39 (0, 0))) := ⟨h10_⟩
            have n11_ : Aside0 (w.heap.size ≤ gb322) := ⟨h11_⟩
            have n12_ : Aside0 (w.heap.size ≤ gb322) := ⟨h12_⟩
            have n13_ : Aside0 (gb268 ≠ gb322) := ⟨h13_⟩
            have n14_ : Aside0 (gb322 ≠ gb268) := ⟨h14_⟩
            have n15_ : Aside0 (gb269 ≠ gb322) := ⟨h15_⟩
            have n16_ : Aside0 (gb322 ≠ gb269) := ⟨h16_⟩
            have n17_ : Aside0 (gb283 ≠ gb322) := ⟨h17_⟩
            have n18_ : Aside0 (gb322 ≠ gb283) := ⟨h18_⟩
            have n19_ : Aside0 (gb288 ≠ gb322) := ⟨h19_⟩
            have n20_ : Aside0 (gb322 ≠ gb288) := ⟨h20_⟩
            have n21_ : Aside0 (gb297 ≠ gb322) := ⟨h21_⟩
            have n22_ : Aside0 (gb322 ≠ gb297) := ⟨h22_⟩
            have n23_ : Aside0 (Below w.heap.size w w109) := ⟨h23_⟩
            clear HO_284001
            clear HO_289001
            clear HO_298001
            clear BK268
            clear BK269
            clear BK283
            clear BK288
            clear BK297
            clear HB
            clear h0_ h1_ h2_ h3_ h4_ h5_ h6_ h7_ h8_ h9_ h10_ h11_ h12_ h13_ h14_ h15_ h16_ h17_ h18_ h19_ h20_ h21_ h22_ h23_
            have HO317 := n0_
            have HO321 := n1_
            have HO_284001 := n2_
            have HO_289001 := n3_
            have HO_298001 := n4_
            have BK268 := n5_
            have BK269 := n6_
            have BK283 := n7_
            have BK288 := n8_
            have BK297 := n9_
            have BK322 := n10_
            have GW322 := n11_
            have GE322 := n12_
            have NB268_322 := n13_
            have NB322_268 := n14_
            have NB269_322 := n15_
            have NB322_269 := n16_
            have NB283_322 := n17_
            have NB322_283 := n18_
            have NB288_322 := n19_
            have NB322_288 := n20_
            have NB297_322 := n21_
            have NB322_297 := n22_
            have HB := n23_
            clear n0_ n1_ n2_ n3_ n4_ n5_ n6_ n7_ n8_ n9_ n10_ n11_ n12_ n13_ n14_ n15_ n16_ n17_ n18_ n19_ n20_ n21_ n22_ n23_
            have hHeld : w109.cell? ⟨gb268, 0, none⟩ = some (.int .i64 a0_0) ∧ w109.cell? ⟨gb268, 1, none⟩ = some (.int .i64 a0_1) ∧ w109.cell? ⟨gb268, 2, none⟩ = some (.int .i64 a0_2) ∧ w109.cell? ⟨gb268, 3, none⟩ = some (.int .i64 a0_3) ∧ w109.cell? ⟨gb269, 0, none⟩ = some (.int .i64 a1_0) ∧ w109.cell? ⟨gb269, 1, none⟩ = some (.slice A1_1 l1_1.length c1_1) := hS_
            obtain ⟨Ao111, co111, eo111⟩ := Kd.R_slice HO321.out
            (first | subst eo111 | (injection eo111 with f1_ f2_ f3_; have f4_ := f1_.symm; have f5_ := f3_.symm; clear f1_ f2_ f3_; subst f4_; subst f5_))
            refine norm_ (a' := ?_) ?_ ?_
            rotate_left
            ·simp only [putAll, Act.put, List.setIfInBounds_toArray, List.set_cons_zero, List.set_cons_succ]
             rfl
            refine one_ (i := 6) (N := none) #[true, true, true, true, true, true, true] rfl rfl (by kernel_rfl) (by decide) (fun K hK => ?_)
            have hs110 : w109.cell? ⟨gb322, 0, none⟩ = some (.int .i64 0) := (blk_cell BK322.out 0).trans rfl
            have hfs110 := blk_frozen BK322.out 0
            have hns110_0 := NB268_322.out
            have hns110_1 := NB269_322.out
            have hns110_2 := NB283_322.out
            have hns110_3 := NB288_322.out
            have hns110_4 := NB297_322.out
            have hms110_0 := NB322_268.out
            have hms110_1 := NB322_269.out
            have hms110_2 := NB322_283.out
            have hms110_3 := NB322_288.out
            have hms110_4 := NB322_297.out
            have hs112 : w109.cell? ⟨gb322, 1, none⟩ = some (.slice none 0 0) := (blk_cell BK322.out 1).trans rfl
            have hfs112 := blk_frozen BK322.out 1
            have hns112_0 := NB268_322.out
            have hns112_1 := NB269_322.out
            have hns112_2 := NB283_322.out
            have hns112_3 := NB288_322.out
            have hns112_4 := NB297_322.out
            have hms112_0 := NB322_268.out
            have hms112_1 := NB322_269.out
            have hms112_2 := NB322_283.out
            have hms112_3 := NB322_288.out
            have hms112_4 := NB322_297.out
            refine skip_ (w1 := ?_) (by rfl) rfl ?_ ?_
            rotate_left
            ·go_simp
             rfl
            refine hK.out _ _ ⟨((cell_far (p := ⟨gb322, _, none⟩) NB268_322.out _).trans (((cell_far (p := ⟨gb322, _, none⟩) NB268_322.out _).trans (hHeld.1)))), ((cell_far (p := ⟨gb322, _, none⟩) NB268_322.out _).trans (((cell_far (p := ⟨gb322, _, none⟩) NB268_322.out _).trans (hHeld.2.1)))), ((cell_far (p := ⟨gb322, _, none⟩) NB268_322.out _).trans (((cell_far (p := ⟨gb322, _, none⟩) NB268_322.out _).trans (hHeld.2.2.1)))), ((cell_far (p := ⟨gb322, _, none⟩) NB268_322.out _).trans (((cell_far (p := ⟨gb322, _, none⟩) NB268_322.out _).trans (hHeld.2.2.2.1)))), ((cell_far (p := ⟨gb322, _, none⟩) NB269_322.out _).trans (((cell_far (p := ⟨gb322, _, none⟩) NB269_322.out _).trans (hHeld.2.2.2.2.1)))), ((cell_far (p := ⟨gb322, _, none⟩) NB269_322.out _).trans (((cell_far (p := ⟨gb322, _, none⟩) NB269_322.out _).trans (hHeld.2.2.2.2.2))))⟩ (fun hHeld => ?_)
            clear hK K
            refine done_ (by kernel_rfl) ?_
            have hnb113 := NB322_268.out
            have hnc113 := NB268_322.out
            have hnb114 := NB322_269.out
            have hnc114 := NB269_322.out
            have hnb115 := NB322_283.out
            have hnc115 := NB283_322.out
            have hnb116 := NB322_288.out
            have hnc116 := NB288_322.out
            have hnb117 := NB322_297.out
            have hnc117 := NB297_322.out
            have hcz118_0 : w109.cell? ⟨gb322, 0, none⟩ = some (.int .i64 0) := (blk_cell BK322.out 0).trans rfl
            have hcz118_1 : w109.cell? ⟨gb322, 1, none⟩ = some (.slice none 0 0) := (blk_cell BK322.out 1).trans rfl
            have hfz118_0 := blk_frozen BK322.out 0
            have hfz118_1 := blk_frozen BK322.out 1
            have hnb119 := NB283_268.out
            have hnc119 := NB268_283.out
            have hnb120 := NB283_269.out
            have hnc120 := NB269_283.out
            have hnb121 := NB283_288.out
            have hnc121 := NB288_283.out
            have hcz122_0 : w109.cell? ⟨gb283, 0, none⟩ = some (.int .i64 t279) := (blk_cell BK283.out 0).trans rfl
            have hcz122_1 : w109.cell? ⟨gb283, 1, none⟩ = some (.slice Ao36 t280.length co36) := (blk_cell BK283.out 1).trans rfl
            have hfz122_0 := blk_frozen BK283.out 0
            have hfz122_1 := blk_frozen BK283.out 1
            try go_wp2_with (first | ((with_reducible refine gate_callee (f := 24) rfl ?_); refine goesL_ (some 67) rfl rfl Try.func24 (by kernel_rfl) rfl #[.agg #[.int .i64 t318, .slice Ao111 t319.length co111], .agg #[.int .i64 t279, .slice Ao36 t280.length co36]] rfl (by (try simp only [List.map_toArray, List.map_cons, List.map_nil]); first | done | rfl | (simp only [List.length_drop, List.length_take]; rfl)) ?_; (with_reducible refine (laws_eqOutEnd.calls kj21 t318 _ _ t319 t279 _ _ t280 true _ ?side1 ?side2 ?side3 ?side4 A90.out).mono ?_); (case side1 => refine (Kd.R_reads' (e := 46) (base := w.heap.size) (ok := fun k_ => (some k_ ≠ (v316 : Value).ownBlock ∧ (some k_ ≠ (.slice Ao36 t280.length co36 : Value).ownBlock ∧ (some k_ ≠ (.slice Ao46 t305.length co46 : Value).ownBlock ∧ some k_ ≠ (.slice Ao54 t294.length co54 : Value).ownBlock)))) (n := t319.length) (c := co111) ?_).2.2; exact (rq (Kd.R_mono (Kd.R_far (p := ⟨gb322, 1, none⟩) (Kd.R_far (p := ⟨gb322, 0, none⟩) (Kd.R_types HO321.out BK322.out (by decide)) (fun _ hk => hk.2) (.int .i64 t318)) (fun _ hk => hk.2) (.slice Ao111 t319.length co111)) (fun _ h_ => h_.1)))); (case side2 => exact (Kd.R_reads' HO321.out).2.1); (case side3 => refine (Kd.R_reads' (e := 46) (base := w.heap.size) (ok := fun k_ => (some k_ ≠ (v316 : Value).ownBlock ∧ (some k_ ≠ (.slice Ao111 t319.length co111 : Value).ownBlock ∧ (some k_ ≠ (.slice Ao46 t305.length co46 : Value).ownBlock ∧ some k_ ≠ (.slice Ao54 t294.length co54 : Value).ownBlock)))) (n := t280.length) (c := co36) ?_).2.2; exact (rq (Kd.R_mono (Kd.R_far (p := ⟨gb322, 1, none⟩) (Kd.R_far (p := ⟨gb322, 0, none⟩) (Kd.R_types HO_284001.out BK322.out (by decide)) (fun _ hk => hk.2) (.int .i64 t318)) (fun _ hk => hk.2) (.slice Ao111 t319.length co111)) (fun _ h_ => h_.1)))); (case side4 => exact (Kd.R_reads' HO_284001.out).2.1); rintro e w123 ⟨rfl, hb⟩; refine ⟨_, rfl, ?_⟩; have n0_ := Aside0.mk (Kd.R_below (rq (Kd.R_mono (Kd.R_far (p := ⟨gb322, 1, none⟩) (Kd.R_far (p := ⟨gb322, 0, none⟩) (Kd.R_types HO_284001.out BK322.out (by decide)) (fun _ hk => hk.2) (.int .i64 t318)) (fun _ hk => hk.2) (.slice Ao111 t319.length co111)) (fun _ h_ => h_.1))) hb); have n1_ := Aside0.mk (Kd.R_below (rq (Kd.R_mono (Kd.R_far (p := ⟨gb322, 1, none⟩) (Kd.R_far (p := ⟨gb322, 0, none⟩) (Kd.R_types HO_289001.out BK322.out (by decide)) (fun _ hk => hk.2) (.int .i64 t318)) (fun _ hk => hk.2) (.slice Ao111 t319.length co111)) (fun _ h_ => h_.1))) hb); have n2_ := Aside0.mk (Kd.R_below (rq (Kd.R_mono (Kd.R_far (p := ⟨gb322, 1, none⟩) (Kd.R_far (p := ⟨gb322, 0, none⟩) (Kd.R_types HO_298001.out BK322.out (by decide)) (fun _ hk => hk.2) (.int .i64 t318)) (fun _ hk => hk.2) (.slice Ao111 t319.length co111)) (fun _ h_ => h_.1))) hb); have n3_ := Aside0.mk (Kd.R_below (rq (Kd.R_mono (Kd.R_far (p := ⟨gb322, 1, none⟩) (Kd.R_far (p := ⟨gb322, 0, none⟩) (Kd.R_types HO317.out BK322.out (by decide)) (fun _ hk => hk.2) (.int .i64 t318)) (fun _ hk => hk.2) (.slice Ao111 t319.length co111)) (fun _ h_ => h_.1))) hb); have n4_ := Aside0.mk (Kd.R_below (rq (Kd.R_mono (Kd.R_far (p := ⟨gb322, 1, none⟩) (Kd.R_far (p := ⟨gb322, 0, none⟩) (Kd.R_types HO321.out BK322.out (by decide)) (fun _ hk => hk.2) (.int .i64 t318)) (fun _ hk => hk.2) (.slice Ao111 t319.length co111)) (fun _ h_ => h_.1))) hb); have n5_ := Aside0.mk (blk_below (g := gb268) (o := .cells #[.int .i64 a0_0, .int .i64 a0_1, .int .i64 a0_2, .int .i64 a0_3] 23 (0, 0)) (by (with_reducible repeat (first | refine blk_drewN ?_ _ | refine blk_drew ?_ | refine blk_alloc ?_ _)); refine blk_far ?_ NB268_322.out _; (with_reducible repeat (first | refine blk_drewN ?_ _ | refine blk_drew ?_ | refine blk_alloc ?_ _)); refine blk_far ?_ NB268_322.out _; (with_reducible repeat (first | refine blk_drewN ?_ _ | refine blk_drew ?_ | refine blk_alloc ?_ _)); exact BK268.out) hb); have n6_ := Aside0.mk (blk_below (g := gb269) (o := .cells #[.int .i64 a1_0, .slice A1_1 l1_1.length c1_1] 36 (0, 0)) (by (with_reducible repeat (first | refine blk_drewN ?_ _ | refine blk_drew ?_ | refine blk_alloc ?_ _)); refine blk_far ?_ NB269_322.out _; (with_reducible repeat (first | refine blk_drewN ?_ _ | refine blk_drew ?_ | refine blk_alloc ?_ _)); refine blk_far ?_ NB269_322.out _; (with_reducible repeat (first | refine blk_drewN ?_ _ | refine blk_drew ?_ | refine blk_alloc ?_ _)); exact BK269.out) hb); have n7_ := Aside0.mk (blk_below (g := gb283) (o := .cells #[.int .i64 t279, .slice Ao36 t280.length co36] 39 (0, 0)) (by (with_reducible repeat (first | refine blk_drewN ?_ _ | refine blk_drew ?_ | refine blk_alloc ?_ _)); refine blk_far ?_ NB283_322.out _; (with_reducible repeat (first | refine blk_drewN ?_ _ | refine blk_drew ?_ | refine blk_alloc ?_ _)); refine blk_far ?_ NB283_322.out _; (with_reducible repeat (first | refine blk_drewN ?_ _ | refine blk_drew ?_ | refine blk_alloc ?_ _)); exact BK283.out) hb); have n8_ := Aside0.mk (blk_below (g := gb288) (o := .cells #[.int .i64 t284, .slice Ao46 t305.length co46] 39 (0, 0)) (by (with_reducible repeat (first | refine blk_drewN ?_ _ | refine blk_drew ?_ | refine blk_alloc ?_ _)); refine blk_far ?_ NB288_322.out _; (with_reducible repeat (first | refine blk_drewN ?_ _ | refine blk_drew ?_ | refine blk_alloc ?_ _)); refine blk_far ?_ NB288_322.out _; (with_reducible repeat (first | refine blk_drewN ?_ _ | refine blk_drew ?_ | refine blk_alloc ?_ _)); exact BK288.out) hb); have n9_ := Aside0.mk (blk_below (g := gb297) (o := .cells #[.int .i64 t293, .slice Ao54 t294.length co54] 39 (0, 0)) (by (with_reducible repeat (first | refine blk_drewN ?_ _ | refine blk_drew ?_ | refine blk_alloc ?_ _)); refine blk_far ?_ NB297_322.out _; (with_reducible repeat (first | refine blk_drewN ?_ _ | refine blk_drew ?_ | refine blk_alloc ?_ _)); refine blk_far ?_ NB297_322.out _; (with_reducible repeat (first | refine blk_drewN ?_ _ | refine blk_drew ?_ | refine blk_alloc ?_ _)); exact BK297.out) hb); have n10_ := Aside0.mk (blk_below (g := gb322) (o := .cells #[.int .i64 t318, .slice Ao111 t319.length co111] 39 (0, 0)) (by (with_reducible repeat (first | refine blk_drewN ?_ _ | refine blk_drew ?_ | refine blk_alloc ?_ _)); refine blk_put (cs := #[.int .i64 t318, .slice none 0 0]) ?_ 1 _ rfl; (with_reducible repeat (first | refine blk_drewN ?_ _ | refine blk_drew ?_ | refine blk_alloc ?_ _)); refine blk_put (cs := #[.int .i64 0, .slice none 0 0]) ?_ 0 _ rfl; (with_reducible repeat (first | refine blk_drewN ?_ _ | refine blk_drew ?_ | refine blk_alloc ?_ _)); exact BK322.out) hb); have n11_ := Aside0.mk (below_step (by repeat (first | (with_reducible first | exact HB.out | apply below_alloc | apply pw_below_drewN | apply below_drew1 | refine below_set ?_ GE322.out) | exact HB.out)) hb); clear HO_284001; clear HO_289001; clear HO_298001; clear HO317; clear HO321; clear BK268; clear BK269; clear BK283; clear BK288; clear BK297; clear BK322; clear HB; have HO_284001 := n0_; have HO_289001 := n1_; have HO_298001 := n2_; have HO317 := n3_; have HO321 := n4_; have BK268 := n5_; have BK269 := n6_; have BK283 := n7_; have BK288 := n8_; have BK297 := n9_; have BK322 := n10_; have HB := n11_; clear n0_ n1_ n2_ n3_ n4_ n5_ n6_ n7_ n8_ n9_ n10_ n11_; (try clear hb); (try clear hb2); (try clear hk); (try clear hi); have hcz124_0 : w123.cell? ⟨gb297, 0, none⟩ = some (.int .i64 t293) := (blk_cell BK297.out 0).trans rfl; have hcz124_1 : w123.cell? ⟨gb297, 1, none⟩ = some (.slice Ao54 t294.length co54) := (blk_cell BK297.out 1).trans rfl; have hfz124_0 := blk_frozen BK297.out 0; have hfz124_1 := blk_frozen BK297.out 1) | ((with_reducible refine gate_callee (f := 30) rfl ?_); refine goesL_ (some 71) rfl rfl Try.func30 (by kernel_rfl) rfl #[.agg #[.int .i64 t293, .slice Ao54 t308.length co54], .int .i64 1] rfl (by (try simp only [List.map_toArray, List.map_cons, List.map_nil]); first | done | (rw [show t308.length = t294.length from (Kd.R_reads' HO_298001.out).1.symm] <;> rfl) | rfl | (simp only [List.length_drop, List.length_take]; rfl)) ?_; (with_reducible refine (laws_heldOutEnd.calls kj21 t293 _ _ t308 1 t324 _ ?side1 ?side2 A92.out).mono ?_); (case side1 => repeat (first | exact (Kd.R_reads' HO_298001.out).2.2 | (with_reducible refine Kd.C_alloc ?_ _) | (with_reducible refine Kd.C_drewN ?_ _) | (with_reducible refine Kd.C_drew ?_))); (case side2 => rw [show t308.length = t294.length from (Kd.R_reads' HO_298001.out).1.symm]; exact (Kd.R_reads' HO_298001.out).2.1); rintro e w125 ⟨rfl, hb⟩; refine ⟨_, rfl, ?_⟩; have n0_ := Aside0.mk (Kd.R_below (rq HO_284001.out) hb); have n1_ := Aside0.mk (Kd.R_below (rq HO_289001.out) hb); have n2_ := Aside0.mk (Kd.R_below (rq HO_298001.out) hb); have n3_ := Aside0.mk (Kd.R_below (rq HO317.out) hb); have n4_ := Aside0.mk (Kd.R_below (rq HO321.out) hb); have n5_ := Aside0.mk (blk_below (bq BK268.out) hb); have n6_ := Aside0.mk (blk_below (bq BK269.out) hb); have n7_ := Aside0.mk (blk_below (bq BK283.out) hb); have n8_ := Aside0.mk (blk_below (bq BK288.out) hb); have n9_ := Aside0.mk (blk_below (bq BK297.out) hb); have n10_ := Aside0.mk (blk_below (bq BK322.out) hb); have n11_ := Aside0.mk (below_step (lq HB.out) hb); clear HO_284001; clear HO_289001; clear HO_298001; clear HO317; clear HO321; clear BK268; clear BK269; clear BK283; clear BK288; clear BK297; clear BK322; clear HB; have HO_284001 := n0_; have HO_289001 := n1_; have HO_298001 := n2_; have HO317 := n3_; have HO321 := n4_; have BK268 := n5_; have BK269 := n6_; have BK283 := n7_; have BK288 := n8_; have BK297 := n9_; have BK322 := n10_; have HB := n11_; clear n0_ n1_ n2_ n3_ n4_ n5_ n6_ n7_ n8_ n9_ n10_ n11_; (try clear hb); (try clear hb2); (try clear hk); (try clear hi)))
            go_ret
            exact ⟨by first | rfl | (simp [errW_none, errW_some] <;> rfl) | (simp [*, errW_none, errW_some] <;> rfl), by exact lq HB.out⟩
           ·rw [if_neg c94] at H
            have c94b0 : (t324 == t307) = false := beq_eq_false_iff_ne.mpr c94
            have c94b1 : (t324 != t307) = true := bne_iff_ne.mpr c94
            exact absurd H (by simp)
         ·replace c91 := Bool.eq_false_iff.mpr c91
          subst c91
          rw [if_neg (show ¬ (false = true) by decide)] at H
          exact absurd H (by simp)
        ·rw [if_neg c86] at H
         have c86b0 : (t309 == t307) = false := beq_eq_false_iff_ne.mpr c86
         have c86b1 : (t309 != t307) = true := bne_iff_ne.mpr c86
         exact absurd H (by simp)
   ·replace c20 := Bool.eq_false_iff.mpr c20
    subst c20
    rw [if_neg (show ¬ (false = true) by decide)] at H
    exact absurd H (by simp)
  ·replace c17 := Bool.eq_false_iff.mpr c17
   subst c17
   rw [if_neg (show ¬ (false = true) by decide)] at H
   exact absurd H (by simp)

end Go.Proofs.Ytioifcanipijhaa.GC1
