/- Told by a program of this session, out of the translation: each function of the group as a plain Lean function, and that Go's call comes to just its answer. Lean checks it. -/
import Derived.Test.YtioifcanipijhaaGCx0
import Derived.Test.YtioifcanipijhaaGCx4
import Derived.Test.YtioifcanipijhaaGCx5
import Derived.Test.YtioifcanipijhaaGCx7
import Derived.Test.YtioifcanipijhaaGCx12
import Derived.Test.YtioifcanipijhaaChcC
import Derived.Test.YtioifcanipijhaaMkqC
namespace Go.Proofs.Ytioifcanipijhaa.GC
open Go.RowKit Go.Proofs.YtioifcanipijhaaW.PrintWords Go.Proofs.YtioifcanipijhaaW.PrintLast Go.Proofs.YtioifcanipijhaaW.PrintMore Go.Proofs.Ytioifcanipijhaa.Q
attribute [local go_sem] max2_int min2_int max_two min_two max_three min_three max_four min_four   -- for this text's walks alone
set_option linter.unusedVariables false
set_option linter.unusedSimpArgs false

/-! ### laws_FnExactRecvOn: function 7 -/
mutual
def laws_FnExactRecvOn.j0 : Nat → Int → Int → Int → Int → Bool → Int → Int → Int → Int → List Int → List Int → List Int → List Int → Option (Bool)
 | 0, _, _, _, _, _, _, _, _, _, _, _, _, _ => none
 | k + 1, x7, x8, x11, x12, x56, x296000, x296001, x296002, x296003, x297000, x311000, x315000, x325000 => if x56 = true then (some false) else ((laws_toInEnd.f k x297000).bind fun t326 => ((laws_eqInEnd.f k x315000 t326).bind fun t329 => (if t329 = true then ((laws_markInEnd.f k x315000 1).bind fun bt330 => (if bt330.1 < 0 then (laws_FnExactRecvOn.j1 k x7 x8 true x296000 x296001 x296002 x296003 x297000 x311000 x325000) else ((laws_eqInEnd.f k x325000 x311000).bind fun t332 => (if t332 = true then (if x11 = x7 then (laws_FnExactRecvOn.j1 k x7 x8 (x12 != x8) x296000 x296001 x296002 x296003 x297000 x311000 x325000) else (laws_FnExactRecvOn.j1 k x7 x8 true x296000 x296001 x296002 x296003 x297000 x311000 x325000)) else (laws_FnExactRecvOn.j1 k x7 x8 true x296000 x296001 x296002 x296003 x297000 x311000 x325000))))) else (some false))))
def laws_FnExactRecvOn.j1 : Nat → Int → Int → Bool → Int → Int → Int → Int → List Int → List Int → List Int → Option (Bool)
 | 0, _, _, _, _, _, _, _, _, _, _ => none
 | k + 1, x7, x8, x82, x296000, x296001, x296002, x296003, x297000, x311000, x325000 => if x82 = true then (some false) else ((laws_markInEnd.f k x325000 1).bind fun bt333 => ((laws_heldInEnd.f k bt333.2 1).bind fun t335 => (if t335 < 0 then (some false) else (if t335 = bt333.1 then ((laws_toChanRow.f x296000 x296001 x296002 x296003).bind fun bt336 => ((laws_toInEnd.f k x297000).bind fun t340 => ((impl_RecvOn.f bt336.1 bt336.2.1 bt336.2.2.1 bt336.2.2.2 t340).bind fun bt343 => ((laws_eqInEnd.f k bt343.1 x311000).bind fun t349 => (if t349 = true then (if bt343.2.1 = x7 then (laws_FnExactRecvOn.j2 k bt333.1 (bt343.2.2 != x8) bt333.2) else (laws_FnExactRecvOn.j2 k bt333.1 true bt333.2)) else (laws_FnExactRecvOn.j2 k bt333.1 true bt333.2)))))) else (some false)))))
def laws_FnExactRecvOn.j2 : Nat → Int → Bool → List Int → Option (Bool)
 | 0, _, _, _ => none
 | k + 1, x14, x116, x325000 => if x116 = true then (some false) else ((laws_heldInEnd.f k x325000 1).bind fun t350 => (if t350 < 0 then (some false) else (if t350 = x14 then (some true) else (some false))))
end
def laws_FnExactRecvOn.f (k : Nat) (a0_0 : Int) (a0_1 : Int) (a0_2 : Int) (a0_3 : Int) (l1_0 : List Int) : Option (Bool) := (laws_szInEnd.f l1_0 1048576).bind fun t297 => (if t297 < 0 then (some true) else ((laws_toChanRow.f a0_0 a0_1 a0_2 a0_3).bind fun bt298 => ((laws_toInEnd.f k l1_0).bind fun t302 => ((spec_RecvOn.f bt298.1 bt298.2.1 bt298.2.2.1 bt298.2.2.2 t302).bind fun bt305 => ((laws_toInEnd.f k l1_0).bind fun t311 => ((laws_toChanRow.f a0_0 a0_1 a0_2 a0_3).bind fun bt315 => ((impl_RecvOn.f bt315.1 bt315.2.1 bt315.2.2.1 bt315.2.2.2 t311).bind fun bt319 => ((laws_eqInEnd.f k bt319.1 bt305.1).bind fun t325 => (if t325 = true then (if bt319.2.1 = bt305.2.1 then (laws_FnExactRecvOn.j0 k bt305.2.1 bt305.2.2 bt319.2.1 bt319.2.2 (bt319.2.2 != bt305.2.2) a0_0 a0_1 a0_2 a0_3 l1_0 bt305.1 t311 bt319.1) else (laws_FnExactRecvOn.j0 k bt305.2.1 bt305.2.2 bt319.2.1 bt319.2.2 true a0_0 a0_1 a0_2 a0_3 l1_0 bt305.1 t311 bt319.1)) else (laws_FnExactRecvOn.j0 k bt305.2.1 bt305.2.2 bt319.2.1 bt319.2.2 true a0_0 a0_1 a0_2 a0_3 l1_0 bt305.1 t311 bt319.1))))))))))
theorem laws_FnExactRecvOn.mono_l : ∀ k, (∀ y0 y1 y2 y3 y4 y5 y6 y7 y8 y9 y10 y11 y12, LeO (laws_FnExactRecvOn.j0 k y0 y1 y2 y3 y4 y5 y6 y7 y8 y9 y10 y11 y12) (laws_FnExactRecvOn.j0 (k + 1) y0 y1 y2 y3 y4 y5 y6 y7 y8 y9 y10 y11 y12)) ∧ (∀ y0 y1 y2 y3 y4 y5 y6 y7 y8 y9, LeO (laws_FnExactRecvOn.j1 k y0 y1 y2 y3 y4 y5 y6 y7 y8 y9) (laws_FnExactRecvOn.j1 (k + 1) y0 y1 y2 y3 y4 y5 y6 y7 y8 y9)) ∧ (∀ y0 y1 y2, LeO (laws_FnExactRecvOn.j2 k y0 y1 y2) (laws_FnExactRecvOn.j2 (k + 1) y0 y1 y2))
 | 0 => ⟨fun _ _ _ _ _ _ _ _ _ _ _ _ _ r h => by simp [laws_FnExactRecvOn.j0] at h, fun _ _ _ _ _ _ _ _ _ _ r h => by simp [laws_FnExactRecvOn.j1] at h, fun _ _ _ r h => by simp [laws_FnExactRecvOn.j2] at h⟩
 | k + 1 => by
  obtain ⟨ih0, ih1, ih2⟩ := laws_FnExactRecvOn.mono_l k
  refine ⟨?_, ?_, ?_⟩
  ·intro y0 y1 y2 y3 y4 y5 y6 y7 y8 y9 y10 y11 y12
   unfold laws_FnExactRecvOn.j0
   repeat' first
   | (with_reducible exact ih0 _ _ _ _ _ _ _ _ _ _ _ _ _)
   | (with_reducible exact ih1 _ _ _ _ _ _ _ _ _ _)
   | (with_reducible exact ih2 _ _ _)
   | (with_reducible exact laws_eqInEnd.mono _ _ _)
   | (with_reducible exact laws_heldInEnd.mono _ _ _)
   | (with_reducible exact laws_markInEnd.mono _ _ _)
   | (with_reducible exact laws_toInEnd.mono _ _)
   | (with_reducible exact LeO.refl _)
   | (with_reducible exact LeO.none _)
   | (with_reducible refine LeO.ite ?_ ?_)
   | (with_reducible refine LeO.bind ?_ (fun _ => ?_))
   | exact ih0 _ _ _ _ _ _ _ _ _ _ _ _ _
   | exact ih1 _ _ _ _ _ _ _ _ _ _
   | exact ih2 _ _ _
   | exact laws_eqInEnd.mono _ _ _
   | exact laws_heldInEnd.mono _ _ _
   | exact laws_markInEnd.mono _ _ _
   | exact laws_toInEnd.mono _ _
   | exact LeO.none _
   | refine LeO.ite ?_ ?_
   | refine LeO.bind ?_ (fun _ => ?_)
  ·intro y0 y1 y2 y3 y4 y5 y6 y7 y8 y9
   unfold laws_FnExactRecvOn.j1
   repeat' first
   | (with_reducible exact ih0 _ _ _ _ _ _ _ _ _ _ _ _ _)
   | (with_reducible exact ih1 _ _ _ _ _ _ _ _ _ _)
   | (with_reducible exact ih2 _ _ _)
   | (with_reducible exact laws_eqInEnd.mono _ _ _)
   | (with_reducible exact laws_heldInEnd.mono _ _ _)
   | (with_reducible exact laws_markInEnd.mono _ _ _)
   | (with_reducible exact laws_toInEnd.mono _ _)
   | (with_reducible exact LeO.refl _)
   | (with_reducible exact LeO.none _)
   | (with_reducible refine LeO.ite ?_ ?_)
   | (with_reducible refine LeO.bind ?_ (fun _ => ?_))
   | exact ih0 _ _ _ _ _ _ _ _ _ _ _ _ _
   | exact ih1 _ _ _ _ _ _ _ _ _ _
   | exact ih2 _ _ _
   | exact laws_eqInEnd.mono _ _ _
   | exact laws_heldInEnd.mono _ _ _
   | exact laws_markInEnd.mono _ _ _
   | exact laws_toInEnd.mono _ _
   | exact LeO.none _
   | refine LeO.ite ?_ ?_
   | refine LeO.bind ?_ (fun _ => ?_)
  ·intro y0 y1 y2
   unfold laws_FnExactRecvOn.j2
   repeat' first
   | (with_reducible exact ih0 _ _ _ _ _ _ _ _ _ _ _ _ _)
   | (with_reducible exact ih1 _ _ _ _ _ _ _ _ _ _)
   | (with_reducible exact ih2 _ _ _)
   | (with_reducible exact laws_eqInEnd.mono _ _ _)
   | (with_reducible exact laws_heldInEnd.mono _ _ _)
   | (with_reducible exact laws_markInEnd.mono _ _ _)
   | (with_reducible exact laws_toInEnd.mono _ _)
   | (with_reducible exact LeO.refl _)
   | (with_reducible exact LeO.none _)
   | (with_reducible refine LeO.ite ?_ ?_)
   | (with_reducible refine LeO.bind ?_ (fun _ => ?_))
   | exact ih0 _ _ _ _ _ _ _ _ _ _ _ _ _
   | exact ih1 _ _ _ _ _ _ _ _ _ _
   | exact ih2 _ _ _
   | exact laws_eqInEnd.mono _ _ _
   | exact laws_heldInEnd.mono _ _ _
   | exact laws_markInEnd.mono _ _ _
   | exact laws_toInEnd.mono _ _
   | exact LeO.none _
   | refine LeO.ite ?_ ?_
   | refine LeO.bind ?_ (fun _ => ?_)
theorem laws_FnExactRecvOn.mono : ∀ a0 a1 a2 a3 a4 k, LeO (laws_FnExactRecvOn.f k a0 a1 a2 a3 a4) (laws_FnExactRecvOn.f (k + 1) a0 a1 a2 a3 a4) := by
 intro a0 a1 a2 a3 a4 k
 obtain ⟨ih0, ih1, ih2⟩ := laws_FnExactRecvOn.mono_l k
 unfold laws_FnExactRecvOn.f
 repeat' first
   | (with_reducible exact ih0 _ _ _ _ _ _ _ _ _ _ _ _ _)
   | (with_reducible exact ih1 _ _ _ _ _ _ _ _ _ _)
   | (with_reducible exact ih2 _ _ _)
   | (with_reducible exact laws_eqInEnd.mono _ _ _)
   | (with_reducible exact laws_heldInEnd.mono _ _ _)
   | (with_reducible exact laws_markInEnd.mono _ _ _)
   | (with_reducible exact laws_toInEnd.mono _ _)
   | (with_reducible exact LeO.refl _)
   | (with_reducible exact LeO.none _)
   | (with_reducible refine LeO.ite ?_ ?_)
   | (with_reducible refine LeO.bind ?_ (fun _ => ?_))
   | exact ih0 _ _ _ _ _ _ _ _ _ _ _ _ _
   | exact ih1 _ _ _ _ _ _ _ _ _ _
   | exact ih2 _ _ _
   | exact laws_eqInEnd.mono _ _ _
   | exact laws_heldInEnd.mono _ _ _
   | exact laws_markInEnd.mono _ _ _
   | exact laws_toInEnd.mono _ _
   | exact LeO.none _
   | refine LeO.ite ?_ ?_
   | refine LeO.bind ?_ (fun _ => ?_)
def laws_FnExactRecvOn.T5 : Bool × List (List Nat × List Nat) := (true, [([], []), ([0], [0]), ([], []), ([2, 1], [2]), ([1, 3, 3], [1, 3]), ([4], [4]), ([5], [5]), ([5], [5]), ([5], [5]), ([], []), ([9, 6, 4, 0, 1, 2, 3, 4, 5, 6, 9], [6, 9]), ([7, 10, 0, 1, 2, 3, 4, 5, 6, 7, 9, 10], [7]), ([8, 11, 0, 1, 2, 3, 4, 5, 6, 7, 8, 9, 10, 11], [8])])
def laws_FnExactRecvOn.B5 : List Nat := [0, 1, 0, 7, 15, 31, 63, 63, 63, 0, 639, 1791, 4095]
theorem laws_FnExactRecvOn.tab5 : rtab .any (opsOf Try.f7 5) = laws_FnExactRecvOn.T5 := by kernel_rfl
theorem laws_FnExactRecvOn.bits5 : waitsOk laws_FnExactRecvOn.T5.2 laws_FnExactRecvOn.B5 = true := by kernel_rfl
def laws_FnExactRecvOn.T7 : Bool × List (List Nat × List Nat) := (true, [([], []), ([0], [0]), ([], []), ([1, 2, 1], [1, 2]), ([3], [3]), ([4], [4]), ([4], [4]), ([4], [4]), ([], []), ([8, 5, 3, 0, 1, 2, 3, 4, 5, 8], [5, 8]), ([6, 9, 0, 1, 2, 3, 4, 5, 6, 8, 9], [6]), ([7, 10, 0, 1, 2, 3, 4, 5, 6, 7, 8, 9, 10], [7])])
def laws_FnExactRecvOn.B7 : List Nat := [0, 1, 0, 7, 15, 31, 31, 31, 0, 319, 895, 2047]
theorem laws_FnExactRecvOn.tab7 : rtab .any (opsOf Try.f7 7) = laws_FnExactRecvOn.T7 := by kernel_rfl
theorem laws_FnExactRecvOn.bits7 : waitsOk laws_FnExactRecvOn.T7.2 laws_FnExactRecvOn.B7 = true := by kernel_rfl
def laws_FnExactRecvOn.T24 : Bool × List (List Nat × List Nat) := (true, [([], []), ([0], [0]), ([], []), ([2, 1], [2]), ([1, 3, 3], [1, 3]), ([4], [4]), ([5], [5]), ([5], [5]), ([5], [5]), ([], []), ([9, 6, 4, 0, 1, 2, 3, 4, 5, 6, 9], [6, 9]), ([7, 10, 0, 1, 2, 3, 4, 5, 6, 7, 9, 10], [7]), ([8, 11, 0, 1, 2, 3, 4, 5, 6, 7, 8, 9, 10, 11], [8])])
def laws_FnExactRecvOn.B24 : List Nat := [0, 1, 0, 7, 15, 31, 63, 63, 63, 0, 639, 1791, 4095]
theorem laws_FnExactRecvOn.tab24 : rtab .any (opsOf Try.f7 24) = laws_FnExactRecvOn.T24 := by kernel_rfl
theorem laws_FnExactRecvOn.bits24 : waitsOk laws_FnExactRecvOn.T24.2 laws_FnExactRecvOn.B24 = true := by kernel_rfl
set_option maxHeartbeats 8000000 in
set_option maxRecDepth 100000 in
theorem laws_FnExactRecvOn.calls (k : Nat) (a0_0 : Int) (a0_1 : Int) (a0_2 : Int) (a0_3 : Int) (A1_0 : Option Addr) (c1_0 : Nat) (l1_0 : List Int) (w : World) (hr1_0 : Kd.C (Kd.int .u32) w A1_0 l1_0.length l1_0) (hc1_0 : l1_0.length ≤ c1_0) (h : laws_FnExactRecvOn.f k a0_0 a0_1 a0_2 a0_3 l1_0 = some true) :
  Calls Try.prog 7 #[.agg #[.int .i64 a0_0, .int .i64 a0_1, .int .i64 a0_2, .int .i64 a0_3], .agg #[.slice A1_0 l1_0.length c1_0]] w fun e w' => e = .returned (.bool true) ∧ Below w.heap.size w w' := by
 have hu23 := Try.underlying23
 have hu26 := Try.underlying26
 have hu31 := Try.underlying31
 have HR1_0 := Aside0.mk hr1_0
 have HC1_0 := Aside0.mk hc1_0
 clear hr1_0 hc1_0
 have HB := Aside0.mk (Below.refl w.heap.size w)
 have H : ((laws_szInEnd.f l1_0 1048576).bind fun t297 => (if t297 < 0 then (some true) else ((laws_toChanRow.f a0_0 a0_1 a0_2 a0_3).bind fun bt298 => ((laws_toInEnd.f k l1_0).bind fun t302 => ((spec_RecvOn.f bt298.1 bt298.2.1 bt298.2.2.1 bt298.2.2.2 t302).bind fun bt305 => ((laws_toInEnd.f k l1_0).bind fun t311 => ((laws_toChanRow.f a0_0 a0_1 a0_2 a0_3).bind fun bt315 => ((impl_RecvOn.f bt315.1 bt315.2.1 bt315.2.2.1 bt315.2.2.2 t311).bind fun bt319 => ((laws_eqInEnd.f k bt319.1 bt305.1).bind fun t325 => (if t325 = true then (if bt319.2.1 = bt305.2.1 then (laws_FnExactRecvOn.j0 k bt305.2.1 bt305.2.2 bt319.2.1 bt319.2.2 (bt319.2.2 != bt305.2.2) a0_0 a0_1 a0_2 a0_3 l1_0 bt305.1 t311 bt319.1) else (laws_FnExactRecvOn.j0 k bt305.2.1 bt305.2.2 bt319.2.1 bt319.2.2 true a0_0 a0_1 a0_2 a0_3 l1_0 bt305.1 t311 bt319.1)) else (laws_FnExactRecvOn.j0 k bt305.2.1 bt305.2.2 bt319.2.1 bt319.2.2 true a0_0 a0_1 a0_2 a0_3 l1_0 bt305.1 t311 bt319.1))))))))))) = some true := h
 clear h
 replace H := Option.bind_eq_some_iff.mp H
 obtain ⟨t297, A30, H⟩ := H
 (try dsimp only at H)
 have A3 := Aside0.mk A30
 clear A30
 by_cases c4 : t297 < 0
 ·rw [if_pos c4] at H
  have c4b0 : decide (t297 < 0) = true := decide_eq_true c4
  clear c4
  clear H
  go_enter Try.func7, Try.ntmps7
  go_wp2_with (first | ((with_reducible refine gate_dst (N := 2) rfl ?_); refine box_event ?hg (N := 2) ?hd (cs := #[.int .i64 a0_0, .int .i64 a0_1, .int .i64 a0_2, .int .i64 a0_3]) (t := 23) ?hr ?_; (case hd => rfl); (case hg => rfl); (case hr => first | (go_simp; done) | (go_simp; rfl)); intro gb295 hg w5 hbox hb; have n0_ := Aside0.mk (below_step (lq HB.out) hb); have n1_ := Aside0.mk (hbox); have n2_ := Aside0.mk ((ge_new hg (lq HB.out) : w.heap.size ≤ gb295)); have n3_ := Aside0.mk ((ge_new hg (lq HB.out) : w.heap.size ≤ gb295)); clear HB; have HB := n0_; have BK295 := n1_; have GW295 := n2_; have GE295 := n3_; clear n0_ n1_ n2_ n3_; clear hb hbox hg) | ((with_reducible refine gate_dst (N := 3) rfl ?_); refine box_event ?hg (N := 3) ?hd (cs := #[.slice A1_0 l1_0.length c1_0]) (t := 26) ?hr ?_; (case hd => rfl); (case hg => rfl); (case hr => first | (go_simp; done) | (go_simp; rfl)); intro gb296 hg w6 hbox hb; have n0_ := Aside0.mk (blk_below (bq BK295.out) hb); have n1_ := Aside0.mk (below_step (lq HB.out) hb); have n2_ := Aside0.mk (hbox); have n3_ := Aside0.mk ((ge_new hg (lq HB.out) : w.heap.size ≤ gb296)); have n4_ := Aside0.mk ((ge_new hg (lq HB.out) : w.heap.size ≤ gb296)); have n5_ := Aside0.mk ((ne_new hg (bq BK295.out) : gb295 ≠ gb296)); have n6_ := Aside0.mk ((new_ne hg (bq BK295.out) : gb296 ≠ gb295)); clear BK295; clear HB; have BK295 := n0_; have HB := n1_; have BK296 := n2_; have GW296 := n3_; have GE296 := n4_; have NB295_296 := n5_; have NB296_295 := n6_; clear n0_ n1_ n2_ n3_ n4_ n5_ n6_; clear hb hbox hg; have hnb7 := NB296_295.out; have hnc7 := NB295_296.out; have hcz8_0 : w6.cell? ⟨gb296, 0, none⟩ = some (.slice A1_0 l1_0.length c1_0) := (blk_cell BK296.out 0).trans rfl; have hfz8_0 := blk_frozen BK296.out 0) | ((with_reducible refine gate_callee (f := 14) rfl ?_); refine goesL_ (some 21) rfl rfl Try.func14 (by kernel_rfl) rfl #[.agg #[.slice A1_0 l1_0.length c1_0], .int .i64 1048576] rfl (by (try simp only [List.map_toArray, List.map_cons, List.map_nil]); first | done | rfl | (simp only [List.length_drop, List.length_take]; rfl)) ?_; (with_reducible refine (laws_szInEnd.calls _ _ l1_0 1048576 t297 _ ?side1 ?side2 A3.out).mono ?_); (case side1 => repeat (first | exact (Kd.C_below HR1_0.out HB.out) | (with_reducible refine Kd.C_alloc ?_ _) | (with_reducible refine Kd.C_drewN ?_ _) | (with_reducible refine Kd.C_drew ?_))); (case side2 => exact HC1_0.out); rintro e w9 ⟨rfl, hb⟩; refine ⟨_, rfl, ?_⟩; have n0_ := Aside0.mk (blk_below (bq BK295.out) hb); have n1_ := Aside0.mk (blk_below (bq BK296.out) hb); have n2_ := Aside0.mk (below_step (lq HB.out) hb); clear BK295; clear BK296; clear HB; have BK295 := n0_; have BK296 := n1_; have HB := n2_; clear n0_ n1_ n2_; (try clear hb); (try clear hb2); (try clear hk); (try clear hi)))
  go_ret
  exact ⟨by first | rfl | (simp [errW_none, errW_some] <;> rfl) | (simp [*, errW_none, errW_some] <;> rfl), by exact lq HB.out⟩
 ·rw [if_neg c4] at H
  have c4b0 : decide (t297 < 0) = false := decide_eq_false c4
  clear c4
  replace H := Option.bind_eq_some_iff.mp H
  obtain ⟨⟨t298, t299, t300, t301⟩, A100, H⟩ := H
  (try dsimp only at H)
  have A10 := Aside0.mk A100
  clear A100
  replace H := Option.bind_eq_some_iff.mp H
  obtain ⟨t302, A110, H⟩ := H
  (try dsimp only at H)
  have A11 := Aside0.mk A110
  clear A110
  replace H := Option.bind_eq_some_iff.mp H
  obtain ⟨⟨t305, t308, t309⟩, A120, H⟩ := H
  (try dsimp only at H)
  have A12 := Aside0.mk A120
  clear A120
  replace H := Option.bind_eq_some_iff.mp H
  obtain ⟨t311, A130, H⟩ := H
  (try dsimp only at H)
  have A13 := Aside0.mk A130
  clear A130
  replace H := Option.bind_eq_some_iff.mp H
  obtain ⟨⟨t315, t316, t317, t318⟩, A140, H⟩ := H
  (try dsimp only at H)
  have A14 := Aside0.mk A140
  clear A140
  replace H := Option.bind_eq_some_iff.mp H
  obtain ⟨⟨t319, t322, t323⟩, A150, H⟩ := H
  (try dsimp only at H)
  have A15 := Aside0.mk A150
  clear A150
  have HC16 := Aside0.mk H
  clear H
  go_enter Try.func7, Try.ntmps7
  try go_wp2_with (first | ((with_reducible refine gate_dst (N := 2) rfl ?_); refine box_event ?hg (N := 2) ?hd (cs := #[.int .i64 a0_0, .int .i64 a0_1, .int .i64 a0_2, .int .i64 a0_3]) (t := 23) ?hr ?_; (case hd => rfl); (case hg => rfl); (case hr => first | (go_simp; done) | (go_simp; rfl)); intro gb295 hg w17 hbox hb; have n0_ := Aside0.mk (below_step (lq HB.out) hb); have n1_ := Aside0.mk (hbox); have n2_ := Aside0.mk ((ge_new hg (lq HB.out) : w.heap.size ≤ gb295)); have n3_ := Aside0.mk ((ge_new hg (lq HB.out) : w.heap.size ≤ gb295)); clear HB; have HB := n0_; have BK295 := n1_; have GW295 := n2_; have GE295 := n3_; clear n0_ n1_ n2_ n3_; clear hb hbox hg) | ((with_reducible refine gate_dst (N := 3) rfl ?_); refine box_event ?hg (N := 3) ?hd (cs := #[.slice A1_0 l1_0.length c1_0]) (t := 26) ?hr ?_; (case hd => rfl); (case hg => rfl); (case hr => first | (go_simp; done) | (go_simp; rfl)); intro gb296 hg w18 hbox hb; have n0_ := Aside0.mk (blk_below (bq BK295.out) hb); have n1_ := Aside0.mk (below_step (lq HB.out) hb); have n2_ := Aside0.mk (hbox); have n3_ := Aside0.mk ((ge_new hg (lq HB.out) : w.heap.size ≤ gb296)); have n4_ := Aside0.mk ((ge_new hg (lq HB.out) : w.heap.size ≤ gb296)); have n5_ := Aside0.mk ((ne_new hg (bq BK295.out) : gb295 ≠ gb296)); have n6_ := Aside0.mk ((new_ne hg (bq BK295.out) : gb296 ≠ gb295)); clear BK295; clear HB; have BK295 := n0_; have HB := n1_; have BK296 := n2_; have GW296 := n3_; have GE296 := n4_; have NB295_296 := n5_; have NB296_295 := n6_; clear n0_ n1_ n2_ n3_ n4_ n5_ n6_; clear hb hbox hg; have hnb19 := NB296_295.out; have hnc19 := NB295_296.out; have hcz20_0 : w18.cell? ⟨gb296, 0, none⟩ = some (.slice A1_0 l1_0.length c1_0) := (blk_cell BK296.out 0).trans rfl; have hfz20_0 := blk_frozen BK296.out 0) | ((with_reducible refine gate_callee (f := 14) rfl ?_); refine goesL_ (some 21) rfl rfl Try.func14 (by kernel_rfl) rfl #[.agg #[.slice A1_0 l1_0.length c1_0], .int .i64 1048576] rfl (by (try simp only [List.map_toArray, List.map_cons, List.map_nil]); first | done | rfl | (simp only [List.length_drop, List.length_take]; rfl)) ?_; (with_reducible refine (laws_szInEnd.calls _ _ l1_0 1048576 t297 _ ?side1 ?side2 A3.out).mono ?_); (case side1 => repeat (first | exact (Kd.C_below HR1_0.out HB.out) | (with_reducible refine Kd.C_alloc ?_ _) | (with_reducible refine Kd.C_drewN ?_ _) | (with_reducible refine Kd.C_drew ?_))); (case side2 => exact HC1_0.out); rintro e w21 ⟨rfl, hb⟩; refine ⟨_, rfl, ?_⟩; have n0_ := Aside0.mk (blk_below (bq BK295.out) hb); have n1_ := Aside0.mk (blk_below (bq BK296.out) hb); have n2_ := Aside0.mk (below_step (lq HB.out) hb); clear BK295; clear BK296; clear HB; have BK295 := n0_; have BK296 := n1_; have HB := n2_; clear n0_ n1_ n2_; (try clear hb); (try clear hb2); (try clear hk); (try clear hi)))
  have n0_ := Aside0.mk (blk_drew BK295.out)
  have n1_ := Aside0.mk (blk_drew BK296.out)
  have n2_ := Aside0.mk (below_drew1 HB.out)
  clear BK295
  clear BK296
  clear HB
  have BK295 := n0_
  have BK296 := n1_
  have HB := n2_
  clear n0_ n1_ n2_
  refine start_ (n := 13) (S := fun w' => w'.cell? ⟨gb295, 0, none⟩ = some (.int .i64 a0_0) ∧ w'.cell? ⟨gb295, 1, none⟩ = some (.int .i64 a0_1) ∧ w'.cell? ⟨gb295, 2, none⟩ = some (.int .i64 a0_2) ∧ w'.cell? ⟨gb295, 3, none⟩ = some (.int .i64 a0_3) ∧ w'.cell? ⟨gb296, 0, none⟩ = some (.slice A1_0 l1_0.length c1_0)) (ds := []) #[false, false, false, false, false, false, false, false, false, false, false, false, false] (by kernel_rfl) rfl rfl ⟨(blk_cell BK295.out 0).trans rfl, (blk_cell BK295.out 1).trans rfl, (blk_cell BK295.out 2).trans rfl, (blk_cell BK295.out 3).trans rfl, (blk_cell BK296.out 0).trans rfl⟩ (fun hHeld => ?_); refine with_tabW laws_FnExactRecvOn.tab5 laws_FnExactRecvOn.bits5 (fun HT_ HW_ => ?_)
  generalize w21.drew = w22 at BK295 BK296 HB hHeld ⊢
  refine take_ (i := 0) (N := some 25) (v := ?_) (a' := ?_) #[true, false, false, false, false, false, false, false, false, false, false, false, false] rfl rfl (take_ofW HT_.out HW_.out (by kernel_rfl)) (fun _ _ _ h => h) (Or.inl ⟨by rfl, ?_⟩) hHeld ?_ ?_
  rotate_left
  ·rintro w' ⟨s0, s1, s2, s3, s4⟩
   go_simp
   with_reducible rfl
  rotate_left
  ·simp only [Act.put, List.setIfInBounds_toArray, List.set_cons_zero, List.set_cons_succ, i64_w, i32_w]
   rfl
  refine take_ (i := 2) (N := some 27) (v := ?_) (a' := ?_) #[true, false, true, false, false, false, false, false, false, false, false, false, false] rfl rfl (take_ofW HT_.out HW_.out (by kernel_rfl)) (fun _ _ _ h => h) (Or.inl ⟨by rfl, ?_⟩) hHeld ?_ ?_
  rotate_left
  ·rintro w' ⟨s0, s1, s2, s3, s4⟩
   go_simp
   with_reducible rfl
  rotate_left
  ·simp only [Act.put, List.setIfInBounds_toArray, List.set_cons_zero, List.set_cons_succ, i64_w, i32_w]
   rfl
  refine join_ (σ := Value × Value × Nat) 3 #[true, true, true, true, true, true, true, true, true, true, false, false, false] (fun s_ => [(26, .agg #[.int .i64 t298, .int .i64 t299, .int .i64 t300, .int .i64 t301]), (28, .agg #[s_.1]), (29, .tuple #[.agg #[s_.2.1], .int .u32 t308, .int .i64 t309]), (6, .pointer (some ⟨s_.2.2, 0, none⟩)), (24, .tuple #[.agg #[s_.2.1], .int .u32 t308, .int .i64 t309]), (30, .agg #[s_.2.1]), (31, .int .u32 t308), (32, .int .i64 t309)]) (fun s_ w' => (w'.cell? ⟨gb295, 0, none⟩ = some (.int .i64 a0_0) ∧ w'.cell? ⟨gb295, 1, none⟩ = some (.int .i64 a0_1) ∧ w'.cell? ⟨gb295, 2, none⟩ = some (.int .i64 a0_2) ∧ w'.cell? ⟨gb295, 3, none⟩ = some (.int .i64 a0_3) ∧ w'.cell? ⟨gb296, 0, none⟩ = some (.slice A1_0 l1_0.length c1_0)) ∧ (Kd.R (Kd.int .u32) 46 w' w.heap.size (fun k_ => some k_ ≠ (s_.2.1 : Value).ownBlock) s_.1 t302) ∧ (Kd.R (Kd.int .u32) 46 w' w.heap.size (fun k_ => some k_ ≠ (s_.1 : Value).ownBlock) s_.2.1 t305) ∧ (w'.heap[gb295]? = some (.cells #[.int .i64 a0_0, .int .i64 a0_1, .int .i64 a0_2, .int .i64 a0_3] 23 (0, 0))) ∧ (w'.heap[gb296]? = some (.cells #[.slice A1_0 l1_0.length c1_0] 26 (0, 0))) ∧ (w'.heap[s_.2.2]? = some (.cells #[.slice none 0 0] 31 (0, 0))) ∧ (w.heap.size ≤ s_.2.2) ∧ (w.heap.size ≤ s_.2.2) ∧ (gb295 ≠ s_.2.2) ∧ (s_.2.2 ≠ gb295) ∧ (gb296 ≠ s_.2.2) ∧ (s_.2.2 ≠ gb296) ∧ (Below w.heap.size w w')) ?_ ?_
  rotate_left
  ·intro hCont
   refine two_ (i := 1) (j := 9) (Ni := some 26) (Nj := some 6) #[true, true, true, false, false, false, false, false, false, false, false, false, false] #[true, false, true, false, false, false, false, false, false, true, false, false, false] rfl rfl rfl rfl (two_of HT_.out (by kernel_rfl)) (by decide) (by decide) (fun K hK => ?_) (fun K hK => ?_)
   ·skip
    refine goes_ Try.func16 (by kernel_rfl) rfl #[.agg #[.int .i64 a0_0, .int .i64 a0_1, .int .i64 a0_2, .int .i64 a0_3]] (by rfl) rfl rfl (by (try simp only [List.map_toArray, List.map_cons, List.map_nil]); first | done | rfl | (simp only [List.length_drop, List.length_take]; rfl)) ?_
    with_reducible refine (laws_toChanRow.calls a0_0 a0_1 a0_2 a0_3 t298 t299 t300 t301 _ A10.out).mono ?_
    rintro e w23 ⟨rfl, hb⟩
    refine ⟨_, rfl, ?_⟩
    have n0_ := Aside0.mk (blk_below (bq BK295.out) hb)
    have n1_ := Aside0.mk (blk_below (bq BK296.out) hb)
    have n2_ := Aside0.mk (below_step (lq HB.out) hb)
    clear BK295
    clear BK296
    clear HB
    have BK295 := n0_
    have BK296 := n1_
    have HB := n2_
    clear n0_ n1_ n2_
    (try clear hb)
    (try clear hb2)
    (try clear hk)
    (try clear hi)
    refine hK.out _ _ ⟨(blk_cell BK295.out 0).trans rfl, (blk_cell BK295.out 1).trans rfl, (blk_cell BK295.out 2).trans rfl, (blk_cell BK295.out 3).trans rfl, (blk_cell BK296.out 0).trans rfl⟩ (fun hHeld => ?_)
    clear hK K
    refine norm_ (a' := ?_) ?_ ?_
    rotate_left
    ·show Act.put _ (some 26) _ = _
     simp only [Act.put, List.setIfInBounds_toArray, List.set_cons_zero, List.set_cons_succ, i64_w, i32_w]
     rfl
    refine two_ (i := 3) (j := 9) (Ni := some 28) (Nj := some 6) #[true, true, true, true, false, false, false, false, false, false, false, false, false] #[true, true, true, false, false, false, false, false, false, true, false, false, false] rfl rfl rfl rfl (two_of HT_.out (by kernel_rfl)) (by decide) (by decide) (fun K hK => ?_) (fun K hK => ?_)
    ·skip
     refine goes_ Try.func17 (by kernel_rfl) rfl #[.agg #[.slice A1_0 l1_0.length c1_0]] (by rfl) rfl rfl (by (try simp only [List.map_toArray, List.map_cons, List.map_nil]); first | done | rfl | (simp only [List.length_drop, List.length_take]; rfl)) ?_
     with_reducible refine (laws_toInEnd.calls k _ _ l1_0 t302 _ ?side1 ?side2 A11.out).mono ?_
     (case side1 => repeat (first | exact (Kd.C_below HR1_0.out HB.out) | (with_reducible refine Kd.C_alloc ?_ _) | (with_reducible refine Kd.C_drewN ?_ _) | (with_reducible refine Kd.C_drew ?_)))
     (case side2 => exact HC1_0.out)
     rintro e w24 ⟨v303, rfl, ho0, hb⟩
     refine ⟨_, rfl, ?_⟩
     have n0_ := Aside0.mk (Kd.R_lower ho0 (below_size (lq HB.out)))
     have n1_ := Aside0.mk (blk_below (bq BK295.out) hb)
     have n2_ := Aside0.mk (blk_below (bq BK296.out) hb)
     have n3_ := Aside0.mk (below_step (lq HB.out) hb)
     clear BK295
     clear BK296
     clear HB
     have HO304 := n0_
     have BK295 := n1_
     have BK296 := n2_
     have HB := n3_
     clear n0_ n1_ n2_ n3_
     (try clear hb)
     (try clear hb2)
     (try clear hk)
     (try clear hi)
     (try clear ho0)
     obtain ⟨Ao25, co25, eo25⟩ := Kd.R_slice HO304.out
     (first | subst eo25 | (injection eo25 with f1_ f2_ f3_; have f4_ := f1_.symm; have f5_ := f3_.symm; clear f1_ f2_ f3_; subst f4_; subst f5_))
     refine hK.out _ _ ⟨(blk_cell BK295.out 0).trans rfl, (blk_cell BK295.out 1).trans rfl, (blk_cell BK295.out 2).trans rfl, (blk_cell BK295.out 3).trans rfl, (blk_cell BK296.out 0).trans rfl⟩ (fun hHeld => ?_)
     clear hK K
     refine norm_ (a' := ?_) ?_ ?_
     rotate_left
     ·show Act.put _ (some 28) _ = _
      simp only [Act.put, List.setIfInBounds_toArray, List.set_cons_zero, List.set_cons_succ, i64_w, i32_w]
      rfl
     refine two_ (i := 4) (j := 9) (Ni := some 29) (Nj := some 6) #[true, true, true, true, true, false, false, false, false, false, false, false, false] #[true, true, true, true, false, false, false, false, false, true, false, false, false] rfl rfl rfl rfl (two_of HT_.out (by kernel_rfl)) (by decide) (by decide) (fun K hK => ?_) (fun K hK => ?_)
     ·skip
      refine goes_ Try.func31 (by kernel_rfl) rfl #[.agg #[.int .i64 t298, .int .i64 t299, .int .i64 t300, .int .i64 t301], .agg #[.slice Ao25 t302.length co25]] (by rfl) rfl rfl (by (try simp only [List.map_toArray, List.map_cons, List.map_nil]); first | done | rfl | (simp only [List.length_drop, List.length_take]; rfl)) ?_
      with_reducible refine (spec_RecvOn.calls t298 t299 t300 t301 _ _ t302 t305 t308 t309 _ ?side1 ?side2 A12.out).mono ?_
      (case side1 => repeat (first | exact (Kd.R_reads' HO304.out).2.2 | (with_reducible refine Kd.C_alloc ?_ _) | (with_reducible refine Kd.C_drewN ?_ _) | (with_reducible refine Kd.C_drew ?_)))
      (case side2 => exact (Kd.R_reads' HO304.out).2.1)
      rintro e w26 ⟨v306, rfl, ho0, hb⟩
      refine ⟨_, rfl, ?_⟩
      have n0_ := Aside0.mk (Kd.R_elder' (rq HO304.out) (Kd.R_base ho0) hb)
      have n1_ := Aside0.mk (Kd.R_lower (Kd.R_new' ho0 (Kd.R_lt (rq HO304.out))) (below_size (lq HB.out)))
      have n2_ := Aside0.mk (blk_below (bq BK295.out) hb)
      have n3_ := Aside0.mk (blk_below (bq BK296.out) hb)
      have n4_ := Aside0.mk (below_step (lq HB.out) hb)
      clear HO304
      clear BK295
      clear BK296
      clear HB
      have HO304 := n0_
      have HO307 := n1_
      have BK295 := n2_
      have BK296 := n3_
      have HB := n4_
      clear n0_ n1_ n2_ n3_ n4_
      (try clear hb)
      (try clear hb2)
      (try clear hk)
      (try clear hi)
      (try clear ho0)
      refine hK.out _ _ ⟨(blk_cell BK295.out 0).trans rfl, (blk_cell BK295.out 1).trans rfl, (blk_cell BK295.out 2).trans rfl, (blk_cell BK295.out 3).trans rfl, (blk_cell BK296.out 0).trans rfl⟩ (fun hHeld => ?_)
      clear hK K
      refine norm_ (a' := ?_) ?_ ?_
      rotate_left
      ·show Act.put _ (some 29) _ = _
       simp only [Act.put, List.setIfInBounds_toArray, List.set_cons_zero, List.set_cons_succ, i64_w, i32_w]
       rfl
      refine pure_ (i := 5) (N := some 24) (v := ?_) (a' := ?_) #[true, true, true, true, true, true, false, false, false, false, false, false, false] rfl rfl (any_of HT_.out (by kernel_rfl)) (fun _ _ _ h => h) (Or.inl ⟨by rfl, ?_⟩) ?_ ?_
      rotate_left
      ·intro w'
       go_simp
       with_reducible rfl
      rotate_left
      ·simp only [Act.put, List.setIfInBounds_toArray, List.set_cons_zero, List.set_cons_succ, i64_w, i32_w]
       rfl
      refine pure_ (i := 6) (N := some 30) (v := ?_) (a' := ?_) #[true, true, true, true, true, true, true, false, false, false, false, false, false] rfl rfl (any_of HT_.out (by kernel_rfl)) (fun _ _ _ h => h) (Or.inl ⟨by rfl, ?_⟩) ?_ ?_
      rotate_left
      ·intro w'
       go_simp
       with_reducible rfl
      rotate_left
      ·simp only [Act.put, List.setIfInBounds_toArray, List.set_cons_zero, List.set_cons_succ, i64_w, i32_w]
       rfl
      refine pure_ (i := 7) (N := some 31) (v := ?_) (a' := ?_) #[true, true, true, true, true, true, true, true, false, false, false, false, false] rfl rfl (any_of HT_.out (by kernel_rfl)) (fun _ _ _ h => h) (Or.inl ⟨by rfl, ?_⟩) ?_ ?_
      rotate_left
      ·intro w'
       go_simp
       with_reducible rfl
      rotate_left
      ·simp only [Act.put, List.setIfInBounds_toArray, List.set_cons_zero, List.set_cons_succ, i64_w, i32_w]
       rfl
      refine pure_ (i := 8) (N := some 32) (v := ?_) (a' := ?_) #[true, true, true, true, true, true, true, true, true, false, false, false, false] rfl rfl (any_of HT_.out (by kernel_rfl)) (fun _ _ _ h => h) (Or.inl ⟨by rfl, ?_⟩) ?_ ?_
      rotate_left
      ·intro w'
       go_simp
       with_reducible rfl
      rotate_left
      ·simp only [Act.put, List.setIfInBounds_toArray, List.set_cons_zero, List.set_cons_succ, i64_w, i32_w]
       rfl
      refine one_ (i := 9) (N := some 6) #[true, true, true, true, true, true, true, true, true, true, false, false, false] rfl rfl (one_of HT_.out (by kernel_rfl)) (by decide) (fun K hK => ?_)
      refine box_step ?hg (N := 6) ?hd (cs := #[.slice none 0 0]) (t := 31) ?hr ?_; (case hd => rfl); (case hg => rfl); (case hr => first | (go_simp; done) | (go_simp; rfl))
      intro gb310 hg w27 hbox hb
      have n0_ := Aside0.mk (Kd.R_below (rq HO304.out) hb)
      have n1_ := Aside0.mk (Kd.R_below (rq HO307.out) hb)
      have n2_ := Aside0.mk (blk_below (bq BK295.out) hb)
      have n3_ := Aside0.mk (blk_below (bq BK296.out) hb)
      have n4_ := Aside0.mk (below_step (lq HB.out) hb)
      have n5_ := Aside0.mk (hbox)
      have n6_ := Aside0.mk ((ge_new hg (lq HB.out) : w.heap.size ≤ gb310))
      have n7_ := Aside0.mk ((ge_new hg (lq HB.out) : w.heap.size ≤ gb310))
      have n8_ := Aside0.mk ((ne_new hg (bq BK295.out) : gb295 ≠ gb310))
      have n9_ := Aside0.mk ((new_ne hg (bq BK295.out) : gb310 ≠ gb295))
      have n10_ := Aside0.mk ((ne_new hg (bq BK296.out) : gb296 ≠ gb310))
      have n11_ := Aside0.mk ((new_ne hg (bq BK296.out) : gb310 ≠ gb296))
      clear HO304
      clear HO307
      clear BK295
      clear BK296
      clear HB
      have HO304 := n0_
      have HO307 := n1_
      have BK295 := n2_
      have BK296 := n3_
      have HB := n4_
      have BK310 := n5_
      have GW310 := n6_
      have GE310 := n7_
      have NB295_310 := n8_
      have NB310_295 := n9_
      have NB296_310 := n10_
      have NB310_296 := n11_
      clear n0_ n1_ n2_ n3_ n4_ n5_ n6_ n7_ n8_ n9_ n10_ n11_
      clear hb hbox hg
      refine hK.out _ _ ⟨(blk_cell BK295.out 0).trans rfl, (blk_cell BK295.out 1).trans rfl, (blk_cell BK295.out 2).trans rfl, (blk_cell BK295.out 3).trans rfl, (blk_cell BK296.out 0).trans rfl⟩ (fun hHeld => ?_)
      clear hK K
      refine norm_ (a' := ?_) ?_ ?_
      rotate_left
      ·show Act.put _ (some 6) _ = _
       simp only [Act.put, List.setIfInBounds_toArray, List.set_cons_zero, List.set_cons_succ, i64_w, i32_w]
       rfl
      exact norm_ (by simp only [putAll, Act.put, List.setIfInBounds_toArray, List.set_cons_zero, List.set_cons_succ]) (hCont (.slice Ao25 t302.length co25, v306, gb310) _ ⟨hHeld, (by (with_reducible repeat (first | apply Kd.R_alloc | apply Kd.R_drewN | apply Kd.R_drew)); exact Kd.R_mono HO304.out (fun _ hk => hk.2)), (by (with_reducible repeat (first | apply Kd.R_alloc | apply Kd.R_drewN | apply Kd.R_drew)); exact Kd.R_mono HO307.out (fun _ hk => hk.2)), (bq BK295.out), (bq BK296.out), (bq BK310.out), GW310.out, GE310.out, NB295_310.out, NB310_295.out, NB296_310.out, NB310_296.out, (lq HB.out)⟩)
     ·skip
      refine box_step ?hg (N := 6) ?hd (cs := #[.slice none 0 0]) (t := 31) ?hr ?_; (case hd => rfl); (case hg => rfl); (case hr => first | (go_simp; done) | (go_simp; rfl))
      intro gb310 hg w25 hbox hb
      have n0_ := Aside0.mk (Kd.R_below (rq HO304.out) hb)
      have n1_ := Aside0.mk (blk_below (bq BK295.out) hb)
      have n2_ := Aside0.mk (blk_below (bq BK296.out) hb)
      have n3_ := Aside0.mk (below_step (lq HB.out) hb)
      have n4_ := Aside0.mk (hbox)
      have n5_ := Aside0.mk ((ge_new hg (lq HB.out) : w.heap.size ≤ gb310))
      have n6_ := Aside0.mk ((ge_new hg (lq HB.out) : w.heap.size ≤ gb310))
      have n7_ := Aside0.mk ((ne_new hg (bq BK295.out) : gb295 ≠ gb310))
      have n8_ := Aside0.mk ((new_ne hg (bq BK295.out) : gb310 ≠ gb295))
      have n9_ := Aside0.mk ((ne_new hg (bq BK296.out) : gb296 ≠ gb310))
      have n10_ := Aside0.mk ((new_ne hg (bq BK296.out) : gb310 ≠ gb296))
      clear HO304
      clear BK295
      clear BK296
      clear HB
      have HO304 := n0_
      have BK295 := n1_
      have BK296 := n2_
      have HB := n3_
      have BK310 := n4_
      have GW310 := n5_
      have GE310 := n6_
      have NB295_310 := n7_
      have NB310_295 := n8_
      have NB296_310 := n9_
      have NB310_296 := n10_
      clear n0_ n1_ n2_ n3_ n4_ n5_ n6_ n7_ n8_ n9_ n10_
      clear hb hbox hg
      obtain ⟨Ao26, co26, eo26⟩ := Kd.R_slice HO304.out
      (first | subst eo26 | (injection eo26 with f1_ f2_ f3_; have f4_ := f1_.symm; have f5_ := f3_.symm; clear f1_ f2_ f3_; subst f4_; subst f5_))
      refine hK.out _ _ ⟨(blk_cell BK295.out 0).trans rfl, (blk_cell BK295.out 1).trans rfl, (blk_cell BK295.out 2).trans rfl, (blk_cell BK295.out 3).trans rfl, (blk_cell BK296.out 0).trans rfl⟩ (fun hHeld => ?_)
      clear hK K
      refine norm_ (a' := ?_) ?_ ?_
      rotate_left
      ·show Act.put _ (some 6) _ = _
       simp only [Act.put, List.setIfInBounds_toArray, List.set_cons_zero, List.set_cons_succ, i64_w, i32_w]
       rfl
      refine one_ (i := 4) (N := some 29) #[true, true, true, true, true, false, false, false, false, true, false, false, false] rfl rfl (one_of HT_.out (by kernel_rfl)) (by decide) (fun K hK => ?_)
      refine goes_ Try.func31 (by kernel_rfl) rfl #[.agg #[.int .i64 t298, .int .i64 t299, .int .i64 t300, .int .i64 t301], .agg #[.slice Ao26 t302.length co26]] (by rfl) rfl rfl (by (try simp only [List.map_toArray, List.map_cons, List.map_nil]); first | done | rfl | (simp only [List.length_drop, List.length_take]; rfl)) ?_
      with_reducible refine (spec_RecvOn.calls t298 t299 t300 t301 _ _ t302 t305 t308 t309 _ ?side1 ?side2 A12.out).mono ?_
      (case side1 => repeat (first | exact (Kd.R_reads' HO304.out).2.2 | (with_reducible refine Kd.C_alloc ?_ _) | (with_reducible refine Kd.C_drewN ?_ _) | (with_reducible refine Kd.C_drew ?_)))
      (case side2 => exact (Kd.R_reads' HO304.out).2.1)
      rintro e w27 ⟨v306, rfl, ho0, hb⟩
      refine ⟨_, rfl, ?_⟩
      have n0_ := Aside0.mk (Kd.R_elder' (rq HO304.out) (Kd.R_base ho0) hb)
      have n1_ := Aside0.mk (Kd.R_lower (Kd.R_new' ho0 (Kd.R_lt (rq HO304.out))) (below_size (lq HB.out)))
      have n2_ := Aside0.mk (blk_below (bq BK295.out) hb)
      have n3_ := Aside0.mk (blk_below (bq BK296.out) hb)
      have n4_ := Aside0.mk (blk_below (bq BK310.out) hb)
      have n5_ := Aside0.mk (below_step (lq HB.out) hb)
      clear HO304
      clear BK295
      clear BK296
      clear BK310
      clear HB
      have HO304 := n0_
      have HO307 := n1_
      have BK295 := n2_
      have BK296 := n3_
      have BK310 := n4_
      have HB := n5_
      clear n0_ n1_ n2_ n3_ n4_ n5_
      (try clear hb)
      (try clear hb2)
      (try clear hk)
      (try clear hi)
      (try clear ho0)
      refine hK.out _ _ ⟨(blk_cell BK295.out 0).trans rfl, (blk_cell BK295.out 1).trans rfl, (blk_cell BK295.out 2).trans rfl, (blk_cell BK295.out 3).trans rfl, (blk_cell BK296.out 0).trans rfl⟩ (fun hHeld => ?_)
      clear hK K
      refine norm_ (a' := ?_) ?_ ?_
      rotate_left
      ·show Act.put _ (some 29) _ = _
       simp only [Act.put, List.setIfInBounds_toArray, List.set_cons_zero, List.set_cons_succ, i64_w, i32_w]
       rfl
      refine pure_ (i := 5) (N := some 24) (v := ?_) (a' := ?_) #[true, true, true, true, true, true, false, false, false, true, false, false, false] rfl rfl (any_of HT_.out (by kernel_rfl)) (fun _ _ _ h => h) (Or.inl ⟨by rfl, ?_⟩) ?_ ?_
      rotate_left
      ·intro w'
       go_simp
       with_reducible rfl
      rotate_left
      ·simp only [Act.put, List.setIfInBounds_toArray, List.set_cons_zero, List.set_cons_succ, i64_w, i32_w]
       rfl
      refine pure_ (i := 6) (N := some 30) (v := ?_) (a' := ?_) #[true, true, true, true, true, true, true, false, false, true, false, false, false] rfl rfl (any_of HT_.out (by kernel_rfl)) (fun _ _ _ h => h) (Or.inl ⟨by rfl, ?_⟩) ?_ ?_
      rotate_left
      ·intro w'
       go_simp
       with_reducible rfl
      rotate_left
      ·simp only [Act.put, List.setIfInBounds_toArray, List.set_cons_zero, List.set_cons_succ, i64_w, i32_w]
       rfl
      refine pure_ (i := 7) (N := some 31) (v := ?_) (a' := ?_) #[true, true, true, true, true, true, true, true, false, true, false, false, false] rfl rfl (any_of HT_.out (by kernel_rfl)) (fun _ _ _ h => h) (Or.inl ⟨by rfl, ?_⟩) ?_ ?_
      rotate_left
      ·intro w'
       go_simp
       with_reducible rfl
      rotate_left
      ·simp only [Act.put, List.setIfInBounds_toArray, List.set_cons_zero, List.set_cons_succ, i64_w, i32_w]
       rfl
      refine pure_ (i := 8) (N := some 32) (v := ?_) (a' := ?_) #[true, true, true, true, true, true, true, true, true, true, false, false, false] rfl rfl (any_of HT_.out (by kernel_rfl)) (fun _ _ _ h => h) (Or.inl ⟨by rfl, ?_⟩) ?_ ?_
      rotate_left
      ·intro w'
       go_simp
       with_reducible rfl
      rotate_left
      ·simp only [Act.put, List.setIfInBounds_toArray, List.set_cons_zero, List.set_cons_succ, i64_w, i32_w]
       rfl
      exact norm_ (by simp only [putAll, Act.put, List.setIfInBounds_toArray, List.set_cons_zero, List.set_cons_succ]) (hCont (.slice Ao26 t302.length co26, v306, gb310) _ ⟨hHeld, (by (with_reducible repeat (first | apply Kd.R_alloc | apply Kd.R_drewN | apply Kd.R_drew)); exact Kd.R_mono HO304.out (fun _ hk => hk.2)), (by (with_reducible repeat (first | apply Kd.R_alloc | apply Kd.R_drewN | apply Kd.R_drew)); exact Kd.R_mono HO307.out (fun _ hk => hk.2)), (bq BK295.out), (bq BK296.out), (bq BK310.out), GW310.out, GE310.out, NB295_310.out, NB310_295.out, NB296_310.out, NB310_296.out, (lq HB.out)⟩)
    ·skip
     refine box_step ?hg (N := 6) ?hd (cs := #[.slice none 0 0]) (t := 31) ?hr ?_; (case hd => rfl); (case hg => rfl); (case hr => first | (go_simp; done) | (go_simp; rfl))
     intro gb310 hg w24 hbox hb
     have n0_ := Aside0.mk (blk_below (bq BK295.out) hb)
     have n1_ := Aside0.mk (blk_below (bq BK296.out) hb)
     have n2_ := Aside0.mk (below_step (lq HB.out) hb)
     have n3_ := Aside0.mk (hbox)
     have n4_ := Aside0.mk ((ge_new hg (lq HB.out) : w.heap.size ≤ gb310))
     have n5_ := Aside0.mk ((ge_new hg (lq HB.out) : w.heap.size ≤ gb310))
     have n6_ := Aside0.mk ((ne_new hg (bq BK295.out) : gb295 ≠ gb310))
     have n7_ := Aside0.mk ((new_ne hg (bq BK295.out) : gb310 ≠ gb295))
     have n8_ := Aside0.mk ((ne_new hg (bq BK296.out) : gb296 ≠ gb310))
     have n9_ := Aside0.mk ((new_ne hg (bq BK296.out) : gb310 ≠ gb296))
     clear BK295
     clear BK296
     clear HB
     have BK295 := n0_
     have BK296 := n1_
     have HB := n2_
     have BK310 := n3_
     have GW310 := n4_
     have GE310 := n5_
     have NB295_310 := n6_
     have NB310_295 := n7_
     have NB296_310 := n8_
     have NB310_296 := n9_
     clear n0_ n1_ n2_ n3_ n4_ n5_ n6_ n7_ n8_ n9_
     clear hb hbox hg
     refine hK.out _ _ ⟨(blk_cell BK295.out 0).trans rfl, (blk_cell BK295.out 1).trans rfl, (blk_cell BK295.out 2).trans rfl, (blk_cell BK295.out 3).trans rfl, (blk_cell BK296.out 0).trans rfl⟩ (fun hHeld => ?_)
     clear hK K
     refine norm_ (a' := ?_) ?_ ?_
     rotate_left
     ·show Act.put _ (some 6) _ = _
      simp only [Act.put, List.setIfInBounds_toArray, List.set_cons_zero, List.set_cons_succ, i64_w, i32_w]
      rfl
     refine one_ (i := 3) (N := some 28) #[true, true, true, true, false, false, false, false, false, true, false, false, false] rfl rfl (one_of HT_.out (by kernel_rfl)) (by decide) (fun K hK => ?_)
     refine goes_ Try.func17 (by kernel_rfl) rfl #[.agg #[.slice A1_0 l1_0.length c1_0]] (by rfl) rfl rfl (by (try simp only [List.map_toArray, List.map_cons, List.map_nil]); first | done | rfl | (simp only [List.length_drop, List.length_take]; rfl)) ?_
     with_reducible refine (laws_toInEnd.calls k _ _ l1_0 t302 _ ?side1 ?side2 A11.out).mono ?_
     (case side1 => repeat (first | exact (Kd.C_below HR1_0.out HB.out) | (with_reducible refine Kd.C_alloc ?_ _) | (with_reducible refine Kd.C_drewN ?_ _) | (with_reducible refine Kd.C_drew ?_)))
     (case side2 => exact HC1_0.out)
     rintro e w25 ⟨v303, rfl, ho0, hb⟩
     refine ⟨_, rfl, ?_⟩
     have n0_ := Aside0.mk (Kd.R_lower ho0 (below_size (lq HB.out)))
     have n1_ := Aside0.mk (blk_below (bq BK295.out) hb)
     have n2_ := Aside0.mk (blk_below (bq BK296.out) hb)
     have n3_ := Aside0.mk (blk_below (bq BK310.out) hb)
     have n4_ := Aside0.mk (below_step (lq HB.out) hb)
     clear BK295
     clear BK296
     clear BK310
     clear HB
     have HO304 := n0_
     have BK295 := n1_
     have BK296 := n2_
     have BK310 := n3_
     have HB := n4_
     clear n0_ n1_ n2_ n3_ n4_
     (try clear hb)
     (try clear hb2)
     (try clear hk)
     (try clear hi)
     (try clear ho0)
     obtain ⟨Ao26, co26, eo26⟩ := Kd.R_slice HO304.out
     (first | subst eo26 | (injection eo26 with f1_ f2_ f3_; have f4_ := f1_.symm; have f5_ := f3_.symm; clear f1_ f2_ f3_; subst f4_; subst f5_))
     refine hK.out _ _ ⟨(blk_cell BK295.out 0).trans rfl, (blk_cell BK295.out 1).trans rfl, (blk_cell BK295.out 2).trans rfl, (blk_cell BK295.out 3).trans rfl, (blk_cell BK296.out 0).trans rfl⟩ (fun hHeld => ?_)
     clear hK K
     refine norm_ (a' := ?_) ?_ ?_
     rotate_left
     ·show Act.put _ (some 28) _ = _
      simp only [Act.put, List.setIfInBounds_toArray, List.set_cons_zero, List.set_cons_succ, i64_w, i32_w]
      rfl
     refine one_ (i := 4) (N := some 29) #[true, true, true, true, true, false, false, false, false, true, false, false, false] rfl rfl (one_of HT_.out (by kernel_rfl)) (by decide) (fun K hK => ?_)
     refine goes_ Try.func31 (by kernel_rfl) rfl #[.agg #[.int .i64 t298, .int .i64 t299, .int .i64 t300, .int .i64 t301], .agg #[.slice Ao26 t302.length co26]] (by rfl) rfl rfl (by (try simp only [List.map_toArray, List.map_cons, List.map_nil]); first | done | rfl | (simp only [List.length_drop, List.length_take]; rfl)) ?_
     with_reducible refine (spec_RecvOn.calls t298 t299 t300 t301 _ _ t302 t305 t308 t309 _ ?side1 ?side2 A12.out).mono ?_
     (case side1 => repeat (first | exact (Kd.R_reads' HO304.out).2.2 | (with_reducible refine Kd.C_alloc ?_ _) | (with_reducible refine Kd.C_drewN ?_ _) | (with_reducible refine Kd.C_drew ?_)))
     (case side2 => exact (Kd.R_reads' HO304.out).2.1)
     rintro e w27 ⟨v306, rfl, ho0, hb⟩
     refine ⟨_, rfl, ?_⟩
     have n0_ := Aside0.mk (Kd.R_elder' (rq HO304.out) (Kd.R_base ho0) hb)
     have n1_ := Aside0.mk (Kd.R_lower (Kd.R_new' ho0 (Kd.R_lt (rq HO304.out))) (below_size (lq HB.out)))
     have n2_ := Aside0.mk (blk_below (bq BK295.out) hb)
     have n3_ := Aside0.mk (blk_below (bq BK296.out) hb)
     have n4_ := Aside0.mk (blk_below (bq BK310.out) hb)
     have n5_ := Aside0.mk (below_step (lq HB.out) hb)
     clear HO304
     clear BK295
     clear BK296
     clear BK310
     clear HB
     have HO304 := n0_
     have HO307 := n1_
     have BK295 := n2_
     have BK296 := n3_
     have BK310 := n4_
     have HB := n5_
     clear n0_ n1_ n2_ n3_ n4_ n5_
     (try clear hb)
     (try clear hb2)
     (try clear hk)
     (try clear hi)
     (try clear ho0)
     refine hK.out _ _ ⟨(blk_cell BK295.out 0).trans rfl, (blk_cell BK295.out 1).trans rfl, (blk_cell BK295.out 2).trans rfl, (blk_cell BK295.out 3).trans rfl, (blk_cell BK296.out 0).trans rfl⟩ (fun hHeld => ?_)
     clear hK K
     refine norm_ (a' := ?_) ?_ ?_
     rotate_left
     ·show Act.put _ (some 29) _ = _
      simp only [Act.put, List.setIfInBounds_toArray, List.set_cons_zero, List.set_cons_succ, i64_w, i32_w]
      rfl
     refine pure_ (i := 5) (N := some 24) (v := ?_) (a' := ?_) #[true, true, true, true, true, true, false, false, false, true, false, false, false] rfl rfl (any_of HT_.out (by kernel_rfl)) (fun _ _ _ h => h) (Or.inl ⟨by rfl, ?_⟩) ?_ ?_
     rotate_left
     ·intro w'
      go_simp
      with_reducible rfl
     rotate_left
     ·simp only [Act.put, List.setIfInBounds_toArray, List.set_cons_zero, List.set_cons_succ, i64_w, i32_w]
      rfl
     refine pure_ (i := 6) (N := some 30) (v := ?_) (a' := ?_) #[true, true, true, true, true, true, true, false, false, true, false, false, false] rfl rfl (any_of HT_.out (by kernel_rfl)) (fun _ _ _ h => h) (Or.inl ⟨by rfl, ?_⟩) ?_ ?_
     rotate_left
     ·intro w'
      go_simp
      with_reducible rfl
     rotate_left
     ·simp only [Act.put, List.setIfInBounds_toArray, List.set_cons_zero, List.set_cons_succ, i64_w, i32_w]
      rfl
     refine pure_ (i := 7) (N := some 31) (v := ?_) (a' := ?_) #[true, true, true, true, true, true, true, true, false, true, false, false, false] rfl rfl (any_of HT_.out (by kernel_rfl)) (fun _ _ _ h => h) (Or.inl ⟨by rfl, ?_⟩) ?_ ?_
     rotate_left
     ·intro w'
      go_simp
      with_reducible rfl
     rotate_left
     ·simp only [Act.put, List.setIfInBounds_toArray, List.set_cons_zero, List.set_cons_succ, i64_w, i32_w]
      rfl
     refine pure_ (i := 8) (N := some 32) (v := ?_) (a' := ?_) #[true, true, true, true, true, true, true, true, true, true, false, false, false] rfl rfl (any_of HT_.out (by kernel_rfl)) (fun _ _ _ h => h) (Or.inl ⟨by rfl, ?_⟩) ?_ ?_
     rotate_left
     ·intro w'
      go_simp
      with_reducible rfl
     rotate_left
     ·simp only [Act.put, List.setIfInBounds_toArray, List.set_cons_zero, List.set_cons_succ, i64_w, i32_w]
      rfl
     exact norm_ (by simp only [putAll, Act.put, List.setIfInBounds_toArray, List.set_cons_zero, List.set_cons_succ]) (hCont (.slice Ao26 t302.length co26, v306, gb310) _ ⟨hHeld, (by (with_reducible repeat (first | apply Kd.R_alloc | apply Kd.R_drewN | apply Kd.R_drew)); exact Kd.R_mono HO304.out (fun _ hk => hk.2)), (by (with_reducible repeat (first | apply Kd.R_alloc | apply Kd.R_drewN | apply Kd.R_drew)); exact Kd.R_mono HO307.out (fun _ hk => hk.2)), (bq BK295.out), (bq BK296.out), (bq BK310.out), GW310.out, GE310.out, NB295_310.out, NB310_295.out, NB296_310.out, NB310_296.out, (lq HB.out)⟩)
   ·skip
    refine box_step ?hg (N := 6) ?hd (cs := #[.slice none 0 0]) (t := 31) ?hr ?_; (case hd => rfl); (case hg => rfl); (case hr => first | (go_simp; done) | (go_simp; rfl))
    intro gb310 hg w23 hbox hb
    have n0_ := Aside0.mk (blk_below (bq BK295.out) hb)
    have n1_ := Aside0.mk (blk_below (bq BK296.out) hb)
    have n2_ := Aside0.mk (below_step (lq HB.out) hb)
    have n3_ := Aside0.mk (hbox)
    have n4_ := Aside0.mk ((ge_new hg (lq HB.out) : w.heap.size ≤ gb310))
    have n5_ := Aside0.mk ((ge_new hg (lq HB.out) : w.heap.size ≤ gb310))
    have n6_ := Aside0.mk ((ne_new hg (bq BK295.out) : gb295 ≠ gb310))
    have n7_ := Aside0.mk ((new_ne hg (bq BK295.out) : gb310 ≠ gb295))
    have n8_ := Aside0.mk ((ne_new hg (bq BK296.out) : gb296 ≠ gb310))
    have n9_ := Aside0.mk ((new_ne hg (bq BK296.out) : gb310 ≠ gb296))
    clear BK295
    clear BK296
    clear HB
    have BK295 := n0_
    have BK296 := n1_
    have HB := n2_
    have BK310 := n3_
    have GW310 := n4_
    have GE310 := n5_
    have NB295_310 := n6_
    have NB310_295 := n7_
    have NB296_310 := n8_
    have NB310_296 := n9_
    clear n0_ n1_ n2_ n3_ n4_ n5_ n6_ n7_ n8_ n9_
    clear hb hbox hg
    refine hK.out _ _ ⟨(blk_cell BK295.out 0).trans rfl, (blk_cell BK295.out 1).trans rfl, (blk_cell BK295.out 2).trans rfl, (blk_cell BK295.out 3).trans rfl, (blk_cell BK296.out 0).trans rfl⟩ (fun hHeld => ?_)
    clear hK K
    refine norm_ (a' := ?_) ?_ ?_
    rotate_left
    ·show Act.put _ (some 6) _ = _
     simp only [Act.put, List.setIfInBounds_toArray, List.set_cons_zero, List.set_cons_succ, i64_w, i32_w]
     rfl
    refine one_ (i := 1) (N := some 26) #[true, true, true, false, false, false, false, false, false, true, false, false, false] rfl rfl (one_of HT_.out (by kernel_rfl)) (by decide) (fun K hK => ?_)
    refine goes_ Try.func16 (by kernel_rfl) rfl #[.agg #[.int .i64 a0_0, .int .i64 a0_1, .int .i64 a0_2, .int .i64 a0_3]] (by rfl) rfl rfl (by (try simp only [List.map_toArray, List.map_cons, List.map_nil]); first | done | rfl | (simp only [List.length_drop, List.length_take]; rfl)) ?_
    with_reducible refine (laws_toChanRow.calls a0_0 a0_1 a0_2 a0_3 t298 t299 t300 t301 _ A10.out).mono ?_
    rintro e w24 ⟨rfl, hb⟩
    refine ⟨_, rfl, ?_⟩
    have n0_ := Aside0.mk (blk_below (bq BK295.out) hb)
    have n1_ := Aside0.mk (blk_below (bq BK296.out) hb)
    have n2_ := Aside0.mk (blk_below (bq BK310.out) hb)
    have n3_ := Aside0.mk (below_step (lq HB.out) hb)
    clear BK295
    clear BK296
    clear BK310
    clear HB
    have BK295 := n0_
    have BK296 := n1_
    have BK310 := n2_
    have HB := n3_
    clear n0_ n1_ n2_ n3_
    (try clear hb)
    (try clear hb2)
    (try clear hk)
    (try clear hi)
    refine hK.out _ _ ⟨(blk_cell BK295.out 0).trans rfl, (blk_cell BK295.out 1).trans rfl, (blk_cell BK295.out 2).trans rfl, (blk_cell BK295.out 3).trans rfl, (blk_cell BK296.out 0).trans rfl⟩ (fun hHeld => ?_)
    clear hK K
    refine norm_ (a' := ?_) ?_ ?_
    rotate_left
    ·show Act.put _ (some 26) _ = _
     simp only [Act.put, List.setIfInBounds_toArray, List.set_cons_zero, List.set_cons_succ, i64_w, i32_w]
     rfl
    refine one_ (i := 3) (N := some 28) #[true, true, true, true, false, false, false, false, false, true, false, false, false] rfl rfl (one_of HT_.out (by kernel_rfl)) (by decide) (fun K hK => ?_)
    refine goes_ Try.func17 (by kernel_rfl) rfl #[.agg #[.slice A1_0 l1_0.length c1_0]] (by rfl) rfl rfl (by (try simp only [List.map_toArray, List.map_cons, List.map_nil]); first | done | rfl | (simp only [List.length_drop, List.length_take]; rfl)) ?_
    with_reducible refine (laws_toInEnd.calls k _ _ l1_0 t302 _ ?side1 ?side2 A11.out).mono ?_
    (case side1 => repeat (first | exact (Kd.C_below HR1_0.out HB.out) | (with_reducible refine Kd.C_alloc ?_ _) | (with_reducible refine Kd.C_drewN ?_ _) | (with_reducible refine Kd.C_drew ?_)))
    (case side2 => exact HC1_0.out)
    rintro e w25 ⟨v303, rfl, ho0, hb⟩
    refine ⟨_, rfl, ?_⟩
    have n0_ := Aside0.mk (Kd.R_lower ho0 (below_size (lq HB.out)))
    have n1_ := Aside0.mk (blk_below (bq BK295.out) hb)
    have n2_ := Aside0.mk (blk_below (bq BK296.out) hb)
    have n3_ := Aside0.mk (blk_below (bq BK310.out) hb)
    have n4_ := Aside0.mk (below_step (lq HB.out) hb)
    clear BK295
    clear BK296
    clear BK310
    clear HB
    have HO304 := n0_
    have BK295 := n1_
    have BK296 := n2_
    have BK310 := n3_
    have HB := n4_
    clear n0_ n1_ n2_ n3_ n4_
    (try clear hb)
    (try clear hb2)
    (try clear hk)
    (try clear hi)
    (try clear ho0)
    obtain ⟨Ao26, co26, eo26⟩ := Kd.R_slice HO304.out
    (first | subst eo26 | (injection eo26 with f1_ f2_ f3_; have f4_ := f1_.symm; have f5_ := f3_.symm; clear f1_ f2_ f3_; subst f4_; subst f5_))
    refine hK.out _ _ ⟨(blk_cell BK295.out 0).trans rfl, (blk_cell BK295.out 1).trans rfl, (blk_cell BK295.out 2).trans rfl, (blk_cell BK295.out 3).trans rfl, (blk_cell BK296.out 0).trans rfl⟩ (fun hHeld => ?_)
    clear hK K
    refine norm_ (a' := ?_) ?_ ?_
    rotate_left
    ·show Act.put _ (some 28) _ = _
     simp only [Act.put, List.setIfInBounds_toArray, List.set_cons_zero, List.set_cons_succ, i64_w, i32_w]
     rfl
    refine one_ (i := 4) (N := some 29) #[true, true, true, true, true, false, false, false, false, true, false, false, false] rfl rfl (one_of HT_.out (by kernel_rfl)) (by decide) (fun K hK => ?_)
    refine goes_ Try.func31 (by kernel_rfl) rfl #[.agg #[.int .i64 t298, .int .i64 t299, .int .i64 t300, .int .i64 t301], .agg #[.slice Ao26 t302.length co26]] (by rfl) rfl rfl (by (try simp only [List.map_toArray, List.map_cons, List.map_nil]); first | done | rfl | (simp only [List.length_drop, List.length_take]; rfl)) ?_
    with_reducible refine (spec_RecvOn.calls t298 t299 t300 t301 _ _ t302 t305 t308 t309 _ ?side1 ?side2 A12.out).mono ?_
    (case side1 => repeat (first | exact (Kd.R_reads' HO304.out).2.2 | (with_reducible refine Kd.C_alloc ?_ _) | (with_reducible refine Kd.C_drewN ?_ _) | (with_reducible refine Kd.C_drew ?_)))
    (case side2 => exact (Kd.R_reads' HO304.out).2.1)
    rintro e w27 ⟨v306, rfl, ho0, hb⟩
    refine ⟨_, rfl, ?_⟩
    have n0_ := Aside0.mk (Kd.R_elder' (rq HO304.out) (Kd.R_base ho0) hb)
    have n1_ := Aside0.mk (Kd.R_lower (Kd.R_new' ho0 (Kd.R_lt (rq HO304.out))) (below_size (lq HB.out)))
    have n2_ := Aside0.mk (blk_below (bq BK295.out) hb)
    have n3_ := Aside0.mk (blk_below (bq BK296.out) hb)
    have n4_ := Aside0.mk (blk_below (bq BK310.out) hb)
    have n5_ := Aside0.mk (below_step (lq HB.out) hb)
    clear HO304
    clear BK295
    clear BK296
    clear BK310
    clear HB
    have HO304 := n0_
    have HO307 := n1_
    have BK295 := n2_
    have BK296 := n3_
    have BK310 := n4_
    have HB := n5_
    clear n0_ n1_ n2_ n3_ n4_ n5_
    (try clear hb)
    (try clear hb2)
    (try clear hk)
    (try clear hi)
    (try clear ho0)
    refine hK.out _ _ ⟨(blk_cell BK295.out 0).trans rfl, (blk_cell BK295.out 1).trans rfl, (blk_cell BK295.out 2).trans rfl, (blk_cell BK295.out 3).trans rfl, (blk_cell BK296.out 0).trans rfl⟩ (fun hHeld => ?_)
    clear hK K
    refine norm_ (a' := ?_) ?_ ?_
    rotate_left
    ·show Act.put _ (some 29) _ = _
     simp only [Act.put, List.setIfInBounds_toArray, List.set_cons_zero, List.set_cons_succ, i64_w, i32_w]
     rfl
    refine pure_ (i := 5) (N := some 24) (v := ?_) (a' := ?_) #[true, true, true, true, true, true, false, false, false, true, false, false, false] rfl rfl (any_of HT_.out (by kernel_rfl)) (fun _ _ _ h => h) (Or.inl ⟨by rfl, ?_⟩) ?_ ?_
    rotate_left
    ·intro w'
     go_simp
     with_reducible rfl
    rotate_left
    ·simp only [Act.put, List.setIfInBounds_toArray, List.set_cons_zero, List.set_cons_succ, i64_w, i32_w]
     rfl
    refine pure_ (i := 6) (N := some 30) (v := ?_) (a' := ?_) #[true, true, true, true, true, true, true, false, false, true, false, false, false] rfl rfl (any_of HT_.out (by kernel_rfl)) (fun _ _ _ h => h) (Or.inl ⟨by rfl, ?_⟩) ?_ ?_
    rotate_left
    ·intro w'
     go_simp
     with_reducible rfl
    rotate_left
    ·simp only [Act.put, List.setIfInBounds_toArray, List.set_cons_zero, List.set_cons_succ, i64_w, i32_w]
     rfl
    refine pure_ (i := 7) (N := some 31) (v := ?_) (a' := ?_) #[true, true, true, true, true, true, true, true, false, true, false, false, false] rfl rfl (any_of HT_.out (by kernel_rfl)) (fun _ _ _ h => h) (Or.inl ⟨by rfl, ?_⟩) ?_ ?_
    rotate_left
    ·intro w'
     go_simp
     with_reducible rfl
    rotate_left
    ·simp only [Act.put, List.setIfInBounds_toArray, List.set_cons_zero, List.set_cons_succ, i64_w, i32_w]
     rfl
    refine pure_ (i := 8) (N := some 32) (v := ?_) (a' := ?_) #[true, true, true, true, true, true, true, true, true, true, false, false, false] rfl rfl (any_of HT_.out (by kernel_rfl)) (fun _ _ _ h => h) (Or.inl ⟨by rfl, ?_⟩) ?_ ?_
    rotate_left
    ·intro w'
     go_simp
     with_reducible rfl
    rotate_left
    ·simp only [Act.put, List.setIfInBounds_toArray, List.set_cons_zero, List.set_cons_succ, i64_w, i32_w]
     rfl
    exact norm_ (by simp only [putAll, Act.put, List.setIfInBounds_toArray, List.set_cons_zero, List.set_cons_succ]) (hCont (.slice Ao26 t302.length co26, v306, gb310) _ ⟨hHeld, (by (with_reducible repeat (first | apply Kd.R_alloc | apply Kd.R_drewN | apply Kd.R_drew)); exact Kd.R_mono HO304.out (fun _ hk => hk.2)), (by (with_reducible repeat (first | apply Kd.R_alloc | apply Kd.R_drewN | apply Kd.R_drew)); exact Kd.R_mono HO307.out (fun _ hk => hk.2)), (bq BK295.out), (bq BK296.out), (bq BK310.out), GW310.out, GE310.out, NB295_310.out, NB310_295.out, NB296_310.out, NB310_296.out, (lq HB.out)⟩)
  rintro ⟨v303, v306, gb310⟩ w28 ⟨hS_, h0_, h1_, h2_, h3_, h4_, h5_, h6_, h7_, h8_, h9_, h10_, h11_⟩
  have n0_ : Aside0 (Kd.R (Kd.int .u32) 46 w28 w.heap.size (fun k_ => some k_ ≠ (v306 : Value).ownBlock) v303 t302) := ⟨h0_⟩
  have n1_ : Aside0 (Kd.R (Kd.int .u32) 46 w28 w.heap.size (fun k_ => some k_ ≠ (v303 : Value).ownBlock) v306 t305) := ⟨h1_⟩
  have n2_ : Aside0 (w28.heap[gb295]? = some (.cells #[.int .i64 a0_0, .int .i64 a0_1, .int .i64 a0_2, .int .i64 a0_3] 23 (0, 0))) := ⟨h2_⟩
  have n3_ : Aside0 (w28.heap[gb296]? = some (.cells #[.slice A1_0 l1_0.length c1_0] 26 (0, 0))) := ⟨h3_⟩
  have n4_ : Aside0 (w28.heap[gb310]? = some (.cells #[.slice none 0 0] 31 (0, 0))) := ⟨h4_⟩
  have n5_ : Aside0 (w.heap.size ≤ gb310) := ⟨h5_⟩
  have n6_ : Aside0 (w.heap.size ≤ gb310) := ⟨h6_⟩
  have n7_ : Aside0 (gb295 ≠ gb310) := ⟨h7_⟩
  have n8_ : Aside0 (gb310 ≠ gb295) := ⟨h8_⟩
  have n9_ : Aside0 (gb296 ≠ gb310) := ⟨h9_⟩
  have n10_ : Aside0 (gb310 ≠ gb296) := ⟨h10_⟩
  have n11_ : Aside0 (Below w.heap.size w w28) := ⟨h11_⟩
  clear BK295
  clear BK296
  clear HB
  clear h0_ h1_ h2_ h3_ h4_ h5_ h6_ h7_ h8_ h9_ h10_ h11_
  have HO304 := n0_
  have HO307 := n1_
  have BK295 := n2_
  have BK296 := n3_
  have BK310 := n4_
  have GW310 := n5_
  have GE310 := n6_
  have NB295_310 := n7_
  have NB310_295 := n8_
  have NB296_310 := n9_
  have NB310_296 := n10_
  have HB := n11_
  clear n0_ n1_ n2_ n3_ n4_ n5_ n6_ n7_ n8_ n9_ n10_ n11_
  have hHeld : w28.cell? ⟨gb295, 0, none⟩ = some (.int .i64 a0_0) ∧ w28.cell? ⟨gb295, 1, none⟩ = some (.int .i64 a0_1) ∧ w28.cell? ⟨gb295, 2, none⟩ = some (.int .i64 a0_2) ∧ w28.cell? ⟨gb295, 3, none⟩ = some (.int .i64 a0_3) ∧ w28.cell? ⟨gb296, 0, none⟩ = some (.slice A1_0 l1_0.length c1_0) := hS_
  obtain ⟨Ao29, co29, eo29⟩ := Kd.R_slice HO307.out
  (first | subst eo29 | (injection eo29 with f1_ f2_ f3_; have f4_ := f1_.symm; have f5_ := f3_.symm; clear f1_ f2_ f3_; subst f4_; subst f5_))
  refine norm_ (a' := ?_) ?_ ?_
  rotate_left
  ·simp only [putAll, Act.put, List.setIfInBounds_toArray, List.set_cons_zero, List.set_cons_succ]
   rfl
  refine one_ (i := 10) (N := none) #[true, true, true, true, true, true, true, true, true, true, true, false, false] rfl rfl (one_of HT_.out (by kernel_rfl)) (by decide) (fun K hK => ?_)
  have hs30 : w28.cell? ⟨gb310, 0, none⟩ = some (.slice none 0 0) := (blk_cell BK310.out 0).trans rfl
  have hfs30 := blk_frozen BK310.out 0
  have hns30_0 := NB295_310.out
  have hns30_1 := NB296_310.out
  have hms30_0 := NB310_295.out
  have hms30_1 := NB310_296.out
  refine skip_ (w1 := ?_) (by rfl) rfl ?_ ?_
  rotate_left
  ·go_simp
   rfl
  refine hK.out _ _ ⟨((cell_far (p := ⟨gb310, _, none⟩) NB295_310.out _).trans (hHeld.1)), ((cell_far (p := ⟨gb310, _, none⟩) NB295_310.out _).trans (hHeld.2.1)), ((cell_far (p := ⟨gb310, _, none⟩) NB295_310.out _).trans (hHeld.2.2.1)), ((cell_far (p := ⟨gb310, _, none⟩) NB295_310.out _).trans (hHeld.2.2.2.1)), ((cell_far (p := ⟨gb310, _, none⟩) NB296_310.out _).trans (hHeld.2.2.2.2))⟩ (fun hHeld => ?_)
  clear hK K
  refine pure_ (i := 11) (N := some 7) (v := ?_) (a' := ?_) #[true, true, true, true, true, true, true, true, true, true, true, true, false] rfl rfl (any_of HT_.out (by kernel_rfl)) (fun _ _ _ h => h) (Or.inl ⟨by rfl, ?_⟩) ?_ ?_
  rotate_left
  ·intro w'
   go_simp
   with_reducible rfl
  rotate_left
  ·simp only [Act.put, List.setIfInBounds_toArray, List.set_cons_zero, List.set_cons_succ, i64_w, i32_w]
   rfl
  refine pure_ (i := 12) (N := some 8) (v := ?_) (a' := ?_) #[true, true, true, true, true, true, true, true, true, true, true, true, true] rfl rfl (any_of HT_.out (by kernel_rfl)) (fun _ _ _ h => h) (Or.inl ⟨by rfl, ?_⟩) ?_ ?_
  rotate_left
  ·intro w'
   go_simp
   with_reducible rfl
  rotate_left
  ·simp only [Act.put, List.setIfInBounds_toArray, List.set_cons_zero, List.set_cons_succ, i64_w, i32_w]
   rfl
  refine done_ (done_of HT_.out (by kernel_rfl)) ?_
  have hnb31 := NB296_310.out
  have hnc31 := NB310_296.out
  have hcz32_0 : w28.cell? ⟨gb296, 0, none⟩ = some (.slice A1_0 l1_0.length c1_0) := (blk_cell BK296.out 0).trans rfl
  have hfz32_0 := blk_frozen BK296.out 0
  try go_wp2_with (first | ((with_reducible refine gate_callee (f := 17) rfl ?_); refine goesL_ (some 34) rfl rfl Try.func17 (by kernel_rfl) rfl #[.agg #[.slice A1_0 l1_0.length c1_0]] rfl (by (try simp only [List.map_toArray, List.map_cons, List.map_nil]); first | done | rfl | (simp only [List.length_drop, List.length_take]; rfl)) ?_; (with_reducible refine (laws_toInEnd.calls k _ _ l1_0 t311 _ ?side1 ?side2 A13.out).mono ?_); (case side1 => exact Kd.C_below HR1_0.out (by repeat (first | (with_reducible first | exact HB.out | apply below_alloc | apply pw_below_drewN | apply below_drew1 | refine below_set ?_ GE310.out) | exact HB.out))); (case side2 => exact HC1_0.out); rintro e w33 ⟨v312, rfl, ho0, hb⟩; refine ⟨_, rfl, ?_⟩; have n0_ := Aside0.mk (Kd.R_elder' (rq (Kd.R_mono (Kd.R_far (p := ⟨gb310, 0, none⟩) (Kd.R_types HO304.out BK310.out (by decide)) (fun _ hk => hk.2) (.slice Ao29 t305.length co29)) (fun _ h_ => h_.1))) (Kd.R_base ho0) hb); have n1_ := Aside0.mk (Kd.R_elder' (rq (Kd.R_mono (Kd.R_far (p := ⟨gb310, 0, none⟩) (Kd.R_types HO307.out BK310.out (by decide)) (fun _ hk => hk.2) (.slice Ao29 t305.length co29)) (fun _ h_ => h_.1))) (Kd.R_base ho0) hb); have n2_ := Aside0.mk (Kd.R_lower (Kd.R_new' (Kd.R_new' ho0 (Kd.R_lt (rq (Kd.R_mono (Kd.R_far (p := ⟨gb310, 0, none⟩) (Kd.R_types HO304.out BK310.out (by decide)) (fun _ hk => hk.2) (.slice Ao29 t305.length co29)) (fun _ h_ => h_.1))))) (Kd.R_lt (rq (Kd.R_mono (Kd.R_far (p := ⟨gb310, 0, none⟩) (Kd.R_types HO307.out BK310.out (by decide)) (fun _ hk => hk.2) (.slice Ao29 t305.length co29)) (fun _ h_ => h_.1))))) (below_size (by repeat (first | (with_reducible first | exact HB.out | apply below_alloc | apply pw_below_drewN | apply below_drew1 | refine below_set ?_ GE310.out) | exact HB.out)))); have n3_ := Aside0.mk (blk_below (g := gb295) (o := .cells #[.int .i64 a0_0, .int .i64 a0_1, .int .i64 a0_2, .int .i64 a0_3] 23 (0, 0)) (by (with_reducible repeat (first | refine blk_drewN ?_ _ | refine blk_drew ?_ | refine blk_alloc ?_ _)); refine blk_far ?_ NB295_310.out _; (with_reducible repeat (first | refine blk_drewN ?_ _ | refine blk_drew ?_ | refine blk_alloc ?_ _)); exact BK295.out) hb); have n4_ := Aside0.mk (blk_below (g := gb296) (o := .cells #[.slice A1_0 l1_0.length c1_0] 26 (0, 0)) (by (with_reducible repeat (first | refine blk_drewN ?_ _ | refine blk_drew ?_ | refine blk_alloc ?_ _)); refine blk_far ?_ NB296_310.out _; (with_reducible repeat (first | refine blk_drewN ?_ _ | refine blk_drew ?_ | refine blk_alloc ?_ _)); exact BK296.out) hb); have n5_ := Aside0.mk (blk_below (g := gb310) (o := .cells #[.slice Ao29 t305.length co29] 31 (0, 0)) (by (with_reducible repeat (first | refine blk_drewN ?_ _ | refine blk_drew ?_ | refine blk_alloc ?_ _)); refine blk_put (cs := #[.slice none 0 0]) ?_ 0 _ rfl; (with_reducible repeat (first | refine blk_drewN ?_ _ | refine blk_drew ?_ | refine blk_alloc ?_ _)); exact BK310.out) hb); have n6_ := Aside0.mk (below_step (by repeat (first | (with_reducible first | exact HB.out | apply below_alloc | apply pw_below_drewN | apply below_drew1 | refine below_set ?_ GE310.out) | exact HB.out)) hb); clear HO304; clear HO307; clear BK295; clear BK296; clear BK310; clear HB; have HO304 := n0_; have HO307 := n1_; have HO313 := n2_; have BK295 := n3_; have BK296 := n4_; have BK310 := n5_; have HB := n6_; clear n0_ n1_ n2_ n3_ n4_ n5_ n6_; (try clear hb); (try clear hb2); (try clear hk); (try clear hi); (try clear ho0)) | ((with_reducible refine gate_dst (N := 9) rfl ?_); refine box_event ?hg (N := 9) ?hd (cs := #[.slice none 0 0]) (t := 31) ?hr ?_; (case hd => rfl); (case hg => rfl); (case hr => first | (go_simp; done) | (go_simp; rfl)); intro gb314 hg w34 hbox hb; have n0_ := Aside0.mk (Kd.R_below (rq HO304.out) hb); have n1_ := Aside0.mk (Kd.R_below (rq HO307.out) hb); have n2_ := Aside0.mk (Kd.R_below (rq HO313.out) hb); have n3_ := Aside0.mk (blk_below (bq BK295.out) hb); have n4_ := Aside0.mk (blk_below (bq BK296.out) hb); have n5_ := Aside0.mk (blk_below (bq BK310.out) hb); have n6_ := Aside0.mk (below_step (lq HB.out) hb); have n7_ := Aside0.mk (hbox); have n8_ := Aside0.mk ((ge_new hg (lq HB.out) : w.heap.size ≤ gb314)); have n9_ := Aside0.mk ((ge_new hg (lq HB.out) : w.heap.size ≤ gb314)); have n10_ := Aside0.mk ((ne_new hg (bq BK295.out) : gb295 ≠ gb314)); have n11_ := Aside0.mk ((new_ne hg (bq BK295.out) : gb314 ≠ gb295)); have n12_ := Aside0.mk ((ne_new hg (bq BK296.out) : gb296 ≠ gb314)); have n13_ := Aside0.mk ((new_ne hg (bq BK296.out) : gb314 ≠ gb296)); have n14_ := Aside0.mk ((ne_new hg (bq BK310.out) : gb310 ≠ gb314)); have n15_ := Aside0.mk ((new_ne hg (bq BK310.out) : gb314 ≠ gb310)); clear HO304; clear HO307; clear HO313; clear BK295; clear BK296; clear BK310; clear HB; have HO304 := n0_; have HO307 := n1_; have HO313 := n2_; have BK295 := n3_; have BK296 := n4_; have BK310 := n5_; have HB := n6_; have BK314 := n7_; have GW314 := n8_; have GE314 := n9_; have NB295_314 := n10_; have NB314_295 := n11_; have NB296_314 := n12_; have NB314_296 := n13_; have NB310_314 := n14_; have NB314_310 := n15_; clear n0_ n1_ n2_ n3_ n4_ n5_ n6_ n7_ n8_ n9_ n10_ n11_ n12_ n13_ n14_ n15_; clear hb hbox hg; obtain ⟨Ao35, co35, eo35⟩ := Kd.R_slice HO313.out; subst eo35; have hnb36 := NB314_295.out; have hnc36 := NB295_314.out; have hnb37 := NB314_296.out; have hnc37 := NB296_314.out; have hnb38 := NB314_310.out; have hnc38 := NB310_314.out; have hcz39_0 : w34.cell? ⟨gb314, 0, none⟩ = some (.slice none 0 0) := (blk_cell BK314.out 0).trans rfl; have hfz39_0 := blk_frozen BK314.out 0))
  have n0_ : Aside0 (Kd.R (Kd.int .u32) 46 (w34.setCell ⟨gb314, 0, none⟩ (.slice Ao35 t311.length co35)) w.heap.size (fun k_ => some k_ ≠ (.slice Ao29 t305.length co29 : Value).ownBlock ∧ some k_ ≠ (.slice Ao35 t311.length co35 : Value).ownBlock) v303 t302) := ⟨by (with_reducible repeat (first | apply Kd.R_alloc | apply Kd.R_drewN | apply Kd.R_drew)); exact Kd.R_mono (Kd.R_far (p := ⟨gb314, 0, none⟩) (Kd.R_types HO304.out BK314.out (by decide)) (fun _ hk => hk.2) (.slice Ao35 t311.length co35)) (fun _ hk => ⟨hk.1.1, hk.1.2⟩)⟩
  have n1_ : Aside0 (Kd.R (Kd.int .u32) 46 (w34.setCell ⟨gb314, 0, none⟩ (.slice Ao35 t311.length co35)) w.heap.size (fun k_ => some k_ ≠ (v303 : Value).ownBlock ∧ some k_ ≠ (.slice Ao35 t311.length co35 : Value).ownBlock) (.slice Ao29 t305.length co29) t305) := ⟨by (with_reducible repeat (first | apply Kd.R_alloc | apply Kd.R_drewN | apply Kd.R_drew)); exact Kd.R_mono (Kd.R_far (p := ⟨gb314, 0, none⟩) (Kd.R_types HO307.out BK314.out (by decide)) (fun _ hk => hk.2) (.slice Ao35 t311.length co35)) (fun _ hk => ⟨hk.1.1, hk.1.2⟩)⟩
  have n2_ : Aside0 (Kd.R (Kd.int .u32) 46 (w34.setCell ⟨gb314, 0, none⟩ (.slice Ao35 t311.length co35)) w.heap.size (fun k_ => some k_ ≠ (v303 : Value).ownBlock ∧ some k_ ≠ (.slice Ao29 t305.length co29 : Value).ownBlock) (.slice Ao35 t311.length co35) t311) := ⟨by (with_reducible repeat (first | apply Kd.R_alloc | apply Kd.R_drewN | apply Kd.R_drew)); exact Kd.R_mono (Kd.R_far (p := ⟨gb314, 0, none⟩) (Kd.R_types HO313.out BK314.out (by decide)) (fun _ hk => hk.2) (.slice Ao35 t311.length co35)) (fun _ hk => ⟨hk.1.1.2, hk.1.2⟩)⟩
  have n3_ : Aside0 ((w34.setCell ⟨gb314, 0, none⟩ (.slice Ao35 t311.length co35)).heap[gb295]? = some (.cells #[.int .i64 a0_0, .int .i64 a0_1, .int .i64 a0_2, .int .i64 a0_3] 23 (0, 0))) := ⟨by (with_reducible repeat (first | refine blk_drewN ?_ _ | refine blk_drew ?_ | refine blk_alloc ?_ _)); refine blk_far ?_ NB295_314.out _; (with_reducible repeat (first | refine blk_drewN ?_ _ | refine blk_drew ?_ | refine blk_alloc ?_ _)); exact BK295.out⟩
  have n4_ : Aside0 ((w34.setCell ⟨gb314, 0, none⟩ (.slice Ao35 t311.length co35)).heap[gb296]? = some (.cells #[.slice A1_0 l1_0.length c1_0] 26 (0, 0))) := ⟨by (with_reducible repeat (first | refine blk_drewN ?_ _ | refine blk_drew ?_ | refine blk_alloc ?_ _)); refine blk_far ?_ NB296_314.out _; (with_reducible repeat (first | refine blk_drewN ?_ _ | refine blk_drew ?_ | refine blk_alloc ?_ _)); exact BK296.out⟩
  have n5_ : Aside0 ((w34.setCell ⟨gb314, 0, none⟩ (.slice Ao35 t311.length co35)).heap[gb310]? = some (.cells #[.slice Ao29 t305.length co29] 31 (0, 0))) := ⟨by (with_reducible repeat (first | refine blk_drewN ?_ _ | refine blk_drew ?_ | refine blk_alloc ?_ _)); refine blk_far ?_ NB310_314.out _; (with_reducible repeat (first | refine blk_drewN ?_ _ | refine blk_drew ?_ | refine blk_alloc ?_ _)); exact BK310.out⟩
  have n6_ : Aside0 ((w34.setCell ⟨gb314, 0, none⟩ (.slice Ao35 t311.length co35)).heap[gb314]? = some (.cells #[.slice Ao35 t311.length co35] 31 (0, 0))) := ⟨by (with_reducible repeat (first | refine blk_drewN ?_ _ | refine blk_drew ?_ | refine blk_alloc ?_ _)); refine blk_put (cs := #[.slice none 0 0]) ?_ 0 _ rfl; (with_reducible repeat (first | refine blk_drewN ?_ _ | refine blk_drew ?_ | refine blk_alloc ?_ _)); exact BK314.out⟩
  have n7_ : Aside0 (Below w.heap.size w (w34.setCell ⟨gb314, 0, none⟩ (.slice Ao35 t311.length co35))) := ⟨by repeat (first | (with_reducible first | exact HB.out | apply below_alloc | apply pw_below_drewN | apply below_drew1 | refine below_set ?_ GE314.out) | exact HB.out)⟩
  (try clear HO304)
  (try clear HO307)
  (try clear HO313)
  (try clear BK295)
  (try clear BK296)
  (try clear BK310)
  (try clear BK314)
  (try clear HB)
  generalize (w34.setCell ⟨gb314, 0, none⟩ (.slice Ao35 t311.length co35)) = w40 at n0_ n1_ n2_ n3_ n4_ n5_ n6_ n7_ ⊢
  have HO304 := n0_
  have HO307 := n1_
  have HO313 := n2_
  have BK295 := n3_
  have BK296 := n4_
  have BK310 := n5_
  have BK314 := n6_
  have HB := n7_
  clear n0_ n1_ n2_ n3_ n4_ n5_ n6_ n7_
  have n0_ := Aside0.mk (Kd.R_drew HO304.out)
  have n1_ := Aside0.mk (Kd.R_drew HO307.out)
  have n2_ := Aside0.mk (Kd.R_drew HO313.out)
  have n3_ := Aside0.mk (blk_drew BK295.out)
  have n4_ := Aside0.mk (blk_drew BK296.out)
  have n5_ := Aside0.mk (blk_drew BK310.out)
  have n6_ := Aside0.mk (blk_drew BK314.out)
  have n7_ := Aside0.mk (below_drew1 HB.out)
  clear HO304
  clear HO307
  clear HO313
  clear BK295
  clear BK296
  clear BK310
  clear BK314
  clear HB
  have HO304 := n0_
  have HO307 := n1_
  have HO313 := n2_
  have BK295 := n3_
  have BK296 := n4_
  have BK310 := n5_
  have BK314 := n6_
  have HB := n7_
  clear n0_ n1_ n2_ n3_ n4_ n5_ n6_ n7_
  refine start_ (n := 12) (S := fun w' => w'.cell? ⟨gb295, 0, none⟩ = some (.int .i64 a0_0) ∧ w'.cell? ⟨gb295, 1, none⟩ = some (.int .i64 a0_1) ∧ w'.cell? ⟨gb295, 2, none⟩ = some (.int .i64 a0_2) ∧ w'.cell? ⟨gb295, 3, none⟩ = some (.int .i64 a0_3) ∧ w'.cell? ⟨gb314, 0, none⟩ = some (.slice Ao35 t311.length co35)) (ds := []) #[false, false, false, false, false, false, false, false, false, false, false, false] (by kernel_rfl) rfl rfl ⟨(blk_cell BK295.out 0).trans rfl, (blk_cell BK295.out 1).trans rfl, (blk_cell BK295.out 2).trans rfl, (blk_cell BK295.out 3).trans rfl, (blk_cell BK314.out 0).trans rfl⟩ (fun hHeld => ?_); refine with_tabW laws_FnExactRecvOn.tab7 laws_FnExactRecvOn.bits7 (fun HT_ HW_ => ?_)
  generalize w40.drew = w41 at HO304 HO307 HO313 BK295 BK296 BK310 BK314 HB hHeld ⊢
  refine take_ (i := 0) (N := some 36) (v := ?_) (a' := ?_) #[true, false, false, false, false, false, false, false, false, false, false, false] rfl rfl (take_ofW HT_.out HW_.out (by kernel_rfl)) (fun _ _ _ h => h) (Or.inl ⟨by rfl, ?_⟩) hHeld ?_ ?_
  rotate_left
  ·rintro w' ⟨s0, s1, s2, s3, s4⟩
   go_simp
   with_reducible rfl
  rotate_left
  ·simp only [Act.put, List.setIfInBounds_toArray, List.set_cons_zero, List.set_cons_succ, i64_w, i32_w]
   rfl
  refine take_ (i := 2) (N := some 38) (v := ?_) (a' := ?_) #[true, false, true, false, false, false, false, false, false, false, false, false] rfl rfl (take_ofW HT_.out HW_.out (by kernel_rfl)) (fun _ _ _ h => h) (Or.inl ⟨by rfl, ?_⟩) hHeld ?_ ?_
  rotate_left
  ·rintro w' ⟨s0, s1, s2, s3, s4⟩
   go_simp
   with_reducible rfl
  rotate_left
  ·simp only [Act.put, List.setIfInBounds_toArray, List.set_cons_zero, List.set_cons_succ, i64_w, i32_w]
   rfl
  refine join_ (σ := Value × Nat) 3 #[true, true, true, true, true, true, true, true, true, false, false, false] (fun s_ => [(37, .agg #[.int .i64 t315, .int .i64 t316, .int .i64 t317, .int .i64 t318]), (39, .tuple #[.agg #[s_.1], .int .u32 t322, .int .i64 t323]), (10, .pointer (some ⟨s_.2, 0, none⟩)), (35, .tuple #[.agg #[s_.1], .int .u32 t322, .int .i64 t323]), (40, .agg #[s_.1]), (41, .int .u32 t322), (42, .int .i64 t323)]) (fun s_ w' => (w'.cell? ⟨gb295, 0, none⟩ = some (.int .i64 a0_0) ∧ w'.cell? ⟨gb295, 1, none⟩ = some (.int .i64 a0_1) ∧ w'.cell? ⟨gb295, 2, none⟩ = some (.int .i64 a0_2) ∧ w'.cell? ⟨gb295, 3, none⟩ = some (.int .i64 a0_3) ∧ w'.cell? ⟨gb314, 0, none⟩ = some (.slice Ao35 t311.length co35)) ∧ (Kd.R (Kd.int .u32) 46 w' w.heap.size (fun k_ => some k_ ≠ (.slice Ao29 t305.length co29 : Value).ownBlock ∧ some k_ ≠ (.slice Ao35 t311.length co35 : Value).ownBlock ∧ some k_ ≠ (s_.1 : Value).ownBlock) v303 t302) ∧ (Kd.R (Kd.int .u32) 46 w' w.heap.size (fun k_ => some k_ ≠ (v303 : Value).ownBlock ∧ some k_ ≠ (.slice Ao35 t311.length co35 : Value).ownBlock ∧ some k_ ≠ (s_.1 : Value).ownBlock) (.slice Ao29 t305.length co29) t305) ∧ (Kd.R (Kd.int .u32) 46 w' w.heap.size (fun k_ => some k_ ≠ (v303 : Value).ownBlock ∧ some k_ ≠ (.slice Ao29 t305.length co29 : Value).ownBlock ∧ some k_ ≠ (s_.1 : Value).ownBlock) (.slice Ao35 t311.length co35) t311) ∧ (Kd.Q (Kd.int .u32) 46 w' w.heap.size (fun k_ => some k_ ≠ (v303 : Value).ownBlock ∧ some k_ ≠ (.slice Ao29 t305.length co29 : Value).ownBlock ∧ some k_ ≠ (.slice Ao35 t311.length co35 : Value).ownBlock) s_.1 t319) ∧ (w'.heap[gb295]? = some (.cells #[.int .i64 a0_0, .int .i64 a0_1, .int .i64 a0_2, .int .i64 a0_3] 23 (0, 0))) ∧ (w'.heap[gb296]? = some (.cells #[.slice A1_0 l1_0.length c1_0] 26 (0, 0))) ∧ (w'.heap[gb310]? = some (.cells #[.slice Ao29 t305.length co29] 31 (0, 0))) ∧ (w'.heap[gb314]? = some (.cells #[.slice Ao35 t311.length co35] 31 (0, 0))) ∧ (w'.heap[s_.2]? = some (.cells #[.slice none 0 0] 31 (0, 0))) ∧ (w.heap.size ≤ s_.2) ∧ (w.heap.size ≤ s_.2) ∧ (gb295 ≠ s_.2) ∧ (s_.2 ≠ gb295) ∧ (gb296 ≠ s_.2) ∧ (s_.2 ≠ gb296) ∧ (gb310 ≠ s_.2) ∧ (s_.2 ≠ gb310) ∧ (gb314 ≠ s_.2) ∧ (s_.2 ≠ gb314) ∧ (Below w.heap.size w w')) ?_ ?_
  rotate_left
  ·intro hCont
   refine two_ (i := 1) (j := 8) (Ni := some 37) (Nj := some 10) #[true, true, true, false, false, false, false, false, false, false, false, false] #[true, false, true, false, false, false, false, false, true, false, false, false] rfl rfl rfl rfl (two_of HT_.out (by kernel_rfl)) (by decide) (by decide) (fun K hK => ?_) (fun K hK => ?_)
   ·skip
    refine goes_ Try.func16 (by kernel_rfl) rfl #[.agg #[.int .i64 a0_0, .int .i64 a0_1, .int .i64 a0_2, .int .i64 a0_3]] (by rfl) rfl rfl (by (try simp only [List.map_toArray, List.map_cons, List.map_nil]); first | done | rfl | (simp only [List.length_drop, List.length_take]; rfl)) ?_
    with_reducible refine (laws_toChanRow.calls a0_0 a0_1 a0_2 a0_3 t315 t316 t317 t318 _ A14.out).mono ?_
    rintro e w42 ⟨rfl, hb⟩
    refine ⟨_, rfl, ?_⟩
    have n0_ := Aside0.mk (Kd.R_below (rq HO304.out) hb)
    have n1_ := Aside0.mk (Kd.R_below (rq HO307.out) hb)
    have n2_ := Aside0.mk (Kd.R_below (rq HO313.out) hb)
    have n3_ := Aside0.mk (blk_below (bq BK295.out) hb)
    have n4_ := Aside0.mk (blk_below (bq BK296.out) hb)
    have n5_ := Aside0.mk (blk_below (bq BK310.out) hb)
    have n6_ := Aside0.mk (blk_below (bq BK314.out) hb)
    have n7_ := Aside0.mk (below_step (lq HB.out) hb)
    clear HO304
    clear HO307
    clear HO313
    clear BK295
    clear BK296
    clear BK310
    clear BK314
    clear HB
    have HO304 := n0_
    have HO307 := n1_
    have HO313 := n2_
    have BK295 := n3_
    have BK296 := n4_
    have BK310 := n5_
    have BK314 := n6_
    have HB := n7_
    clear n0_ n1_ n2_ n3_ n4_ n5_ n6_ n7_
    (try clear hb)
    (try clear hb2)
    (try clear hk)
    (try clear hi)
    refine hK.out _ _ ⟨(blk_cell BK295.out 0).trans rfl, (blk_cell BK295.out 1).trans rfl, (blk_cell BK295.out 2).trans rfl, (blk_cell BK295.out 3).trans rfl, (blk_cell BK314.out 0).trans rfl⟩ (fun hHeld => ?_)
    clear hK K
    refine norm_ (a' := ?_) ?_ ?_
    rotate_left
    ·show Act.put _ (some 37) _ = _
     simp only [Act.put, List.setIfInBounds_toArray, List.set_cons_zero, List.set_cons_succ, i64_w, i32_w]
     rfl
    refine two_ (i := 3) (j := 8) (Ni := some 39) (Nj := some 10) #[true, true, true, true, false, false, false, false, false, false, false, false] #[true, true, true, false, false, false, false, false, true, false, false, false] rfl rfl rfl rfl (two_of HT_.out (by kernel_rfl)) (by decide) (by decide) (fun K hK => ?_) (fun K hK => ?_)
    ·skip
     refine goes_ Try.func32 (by kernel_rfl) rfl #[.agg #[.int .i64 t315, .int .i64 t316, .int .i64 t317, .int .i64 t318], .agg #[.slice Ao35 t311.length co35]] (by rfl) rfl rfl (by (try simp only [List.map_toArray, List.map_cons, List.map_nil]); first | done | rfl | (simp only [List.length_drop, List.length_take]; rfl)) ?_
     with_reducible refine (impl_RecvOn.calls t315 t316 t317 t318 _ _ t311 t319 t322 t323 _ ?side1 ?side2 A15.out).mono ?_
     (case side1 => repeat (first | exact (Kd.R_reads' HO313.out).2.2 | (with_reducible refine Kd.C_alloc ?_ _) | (with_reducible refine Kd.C_drewN ?_ _) | (with_reducible refine Kd.C_drew ?_)))
     (case side2 => exact (Kd.R_reads' HO313.out).2.1)
     rintro e w43 ⟨v320, rfl, ho0, hb⟩
     refine ⟨_, rfl, ?_⟩
     have n0_ := Aside0.mk (Kd.R_elder' (rq HO304.out) (Kd.Q_base ho0) hb)
     have n1_ := Aside0.mk (Kd.R_elder' (rq HO307.out) (Kd.Q_base ho0) hb)
     have n2_ := Aside0.mk (Kd.R_elder' (rq HO313.out) (Kd.Q_base ho0) hb)
     have n3_ := Aside0.mk (Kd.Q_lower (Kd.Q_new' (Kd.Q_new' (Kd.Q_new' ho0 (Kd.R_lt (rq HO304.out))) (Kd.R_lt (rq HO307.out))) (Kd.R_lt (rq HO313.out))) (below_size (lq HB.out)))
     have n4_ := Aside0.mk (blk_below (bq BK295.out) hb)
     have n5_ := Aside0.mk (blk_below (bq BK296.out) hb)
     have n6_ := Aside0.mk (blk_below (bq BK310.out) hb)
     have n7_ := Aside0.mk (blk_below (bq BK314.out) hb)
     have n8_ := Aside0.mk (below_step (lq HB.out) hb)
     clear HO304
     clear HO307
     clear HO313
     clear BK295
     clear BK296
     clear BK310
     clear BK314
     clear HB
     have HO304 := n0_
     have HO307 := n1_
     have HO313 := n2_
     have HO321 := n3_
     have BK295 := n4_
     have BK296 := n5_
     have BK310 := n6_
     have BK314 := n7_
     have HB := n8_
     clear n0_ n1_ n2_ n3_ n4_ n5_ n6_ n7_ n8_
     (try clear hb)
     (try clear hb2)
     (try clear hk)
     (try clear hi)
     (try clear ho0)
     refine hK.out _ _ ⟨(blk_cell BK295.out 0).trans rfl, (blk_cell BK295.out 1).trans rfl, (blk_cell BK295.out 2).trans rfl, (blk_cell BK295.out 3).trans rfl, (blk_cell BK314.out 0).trans rfl⟩ (fun hHeld => ?_)
     clear hK K
     refine norm_ (a' := ?_) ?_ ?_
     rotate_left
     ·show Act.put _ (some 39) _ = _
      simp only [Act.put, List.setIfInBounds_toArray, List.set_cons_zero, List.set_cons_succ, i64_w, i32_w]
      rfl
     refine pure_ (i := 4) (N := some 35) (v := ?_) (a' := ?_) #[true, true, true, true, true, false, false, false, false, false, false, false] rfl rfl (any_of HT_.out (by kernel_rfl)) (fun _ _ _ h => h) (Or.inl ⟨by rfl, ?_⟩) ?_ ?_
     rotate_left
     ·intro w'
      go_simp
      with_reducible rfl
     rotate_left
     ·simp only [Act.put, List.setIfInBounds_toArray, List.set_cons_zero, List.set_cons_succ, i64_w, i32_w]
      rfl
     refine pure_ (i := 5) (N := some 40) (v := ?_) (a' := ?_) #[true, true, true, true, true, true, false, false, false, false, false, false] rfl rfl (any_of HT_.out (by kernel_rfl)) (fun _ _ _ h => h) (Or.inl ⟨by rfl, ?_⟩) ?_ ?_
     rotate_left
     ·intro w'
      go_simp
      with_reducible rfl
     rotate_left
     ·simp only [Act.put, List.setIfInBounds_toArray, List.set_cons_zero, List.set_cons_succ, i64_w, i32_w]
      rfl
     refine pure_ (i := 6) (N := some 41) (v := ?_) (a' := ?_) #[true, true, true, true, true, true, true, false, false, false, false, false] rfl rfl (any_of HT_.out (by kernel_rfl)) (fun _ _ _ h => h) (Or.inl ⟨by rfl, ?_⟩) ?_ ?_
     rotate_left
     ·intro w'
      go_simp
      with_reducible rfl
     rotate_left
     ·simp only [Act.put, List.setIfInBounds_toArray, List.set_cons_zero, List.set_cons_succ, i64_w, i32_w]
      rfl
     refine pure_ (i := 7) (N := some 42) (v := ?_) (a' := ?_) #[true, true, true, true, true, true, true, true, false, false, false, false] rfl rfl (any_of HT_.out (by kernel_rfl)) (fun _ _ _ h => h) (Or.inl ⟨by rfl, ?_⟩) ?_ ?_
     rotate_left
     ·intro w'
      go_simp
      with_reducible rfl
     rotate_left
     ·simp only [Act.put, List.setIfInBounds_toArray, List.set_cons_zero, List.set_cons_succ, i64_w, i32_w]
      rfl
     refine one_ (i := 8) (N := some 10) #[true, true, true, true, true, true, true, true, true, false, false, false] rfl rfl (one_of HT_.out (by kernel_rfl)) (by decide) (fun K hK => ?_)
     refine box_step ?hg (N := 10) ?hd (cs := #[.slice none 0 0]) (t := 31) ?hr ?_; (case hd => rfl); (case hg => rfl); (case hr => first | (go_simp; done) | (go_simp; rfl))
     intro gb324 hg w44 hbox hb
     have n0_ := Aside0.mk (Kd.R_below (rq HO304.out) hb)
     have n1_ := Aside0.mk (Kd.R_below (rq HO307.out) hb)
     have n2_ := Aside0.mk (Kd.R_below (rq HO313.out) hb)
     have n3_ := Aside0.mk (Kd.Q_below (by (with_reducible repeat (first | apply Kd.Q_alloc | apply Kd.Q_drewN | apply Kd.Q_drew)); exact HO321.out) hb)
     have n4_ := Aside0.mk (blk_below (bq BK295.out) hb)
     have n5_ := Aside0.mk (blk_below (bq BK296.out) hb)
     have n6_ := Aside0.mk (blk_below (bq BK310.out) hb)
     have n7_ := Aside0.mk (blk_below (bq BK314.out) hb)
     have n8_ := Aside0.mk (below_step (lq HB.out) hb)
     have n9_ := Aside0.mk (hbox)
     have n10_ := Aside0.mk ((ge_new hg (lq HB.out) : w.heap.size ≤ gb324))
     have n11_ := Aside0.mk ((ge_new hg (lq HB.out) : w.heap.size ≤ gb324))
     have n12_ := Aside0.mk ((ne_new hg (bq BK295.out) : gb295 ≠ gb324))
     have n13_ := Aside0.mk ((new_ne hg (bq BK295.out) : gb324 ≠ gb295))
     have n14_ := Aside0.mk ((ne_new hg (bq BK296.out) : gb296 ≠ gb324))
     have n15_ := Aside0.mk ((new_ne hg (bq BK296.out) : gb324 ≠ gb296))
     have n16_ := Aside0.mk ((ne_new hg (bq BK310.out) : gb310 ≠ gb324))
     have n17_ := Aside0.mk ((new_ne hg (bq BK310.out) : gb324 ≠ gb310))
     have n18_ := Aside0.mk ((ne_new hg (bq BK314.out) : gb314 ≠ gb324))
     have n19_ := Aside0.mk ((new_ne hg (bq BK314.out) : gb324 ≠ gb314))
     clear HO304
     clear HO307
     clear HO313
     clear HO321
     clear BK295
     clear BK296
     clear BK310
     clear BK314
     clear HB
     have HO304 := n0_
     have HO307 := n1_
     have HO313 := n2_
     have HO321 := n3_
     have BK295 := n4_
     have BK296 := n5_
     have BK310 := n6_
     have BK314 := n7_
     have HB := n8_
     have BK324 := n9_
     have GW324 := n10_
     have GE324 := n11_
     have NB295_324 := n12_
     have NB324_295 := n13_
     have NB296_324 := n14_
     have NB324_296 := n15_
     have NB310_324 := n16_
     have NB324_310 := n17_
     have NB314_324 := n18_
     have NB324_314 := n19_
     clear n0_ n1_ n2_ n3_ n4_ n5_ n6_ n7_ n8_ n9_ n10_ n11_ n12_ n13_ n14_ n15_ n16_ n17_ n18_ n19_
     clear hb hbox hg
     refine hK.out _ _ ⟨(blk_cell BK295.out 0).trans rfl, (blk_cell BK295.out 1).trans rfl, (blk_cell BK295.out 2).trans rfl, (blk_cell BK295.out 3).trans rfl, (blk_cell BK314.out 0).trans rfl⟩ (fun hHeld => ?_)
     clear hK K
     refine norm_ (a' := ?_) ?_ ?_
     rotate_left
     ·show Act.put _ (some 10) _ = _
      simp only [Act.put, List.setIfInBounds_toArray, List.set_cons_zero, List.set_cons_succ, i64_w, i32_w]
      rfl
     exact norm_ (by simp only [putAll, Act.put, List.setIfInBounds_toArray, List.set_cons_zero, List.set_cons_succ]) (hCont (v320, gb324) _ ⟨hHeld, (by (with_reducible repeat (first | apply Kd.R_alloc | apply Kd.R_drewN | apply Kd.R_drew)); exact Kd.R_mono HO304.out (fun _ hk => ⟨hk.1.1, ⟨hk.1.2, hk.2⟩⟩)), (by (with_reducible repeat (first | apply Kd.R_alloc | apply Kd.R_drewN | apply Kd.R_drew)); exact Kd.R_mono HO307.out (fun _ hk => ⟨hk.1.1, ⟨hk.1.2, hk.2⟩⟩)), (by (with_reducible repeat (first | apply Kd.R_alloc | apply Kd.R_drewN | apply Kd.R_drew)); exact Kd.R_mono HO313.out (fun _ hk => ⟨hk.1.1, ⟨hk.1.2, hk.2⟩⟩)), (by (with_reducible repeat (first | apply Kd.Q_alloc | apply Kd.Q_drewN | apply Kd.Q_drew)); exact Kd.Q_mono HO321.out (fun _ hk => ⟨hk.1.1.2, ⟨hk.1.2, hk.2⟩⟩)), (bq BK295.out), (bq BK296.out), (bq BK310.out), (bq BK314.out), (bq BK324.out), GW324.out, GE324.out, NB295_324.out, NB324_295.out, NB296_324.out, NB324_296.out, NB310_324.out, NB324_310.out, NB314_324.out, NB324_314.out, (lq HB.out)⟩)
    ·skip
     refine box_step ?hg (N := 10) ?hd (cs := #[.slice none 0 0]) (t := 31) ?hr ?_; (case hd => rfl); (case hg => rfl); (case hr => first | (go_simp; done) | (go_simp; rfl))
     intro gb324 hg w43 hbox hb
     have n0_ := Aside0.mk (Kd.R_below (rq HO304.out) hb)
     have n1_ := Aside0.mk (Kd.R_below (rq HO307.out) hb)
     have n2_ := Aside0.mk (Kd.R_below (rq HO313.out) hb)
     have n3_ := Aside0.mk (blk_below (bq BK295.out) hb)
     have n4_ := Aside0.mk (blk_below (bq BK296.out) hb)
     have n5_ := Aside0.mk (blk_below (bq BK310.out) hb)
     have n6_ := Aside0.mk (blk_below (bq BK314.out) hb)
     have n7_ := Aside0.mk (below_step (lq HB.out) hb)
     have n8_ := Aside0.mk (hbox)
     have n9_ := Aside0.mk ((ge_new hg (lq HB.out) : w.heap.size ≤ gb324))
     have n10_ := Aside0.mk ((ge_new hg (lq HB.out) : w.heap.size ≤ gb324))
     have n11_ := Aside0.mk ((ne_new hg (bq BK295.out) : gb295 ≠ gb324))
     have n12_ := Aside0.mk ((new_ne hg (bq BK295.out) : gb324 ≠ gb295))
     have n13_ := Aside0.mk ((ne_new hg (bq BK296.out) : gb296 ≠ gb324))
     have n14_ := Aside0.mk ((new_ne hg (bq BK296.out) : gb324 ≠ gb296))
     have n15_ := Aside0.mk ((ne_new hg (bq BK310.out) : gb310 ≠ gb324))
     have n16_ := Aside0.mk ((new_ne hg (bq BK310.out) : gb324 ≠ gb310))
     have n17_ := Aside0.mk ((ne_new hg (bq BK314.out) : gb314 ≠ gb324))
     have n18_ := Aside0.mk ((new_ne hg (bq BK314.out) : gb324 ≠ gb314))
     clear HO304
     clear HO307
     clear HO313
     clear BK295
     clear BK296
     clear BK310
     clear BK314
     clear HB
     have HO304 := n0_
     have HO307 := n1_
     have HO313 := n2_
     have BK295 := n3_
     have BK296 := n4_
     have BK310 := n5_
     have BK314 := n6_
     have HB := n7_
     have BK324 := n8_
     have GW324 := n9_
     have GE324 := n10_
     have NB295_324 := n11_
     have NB324_295 := n12_
     have NB296_324 := n13_
     have NB324_296 := n14_
     have NB310_324 := n15_
     have NB324_310 := n16_
     have NB314_324 := n17_
     have NB324_314 := n18_
     clear n0_ n1_ n2_ n3_ n4_ n5_ n6_ n7_ n8_ n9_ n10_ n11_ n12_ n13_ n14_ n15_ n16_ n17_ n18_
     clear hb hbox hg
     refine hK.out _ _ ⟨(blk_cell BK295.out 0).trans rfl, (blk_cell BK295.out 1).trans rfl, (blk_cell BK295.out 2).trans rfl, (blk_cell BK295.out 3).trans rfl, (blk_cell BK314.out 0).trans rfl⟩ (fun hHeld => ?_)
     clear hK K
     refine norm_ (a' := ?_) ?_ ?_
     rotate_left
     ·show Act.put _ (some 10) _ = _
      simp only [Act.put, List.setIfInBounds_toArray, List.set_cons_zero, List.set_cons_succ, i64_w, i32_w]
      rfl
     refine one_ (i := 3) (N := some 39) #[true, true, true, true, false, false, false, false, true, false, false, false] rfl rfl (one_of HT_.out (by kernel_rfl)) (by decide) (fun K hK => ?_)
     refine goes_ Try.func32 (by kernel_rfl) rfl #[.agg #[.int .i64 t315, .int .i64 t316, .int .i64 t317, .int .i64 t318], .agg #[.slice Ao35 t311.length co35]] (by rfl) rfl rfl (by (try simp only [List.map_toArray, List.map_cons, List.map_nil]); first | done | rfl | (simp only [List.length_drop, List.length_take]; rfl)) ?_
     with_reducible refine (impl_RecvOn.calls t315 t316 t317 t318 _ _ t311 t319 t322 t323 _ ?side1 ?side2 A15.out).mono ?_
     (case side1 => repeat (first | exact (Kd.R_reads' HO313.out).2.2 | (with_reducible refine Kd.C_alloc ?_ _) | (with_reducible refine Kd.C_drewN ?_ _) | (with_reducible refine Kd.C_drew ?_)))
     (case side2 => exact (Kd.R_reads' HO313.out).2.1)
     rintro e w44 ⟨v320, rfl, ho0, hb⟩
     refine ⟨_, rfl, ?_⟩
     have n0_ := Aside0.mk (Kd.R_elder' (rq HO304.out) (Kd.Q_base ho0) hb)
     have n1_ := Aside0.mk (Kd.R_elder' (rq HO307.out) (Kd.Q_base ho0) hb)
     have n2_ := Aside0.mk (Kd.R_elder' (rq HO313.out) (Kd.Q_base ho0) hb)
     have n3_ := Aside0.mk (Kd.Q_lower (Kd.Q_new' (Kd.Q_new' (Kd.Q_new' ho0 (Kd.R_lt (rq HO304.out))) (Kd.R_lt (rq HO307.out))) (Kd.R_lt (rq HO313.out))) (below_size (lq HB.out)))
     have n4_ := Aside0.mk (blk_below (bq BK295.out) hb)
     have n5_ := Aside0.mk (blk_below (bq BK296.out) hb)
     have n6_ := Aside0.mk (blk_below (bq BK310.out) hb)
     have n7_ := Aside0.mk (blk_below (bq BK314.out) hb)
     have n8_ := Aside0.mk (blk_below (bq BK324.out) hb)
     have n9_ := Aside0.mk (below_step (lq HB.out) hb)
     clear HO304
     clear HO307
     clear HO313
     clear BK295
     clear BK296
     clear BK310
     clear BK314
     clear BK324
     clear HB
     have HO304 := n0_
     have HO307 := n1_
     have HO313 := n2_
     have HO321 := n3_
     have BK295 := n4_
     have BK296 := n5_
     have BK310 := n6_
     have BK314 := n7_
     have BK324 := n8_
     have HB := n9_
     clear n0_ n1_ n2_ n3_ n4_ n5_ n6_ n7_ n8_ n9_
     (try clear hb)
     (try clear hb2)
     (try clear hk)
     (try clear hi)
     (try clear ho0)
     refine hK.out _ _ ⟨(blk_cell BK295.out 0).trans rfl, (blk_cell BK295.out 1).trans rfl, (blk_cell BK295.out 2).trans rfl, (blk_cell BK295.out 3).trans rfl, (blk_cell BK314.out 0).trans rfl⟩ (fun hHeld => ?_)
     clear hK K
     refine norm_ (a' := ?_) ?_ ?_
     rotate_left
     ·show Act.put _ (some 39) _ = _
      simp only [Act.put, List.setIfInBounds_toArray, List.set_cons_zero, List.set_cons_succ, i64_w, i32_w]
      rfl
     refine pure_ (i := 4) (N := some 35) (v := ?_) (a' := ?_) #[true, true, true, true, true, false, false, false, true, false, false, false] rfl rfl (any_of HT_.out (by kernel_rfl)) (fun _ _ _ h => h) (Or.inl ⟨by rfl, ?_⟩) ?_ ?_
     rotate_left
     ·intro w'
      go_simp
      with_reducible rfl
     rotate_left
     ·simp only [Act.put, List.setIfInBounds_toArray, List.set_cons_zero, List.set_cons_succ, i64_w, i32_w]
      rfl
     refine pure_ (i := 5) (N := some 40) (v := ?_) (a' := ?_) #[true, true, true, true, true, true, false, false, true, false, false, false] rfl rfl (any_of HT_.out (by kernel_rfl)) (fun _ _ _ h => h) (Or.inl ⟨by rfl, ?_⟩) ?_ ?_
     rotate_left
     ·intro w'
      go_simp
      with_reducible rfl
     rotate_left
     ·simp only [Act.put, List.setIfInBounds_toArray, List.set_cons_zero, List.set_cons_succ, i64_w, i32_w]
      rfl
     refine pure_ (i := 6) (N := some 41) (v := ?_) (a' := ?_) #[true, true, true, true, true, true, true, false, true, false, false, false] rfl rfl (any_of HT_.out (by kernel_rfl)) (fun _ _ _ h => h) (Or.inl ⟨by rfl, ?_⟩) ?_ ?_
     rotate_left
     ·intro w'
      go_simp
      with_reducible rfl
     rotate_left
     ·simp only [Act.put, List.setIfInBounds_toArray, List.set_cons_zero, List.set_cons_succ, i64_w, i32_w]
      rfl
     refine pure_ (i := 7) (N := some 42) (v := ?_) (a' := ?_) #[true, true, true, true, true, true, true, true, true, false, false, false] rfl rfl (any_of HT_.out (by kernel_rfl)) (fun _ _ _ h => h) (Or.inl ⟨by rfl, ?_⟩) ?_ ?_
     rotate_left
     ·intro w'
      go_simp
      with_reducible rfl
     rotate_left
     ·simp only [Act.put, List.setIfInBounds_toArray, List.set_cons_zero, List.set_cons_succ, i64_w, i32_w]
      rfl
     exact norm_ (by simp only [putAll, Act.put, List.setIfInBounds_toArray, List.set_cons_zero, List.set_cons_succ]) (hCont (v320, gb324) _ ⟨hHeld, (by (with_reducible repeat (first | apply Kd.R_alloc | apply Kd.R_drewN | apply Kd.R_drew)); exact Kd.R_mono HO304.out (fun _ hk => ⟨hk.1.1, ⟨hk.1.2, hk.2⟩⟩)), (by (with_reducible repeat (first | apply Kd.R_alloc | apply Kd.R_drewN | apply Kd.R_drew)); exact Kd.R_mono HO307.out (fun _ hk => ⟨hk.1.1, ⟨hk.1.2, hk.2⟩⟩)), (by (with_reducible repeat (first | apply Kd.R_alloc | apply Kd.R_drewN | apply Kd.R_drew)); exact Kd.R_mono HO313.out (fun _ hk => ⟨hk.1.1, ⟨hk.1.2, hk.2⟩⟩)), (by (with_reducible repeat (first | apply Kd.Q_alloc | apply Kd.Q_drewN | apply Kd.Q_drew)); exact Kd.Q_mono HO321.out (fun _ hk => ⟨hk.1.1.2, ⟨hk.1.2, hk.2⟩⟩)), (bq BK295.out), (bq BK296.out), (bq BK310.out), (bq BK314.out), (bq BK324.out), GW324.out, GE324.out, NB295_324.out, NB324_295.out, NB296_324.out, NB324_296.out, NB310_324.out, NB324_310.out, NB314_324.out, NB324_314.out, (lq HB.out)⟩)
   ·skip
    refine box_step ?hg (N := 10) ?hd (cs := #[.slice none 0 0]) (t := 31) ?hr ?_; (case hd => rfl); (case hg => rfl); (case hr => first | (go_simp; done) | (go_simp; rfl))
    intro gb324 hg w42 hbox hb
    have n0_ := Aside0.mk (Kd.R_below (rq HO304.out) hb)
    have n1_ := Aside0.mk (Kd.R_below (rq HO307.out) hb)
    have n2_ := Aside0.mk (Kd.R_below (rq HO313.out) hb)
    have n3_ := Aside0.mk (blk_below (bq BK295.out) hb)
    have n4_ := Aside0.mk (blk_below (bq BK296.out) hb)
    have n5_ := Aside0.mk (blk_below (bq BK310.out) hb)
    have n6_ := Aside0.mk (blk_below (bq BK314.out) hb)
    have n7_ := Aside0.mk (below_step (lq HB.out) hb)
    have n8_ := Aside0.mk (hbox)
    have n9_ := Aside0.mk ((ge_new hg (lq HB.out) : w.heap.size ≤ gb324))
    have n10_ := Aside0.mk ((ge_new hg (lq HB.out) : w.heap.size ≤ gb324))
    have n11_ := Aside0.mk ((ne_new hg (bq BK295.out) : gb295 ≠ gb324))
    have n12_ := Aside0.mk ((new_ne hg (bq BK295.out) : gb324 ≠ gb295))
    have n13_ := Aside0.mk ((ne_new hg (bq BK296.out) : gb296 ≠ gb324))
    have n14_ := Aside0.mk ((new_ne hg (bq BK296.out) : gb324 ≠ gb296))
    have n15_ := Aside0.mk ((ne_new hg (bq BK310.out) : gb310 ≠ gb324))
    have n16_ := Aside0.mk ((new_ne hg (bq BK310.out) : gb324 ≠ gb310))
    have n17_ := Aside0.mk ((ne_new hg (bq BK314.out) : gb314 ≠ gb324))
    have n18_ := Aside0.mk ((new_ne hg (bq BK314.out) : gb324 ≠ gb314))
    clear HO304
    clear HO307
    clear HO313
    clear BK295
    clear BK296
    clear BK310
    clear BK314
    clear HB
    have HO304 := n0_
    have HO307 := n1_
    have HO313 := n2_
    have BK295 := n3_
    have BK296 := n4_
    have BK310 := n5_
    have BK314 := n6_
    have HB := n7_
    have BK324 := n8_
    have GW324 := n9_
    have GE324 := n10_
    have NB295_324 := n11_
    have NB324_295 := n12_
    have NB296_324 := n13_
    have NB324_296 := n14_
    have NB310_324 := n15_
    have NB324_310 := n16_
    have NB314_324 := n17_
    have NB324_314 := n18_
    clear n0_ n1_ n2_ n3_ n4_ n5_ n6_ n7_ n8_ n9_ n10_ n11_ n12_ n13_ n14_ n15_ n16_ n17_ n18_
    clear hb hbox hg
    refine hK.out _ _ ⟨(blk_cell BK295.out 0).trans rfl, (blk_cell BK295.out 1).trans rfl, (blk_cell BK295.out 2).trans rfl, (blk_cell BK295.out 3).trans rfl, (blk_cell BK314.out 0).trans rfl⟩ (fun hHeld => ?_)
    clear hK K
    refine norm_ (a' := ?_) ?_ ?_
    rotate_left
    ·show Act.put _ (some 10) _ = _
     simp only [Act.put, List.setIfInBounds_toArray, List.set_cons_zero, List.set_cons_succ, i64_w, i32_w]
     rfl
    refine one_ (i := 1) (N := some 37) #[true, true, true, false, false, false, false, false, true, false, false, false] rfl rfl (one_of HT_.out (by kernel_rfl)) (by decide) (fun K hK => ?_)
    refine goes_ Try.func16 (by kernel_rfl) rfl #[.agg #[.int .i64 a0_0, .int .i64 a0_1, .int .i64 a0_2, .int .i64 a0_3]] (by rfl) rfl rfl (by (try simp only [List.map_toArray, List.map_cons, List.map_nil]); first | done | rfl | (simp only [List.length_drop, List.length_take]; rfl)) ?_
    with_reducible refine (laws_toChanRow.calls a0_0 a0_1 a0_2 a0_3 t315 t316 t317 t318 _ A14.out).mono ?_
    rintro e w43 ⟨rfl, hb⟩
    refine ⟨_, rfl, ?_⟩
    have n0_ := Aside0.mk (Kd.R_below (rq HO304.out) hb)
    have n1_ := Aside0.mk (Kd.R_below (rq HO307.out) hb)
    have n2_ := Aside0.mk (Kd.R_below (rq HO313.out) hb)
    have n3_ := Aside0.mk (blk_below (bq BK295.out) hb)
    have n4_ := Aside0.mk (blk_below (bq BK296.out) hb)
    have n5_ := Aside0.mk (blk_below (bq BK310.out) hb)
    have n6_ := Aside0.mk (blk_below (bq BK314.out) hb)
    have n7_ := Aside0.mk (blk_below (bq BK324.out) hb)
    have n8_ := Aside0.mk (below_step (lq HB.out) hb)
    clear HO304
    clear HO307
    clear HO313
    clear BK295
    clear BK296
    clear BK310
    clear BK314
    clear BK324
    clear HB
    have HO304 := n0_
    have HO307 := n1_
    have HO313 := n2_
    have BK295 := n3_
    have BK296 := n4_
    have BK310 := n5_
    have BK314 := n6_
    have BK324 := n7_
    have HB := n8_
    clear n0_ n1_ n2_ n3_ n4_ n5_ n6_ n7_ n8_
    (try clear hb)
    (try clear hb2)
    (try clear hk)
    (try clear hi)
    refine hK.out _ _ ⟨(blk_cell BK295.out 0).trans rfl, (blk_cell BK295.out 1).trans rfl, (blk_cell BK295.out 2).trans rfl, (blk_cell BK295.out 3).trans rfl, (blk_cell BK314.out 0).trans rfl⟩ (fun hHeld => ?_)
    clear hK K
    refine norm_ (a' := ?_) ?_ ?_
    rotate_left
    ·show Act.put _ (some 37) _ = _
     simp only [Act.put, List.setIfInBounds_toArray, List.set_cons_zero, List.set_cons_succ, i64_w, i32_w]
     rfl
    refine one_ (i := 3) (N := some 39) #[true, true, true, true, false, false, false, false, true, false, false, false] rfl rfl (one_of HT_.out (by kernel_rfl)) (by decide) (fun K hK => ?_)
    refine goes_ Try.func32 (by kernel_rfl) rfl #[.agg #[.int .i64 t315, .int .i64 t316, .int .i64 t317, .int .i64 t318], .agg #[.slice Ao35 t311.length co35]] (by rfl) rfl rfl (by (try simp only [List.map_toArray, List.map_cons, List.map_nil]); first | done | rfl | (simp only [List.length_drop, List.length_take]; rfl)) ?_
    with_reducible refine (impl_RecvOn.calls t315 t316 t317 t318 _ _ t311 t319 t322 t323 _ ?side1 ?side2 A15.out).mono ?_
    (case side1 => repeat (first | exact (Kd.R_reads' HO313.out).2.2 | (with_reducible refine Kd.C_alloc ?_ _) | (with_reducible refine Kd.C_drewN ?_ _) | (with_reducible refine Kd.C_drew ?_)))
    (case side2 => exact (Kd.R_reads' HO313.out).2.1)
    rintro e w44 ⟨v320, rfl, ho0, hb⟩
    refine ⟨_, rfl, ?_⟩
    have n0_ := Aside0.mk (Kd.R_elder' (rq HO304.out) (Kd.Q_base ho0) hb)
    have n1_ := Aside0.mk (Kd.R_elder' (rq HO307.out) (Kd.Q_base ho0) hb)
    have n2_ := Aside0.mk (Kd.R_elder' (rq HO313.out) (Kd.Q_base ho0) hb)
    have n3_ := Aside0.mk (Kd.Q_lower (Kd.Q_new' (Kd.Q_new' (Kd.Q_new' ho0 (Kd.R_lt (rq HO304.out))) (Kd.R_lt (rq HO307.out))) (Kd.R_lt (rq HO313.out))) (below_size (lq HB.out)))
    have n4_ := Aside0.mk (blk_below (bq BK295.out) hb)
    have n5_ := Aside0.mk (blk_below (bq BK296.out) hb)
    have n6_ := Aside0.mk (blk_below (bq BK310.out) hb)
    have n7_ := Aside0.mk (blk_below (bq BK314.out) hb)
    have n8_ := Aside0.mk (blk_below (bq BK324.out) hb)
    have n9_ := Aside0.mk (below_step (lq HB.out) hb)
    clear HO304
    clear HO307
    clear HO313
    clear BK295
    clear BK296
    clear BK310
    clear BK314
    clear BK324
    clear HB
    have HO304 := n0_
    have HO307 := n1_
    have HO313 := n2_
    have HO321 := n3_
    have BK295 := n4_
    have BK296 := n5_
    have BK310 := n6_
    have BK314 := n7_
    have BK324 := n8_
    have HB := n9_
    clear n0_ n1_ n2_ n3_ n4_ n5_ n6_ n7_ n8_ n9_
    (try clear hb)
    (try clear hb2)
    (try clear hk)
    (try clear hi)
    (try clear ho0)
    refine hK.out _ _ ⟨(blk_cell BK295.out 0).trans rfl, (blk_cell BK295.out 1).trans rfl, (blk_cell BK295.out 2).trans rfl, (blk_cell BK295.out 3).trans rfl, (blk_cell BK314.out 0).trans rfl⟩ (fun hHeld => ?_)
    clear hK K
    refine norm_ (a' := ?_) ?_ ?_
    rotate_left
    ·show Act.put _ (some 39) _ = _
     simp only [Act.put, List.setIfInBounds_toArray, List.set_cons_zero, List.set_cons_succ, i64_w, i32_w]
     rfl
    refine pure_ (i := 4) (N := some 35) (v := ?_) (a' := ?_) #[true, true, true, true, true, false, false, false, true, false, false, false] rfl rfl (any_of HT_.out (by kernel_rfl)) (fun _ _ _ h => h) (Or.inl ⟨by rfl, ?_⟩) ?_ ?_
    rotate_left
    ·intro w'
     go_simp
     with_reducible rfl
    rotate_left
    ·simp only [Act.put, List.setIfInBounds_toArray, List.set_cons_zero, List.set_cons_succ, i64_w, i32_w]
     rfl
    refine pure_ (i := 5) (N := some 40) (v := ?_) (a' := ?_) #[true, true, true, true, true, true, false, false, true, false, false, false] rfl rfl (any_of HT_.out (by kernel_rfl)) (fun _ _ _ h => h) (Or.inl ⟨by rfl, ?_⟩) ?_ ?_
    rotate_left
    ·intro w'
     go_simp
     with_reducible rfl
    rotate_left
    ·simp only [Act.put, List.setIfInBounds_toArray, List.set_cons_zero, List.set_cons_succ, i64_w, i32_w]
     rfl
    refine pure_ (i := 6) (N := some 41) (v := ?_) (a' := ?_) #[true, true, true, true, true, true, true, false, true, false, false, false] rfl rfl (any_of HT_.out (by kernel_rfl)) (fun _ _ _ h => h) (Or.inl ⟨by rfl, ?_⟩) ?_ ?_
    rotate_left
    ·intro w'
     go_simp
     with_reducible rfl
    rotate_left
    ·simp only [Act.put, List.setIfInBounds_toArray, List.set_cons_zero, List.set_cons_succ, i64_w, i32_w]
     rfl
    refine pure_ (i := 7) (N := some 42) (v := ?_) (a' := ?_) #[true, true, true, true, true, true, true, true, true, false, false, false] rfl rfl (any_of HT_.out (by kernel_rfl)) (fun _ _ _ h => h) (Or.inl ⟨by rfl, ?_⟩) ?_ ?_
    rotate_left
    ·intro w'
     go_simp
     with_reducible rfl
    rotate_left
    ·simp only [Act.put, List.setIfInBounds_toArray, List.set_cons_zero, List.set_cons_succ, i64_w, i32_w]
     rfl
    exact norm_ (by simp only [putAll, Act.put, List.setIfInBounds_toArray, List.set_cons_zero, List.set_cons_succ]) (hCont (v320, gb324) _ ⟨hHeld, (by (with_reducible repeat (first | apply Kd.R_alloc | apply Kd.R_drewN | apply Kd.R_drew)); exact Kd.R_mono HO304.out (fun _ hk => ⟨hk.1.1, ⟨hk.1.2, hk.2⟩⟩)), (by (with_reducible repeat (first | apply Kd.R_alloc | apply Kd.R_drewN | apply Kd.R_drew)); exact Kd.R_mono HO307.out (fun _ hk => ⟨hk.1.1, ⟨hk.1.2, hk.2⟩⟩)), (by (with_reducible repeat (first | apply Kd.R_alloc | apply Kd.R_drewN | apply Kd.R_drew)); exact Kd.R_mono HO313.out (fun _ hk => ⟨hk.1.1, ⟨hk.1.2, hk.2⟩⟩)), (by (with_reducible repeat (first | apply Kd.Q_alloc | apply Kd.Q_drewN | apply Kd.Q_drew)); exact Kd.Q_mono HO321.out (fun _ hk => ⟨hk.1.1.2, ⟨hk.1.2, hk.2⟩⟩)), (bq BK295.out), (bq BK296.out), (bq BK310.out), (bq BK314.out), (bq BK324.out), GW324.out, GE324.out, NB295_324.out, NB324_295.out, NB296_324.out, NB324_296.out, NB310_324.out, NB324_310.out, NB314_324.out, NB324_314.out, (lq HB.out)⟩)
  rintro ⟨v320, gb324⟩ w45 ⟨hS_, h0_, h1_, h2_, h3_, h4_, h5_, h6_, h7_, h8_, h9_, h10_, h11_, h12_, h13_, h14_, h15_, h16_, h17_, h18_, h19_⟩
  have n0_ : Aside0 (Kd.R (Kd.int .u32) 46 w45 w.heap.size (fun k_ => some k_ ≠ (.slice Ao29 t305.length co29 : Value).ownBlock ∧ some k_ ≠ (.slice Ao35 t311.length co35 : Value).ownBlock ∧ some k_ ≠ (v320 : Value).ownBlock) v303 t302) := ⟨h0_⟩
  have n1_ : Aside0 (Kd.R (Kd.int .u32) 46 w45 w.heap.size (fun k_ => some k_ ≠ (v303 : Value).ownBlock ∧ some k_ ≠ (.slice Ao35 t311.length co35 : Value).ownBlock ∧ some k_ ≠ (v320 : Value).ownBlock) (.slice Ao29 t305.length co29) t305) := ⟨h1_⟩
  have n2_ : Aside0 (Kd.R (Kd.int .u32) 46 w45 w.heap.size (fun k_ => some k_ ≠ (v303 : Value).ownBlock ∧ some k_ ≠ (.slice Ao29 t305.length co29 : Value).ownBlock ∧ some k_ ≠ (v320 : Value).ownBlock) (.slice Ao35 t311.length co35) t311) := ⟨h2_⟩
  have n3_ : Aside0 (Kd.Q (Kd.int .u32) 46 w45 w.heap.size (fun k_ => some k_ ≠ (v303 : Value).ownBlock ∧ some k_ ≠ (.slice Ao29 t305.length co29 : Value).ownBlock ∧ some k_ ≠ (.slice Ao35 t311.length co35 : Value).ownBlock) v320 t319) := ⟨h3_⟩
  have n4_ : Aside0 (w45.heap[gb295]? = some (.cells #[.int .i64 a0_0, .int .i64 a0_1, .int .i64 a0_2, .int .i64 a0_3] 23 (0, 0))) := ⟨h4_⟩
  have n5_ : Aside0 (w45.heap[gb296]? = some (.cells #[.slice A1_0 l1_0.length c1_0] 26 (0, 0))) := ⟨h5_⟩
  have n6_ : Aside0 (w45.heap[gb310]? = some (.cells #[.slice Ao29 t305.length co29] 31 (0, 0))) := ⟨h6_⟩
  have n7_ : Aside0 (w45.heap[gb314]? = some (.cells #[.slice Ao35 t311.length co35] 31 (0, 0))) := ⟨h7_⟩
  have n8_ : Aside0 (w45.heap[gb324]? = some (.cells #[.slice none 0 0] 31 (0, 0))) := ⟨h8_⟩
  have n9_ : Aside0 (w.heap.size ≤ gb324) := ⟨h9_⟩
  have n10_ : Aside0 (w.heap.size ≤ gb324) := ⟨h10_⟩
  have n11_ : Aside0 (gb295 ≠ gb324) := ⟨h11_⟩
  have n12_ : Aside0 (gb324 ≠ gb295) := ⟨h12_⟩
  have n13_ : Aside0 (gb296 ≠ gb324) := ⟨h13_⟩
  have n14_ : Aside0 (gb324 ≠ gb296) := ⟨h14_⟩
  have n15_ : Aside0 (gb310 ≠ gb324) := ⟨h15_⟩
  have n16_ : Aside0 (gb324 ≠ gb310) := ⟨h16_⟩
  have n17_ : Aside0 (gb314 ≠ gb324) := ⟨h17_⟩
  have n18_ : Aside0 (gb324 ≠ gb314) := ⟨h18_⟩
  have n19_ : Aside0 (Below w.heap.size w w45) := ⟨h19_⟩
  clear HO304
  clear HO307
  clear HO313
  clear BK295
  clear BK296
  clear BK310
  clear BK314
  clear HB
  clear h0_ h1_ h2_ h3_ h4_ h5_ h6_ h7_ h8_ h9_ h10_ h11_ h12_ h13_ h14_ h15_ h16_ h17_ h18_ h19_
  have HO304 := n0_
  have HO307 := n1_
  have HO313 := n2_
  have HO321 := n3_
  have BK295 := n4_
  have BK296 := n5_
  have BK310 := n6_
  have BK314 := n7_
  have BK324 := n8_
  have GW324 := n9_
  have GE324 := n10_
  have NB295_324 := n11_
  have NB324_295 := n12_
  have NB296_324 := n13_
  have NB324_296 := n14_
  have NB310_324 := n15_
  have NB324_310 := n16_
  have NB314_324 := n17_
  have NB324_314 := n18_
  have HB := n19_
  clear n0_ n1_ n2_ n3_ n4_ n5_ n6_ n7_ n8_ n9_ n10_ n11_ n12_ n13_ n14_ n15_ n16_ n17_ n18_ n19_
  have hHeld : w45.cell? ⟨gb295, 0, none⟩ = some (.int .i64 a0_0) ∧ w45.cell? ⟨gb295, 1, none⟩ = some (.int .i64 a0_1) ∧ w45.cell? ⟨gb295, 2, none⟩ = some (.int .i64 a0_2) ∧ w45.cell? ⟨gb295, 3, none⟩ = some (.int .i64 a0_3) ∧ w45.cell? ⟨gb314, 0, none⟩ = some (.slice Ao35 t311.length co35) := hS_
  obtain ⟨Ao46, co46, eo46, _⟩ := Kd.Q_slice HO321.out
  (first | subst eo46 | (injection eo46 with f1_ f2_ f3_; have f4_ := f1_.symm; have f5_ := f3_.symm; clear f1_ f2_ f3_; subst f4_; subst f5_))
  refine norm_ (a' := ?_) ?_ ?_
  rotate_left
  ·simp only [putAll, Act.put, List.setIfInBounds_toArray, List.set_cons_zero, List.set_cons_succ]
   rfl
  refine one_ (i := 9) (N := none) #[true, true, true, true, true, true, true, true, true, true, false, false] rfl rfl (one_of HT_.out (by kernel_rfl)) (by decide) (fun K hK => ?_)
  have hs47 : w45.cell? ⟨gb324, 0, none⟩ = some (.slice none 0 0) := (blk_cell BK324.out 0).trans rfl
  have hfs47 := blk_frozen BK324.out 0
  have hns47_0 := NB295_324.out
  have hns47_1 := NB296_324.out
  have hns47_2 := NB310_324.out
  have hns47_3 := NB314_324.out
  have hms47_0 := NB324_295.out
  have hms47_1 := NB324_296.out
  have hms47_2 := NB324_310.out
  have hms47_3 := NB324_314.out
  refine skip_ (w1 := ?_) (by rfl) rfl ?_ ?_
  rotate_left
  ·go_simp
   rfl
  refine hK.out _ _ ⟨((cell_far (p := ⟨gb324, _, none⟩) NB295_324.out _).trans (hHeld.1)), ((cell_far (p := ⟨gb324, _, none⟩) NB295_324.out _).trans (hHeld.2.1)), ((cell_far (p := ⟨gb324, _, none⟩) NB295_324.out _).trans (hHeld.2.2.1)), ((cell_far (p := ⟨gb324, _, none⟩) NB295_324.out _).trans (hHeld.2.2.2.1)), ((cell_far (p := ⟨gb324, _, none⟩) NB314_324.out _).trans (hHeld.2.2.2.2))⟩ (fun hHeld => ?_)
  clear hK K
  refine pure_ (i := 10) (N := some 11) (v := ?_) (a' := ?_) #[true, true, true, true, true, true, true, true, true, true, true, false] rfl rfl (any_of HT_.out (by kernel_rfl)) (fun _ _ _ h => h) (Or.inl ⟨by rfl, ?_⟩) ?_ ?_
  rotate_left
  ·intro w'
   go_simp
   with_reducible rfl
  rotate_left
  ·simp only [Act.put, List.setIfInBounds_toArray, List.set_cons_zero, List.set_cons_succ, i64_w, i32_w]
   rfl
  refine pure_ (i := 11) (N := some 12) (v := ?_) (a' := ?_) #[true, true, true, true, true, true, true, true, true, true, true, true] rfl rfl (any_of HT_.out (by kernel_rfl)) (fun _ _ _ h => h) (Or.inl ⟨by rfl, ?_⟩) ?_ ?_
  rotate_left
  ·intro w'
   go_simp
   with_reducible rfl
  rotate_left
  ·simp only [Act.put, List.setIfInBounds_toArray, List.set_cons_zero, List.set_cons_succ, i64_w, i32_w]
   rfl
  refine done_ (done_of HT_.out (by kernel_rfl)) ?_
  go_upto_region 8 with (fail)
  go_cut [56] (fun v56 wc => ∃ (kq : Nat) (x56_15 : Bool), v56 = .bool x56_15 ∧ Aside0 (laws_FnExactRecvOn.j0 kq t308 t309 t322 t323 x56_15 a0_0 a0_1 a0_2 a0_3 l1_0 t305 t311 t319 = some true) ∧ Aside0 (kq ≤ k) ∧ Aside0 (Kd.Q (Kd.int .u32) 46 wc w.heap.size (fun k_ => some k_ ≠ ((.slice Ao35 t311.length co35) : Value).ownBlock ∧ some k_ ≠ ((.slice Ao46 t319.length co46) : Value).ownBlock) (.slice Ao29 t305.length co29) t305) ∧ Aside0 (Kd.Q (Kd.int .u32) 46 wc w.heap.size (fun k_ => some k_ ≠ ((.slice Ao29 t305.length co29) : Value).ownBlock ∧ some k_ ≠ ((.slice Ao46 t319.length co46) : Value).ownBlock) (.slice Ao35 t311.length co35) t311) ∧ Aside0 (Kd.Q (Kd.int .u32) 46 wc w.heap.size (fun k_ => some k_ ≠ ((.slice Ao29 t305.length co29) : Value).ownBlock ∧ some k_ ≠ ((.slice Ao35 t311.length co35) : Value).ownBlock) (.slice Ao46 t319.length co46) t319) ∧ Aside0 (wc.heap[gb295]? = some (.cells #[.int .i64 a0_0, .int .i64 a0_1, .int .i64 a0_2, .int .i64 a0_3] 23 (0, 0))) ∧ Aside0 (wc.heap[gb296]? = some (.cells #[(.slice A1_0 l1_0.length c1_0)] 26 (0, 0))) ∧ Aside0 (wc.heap[gb310]? = some (.cells #[(.slice Ao29 t305.length co29)] 31 (0, 0))) ∧ Aside0 (wc.heap[gb314]? = some (.cells #[(.slice Ao35 t311.length co35)] 31 (0, 0))) ∧ Aside0 (wc.heap[gb324]? = some (.cells #[(.slice Ao46 t319.length co46)] 31 (0, 0))) ∧ Aside0 (Below w.heap.size w wc))
  case first =>
   have H := HC16.out
   clear HC16
   replace H := Option.bind_eq_some_iff.mp H
   obtain ⟨t325, A480, H⟩ := H
   (try dsimp only at H)
   have A48 := Aside0.mk A480
   clear A480
   by_cases c49 : t325 = true
   ·subst c49
    rw [if_pos rfl] at H
    by_cases c50 : t322 = t308
    ·rw [if_pos c50] at H
     have c50b0 : (t322 == t308) = true := beq_iff_eq.mpr c50
     have c50b1 : (t322 != t308) = false := bne_eq_false_iff_eq.mpr c50
     clear c50
     (first | rw [c50b0] | (simp only [i64_w, i32_w]; rw [c50b0]) | skip)
     have H' := Aside0.mk H
     clear H
     have hnb51 := NB324_295.out
     have hnc51 := NB295_324.out
     have hnb52 := NB324_296.out
     have hnc52 := NB296_324.out
     have hnb53 := NB324_310.out
     have hnc53 := NB310_324.out
     have hnb54 := NB324_314.out
     have hnc54 := NB314_324.out
     have hcz55_0 : w45.cell? ⟨gb324, 0, none⟩ = some (.slice none 0 0) := (blk_cell BK324.out 0).trans rfl
     have hfz55_0 := blk_frozen BK324.out 0
     have hnb56 := NB310_295.out
     have hnc56 := NB295_310.out
     have hnb57 := NB310_296.out
     have hnc57 := NB296_310.out
     have hnb58 := NB310_314.out
     have hnc58 := NB314_310.out
     have hcz59_0 : w45.cell? ⟨gb310, 0, none⟩ = some (.slice Ao29 t305.length co29) := (blk_cell BK310.out 0).trans rfl
     have hfz59_0 := blk_frozen BK310.out 0
     go_wp2_with (first | ((with_reducible refine gate_callee (f := 19) rfl ?_); refine goesL_ (some 45) rfl rfl Try.func19 (by kernel_rfl) rfl #[.agg #[.slice Ao46 t319.length co46], .agg #[.slice Ao29 t305.length co29]] rfl (by (try simp only [List.map_toArray, List.map_cons, List.map_nil]); first | done | rfl | (simp only [List.length_drop, List.length_take]; rfl)) ?_; (with_reducible refine (laws_eqInEnd.calls k _ _ t319 _ _ t305 true _ ?side1 ?side2 ?side3 ?side4 A48.out).mono ?_); (case side1 => refine (Kd.Q_reads' (e := 46) (base := w.heap.size) (ok := fun k_ => (some k_ ≠ (v303 : Value).ownBlock ∧ (some k_ ≠ (.slice Ao29 t305.length co29 : Value).ownBlock ∧ some k_ ≠ (.slice Ao35 t311.length co35 : Value).ownBlock))) (n := t319.length) (c := co46) ?_).2.2; exact (by (with_reducible repeat (first | apply Kd.Q_alloc | apply Kd.Q_drewN | apply Kd.Q_drew)); exact (Kd.Q_mono (Kd.Q_far (p := ⟨gb324, 0, none⟩) (Kd.Q_types HO321.out BK324.out (by decide)) (fun _ hk => hk.2) (.slice Ao46 t319.length co46)) (fun _ h_ => h_.1)))); (case side2 => exact (Kd.Q_reads' HO321.out).2.1); (case side3 => refine (Kd.R_reads' (e := 46) (base := w.heap.size) (ok := fun k_ => (some k_ ≠ (v303 : Value).ownBlock ∧ (some k_ ≠ (.slice Ao35 t311.length co35 : Value).ownBlock ∧ some k_ ≠ (.slice Ao46 t319.length co46 : Value).ownBlock))) (n := t305.length) (c := co29) ?_).2.2; exact (rq (Kd.R_mono (Kd.R_far (p := ⟨gb324, 0, none⟩) (Kd.R_types HO307.out BK324.out (by decide)) (fun _ hk => hk.2) (.slice Ao46 t319.length co46)) (fun _ h_ => h_.1)))); (case side4 => exact (Kd.R_reads' HO307.out).2.1); rintro e w60 ⟨rfl, hb⟩; refine ⟨_, rfl, ?_⟩; have n0_ := Aside0.mk (Kd.R_below (rq (Kd.R_mono (Kd.R_far (p := ⟨gb324, 0, none⟩) (Kd.R_types HO304.out BK324.out (by decide)) (fun _ hk => hk.2) (.slice Ao46 t319.length co46)) (fun _ h_ => h_.1))) hb); have n1_ := Aside0.mk (Kd.R_below (rq (Kd.R_mono (Kd.R_far (p := ⟨gb324, 0, none⟩) (Kd.R_types HO307.out BK324.out (by decide)) (fun _ hk => hk.2) (.slice Ao46 t319.length co46)) (fun _ h_ => h_.1))) hb); have n2_ := Aside0.mk (Kd.R_below (rq (Kd.R_mono (Kd.R_far (p := ⟨gb324, 0, none⟩) (Kd.R_types HO313.out BK324.out (by decide)) (fun _ hk => hk.2) (.slice Ao46 t319.length co46)) (fun _ h_ => h_.1))) hb); have n3_ := Aside0.mk (Kd.Q_below (by (with_reducible repeat (first | apply Kd.Q_alloc | apply Kd.Q_drewN | apply Kd.Q_drew)); exact (Kd.Q_mono (Kd.Q_far (p := ⟨gb324, 0, none⟩) (Kd.Q_types HO321.out BK324.out (by decide)) (fun _ hk => hk.2) (.slice Ao46 t319.length co46)) (fun _ h_ => h_.1))) hb); have n4_ := Aside0.mk (blk_below (g := gb295) (o := .cells #[.int .i64 a0_0, .int .i64 a0_1, .int .i64 a0_2, .int .i64 a0_3] 23 (0, 0)) (by (with_reducible repeat (first | refine blk_drewN ?_ _ | refine blk_drew ?_ | refine blk_alloc ?_ _)); refine blk_far ?_ NB295_324.out _; (with_reducible repeat (first | refine blk_drewN ?_ _ | refine blk_drew ?_ | refine blk_alloc ?_ _)); exact BK295.out) hb); have n5_ := Aside0.mk (blk_below (g := gb296) (o := .cells #[.slice A1_0 l1_0.length c1_0] 26 (0, 0)) (by (with_reducible repeat (first | refine blk_drewN ?_ _ | refine blk_drew ?_ | refine blk_alloc ?_ _)); refine blk_far ?_ NB296_324.out _; (with_reducible repeat (first | refine blk_drewN ?_ _ | refine blk_drew ?_ | refine blk_alloc ?_ _)); exact BK296.out) hb); have n6_ := Aside0.mk (blk_below (g := gb310) (o := .cells #[.slice Ao29 t305.length co29] 31 (0, 0)) (by (with_reducible repeat (first | refine blk_drewN ?_ _ | refine blk_drew ?_ | refine blk_alloc ?_ _)); refine blk_far ?_ NB310_324.out _; (with_reducible repeat (first | refine blk_drewN ?_ _ | refine blk_drew ?_ | refine blk_alloc ?_ _)); exact BK310.out) hb); have n7_ := Aside0.mk (blk_below (g := gb314) (o := .cells #[.slice Ao35 t311.length co35] 31 (0, 0)) (by (with_reducible repeat (first | refine blk_drewN ?_ _ | refine blk_drew ?_ | refine blk_alloc ?_ _)); refine blk_far ?_ NB314_324.out _; (with_reducible repeat (first | refine blk_drewN ?_ _ | refine blk_drew ?_ | refine blk_alloc ?_ _)); exact BK314.out) hb); have n8_ := Aside0.mk (blk_below (g := gb324) (o := .cells #[.slice Ao46 t319.length co46] 31 (0, 0)) (by (with_reducible repeat (first | refine blk_drewN ?_ _ | refine blk_drew ?_ | refine blk_alloc ?_ _)); refine blk_put (cs := #[.slice none 0 0]) ?_ 0 _ rfl; (with_reducible repeat (first | refine blk_drewN ?_ _ | refine blk_drew ?_ | refine blk_alloc ?_ _)); exact BK324.out) hb); have n9_ := Aside0.mk (below_step (by repeat (first | (with_reducible first | exact HB.out | apply below_alloc | apply pw_below_drewN | apply below_drew1 | refine below_set ?_ GE324.out) | exact HB.out)) hb); clear HO304; clear HO307; clear HO313; clear HO321; clear BK295; clear BK296; clear BK310; clear BK314; clear BK324; clear HB; have HO304 := n0_; have HO307 := n1_; have HO313 := n2_; have HO321 := n3_; have BK295 := n4_; have BK296 := n5_; have BK310 := n6_; have BK314 := n7_; have BK324 := n8_; have HB := n9_; clear n0_ n1_ n2_ n3_ n4_ n5_ n6_ n7_ n8_ n9_; (try clear hb); (try clear hb2); (try clear hk); (try clear hi)))
     go_meet
     case rel => exact ⟨_, ((t323 != t309)), (by first | rfl | (simp; done) | (simp [*]; done)), H', ⟨by first | omega | exact Nat.le_refl _⟩, ⟨Kd.Q_of_R (by (with_reducible repeat (first | apply Kd.R_alloc | apply Kd.R_drewN | apply Kd.R_drew)); exact Kd.R_mono HO307.out (fun _ hk => ⟨hk.2.1, hk.2.2⟩))⟩, ⟨Kd.Q_of_R (by (with_reducible repeat (first | apply Kd.R_alloc | apply Kd.R_drewN | apply Kd.R_drew)); exact Kd.R_mono HO313.out (fun _ hk => ⟨hk.2.1, hk.2.2⟩))⟩, ⟨by (with_reducible repeat (first | apply Kd.Q_alloc | apply Kd.Q_drewN | apply Kd.Q_drew)); exact Kd.Q_mono HO321.out (fun _ hk => ⟨hk.2.1, hk.2.2⟩)⟩, ⟨by (with_reducible repeat (first | refine blk_drewN ?_ _ | refine blk_drew ?_ | refine blk_alloc ?_ _)); exact BK295.out⟩, ⟨by (with_reducible repeat (first | refine blk_drewN ?_ _ | refine blk_drew ?_ | refine blk_alloc ?_ _)); exact BK296.out⟩, ⟨by (with_reducible repeat (first | refine blk_drewN ?_ _ | refine blk_drew ?_ | refine blk_alloc ?_ _)); exact BK310.out⟩, ⟨by (with_reducible repeat (first | refine blk_drewN ?_ _ | refine blk_drew ?_ | refine blk_alloc ?_ _)); exact BK314.out⟩, ⟨by (with_reducible repeat (first | refine blk_drewN ?_ _ | refine blk_drew ?_ | refine blk_alloc ?_ _)); exact BK324.out⟩, ⟨by exact lq HB.out⟩⟩
    ·rw [if_neg c50] at H
     have c50b0 : (t322 == t308) = false := beq_eq_false_iff_ne.mpr c50
     have c50b1 : (t322 != t308) = true := bne_iff_ne.mpr c50
     (first | rw [c50b0] | (simp only [i64_w, i32_w]; rw [c50b0]) | skip)
     have H' := Aside0.mk H
     clear H
     have hnb61 := NB324_295.out
     have hnc61 := NB295_324.out
     have hnb62 := NB324_296.out
     have hnc62 := NB296_324.out
     have hnb63 := NB324_310.out
     have hnc63 := NB310_324.out
     have hnb64 := NB324_314.out
     have hnc64 := NB314_324.out
     have hcz65_0 : w45.cell? ⟨gb324, 0, none⟩ = some (.slice none 0 0) := (blk_cell BK324.out 0).trans rfl
     have hfz65_0 := blk_frozen BK324.out 0
     have hnb66 := NB310_295.out
     have hnc66 := NB295_310.out
     have hnb67 := NB310_296.out
     have hnc67 := NB296_310.out
     have hnb68 := NB310_314.out
     have hnc68 := NB314_310.out
     have hcz69_0 : w45.cell? ⟨gb310, 0, none⟩ = some (.slice Ao29 t305.length co29) := (blk_cell BK310.out 0).trans rfl
     have hfz69_0 := blk_frozen BK310.out 0
     go_wp2_with (first | ((with_reducible refine gate_callee (f := 19) rfl ?_); refine goesL_ (some 45) rfl rfl Try.func19 (by kernel_rfl) rfl #[.agg #[.slice Ao46 t319.length co46], .agg #[.slice Ao29 t305.length co29]] rfl (by (try simp only [List.map_toArray, List.map_cons, List.map_nil]); first | done | rfl | (simp only [List.length_drop, List.length_take]; rfl)) ?_; (with_reducible refine (laws_eqInEnd.calls k _ _ t319 _ _ t305 true _ ?side1 ?side2 ?side3 ?side4 A48.out).mono ?_); (case side1 => refine (Kd.Q_reads' (e := 46) (base := w.heap.size) (ok := fun k_ => (some k_ ≠ (v303 : Value).ownBlock ∧ (some k_ ≠ (.slice Ao29 t305.length co29 : Value).ownBlock ∧ some k_ ≠ (.slice Ao35 t311.length co35 : Value).ownBlock))) (n := t319.length) (c := co46) ?_).2.2; exact (by (with_reducible repeat (first | apply Kd.Q_alloc | apply Kd.Q_drewN | apply Kd.Q_drew)); exact (Kd.Q_mono (Kd.Q_far (p := ⟨gb324, 0, none⟩) (Kd.Q_types HO321.out BK324.out (by decide)) (fun _ hk => hk.2) (.slice Ao46 t319.length co46)) (fun _ h_ => h_.1)))); (case side2 => exact (Kd.Q_reads' HO321.out).2.1); (case side3 => refine (Kd.R_reads' (e := 46) (base := w.heap.size) (ok := fun k_ => (some k_ ≠ (v303 : Value).ownBlock ∧ (some k_ ≠ (.slice Ao35 t311.length co35 : Value).ownBlock ∧ some k_ ≠ (.slice Ao46 t319.length co46 : Value).ownBlock))) (n := t305.length) (c := co29) ?_).2.2; exact (rq (Kd.R_mono (Kd.R_far (p := ⟨gb324, 0, none⟩) (Kd.R_types HO307.out BK324.out (by decide)) (fun _ hk => hk.2) (.slice Ao46 t319.length co46)) (fun _ h_ => h_.1)))); (case side4 => exact (Kd.R_reads' HO307.out).2.1); rintro e w70 ⟨rfl, hb⟩; refine ⟨_, rfl, ?_⟩; have n0_ := Aside0.mk (Kd.R_below (rq (Kd.R_mono (Kd.R_far (p := ⟨gb324, 0, none⟩) (Kd.R_types HO304.out BK324.out (by decide)) (fun _ hk => hk.2) (.slice Ao46 t319.length co46)) (fun _ h_ => h_.1))) hb); have n1_ := Aside0.mk (Kd.R_below (rq (Kd.R_mono (Kd.R_far (p := ⟨gb324, 0, none⟩) (Kd.R_types HO307.out BK324.out (by decide)) (fun _ hk => hk.2) (.slice Ao46 t319.length co46)) (fun _ h_ => h_.1))) hb); have n2_ := Aside0.mk (Kd.R_below (rq (Kd.R_mono (Kd.R_far (p := ⟨gb324, 0, none⟩) (Kd.R_types HO313.out BK324.out (by decide)) (fun _ hk => hk.2) (.slice Ao46 t319.length co46)) (fun _ h_ => h_.1))) hb); have n3_ := Aside0.mk (Kd.Q_below (by (with_reducible repeat (first | apply Kd.Q_alloc | apply Kd.Q_drewN | apply Kd.Q_drew)); exact (Kd.Q_mono (Kd.Q_far (p := ⟨gb324, 0, none⟩) (Kd.Q_types HO321.out BK324.out (by decide)) (fun _ hk => hk.2) (.slice Ao46 t319.length co46)) (fun _ h_ => h_.1))) hb); have n4_ := Aside0.mk (blk_below (g := gb295) (o := .cells #[.int .i64 a0_0, .int .i64 a0_1, .int .i64 a0_2, .int .i64 a0_3] 23 (0, 0)) (by (with_reducible repeat (first | refine blk_drewN ?_ _ | refine blk_drew ?_ | refine blk_alloc ?_ _)); refine blk_far ?_ NB295_324.out _; (with_reducible repeat (first | refine blk_drewN ?_ _ | refine blk_drew ?_ | refine blk_alloc ?_ _)); exact BK295.out) hb); have n5_ := Aside0.mk (blk_below (g := gb296) (o := .cells #[.slice A1_0 l1_0.length c1_0] 26 (0, 0)) (by (with_reducible repeat (first | refine blk_drewN ?_ _ | refine blk_drew ?_ | refine blk_alloc ?_ _)); refine blk_far ?_ NB296_324.out _; (with_reducible repeat (first | refine blk_drewN ?_ _ | refine blk_drew ?_ | refine blk_alloc ?_ _)); exact BK296.out) hb); have n6_ := Aside0.mk (blk_below (g := gb310) (o := .cells #[.slice Ao29 t305.length co29] 31 (0, 0)) (by (with_reducible repeat (first | refine blk_drewN ?_ _ | refine blk_drew ?_ | refine blk_alloc ?_ _)); refine blk_far ?_ NB310_324.out _; (with_reducible repeat (first | refine blk_drewN ?_ _ | refine blk_drew ?_ | refine blk_alloc ?_ _)); exact BK310.out) hb); have n7_ := Aside0.mk (blk_below (g := gb314) (o := .cells #[.slice Ao35 t311.length co35] 31 (0, 0)) (by (with_reducible repeat (first | refine blk_drewN ?_ _ | refine blk_drew ?_ | refine blk_alloc ?_ _)); refine blk_far ?_ NB314_324.out _; (with_reducible repeat (first | refine blk_drewN ?_ _ | refine blk_drew ?_ | refine blk_alloc ?_ _)); exact BK314.out) hb); have n8_ := Aside0.mk (blk_below (g := gb324) (o := .cells #[.slice Ao46 t319.length co46] 31 (0, 0)) (by (with_reducible repeat (first | refine blk_drewN ?_ _ | refine blk_drew ?_ | refine blk_alloc ?_ _)); refine blk_put (cs := #[.slice none 0 0]) ?_ 0 _ rfl; (with_reducible repeat (first | refine blk_drewN ?_ _ | refine blk_drew ?_ | refine blk_alloc ?_ _)); exact BK324.out) hb); have n9_ := Aside0.mk (below_step (by repeat (first | (with_reducible first | exact HB.out | apply below_alloc | apply pw_below_drewN | apply below_drew1 | refine below_set ?_ GE324.out) | exact HB.out)) hb); clear HO304; clear HO307; clear HO313; clear HO321; clear BK295; clear BK296; clear BK310; clear BK314; clear BK324; clear HB; have HO304 := n0_; have HO307 := n1_; have HO313 := n2_; have HO321 := n3_; have BK295 := n4_; have BK296 := n5_; have BK310 := n6_; have BK314 := n7_; have BK324 := n8_; have HB := n9_; clear n0_ n1_ n2_ n3_ n4_ n5_ n6_ n7_ n8_ n9_; (try clear hb); (try clear hb2); (try clear hk); (try clear hi)))
     go_meet
     case rel => exact ⟨_, (true), (by first | rfl | (simp; done) | (simp [*]; done)), H', ⟨by first | omega | exact Nat.le_refl _⟩, ⟨Kd.Q_of_R (by (with_reducible repeat (first | apply Kd.R_alloc | apply Kd.R_drewN | apply Kd.R_drew)); exact Kd.R_mono HO307.out (fun _ hk => ⟨hk.2.1, hk.2.2⟩))⟩, ⟨Kd.Q_of_R (by (with_reducible repeat (first | apply Kd.R_alloc | apply Kd.R_drewN | apply Kd.R_drew)); exact Kd.R_mono HO313.out (fun _ hk => ⟨hk.2.1, hk.2.2⟩))⟩, ⟨by (with_reducible repeat (first | apply Kd.Q_alloc | apply Kd.Q_drewN | apply Kd.Q_drew)); exact Kd.Q_mono HO321.out (fun _ hk => ⟨hk.2.1, hk.2.2⟩)⟩, ⟨by (with_reducible repeat (first | refine blk_drewN ?_ _ | refine blk_drew ?_ | refine blk_alloc ?_ _)); exact BK295.out⟩, ⟨by (with_reducible repeat (first | refine blk_drewN ?_ _ | refine blk_drew ?_ | refine blk_alloc ?_ _)); exact BK296.out⟩, ⟨by (with_reducible repeat (first | refine blk_drewN ?_ _ | refine blk_drew ?_ | refine blk_alloc ?_ _)); exact BK310.out⟩, ⟨by (with_reducible repeat (first | refine blk_drewN ?_ _ | refine blk_drew ?_ | refine blk_alloc ?_ _)); exact BK314.out⟩, ⟨by (with_reducible repeat (first | refine blk_drewN ?_ _ | refine blk_drew ?_ | refine blk_alloc ?_ _)); exact BK324.out⟩, ⟨by exact lq HB.out⟩⟩
   ·replace c49 := Bool.eq_false_iff.mpr c49
    subst c49
    rw [if_neg (show ¬ (false = true) by decide)] at H
    have H' := Aside0.mk H
    clear H
    have hnb71 := NB324_295.out
    have hnc71 := NB295_324.out
    have hnb72 := NB324_296.out
    have hnc72 := NB296_324.out
    have hnb73 := NB324_310.out
    have hnc73 := NB310_324.out
    have hnb74 := NB324_314.out
    have hnc74 := NB314_324.out
    have hcz75_0 : w45.cell? ⟨gb324, 0, none⟩ = some (.slice none 0 0) := (blk_cell BK324.out 0).trans rfl
    have hfz75_0 := blk_frozen BK324.out 0
    have hnb76 := NB310_295.out
    have hnc76 := NB295_310.out
    have hnb77 := NB310_296.out
    have hnc77 := NB296_310.out
    have hnb78 := NB310_314.out
    have hnc78 := NB314_310.out
    have hcz79_0 : w45.cell? ⟨gb310, 0, none⟩ = some (.slice Ao29 t305.length co29) := (blk_cell BK310.out 0).trans rfl
    have hfz79_0 := blk_frozen BK310.out 0
    go_wp2_with (first | ((with_reducible refine gate_callee (f := 19) rfl ?_); refine goesL_ (some 45) rfl rfl Try.func19 (by kernel_rfl) rfl #[.agg #[.slice Ao46 t319.length co46], .agg #[.slice Ao29 t305.length co29]] rfl (by (try simp only [List.map_toArray, List.map_cons, List.map_nil]); first | done | rfl | (simp only [List.length_drop, List.length_take]; rfl)) ?_; (with_reducible refine (laws_eqInEnd.calls k _ _ t319 _ _ t305 false _ ?side1 ?side2 ?side3 ?side4 A48.out).mono ?_); (case side1 => refine (Kd.Q_reads' (e := 46) (base := w.heap.size) (ok := fun k_ => (some k_ ≠ (v303 : Value).ownBlock ∧ (some k_ ≠ (.slice Ao29 t305.length co29 : Value).ownBlock ∧ some k_ ≠ (.slice Ao35 t311.length co35 : Value).ownBlock))) (n := t319.length) (c := co46) ?_).2.2; exact (by (with_reducible repeat (first | apply Kd.Q_alloc | apply Kd.Q_drewN | apply Kd.Q_drew)); exact (Kd.Q_mono (Kd.Q_far (p := ⟨gb324, 0, none⟩) (Kd.Q_types HO321.out BK324.out (by decide)) (fun _ hk => hk.2) (.slice Ao46 t319.length co46)) (fun _ h_ => h_.1)))); (case side2 => exact (Kd.Q_reads' HO321.out).2.1); (case side3 => refine (Kd.R_reads' (e := 46) (base := w.heap.size) (ok := fun k_ => (some k_ ≠ (v303 : Value).ownBlock ∧ (some k_ ≠ (.slice Ao35 t311.length co35 : Value).ownBlock ∧ some k_ ≠ (.slice Ao46 t319.length co46 : Value).ownBlock))) (n := t305.length) (c := co29) ?_).2.2; exact (rq (Kd.R_mono (Kd.R_far (p := ⟨gb324, 0, none⟩) (Kd.R_types HO307.out BK324.out (by decide)) (fun _ hk => hk.2) (.slice Ao46 t319.length co46)) (fun _ h_ => h_.1)))); (case side4 => exact (Kd.R_reads' HO307.out).2.1); rintro e w80 ⟨rfl, hb⟩; refine ⟨_, rfl, ?_⟩; have n0_ := Aside0.mk (Kd.R_below (rq (Kd.R_mono (Kd.R_far (p := ⟨gb324, 0, none⟩) (Kd.R_types HO304.out BK324.out (by decide)) (fun _ hk => hk.2) (.slice Ao46 t319.length co46)) (fun _ h_ => h_.1))) hb); have n1_ := Aside0.mk (Kd.R_below (rq (Kd.R_mono (Kd.R_far (p := ⟨gb324, 0, none⟩) (Kd.R_types HO307.out BK324.out (by decide)) (fun _ hk => hk.2) (.slice Ao46 t319.length co46)) (fun _ h_ => h_.1))) hb); have n2_ := Aside0.mk (Kd.R_below (rq (Kd.R_mono (Kd.R_far (p := ⟨gb324, 0, none⟩) (Kd.R_types HO313.out BK324.out (by decide)) (fun _ hk => hk.2) (.slice Ao46 t319.length co46)) (fun _ h_ => h_.1))) hb); have n3_ := Aside0.mk (Kd.Q_below (by (with_reducible repeat (first | apply Kd.Q_alloc | apply Kd.Q_drewN | apply Kd.Q_drew)); exact (Kd.Q_mono (Kd.Q_far (p := ⟨gb324, 0, none⟩) (Kd.Q_types HO321.out BK324.out (by decide)) (fun _ hk => hk.2) (.slice Ao46 t319.length co46)) (fun _ h_ => h_.1))) hb); have n4_ := Aside0.mk (blk_below (g := gb295) (o := .cells #[.int .i64 a0_0, .int .i64 a0_1, .int .i64 a0_2, .int .i64 a0_3] 23 (0, 0)) (by (with_reducible repeat (first | refine blk_drewN ?_ _ | refine blk_drew ?_ | refine blk_alloc ?_ _)); refine blk_far ?_ NB295_324.out _; (with_reducible repeat (first | refine blk_drewN ?_ _ | refine blk_drew ?_ | refine blk_alloc ?_ _)); exact BK295.out) hb); have n5_ := Aside0.mk (blk_below (g := gb296) (o := .cells #[.slice A1_0 l1_0.length c1_0] 26 (0, 0)) (by (with_reducible repeat (first | refine blk_drewN ?_ _ | refine blk_drew ?_ | refine blk_alloc ?_ _)); refine blk_far ?_ NB296_324.out _; (with_reducible repeat (first | refine blk_drewN ?_ _ | refine blk_drew ?_ | refine blk_alloc ?_ _)); exact BK296.out) hb); have n6_ := Aside0.mk (blk_below (g := gb310) (o := .cells #[.slice Ao29 t305.length co29] 31 (0, 0)) (by (with_reducible repeat (first | refine blk_drewN ?_ _ | refine blk_drew ?_ | refine blk_alloc ?_ _)); refine blk_far ?_ NB310_324.out _; (with_reducible repeat (first | refine blk_drewN ?_ _ | refine blk_drew ?_ | refine blk_alloc ?_ _)); exact BK310.out) hb); have n7_ := Aside0.mk (blk_below (g := gb314) (o := .cells #[.slice Ao35 t311.length co35] 31 (0, 0)) (by (with_reducible repeat (first | refine blk_drewN ?_ _ | refine blk_drew ?_ | refine blk_alloc ?_ _)); refine blk_far ?_ NB314_324.out _; (with_reducible repeat (first | refine blk_drewN ?_ _ | refine blk_drew ?_ | refine blk_alloc ?_ _)); exact BK314.out) hb); have n8_ := Aside0.mk (blk_below (g := gb324) (o := .cells #[.slice Ao46 t319.length co46] 31 (0, 0)) (by (with_reducible repeat (first | refine blk_drewN ?_ _ | refine blk_drew ?_ | refine blk_alloc ?_ _)); refine blk_put (cs := #[.slice none 0 0]) ?_ 0 _ rfl; (with_reducible repeat (first | refine blk_drewN ?_ _ | refine blk_drew ?_ | refine blk_alloc ?_ _)); exact BK324.out) hb); have n9_ := Aside0.mk (below_step (by repeat (first | (with_reducible first | exact HB.out | apply below_alloc | apply pw_below_drewN | apply below_drew1 | refine below_set ?_ GE324.out) | exact HB.out)) hb); clear HO304; clear HO307; clear HO313; clear HO321; clear BK295; clear BK296; clear BK310; clear BK314; clear BK324; clear HB; have HO304 := n0_; have HO307 := n1_; have HO313 := n2_; have HO321 := n3_; have BK295 := n4_; have BK296 := n5_; have BK310 := n6_; have BK314 := n7_; have BK324 := n8_; have HB := n9_; clear n0_ n1_ n2_ n3_ n4_ n5_ n6_ n7_ n8_ n9_; (try clear hb); (try clear hb2); (try clear hk); (try clear hi)))
    go_meet
    case rel => exact ⟨_, (true), (by first | rfl | (simp; done) | (simp [*]; done)), H', ⟨by first | omega | exact Nat.le_refl _⟩, ⟨Kd.Q_of_R (by (with_reducible repeat (first | apply Kd.R_alloc | apply Kd.R_drewN | apply Kd.R_drew)); exact Kd.R_mono HO307.out (fun _ hk => ⟨hk.2.1, hk.2.2⟩))⟩, ⟨Kd.Q_of_R (by (with_reducible repeat (first | apply Kd.R_alloc | apply Kd.R_drewN | apply Kd.R_drew)); exact Kd.R_mono HO313.out (fun _ hk => ⟨hk.2.1, hk.2.2⟩))⟩, ⟨by (with_reducible repeat (first | apply Kd.Q_alloc | apply Kd.Q_drewN | apply Kd.Q_drew)); exact Kd.Q_mono HO321.out (fun _ hk => ⟨hk.2.1, hk.2.2⟩)⟩, ⟨by (with_reducible repeat (first | refine blk_drewN ?_ _ | refine blk_drew ?_ | refine blk_alloc ?_ _)); exact BK295.out⟩, ⟨by (with_reducible repeat (first | refine blk_drewN ?_ _ | refine blk_drew ?_ | refine blk_alloc ?_ _)); exact BK296.out⟩, ⟨by (with_reducible repeat (first | refine blk_drewN ?_ _ | refine blk_drew ?_ | refine blk_alloc ?_ _)); exact BK310.out⟩, ⟨by (with_reducible repeat (first | refine blk_drewN ?_ _ | refine blk_drew ?_ | refine blk_alloc ?_ _)); exact BK314.out⟩, ⟨by (with_reducible repeat (first | refine blk_drewN ?_ _ | refine blk_drew ?_ | refine blk_alloc ?_ _)); exact BK324.out⟩, ⟨by exact lq HB.out⟩⟩
  case rest =>
   clear HC16
   try clear c1
   try clear p2
   try clear c3
   try clear c4
   try clear c5
   try clear c6
   try clear c7
   try clear c16
   try clear c19
   try clear c32
   try clear c49
   try clear c50
   try clear c50b0
   try clear c50b1
   try clear c51
   try clear c52
   try clear c53
   try clear c54
   try clear c56
   try clear c57
   try clear c58
   try clear c61
   try clear c62
   try clear c63
   try clear c64
   try clear c66
   try clear c67
   try clear c68
   try clear c71
   try clear c72
   try clear c73
   try clear c74
   try clear c76
   try clear c77
   try clear c78
   try clear hcz55_0
   try clear hcz59_0
   try clear hcz65_0
   try clear hcz69_0
   try clear hcz75_0
   try clear hcz79_0
   try clear hfz55_0
   try clear hfz59_0
   try clear hfz65_0
   try clear hfz69_0
   try clear hfz75_0
   try clear hfz79_0
   obtain ⟨kq, x56_15, rfl, HA, HJ15, HO_311000, HO_315000, HO_325000, BK295, BK296, BK310, BK314, BK324, HB⟩ := hcut
   cases kq with
   | zero => exact absurd HA.out (by simp [laws_FnExactRecvOn.j0])
   | succ kj15 =>
    have H := HA.out
    clear HA
    simp only [laws_FnExactRecvOn.j0] at H
    by_cases c81 : x56_15 = true
    ·subst c81
     rw [if_pos rfl] at H
     exact absurd H (by simp)
    ·replace c81 := Bool.eq_false_iff.mpr c81
     subst c81
     rw [if_neg (show ¬ (false = true) by decide)] at H
     replace H := Option.bind_eq_some_iff.mp H
     obtain ⟨t326, A820, H⟩ := H
     (try dsimp only at H)
     have A82 := Aside0.mk A820
     clear A820
     replace H := Option.bind_eq_some_iff.mp H
     obtain ⟨t329, A830, H⟩ := H
     (try dsimp only at H)
     have A83 := Aside0.mk A830
     clear A830
     by_cases c84 : t329 = true
     ·subst c84
      rw [if_pos rfl] at H
      replace H := Option.bind_eq_some_iff.mp H
      obtain ⟨⟨t330, t331⟩, A850, H⟩ := H
      (try dsimp only at H)
      have A85 := Aside0.mk A850
      clear A850
      have HC86 := Aside0.mk H
      clear H
      try go_wp2
      have n0_ := Aside0.mk (Kd.Q_drew HO_311000.out)
      have n1_ := Aside0.mk (Kd.Q_drew HO_315000.out)
      have n2_ := Aside0.mk (Kd.Q_drew HO_325000.out)
      have n3_ := Aside0.mk (blk_drew BK295.out)
      have n4_ := Aside0.mk (blk_drew BK296.out)
      have n5_ := Aside0.mk (blk_drew BK310.out)
      have n6_ := Aside0.mk (blk_drew BK314.out)
      have n7_ := Aside0.mk (blk_drew BK324.out)
      have n8_ := Aside0.mk (below_drew1 HB.out)
      clear HO_311000
      clear HO_315000
      clear HO_325000
      clear BK295
      clear BK296
      clear BK310
      clear BK314
      clear BK324
      clear HB
      have HO_311000 := n0_
      have HO_315000 := n1_
      have HO_325000 := n2_
      have BK295 := n3_
      have BK296 := n4_
      have BK310 := n5_
      have BK314 := n6_
      have BK324 := n7_
      have HB := n8_
      clear n0_ n1_ n2_ n3_ n4_ n5_ n6_ n7_ n8_
      refine start_ (n := 5) (S := fun w' => w'.cell? ⟨gb314, 0, none⟩ = some (.slice Ao35 t311.length co35) ∧ w'.cell? ⟨gb296, 0, none⟩ = some (.slice A1_0 l1_0.length c1_0)) (ds := []) #[false, false, false, false, false] (by kernel_rfl) rfl rfl ⟨(blk_cell BK314.out 0).trans rfl, (blk_cell BK296.out 0).trans rfl⟩ (fun hHeld => ?_)
      generalize wc.drew = w87 at HO_311000 HO_315000 HO_325000 BK295 BK296 BK310 BK314 BK324 HB hHeld ⊢
      refine take_ (i := 0) (N := some 57) (v := ?_) (a' := ?_) #[true, false, false, false, false] rfl rfl (by kernel_rfl) (fun _ _ _ h => h) (Or.inl ⟨by rfl, ?_⟩) hHeld ?_ ?_
      rotate_left
      ·rintro w' ⟨s0, s1⟩
       go_simp
       with_reducible rfl
      rotate_left
      ·simp only [Act.put, List.setIfInBounds_toArray, List.set_cons_zero, List.set_cons_succ, i64_w, i32_w]
       rfl
      refine take_ (i := 1) (N := some 58) (v := ?_) (a' := ?_) #[true, true, false, false, false] rfl rfl (by kernel_rfl) (fun _ _ _ h => h) (Or.inl ⟨by rfl, ?_⟩) hHeld ?_ ?_
      rotate_left
      ·rintro w' ⟨s0, s1⟩
       go_simp
       with_reducible rfl
      rotate_left
      ·simp only [Act.put, List.setIfInBounds_toArray, List.set_cons_zero, List.set_cons_succ, i64_w, i32_w]
       rfl
      refine one_ (i := 2) (N := some 59) #[true, true, true, false, false] rfl rfl (by kernel_rfl) (by decide) (fun K hK => ?_)
      refine goes_ Try.func17 (by kernel_rfl) rfl #[.agg #[.slice A1_0 l1_0.length c1_0]] (by rfl) rfl rfl (by (try simp only [List.map_toArray, List.map_cons, List.map_nil]); first | done | rfl | (simp only [List.length_drop, List.length_take]; rfl)) ?_
      with_reducible refine (laws_toInEnd.calls kj15 _ _ l1_0 t326 _ ?side1 ?side2 A82.out).mono ?_
      (case side1 => repeat (first | exact (Kd.C_below HR1_0.out HB.out) | (with_reducible refine Kd.C_alloc ?_ _) | (with_reducible refine Kd.C_drewN ?_ _) | (with_reducible refine Kd.C_drew ?_)))
      (case side2 => exact HC1_0.out)
      rintro e w88 ⟨v327, rfl, ho0, hb⟩
      refine ⟨_, rfl, ?_⟩
      have n0_ := Aside0.mk (Kd.Q_elder' (by (with_reducible repeat (first | apply Kd.Q_alloc | apply Kd.Q_drewN | apply Kd.Q_drew)); exact HO_311000.out) (Kd.R_base ho0) hb)
      have n1_ := Aside0.mk (Kd.Q_elder' (by (with_reducible repeat (first | apply Kd.Q_alloc | apply Kd.Q_drewN | apply Kd.Q_drew)); exact HO_315000.out) (Kd.R_base ho0) hb)
      have n2_ := Aside0.mk (Kd.Q_elder' (by (with_reducible repeat (first | apply Kd.Q_alloc | apply Kd.Q_drewN | apply Kd.Q_drew)); exact HO_325000.out) (Kd.R_base ho0) hb)
      have n3_ := Aside0.mk (Kd.R_lower (Kd.R_new' (Kd.R_new' (Kd.R_new' ho0 (Kd.Q_lt (by (with_reducible repeat (first | apply Kd.Q_alloc | apply Kd.Q_drewN | apply Kd.Q_drew)); exact HO_311000.out))) (Kd.Q_lt (by (with_reducible repeat (first | apply Kd.Q_alloc | apply Kd.Q_drewN | apply Kd.Q_drew)); exact HO_315000.out))) (Kd.Q_lt (by (with_reducible repeat (first | apply Kd.Q_alloc | apply Kd.Q_drewN | apply Kd.Q_drew)); exact HO_325000.out))) (below_size (lq HB.out)))
      have n4_ := Aside0.mk (blk_below (bq BK295.out) hb)
      have n5_ := Aside0.mk (blk_below (bq BK296.out) hb)
      have n6_ := Aside0.mk (blk_below (bq BK310.out) hb)
      have n7_ := Aside0.mk (blk_below (bq BK314.out) hb)
      have n8_ := Aside0.mk (blk_below (bq BK324.out) hb)
      have n9_ := Aside0.mk (below_step (lq HB.out) hb)
      clear HO_311000
      clear HO_315000
      clear HO_325000
      clear BK295
      clear BK296
      clear BK310
      clear BK314
      clear BK324
      clear HB
      have HO_311000 := n0_
      have HO_315000 := n1_
      have HO_325000 := n2_
      have HO328 := n3_
      have BK295 := n4_
      have BK296 := n5_
      have BK310 := n6_
      have BK314 := n7_
      have BK324 := n8_
      have HB := n9_
      clear n0_ n1_ n2_ n3_ n4_ n5_ n6_ n7_ n8_ n9_
      (try clear hb)
      (try clear hb2)
      (try clear hk)
      (try clear hi)
      (try clear ho0)
      obtain ⟨Ao89, co89, eo89⟩ := Kd.R_slice HO328.out
      (first | subst eo89 | (injection eo89 with f1_ f2_ f3_; have f4_ := f1_.symm; have f5_ := f3_.symm; clear f1_ f2_ f3_; subst f4_; subst f5_))
      refine hK.out _ _ ⟨(blk_cell BK314.out 0).trans rfl, (blk_cell BK296.out 0).trans rfl⟩ (fun hHeld => ?_)
      clear hK K
      refine norm_ (a' := ?_) ?_ ?_
      rotate_left
      ·show Act.put _ (some 59) _ = _
       simp only [Act.put, List.setIfInBounds_toArray, List.set_cons_zero, List.set_cons_succ, i64_w, i32_w]
       rfl
      refine one_ (i := 3) (N := some 60) #[true, true, true, true, false] rfl rfl (by kernel_rfl) (by decide) (fun K hK => ?_)
      refine goes_ Try.func19 (by kernel_rfl) rfl #[.agg #[.slice Ao35 t311.length co35], .agg #[.slice Ao89 t326.length co89]] (by rfl) rfl rfl (by (try simp only [List.map_toArray, List.map_cons, List.map_nil]); first | done | rfl | (simp only [List.length_drop, List.length_take]; rfl)) ?_
      with_reducible refine (laws_eqInEnd.calls kj15 _ _ t311 _ _ t326 true _ ?side1 ?side2 ?side3 ?side4 A83.out).mono ?_
      (case side1 => repeat (first | exact (Kd.Q_reads' HO_315000.out).2.2 | (with_reducible refine Kd.C_alloc ?_ _) | (with_reducible refine Kd.C_drewN ?_ _) | (with_reducible refine Kd.C_drew ?_)))
      (case side2 => exact (Kd.Q_reads' HO_315000.out).2.1)
      (case side3 => repeat (first | exact (Kd.R_reads' HO328.out).2.2 | (with_reducible refine Kd.C_alloc ?_ _) | (with_reducible refine Kd.C_drewN ?_ _) | (with_reducible refine Kd.C_drew ?_)))
      (case side4 => exact (Kd.R_reads' HO328.out).2.1)
      rintro e w90 ⟨rfl, hb⟩
      refine ⟨_, rfl, ?_⟩
      have n0_ := Aside0.mk (Kd.Q_below (by (with_reducible repeat (first | apply Kd.Q_alloc | apply Kd.Q_drewN | apply Kd.Q_drew)); exact HO_311000.out) hb)
      have n1_ := Aside0.mk (Kd.Q_below (by (with_reducible repeat (first | apply Kd.Q_alloc | apply Kd.Q_drewN | apply Kd.Q_drew)); exact HO_315000.out) hb)
      have n2_ := Aside0.mk (Kd.Q_below (by (with_reducible repeat (first | apply Kd.Q_alloc | apply Kd.Q_drewN | apply Kd.Q_drew)); exact HO_325000.out) hb)
      have n3_ := Aside0.mk (Kd.R_below (rq HO328.out) hb)
      have n4_ := Aside0.mk (blk_below (bq BK295.out) hb)
      have n5_ := Aside0.mk (blk_below (bq BK296.out) hb)
      have n6_ := Aside0.mk (blk_below (bq BK310.out) hb)
      have n7_ := Aside0.mk (blk_below (bq BK314.out) hb)
      have n8_ := Aside0.mk (blk_below (bq BK324.out) hb)
      have n9_ := Aside0.mk (below_step (lq HB.out) hb)
      clear HO_311000
      clear HO_315000
      clear HO_325000
      clear HO328
      clear BK295
      clear BK296
      clear BK310
      clear BK314
      clear BK324
      clear HB
      have HO_311000 := n0_
      have HO_315000 := n1_
      have HO_325000 := n2_
      have HO328 := n3_
      have BK295 := n4_
      have BK296 := n5_
      have BK310 := n6_
      have BK314 := n7_
      have BK324 := n8_
      have HB := n9_
      clear n0_ n1_ n2_ n3_ n4_ n5_ n6_ n7_ n8_ n9_
      (try clear hb)
      (try clear hb2)
      (try clear hk)
      (try clear hi)
      refine hK.out _ _ ⟨(blk_cell BK314.out 0).trans rfl, (blk_cell BK296.out 0).trans rfl⟩ (fun hHeld => ?_)
      clear hK K
      refine norm_ (a' := ?_) ?_ ?_
      rotate_left
      ·show Act.put _ (some 60) _ = _
       simp only [Act.put, List.setIfInBounds_toArray, List.set_cons_zero, List.set_cons_succ, i64_w, i32_w]
       rfl
      refine pure_ (i := 4) (N := some 61) (v := ?_) (a' := ?_) #[true, true, true, true, true] rfl rfl (by kernel_rfl) (fun _ _ _ h => h) (Or.inl ⟨by rfl, ?_⟩) ?_ ?_
      rotate_left
      ·intro w'
       go_simp
       with_reducible rfl
      rotate_left
      ·simp only [Act.put, List.setIfInBounds_toArray, List.set_cons_zero, List.set_cons_succ, i64_w, i32_w]
       rfl
      refine done_ (by kernel_rfl) ?_
      have hnb91 := NB314_295.out
      have hnc91 := NB295_314.out
      have hnb92 := NB314_296.out
      have hnc92 := NB296_314.out
      have hnb93 := NB314_310.out
      have hnc93 := NB310_314.out
      have hnb94 := NB314_324.out
      have hnc94 := NB324_314.out
      have hcz95_0 : w90.cell? ⟨gb314, 0, none⟩ = some (.slice Ao35 t311.length co35) := (blk_cell BK314.out 0).trans rfl
      have hfz95_0 := blk_frozen BK314.out 0
      go_upto_region 14 with (first | ((with_reducible refine gate_callee (f := 33) rfl ?_); refine goesL_ (some 64) rfl rfl Try.func33 (by kernel_rfl) rfl #[.agg #[.slice Ao35 t311.length co35], .int .i64 1] rfl (by (try simp only [List.map_toArray, List.map_cons, List.map_nil]); first | done | rfl | (simp only [List.length_drop, List.length_take]; rfl)) ?_; (with_reducible refine (laws_markInEnd.callsQ kj15 (fun k_ => some k_ = (.slice Ao35 t311.length co35 : Value).ownBlock) (.slice Ao35 t311.length co35) t311 1 t330 t331 w _ ?side1 ?side2 A85.out).mono ?_); (case side1 => exact lq HB.out); (case side2 => exact Kd.Q_tight rfl HO_315000.out); rintro e w96 ⟨rfl, hy0, hb, hkp⟩; refine ⟨_, rfl, ?_⟩; have n0_ := Aside0.mk (Kd.Q_mono (ok' := fun k_ => some k_ ≠ (.slice Ao35 t311.length co35 : Value).ownBlock ∧ some k_ ≠ (.slice Ao46 t319.length co46 : Value).ownBlock ∧ some k_ ≠ (.slice Ao89 t326.length co89 : Value).ownBlock) (Kd.Q_keptB (HO_311000.out) hkp (fun k_ hk_ hs_ => (hk_.1.1) hs_)) (fun k_ hk_ => ⟨hk_.1.1.1, hk_.1.1.2, hk_.1.2⟩)); have n1_ := Aside0.mk (Kd.Q_reok rfl hy0 (fun k_ e_ => HO_315000.out.1 k_ e_)); have n2_ := Aside0.mk (Kd.Q_mono (ok' := fun k_ => some k_ ≠ (.slice Ao29 t305.length co29 : Value).ownBlock ∧ some k_ ≠ (.slice Ao35 t311.length co35 : Value).ownBlock ∧ some k_ ≠ (.slice Ao89 t326.length co89 : Value).ownBlock) (Kd.Q_keptB (HO_325000.out) hkp (fun k_ hk_ hs_ => (hk_.1.2) hs_)) (fun k_ hk_ => ⟨hk_.1.1.1, hk_.1.1.2, hk_.1.2⟩)); have n3_ := Aside0.mk (blk_kept (bq BK295.out) hkp (fun hs_ => (fun e_ => (Kd.Q_ne HO_315000.out BK295.out (by decide)) e_) hs_)); have n4_ := Aside0.mk (blk_kept (bq BK296.out) hkp (fun hs_ => (fun e_ => (Kd.Q_ne HO_315000.out BK296.out (by decide)) e_) hs_)); have n5_ := Aside0.mk (blk_kept (bq BK310.out) hkp (fun hs_ => (fun e_ => (Kd.Q_ne HO_315000.out BK310.out (by decide)) e_) hs_)); have n6_ := Aside0.mk (blk_kept (bq BK314.out) hkp (fun hs_ => (fun e_ => (Kd.Q_ne HO_315000.out BK314.out (by decide)) e_) hs_)); have n7_ := Aside0.mk (blk_kept (bq BK324.out) hkp (fun hs_ => (fun e_ => (Kd.Q_ne HO_315000.out BK324.out (by decide)) e_) hs_)); have n8_ := Aside0.mk (Kd.R_mono (ok' := fun k_ => some k_ ≠ (.slice Ao29 t305.length co29 : Value).ownBlock ∧ some k_ ≠ (.slice Ao35 t311.length co35 : Value).ownBlock ∧ some k_ ≠ (.slice Ao46 t319.length co46 : Value).ownBlock) (Kd.R_keptB (HO328.out) hkp (fun k_ hk_ hs_ => (hk_.1.2) hs_)) (fun k_ hk_ => ⟨hk_.1.1.1.2, hk_.1.1.2, hk_.1.2⟩)); have n9_ := Aside0.mk (hb); clear HO_311000; clear HO_315000; clear HO_325000; clear BK295; clear BK296; clear BK310; clear BK314; clear BK324; clear HO328; clear HB; have HO_311000 := n0_; have HO_315000 := n1_; have HO_325000 := n2_; have BK295 := n3_; have BK296 := n4_; have BK310 := n5_; have BK314 := n6_; have BK324 := n7_; have HO328 := n8_; have HB := n9_; clear n0_ n1_ n2_ n3_ n4_ n5_ n6_ n7_ n8_ n9_; (try clear hb); (try clear hkp); (try clear hy0)))
      (try simp only [Act.put, List.setIfInBounds_toArray, List.set_cons_zero, List.set_cons_succ])
      go_cut [82] (fun v82 wc => ∃ (kq : Nat) (x82_85 : Bool), v82 = .bool x82_85 ∧ Aside0 (laws_FnExactRecvOn.j1 kq t308 t309 x82_85 a0_0 a0_1 a0_2 a0_3 l1_0 t305 t319 = some true) ∧ Aside0 (kq ≤ kj15) ∧ Aside0 (Kd.Q (Kd.int .u32) 46 wc w.heap.size (fun k_ => some k_ ≠ ((.slice Ao35 t311.length co35) : Value).ownBlock ∧ some k_ ≠ ((.slice Ao46 t319.length co46) : Value).ownBlock) (.slice Ao29 t305.length co29) t305) ∧ Aside0 (Kd.Q (Kd.int .u32) 46 wc w.heap.size (fun k_ => some k_ ≠ ((.slice Ao29 t305.length co29) : Value).ownBlock ∧ some k_ ≠ ((.slice Ao46 t319.length co46) : Value).ownBlock) (.slice Ao35 t311.length co35) t331) ∧ Aside0 (Kd.Q (Kd.int .u32) 46 wc w.heap.size (fun k_ => some k_ ≠ ((.slice Ao29 t305.length co29) : Value).ownBlock ∧ some k_ ≠ ((.slice Ao35 t311.length co35) : Value).ownBlock) (.slice Ao46 t319.length co46) t319) ∧ Aside0 (wc.heap[gb295]? = some (.cells #[.int .i64 a0_0, .int .i64 a0_1, .int .i64 a0_2, .int .i64 a0_3] 23 (0, 0))) ∧ Aside0 (wc.heap[gb296]? = some (.cells #[(.slice A1_0 l1_0.length c1_0)] 26 (0, 0))) ∧ Aside0 (wc.heap[gb310]? = some (.cells #[(.slice Ao29 t305.length co29)] 31 (0, 0))) ∧ Aside0 (wc.heap[gb314]? = some (.cells #[(.slice Ao35 t311.length co35)] 31 (0, 0))) ∧ Aside0 (wc.heap[gb324]? = some (.cells #[(.slice Ao46 t319.length co46)] 31 (0, 0))) ∧ Aside0 (Below w.heap.size w wc))
      case first =>
       have H := HC86.out
       clear HC86
       by_cases c97 : t330 < 0
       ·rw [if_pos c97] at H
        have c97b0 : decide (t330 < 0) = true := decide_eq_true c97
        clear c97
        (first | rw [c97b0] | (simp only [i64_w, i32_w]; rw [c97b0]) | skip)
        have H' := Aside0.mk H
        clear H
        go_wp2
        go_meet
        case rel => exact ⟨_, (true), (by first | rfl | (simp; done) | (simp [*]; done)), H', ⟨by have := HJ15.out; first | omega | exact Nat.le_refl _⟩, ⟨by (with_reducible repeat (first | apply Kd.Q_alloc | apply Kd.Q_drewN | apply Kd.Q_drew)); exact Kd.Q_mono HO_311000.out (fun _ hk => ⟨hk.1, hk.2.1⟩)⟩, ⟨by (with_reducible repeat (first | apply Kd.Q_alloc | apply Kd.Q_drewN | apply Kd.Q_drew)); exact Kd.Q_mono HO_315000.out (fun _ hk => ⟨hk.1.1, hk.1.2⟩)⟩, ⟨by (with_reducible repeat (first | apply Kd.Q_alloc | apply Kd.Q_drewN | apply Kd.Q_drew)); exact Kd.Q_mono HO_325000.out (fun _ hk => ⟨hk.1, hk.2.1⟩)⟩, ⟨by (with_reducible repeat (first | refine blk_drewN ?_ _ | refine blk_drew ?_ | refine blk_alloc ?_ _)); exact BK295.out⟩, ⟨by (with_reducible repeat (first | refine blk_drewN ?_ _ | refine blk_drew ?_ | refine blk_alloc ?_ _)); exact BK296.out⟩, ⟨by (with_reducible repeat (first | refine blk_drewN ?_ _ | refine blk_drew ?_ | refine blk_alloc ?_ _)); exact BK310.out⟩, ⟨by (with_reducible repeat (first | refine blk_drewN ?_ _ | refine blk_drew ?_ | refine blk_alloc ?_ _)); exact BK314.out⟩, ⟨by (with_reducible repeat (first | refine blk_drewN ?_ _ | refine blk_drew ?_ | refine blk_alloc ?_ _)); exact BK324.out⟩, ⟨by exact lq HB.out⟩⟩
       ·rw [if_neg c97] at H
        have c97b0 : decide (t330 < 0) = false := decide_eq_false c97
        clear c97
        (first | rw [c97b0] | (simp only [i64_w, i32_w]; rw [c97b0]) | skip)
        replace H := Option.bind_eq_some_iff.mp H
        obtain ⟨t332, A980, H⟩ := H
        (try dsimp only at H)
        have A98 := Aside0.mk A980
        clear A980
        by_cases c99 : t332 = true
        ·subst c99
         rw [if_pos rfl] at H
         by_cases c100 : t322 = t308
         ·rw [if_pos c100] at H
          have c100b0 : (t322 == t308) = true := beq_iff_eq.mpr c100
          have c100b1 : (t322 != t308) = false := bne_eq_false_iff_eq.mpr c100
          clear c100
          have H' := Aside0.mk H
          clear H
          have hnb101 := NB324_295.out
          have hnc101 := NB295_324.out
          have hnb102 := NB324_296.out
          have hnc102 := NB296_324.out
          have hnb103 := NB324_310.out
          have hnc103 := NB310_324.out
          have hnb104 := NB324_314.out
          have hnc104 := NB314_324.out
          have hcz105_0 : w96.cell? ⟨gb324, 0, none⟩ = some (.slice Ao46 t319.length co46) := (blk_cell BK324.out 0).trans rfl
          have hfz105_0 := blk_frozen BK324.out 0
          have hnb106 := NB310_295.out
          have hnc106 := NB295_310.out
          have hnb107 := NB310_296.out
          have hnc107 := NB296_310.out
          have hnb108 := NB310_314.out
          have hnc108 := NB314_310.out
          have hcz109_0 : w96.cell? ⟨gb310, 0, none⟩ = some (.slice Ao29 t305.length co29) := (blk_cell BK310.out 0).trans rfl
          have hfz109_0 := blk_frozen BK310.out 0
          go_wp2_with (first | (go_at_call 19; (with_reducible refine (laws_eqInEnd.calls kj15 _ _ t319 _ _ t305 true _ ?side1 ?side2 ?side3 ?side4 A98.out).mono ?_); (case side1 => repeat (first | exact (Kd.Q_reads' HO_325000.out).2.2 | (with_reducible refine Kd.C_alloc ?_ _) | (with_reducible refine Kd.C_drewN ?_ _) | (with_reducible refine Kd.C_drew ?_))); (case side2 => exact (Kd.Q_reads' HO_325000.out).2.1); (case side3 => repeat (first | exact (Kd.Q_reads' HO_311000.out).2.2 | (with_reducible refine Kd.C_alloc ?_ _) | (with_reducible refine Kd.C_drewN ?_ _) | (with_reducible refine Kd.C_drew ?_))); (case side4 => exact (Kd.Q_reads' HO_311000.out).2.1); rintro e w110 ⟨rfl, hb⟩; have n0_ := Aside0.mk (Kd.Q_below (by (with_reducible repeat (first | apply Kd.Q_alloc | apply Kd.Q_drewN | apply Kd.Q_drew)); exact HO_311000.out) hb); have n1_ := Aside0.mk (Kd.Q_below (by (with_reducible repeat (first | apply Kd.Q_alloc | apply Kd.Q_drewN | apply Kd.Q_drew)); exact HO_315000.out) hb); have n2_ := Aside0.mk (Kd.Q_below (by (with_reducible repeat (first | apply Kd.Q_alloc | apply Kd.Q_drewN | apply Kd.Q_drew)); exact HO_325000.out) hb); have n3_ := Aside0.mk (Kd.R_below (rq HO328.out) hb); have n4_ := Aside0.mk (blk_below (bq BK295.out) hb); have n5_ := Aside0.mk (blk_below (bq BK296.out) hb); have n6_ := Aside0.mk (blk_below (bq BK310.out) hb); have n7_ := Aside0.mk (blk_below (bq BK314.out) hb); have n8_ := Aside0.mk (blk_below (bq BK324.out) hb); have n9_ := Aside0.mk (below_step (lq HB.out) hb); clear HO_311000; clear HO_315000; clear HO_325000; clear HO328; clear BK295; clear BK296; clear BK310; clear BK314; clear BK324; clear HB; have HO_311000 := n0_; have HO_315000 := n1_; have HO_325000 := n2_; have HO328 := n3_; have BK295 := n4_; have BK296 := n5_; have BK310 := n6_; have BK314 := n7_; have BK324 := n8_; have HB := n9_; clear n0_ n1_ n2_ n3_ n4_ n5_ n6_ n7_ n8_ n9_; (try clear hb); (try clear hb2); (try clear hk); (try clear hi)))
          go_meet
          case rel => exact ⟨_, ((t323 != t309)), (by first | rfl | (simp; done) | (simp [*]; done)), H', ⟨by have := HJ15.out; first | omega | exact Nat.le_refl _⟩, ⟨by (with_reducible repeat (first | apply Kd.Q_alloc | apply Kd.Q_drewN | apply Kd.Q_drew)); exact Kd.Q_mono HO_311000.out (fun _ hk => ⟨hk.1, hk.2.1⟩)⟩, ⟨by (with_reducible repeat (first | apply Kd.Q_alloc | apply Kd.Q_drewN | apply Kd.Q_drew)); exact Kd.Q_mono HO_315000.out (fun _ hk => ⟨hk.1.1, hk.1.2⟩)⟩, ⟨by (with_reducible repeat (first | apply Kd.Q_alloc | apply Kd.Q_drewN | apply Kd.Q_drew)); exact Kd.Q_mono HO_325000.out (fun _ hk => ⟨hk.1, hk.2.1⟩)⟩, ⟨by (with_reducible repeat (first | refine blk_drewN ?_ _ | refine blk_drew ?_ | refine blk_alloc ?_ _)); exact BK295.out⟩, ⟨by (with_reducible repeat (first | refine blk_drewN ?_ _ | refine blk_drew ?_ | refine blk_alloc ?_ _)); exact BK296.out⟩, ⟨by (with_reducible repeat (first | refine blk_drewN ?_ _ | refine blk_drew ?_ | refine blk_alloc ?_ _)); exact BK310.out⟩, ⟨by (with_reducible repeat (first | refine blk_drewN ?_ _ | refine blk_drew ?_ | refine blk_alloc ?_ _)); exact BK314.out⟩, ⟨by (with_reducible repeat (first | refine blk_drewN ?_ _ | refine blk_drew ?_ | refine blk_alloc ?_ _)); exact BK324.out⟩, ⟨by exact lq HB.out⟩⟩
         ·rw [if_neg c100] at H
          have c100b0 : (t322 == t308) = false := beq_eq_false_iff_ne.mpr c100
          have c100b1 : (t322 != t308) = true := bne_iff_ne.mpr c100
          have H' := Aside0.mk H
          clear H
          have hnb111 := NB324_295.out
          have hnc111 := NB295_324.out
          have hnb112 := NB324_296.out
          have hnc112 := NB296_324.out
          have hnb113 := NB324_310.out
          have hnc113 := NB310_324.out
          have hnb114 := NB324_314.out
          have hnc114 := NB314_324.out
          have hcz115_0 : w96.cell? ⟨gb324, 0, none⟩ = some (.slice Ao46 t319.length co46) := (blk_cell BK324.out 0).trans rfl
          have hfz115_0 := blk_frozen BK324.out 0
          have hnb116 := NB310_295.out
          have hnc116 := NB295_310.out
          have hnb117 := NB310_296.out
          have hnc117 := NB296_310.out
          have hnb118 := NB310_314.out
          have hnc118 := NB314_310.out
          have hcz119_0 : w96.cell? ⟨gb310, 0, none⟩ = some (.slice Ao29 t305.length co29) := (blk_cell BK310.out 0).trans rfl
          have hfz119_0 := blk_frozen BK310.out 0
          go_wp2_with (first | (go_at_call 19; (with_reducible refine (laws_eqInEnd.calls kj15 _ _ t319 _ _ t305 true _ ?side1 ?side2 ?side3 ?side4 A98.out).mono ?_); (case side1 => repeat (first | exact (Kd.Q_reads' HO_325000.out).2.2 | (with_reducible refine Kd.C_alloc ?_ _) | (with_reducible refine Kd.C_drewN ?_ _) | (with_reducible refine Kd.C_drew ?_))); (case side2 => exact (Kd.Q_reads' HO_325000.out).2.1); (case side3 => repeat (first | exact (Kd.Q_reads' HO_311000.out).2.2 | (with_reducible refine Kd.C_alloc ?_ _) | (with_reducible refine Kd.C_drewN ?_ _) | (with_reducible refine Kd.C_drew ?_))); (case side4 => exact (Kd.Q_reads' HO_311000.out).2.1); rintro e w120 ⟨rfl, hb⟩; have n0_ := Aside0.mk (Kd.Q_below (by (with_reducible repeat (first | apply Kd.Q_alloc | apply Kd.Q_drewN | apply Kd.Q_drew)); exact HO_311000.out) hb); have n1_ := Aside0.mk (Kd.Q_below (by (with_reducible repeat (first | apply Kd.Q_alloc | apply Kd.Q_drewN | apply Kd.Q_drew)); exact HO_315000.out) hb); have n2_ := Aside0.mk (Kd.Q_below (by (with_reducible repeat (first | apply Kd.Q_alloc | apply Kd.Q_drewN | apply Kd.Q_drew)); exact HO_325000.out) hb); have n3_ := Aside0.mk (Kd.R_below (rq HO328.out) hb); have n4_ := Aside0.mk (blk_below (bq BK295.out) hb); have n5_ := Aside0.mk (blk_below (bq BK296.out) hb); have n6_ := Aside0.mk (blk_below (bq BK310.out) hb); have n7_ := Aside0.mk (blk_below (bq BK314.out) hb); have n8_ := Aside0.mk (blk_below (bq BK324.out) hb); have n9_ := Aside0.mk (below_step (lq HB.out) hb); clear HO_311000; clear HO_315000; clear HO_325000; clear HO328; clear BK295; clear BK296; clear BK310; clear BK314; clear BK324; clear HB; have HO_311000 := n0_; have HO_315000 := n1_; have HO_325000 := n2_; have HO328 := n3_; have BK295 := n4_; have BK296 := n5_; have BK310 := n6_; have BK314 := n7_; have BK324 := n8_; have HB := n9_; clear n0_ n1_ n2_ n3_ n4_ n5_ n6_ n7_ n8_ n9_; (try clear hb); (try clear hb2); (try clear hk); (try clear hi)))
          go_meet
          case rel => exact ⟨_, (true), (by first | rfl | (simp; done) | (simp [*]; done)), H', ⟨by have := HJ15.out; first | omega | exact Nat.le_refl _⟩, ⟨by (with_reducible repeat (first | apply Kd.Q_alloc | apply Kd.Q_drewN | apply Kd.Q_drew)); exact Kd.Q_mono HO_311000.out (fun _ hk => ⟨hk.1, hk.2.1⟩)⟩, ⟨by (with_reducible repeat (first | apply Kd.Q_alloc | apply Kd.Q_drewN | apply Kd.Q_drew)); exact Kd.Q_mono HO_315000.out (fun _ hk => ⟨hk.1.1, hk.1.2⟩)⟩, ⟨by (with_reducible repeat (first | apply Kd.Q_alloc | apply Kd.Q_drewN | apply Kd.Q_drew)); exact Kd.Q_mono HO_325000.out (fun _ hk => ⟨hk.1, hk.2.1⟩)⟩, ⟨by (with_reducible repeat (first | refine blk_drewN ?_ _ | refine blk_drew ?_ | refine blk_alloc ?_ _)); exact BK295.out⟩, ⟨by (with_reducible repeat (first | refine blk_drewN ?_ _ | refine blk_drew ?_ | refine blk_alloc ?_ _)); exact BK296.out⟩, ⟨by (with_reducible repeat (first | refine blk_drewN ?_ _ | refine blk_drew ?_ | refine blk_alloc ?_ _)); exact BK310.out⟩, ⟨by (with_reducible repeat (first | refine blk_drewN ?_ _ | refine blk_drew ?_ | refine blk_alloc ?_ _)); exact BK314.out⟩, ⟨by (with_reducible repeat (first | refine blk_drewN ?_ _ | refine blk_drew ?_ | refine blk_alloc ?_ _)); exact BK324.out⟩, ⟨by exact lq HB.out⟩⟩
        ·replace c99 := Bool.eq_false_iff.mpr c99
         subst c99
         rw [if_neg (show ¬ (false = true) by decide)] at H
         have H' := Aside0.mk H
         clear H
         have hnb121 := NB324_295.out
         have hnc121 := NB295_324.out
         have hnb122 := NB324_296.out
         have hnc122 := NB296_324.out
         have hnb123 := NB324_310.out
         have hnc123 := NB310_324.out
         have hnb124 := NB324_314.out
         have hnc124 := NB314_324.out
         have hcz125_0 : w96.cell? ⟨gb324, 0, none⟩ = some (.slice Ao46 t319.length co46) := (blk_cell BK324.out 0).trans rfl
         have hfz125_0 := blk_frozen BK324.out 0
         have hnb126 := NB310_295.out
         have hnc126 := NB295_310.out
         have hnb127 := NB310_296.out
         have hnc127 := NB296_310.out
         have hnb128 := NB310_314.out
         have hnc128 := NB314_310.out
         have hcz129_0 : w96.cell? ⟨gb310, 0, none⟩ = some (.slice Ao29 t305.length co29) := (blk_cell BK310.out 0).trans rfl
         have hfz129_0 := blk_frozen BK310.out 0
         go_wp2_with (first | (go_at_call 19; (with_reducible refine (laws_eqInEnd.calls kj15 _ _ t319 _ _ t305 false _ ?side1 ?side2 ?side3 ?side4 A98.out).mono ?_); (case side1 => repeat (first | exact (Kd.Q_reads' HO_325000.out).2.2 | (with_reducible refine Kd.C_alloc ?_ _) | (with_reducible refine Kd.C_drewN ?_ _) | (with_reducible refine Kd.C_drew ?_))); (case side2 => exact (Kd.Q_reads' HO_325000.out).2.1); (case side3 => repeat (first | exact (Kd.Q_reads' HO_311000.out).2.2 | (with_reducible refine Kd.C_alloc ?_ _) | (with_reducible refine Kd.C_drewN ?_ _) | (with_reducible refine Kd.C_drew ?_))); (case side4 => exact (Kd.Q_reads' HO_311000.out).2.1); rintro e w130 ⟨rfl, hb⟩; have n0_ := Aside0.mk (Kd.Q_below (by (with_reducible repeat (first | apply Kd.Q_alloc | apply Kd.Q_drewN | apply Kd.Q_drew)); exact HO_311000.out) hb); have n1_ := Aside0.mk (Kd.Q_below (by (with_reducible repeat (first | apply Kd.Q_alloc | apply Kd.Q_drewN | apply Kd.Q_drew)); exact HO_315000.out) hb); have n2_ := Aside0.mk (Kd.Q_below (by (with_reducible repeat (first | apply Kd.Q_alloc | apply Kd.Q_drewN | apply Kd.Q_drew)); exact HO_325000.out) hb); have n3_ := Aside0.mk (Kd.R_below (rq HO328.out) hb); have n4_ := Aside0.mk (blk_below (bq BK295.out) hb); have n5_ := Aside0.mk (blk_below (bq BK296.out) hb); have n6_ := Aside0.mk (blk_below (bq BK310.out) hb); have n7_ := Aside0.mk (blk_below (bq BK314.out) hb); have n8_ := Aside0.mk (blk_below (bq BK324.out) hb); have n9_ := Aside0.mk (below_step (lq HB.out) hb); clear HO_311000; clear HO_315000; clear HO_325000; clear HO328; clear BK295; clear BK296; clear BK310; clear BK314; clear BK324; clear HB; have HO_311000 := n0_; have HO_315000 := n1_; have HO_325000 := n2_; have HO328 := n3_; have BK295 := n4_; have BK296 := n5_; have BK310 := n6_; have BK314 := n7_; have BK324 := n8_; have HB := n9_; clear n0_ n1_ n2_ n3_ n4_ n5_ n6_ n7_ n8_ n9_; (try clear hb); (try clear hb2); (try clear hk); (try clear hi)))
         go_meet
         case rel => exact ⟨_, (true), (by first | rfl | (simp; done) | (simp [*]; done)), H', ⟨by have := HJ15.out; first | omega | exact Nat.le_refl _⟩, ⟨by (with_reducible repeat (first | apply Kd.Q_alloc | apply Kd.Q_drewN | apply Kd.Q_drew)); exact Kd.Q_mono HO_311000.out (fun _ hk => ⟨hk.1, hk.2.1⟩)⟩, ⟨by (with_reducible repeat (first | apply Kd.Q_alloc | apply Kd.Q_drewN | apply Kd.Q_drew)); exact Kd.Q_mono HO_315000.out (fun _ hk => ⟨hk.1.1, hk.1.2⟩)⟩, ⟨by (with_reducible repeat (first | apply Kd.Q_alloc | apply Kd.Q_drewN | apply Kd.Q_drew)); exact Kd.Q_mono HO_325000.out (fun _ hk => ⟨hk.1, hk.2.1⟩)⟩, ⟨by (with_reducible repeat (first | refine blk_drewN ?_ _ | refine blk_drew ?_ | refine blk_alloc ?_ _)); exact BK295.out⟩, ⟨by (with_reducible repeat (first | refine blk_drewN ?_ _ | refine blk_drew ?_ | refine blk_alloc ?_ _)); exact BK296.out⟩, ⟨by (with_reducible repeat (first | refine blk_drewN ?_ _ | refine blk_drew ?_ | refine blk_alloc ?_ _)); exact BK310.out⟩, ⟨by (with_reducible repeat (first | refine blk_drewN ?_ _ | refine blk_drew ?_ | refine blk_alloc ?_ _)); exact BK314.out⟩, ⟨by (with_reducible repeat (first | refine blk_drewN ?_ _ | refine blk_drew ?_ | refine blk_alloc ?_ _)); exact BK324.out⟩, ⟨by exact lq HB.out⟩⟩
      case rest =>
       clear HC86
       try clear c1
       try clear p2
       try clear c3
       try clear c4
       try clear c5
       try clear c6
       try clear c7
       try clear c8
       try clear c9
       try clear c10
       try clear c11
       try clear c12
       try clear c16
       try clear c17
       try clear c19
       try clear c32
       try clear c33
       try clear c49
       try clear c50
       try clear c50b0
       try clear c50b1
       try clear c51
       try clear c52
       try clear c53
       try clear c54
       try clear c56
       try clear c57
       try clear c58
       try clear c61
       try clear c62
       try clear c63
       try clear c64
       try clear c66
       try clear c67
       try clear c68
       try clear c71
       try clear c72
       try clear c73
       try clear c74
       try clear c76
       try clear c77
       try clear c78
       try clear c81
       try clear c84
       try clear c91
       try clear c92
       try clear c93
       try clear c94
       try clear c97
       try clear c97b0
       try clear c99
       try clear c100
       try clear c100b0
       try clear c100b1
       try clear c101
       try clear c102
       try clear c103
       try clear c104
       try clear c106
       try clear c107
       try clear c108
       try clear c111
       try clear c112
       try clear c113
       try clear c114
       try clear c116
       try clear c117
       try clear c118
       try clear c121
       try clear c122
       try clear c123
       try clear c124
       try clear c126
       try clear c127
       try clear c128
       try clear hcz105_0
       try clear hcz109_0
       try clear hcz115_0
       try clear hcz119_0
       try clear hcz125_0
       try clear hcz129_0
       try clear hcz55_0
       try clear hcz59_0
       try clear hcz65_0
       try clear hcz69_0
       try clear hcz75_0
       try clear hcz79_0
       try clear hcz95_0
       try clear hfz105_0
       try clear hfz109_0
       try clear hfz115_0
       try clear hfz119_0
       try clear hfz125_0
       try clear hfz129_0
       try clear hfz55_0
       try clear hfz59_0
       try clear hfz65_0
       try clear hfz69_0
       try clear hfz75_0
       try clear hfz79_0
       try clear hfz95_0
       try clear p2
       obtain ⟨kq, x82_85, rfl, HA, HJ85, HO_311000, HO_315000, HO_325000, BK295, BK296, BK310, BK314, BK324, HB⟩ := hcut
       have hl315000_85 := (Kd.Q_reads' HO_315000.out).1
       rw [hl315000_85] at HO_315000
       (try simp only [hl315000_85])
       (try simp only [hl315000_85] at BK295)
       (try simp only [hl315000_85] at BK296)
       (try simp only [hl315000_85] at BK310)
       (try simp only [hl315000_85] at BK314)
       (try simp only [hl315000_85] at BK324)
       (try simp only [hl315000_85] at HO_311000)
       (try simp only [hl315000_85] at HO_325000)
       cases kq with
       | zero => exact absurd HA.out (by simp [laws_FnExactRecvOn.j1])
       | succ kj85 =>
        have H := HA.out
        clear HA
        simp only [laws_FnExactRecvOn.j1] at H
        by_cases c131 : x82_85 = true
        ·subst c131
         rw [if_pos rfl] at H
         exact absurd H (by simp)
        ·replace c131 := Bool.eq_false_iff.mpr c131
         subst c131
         rw [if_neg (show ¬ (false = true) by decide)] at H
         replace H := Option.bind_eq_some_iff.mp H
         obtain ⟨⟨t333, t334⟩, A1320, H⟩ := H
         (try dsimp only at H)
         have A132 := Aside0.mk A1320
         clear A1320
         replace H := Option.bind_eq_some_iff.mp H
         obtain ⟨t335, A1330, H⟩ := H
         (try dsimp only at H)
         have A133 := Aside0.mk A1330
         clear A1330
         by_cases c134 : t335 < 0
         ·rw [if_pos c134] at H
          have c134b0 : decide (t335 < 0) = true := decide_eq_true c134
          clear c134
          exact absurd H (by simp)
         ·rw [if_neg c134] at H
          have c134b0 : decide (t335 < 0) = false := decide_eq_false c134
          clear c134
          by_cases c135 : t335 = t333
          ·rw [if_pos c135] at H
           have c135b0 : (t335 == t333) = true := beq_iff_eq.mpr c135
           have c135b1 : (t335 != t333) = false := bne_eq_false_iff_eq.mpr c135
           clear c135
           replace H := Option.bind_eq_some_iff.mp H
           obtain ⟨⟨t336, t337, t338, t339⟩, A1360, H⟩ := H
           (try dsimp only at H)
           have A136 := Aside0.mk A1360
           clear A1360
           replace H := Option.bind_eq_some_iff.mp H
           obtain ⟨t340, A1370, H⟩ := H
           (try dsimp only at H)
           have A137 := Aside0.mk A1370
           clear A1370
           replace H := Option.bind_eq_some_iff.mp H
           obtain ⟨⟨t343, t346, t347⟩, A1380, H⟩ := H
           (try dsimp only at H)
           have A138 := Aside0.mk A1380
           clear A1380
           have HC139 := Aside0.mk H
           clear H
           have hnb140 := NB324_295.out
           have hnc140 := NB295_324.out
           have hnb141 := NB324_296.out
           have hnc141 := NB296_324.out
           have hnb142 := NB324_310.out
           have hnc142 := NB310_324.out
           have hnb143 := NB324_314.out
           have hnc143 := NB314_324.out
           have hcz144_0 : wc.cell? ⟨gb324, 0, none⟩ = some (.slice Ao46 t319.length co46) := (blk_cell BK324.out 0).trans rfl
           have hfz144_0 := blk_frozen BK324.out 0
           try go_wp2_with (first | ((with_reducible refine gate_callee (f := 33) rfl ?_); refine goesL_ (some 85) rfl rfl Try.func33 (by kernel_rfl) rfl #[.agg #[.slice Ao46 t319.length co46], .int .i64 1] rfl (by (try simp only [List.map_toArray, List.map_cons, List.map_nil]); first | done | rfl | (simp only [List.length_drop, List.length_take]; rfl)) ?_; (with_reducible refine (laws_markInEnd.callsQ kj85 (fun k_ => some k_ = (.slice Ao46 t319.length co46 : Value).ownBlock) (.slice Ao46 t319.length co46) t319 1 t333 t334 w _ ?side1 ?side2 A132.out).mono ?_); (case side1 => exact lq HB.out); (case side2 => exact Kd.Q_tight rfl HO_325000.out); rintro e w145 ⟨rfl, hy0, hb, hkp⟩; refine ⟨_, rfl, ?_⟩; have n0_ := Aside0.mk (Kd.Q_mono (ok' := fun k_ => some k_ ≠ (.slice Ao35 t331.length co35 : Value).ownBlock ∧ some k_ ≠ (.slice Ao46 t319.length co46 : Value).ownBlock) (Kd.Q_keptB (HO_311000.out) hkp (fun k_ hk_ hs_ => (hk_.2) hs_)) (fun k_ hk_ => ⟨hk_.1.1, hk_.1.2⟩)); have n1_ := Aside0.mk (Kd.Q_mono (ok' := fun k_ => some k_ ≠ (.slice Ao29 t305.length co29 : Value).ownBlock ∧ some k_ ≠ (.slice Ao46 t319.length co46 : Value).ownBlock) (Kd.Q_keptB (HO_315000.out) hkp (fun k_ hk_ hs_ => (hk_.2) hs_)) (fun k_ hk_ => ⟨hk_.1.1, hk_.1.2⟩)); have n2_ := Aside0.mk (Kd.Q_reok rfl hy0 (fun k_ e_ => HO_325000.out.1 k_ e_)); have n3_ := Aside0.mk (blk_kept (bq BK295.out) hkp (fun hs_ => (fun e_ => (Kd.Q_ne HO_325000.out BK295.out (by decide)) e_) hs_)); have n4_ := Aside0.mk (blk_kept (bq BK296.out) hkp (fun hs_ => (fun e_ => (Kd.Q_ne HO_325000.out BK296.out (by decide)) e_) hs_)); have n5_ := Aside0.mk (blk_kept (bq BK310.out) hkp (fun hs_ => (fun e_ => (Kd.Q_ne HO_325000.out BK310.out (by decide)) e_) hs_)); have n6_ := Aside0.mk (blk_kept (bq BK314.out) hkp (fun hs_ => (fun e_ => (Kd.Q_ne HO_325000.out BK314.out (by decide)) e_) hs_)); have n7_ := Aside0.mk (blk_kept (bq BK324.out) hkp (fun hs_ => (fun e_ => (Kd.Q_ne HO_325000.out BK324.out (by decide)) e_) hs_)); have n8_ := Aside0.mk (hb); clear HO_311000; clear HO_315000; clear HO_325000; clear BK295; clear BK296; clear BK310; clear BK314; clear BK324; clear HB; have HO_311000 := n0_; have HO_315000 := n1_; have HO_325000 := n2_; have BK295 := n3_; have BK296 := n4_; have BK310 := n5_; have BK314 := n6_; have BK324 := n7_; have HB := n8_; clear n0_ n1_ n2_ n3_ n4_ n5_ n6_ n7_ n8_; (try clear hb); (try clear hkp); (try clear hy0); have hcz146_0 : w145.cell? ⟨gb324, 0, none⟩ = some (.slice Ao46 t319.length co46) := (blk_cell BK324.out 0).trans rfl; have hfz146_0 := blk_frozen BK324.out 0) | ((with_reducible refine gate_callee (f := 34) rfl ?_); refine goesL_ (some 88) rfl rfl Try.func34 (by kernel_rfl) rfl #[.agg #[.slice Ao46 t334.length co46], .int .i64 1] rfl (by (try simp only [List.map_toArray, List.map_cons, List.map_nil]); first | done | (rw [show t334.length = t319.length from (Kd.Q_reads' HO_325000.out).1.symm] <;> rfl) | rfl | (simp only [List.length_drop, List.length_take]; rfl)) ?_; (with_reducible refine (laws_heldInEnd.calls kj85 _ _ t334 1 t335 _ ?side1 ?side2 A133.out).mono ?_); (case side1 => repeat (first | exact (Kd.Q_reads' HO_325000.out).2.2 | (with_reducible refine Kd.C_alloc ?_ _) | (with_reducible refine Kd.C_drewN ?_ _) | (with_reducible refine Kd.C_drew ?_))); (case side2 => rw [show t334.length = t319.length from (Kd.Q_reads' HO_325000.out).1.symm]; exact (Kd.Q_reads' HO_325000.out).2.1); rintro e w147 ⟨rfl, hb⟩; refine ⟨_, rfl, ?_⟩; have n0_ := Aside0.mk (Kd.Q_below (by (with_reducible repeat (first | apply Kd.Q_alloc | apply Kd.Q_drewN | apply Kd.Q_drew)); exact HO_311000.out) hb); have n1_ := Aside0.mk (Kd.Q_below (by (with_reducible repeat (first | apply Kd.Q_alloc | apply Kd.Q_drewN | apply Kd.Q_drew)); exact HO_315000.out) hb); have n2_ := Aside0.mk (Kd.Q_below (by (with_reducible repeat (first | apply Kd.Q_alloc | apply Kd.Q_drewN | apply Kd.Q_drew)); exact HO_325000.out) hb); have n3_ := Aside0.mk (blk_below (bq BK295.out) hb); have n4_ := Aside0.mk (blk_below (bq BK296.out) hb); have n5_ := Aside0.mk (blk_below (bq BK310.out) hb); have n6_ := Aside0.mk (blk_below (bq BK314.out) hb); have n7_ := Aside0.mk (blk_below (bq BK324.out) hb); have n8_ := Aside0.mk (below_step (lq HB.out) hb); clear HO_311000; clear HO_315000; clear HO_325000; clear BK295; clear BK296; clear BK310; clear BK314; clear BK324; clear HB; have HO_311000 := n0_; have HO_315000 := n1_; have HO_325000 := n2_; have BK295 := n3_; have BK296 := n4_; have BK310 := n5_; have BK314 := n6_; have BK324 := n7_; have HB := n8_; clear n0_ n1_ n2_ n3_ n4_ n5_ n6_ n7_ n8_; (try clear hb); (try clear hb2); (try clear hk); (try clear hi)))
           have n0_ := Aside0.mk (Kd.Q_drew HO_311000.out)
           have n1_ := Aside0.mk (Kd.Q_drew HO_315000.out)
           have n2_ := Aside0.mk (Kd.Q_drew HO_325000.out)
           have n3_ := Aside0.mk (blk_drew BK295.out)
           have n4_ := Aside0.mk (blk_drew BK296.out)
           have n5_ := Aside0.mk (blk_drew BK310.out)
           have n6_ := Aside0.mk (blk_drew BK314.out)
           have n7_ := Aside0.mk (blk_drew BK324.out)
           have n8_ := Aside0.mk (below_drew1 HB.out)
           clear HO_311000
           clear HO_315000
           clear HO_325000
           clear BK295
           clear BK296
           clear BK310
           clear BK314
           clear BK324
           clear HB
           have HO_311000 := n0_
           have HO_315000 := n1_
           have HO_325000 := n2_
           have BK295 := n3_
           have BK296 := n4_
           have BK310 := n5_
           have BK314 := n6_
           have BK324 := n7_
           have HB := n8_
           clear n0_ n1_ n2_ n3_ n4_ n5_ n6_ n7_ n8_
           refine start_ (n := 13) (S := fun w' => w'.cell? ⟨gb295, 0, none⟩ = some (.int .i64 a0_0) ∧ w'.cell? ⟨gb295, 1, none⟩ = some (.int .i64 a0_1) ∧ w'.cell? ⟨gb295, 2, none⟩ = some (.int .i64 a0_2) ∧ w'.cell? ⟨gb295, 3, none⟩ = some (.int .i64 a0_3) ∧ w'.cell? ⟨gb296, 0, none⟩ = some (.slice A1_0 l1_0.length c1_0)) (ds := []) #[false, false, false, false, false, false, false, false, false, false, false, false, false] (by kernel_rfl) rfl rfl ⟨(blk_cell BK295.out 0).trans rfl, (blk_cell BK295.out 1).trans rfl, (blk_cell BK295.out 2).trans rfl, (blk_cell BK295.out 3).trans rfl, (blk_cell BK296.out 0).trans rfl⟩ (fun hHeld => ?_); refine with_tabW laws_FnExactRecvOn.tab24 laws_FnExactRecvOn.bits24 (fun HT_ HW_ => ?_)
           generalize w147.drew = w148 at HO_311000 HO_315000 HO_325000 BK295 BK296 BK310 BK314 BK324 HB hHeld ⊢
           refine take_ (i := 0) (N := some 95) (v := ?_) (a' := ?_) #[true, false, false, false, false, false, false, false, false, false, false, false, false] rfl rfl (take_ofW HT_.out HW_.out (by kernel_rfl)) (fun _ _ _ h => h) (Or.inl ⟨by rfl, ?_⟩) hHeld ?_ ?_
           rotate_left
           ·rintro w' ⟨s0, s1, s2, s3, s4⟩
            go_simp
            with_reducible rfl
           rotate_left
           ·simp only [Act.put, List.setIfInBounds_toArray, List.set_cons_zero, List.set_cons_succ, i64_w, i32_w]
            rfl
           refine take_ (i := 2) (N := some 97) (v := ?_) (a' := ?_) #[true, false, true, false, false, false, false, false, false, false, false, false, false] rfl rfl (take_ofW HT_.out HW_.out (by kernel_rfl)) (fun _ _ _ h => h) (Or.inl ⟨by rfl, ?_⟩) hHeld ?_ ?_
           rotate_left
           ·rintro w' ⟨s0, s1, s2, s3, s4⟩
            go_simp
            with_reducible rfl
           rotate_left
           ·simp only [Act.put, List.setIfInBounds_toArray, List.set_cons_zero, List.set_cons_succ, i64_w, i32_w]
            rfl
           refine join_ (σ := Value × Value × Nat) 3 #[true, true, true, true, true, true, true, true, true, true, false, false, false] (fun s_ => [(96, .agg #[.int .i64 t336, .int .i64 t337, .int .i64 t338, .int .i64 t339]), (98, .agg #[s_.1]), (99, .tuple #[.agg #[s_.2.1], .int .u32 t346, .int .i64 t347]), (16, .pointer (some ⟨s_.2.2, 0, none⟩)), (94, .tuple #[.agg #[s_.2.1], .int .u32 t346, .int .i64 t347]), (100, .agg #[s_.2.1]), (101, .int .u32 t346), (102, .int .i64 t347)]) (fun s_ w' => (w'.cell? ⟨gb295, 0, none⟩ = some (.int .i64 a0_0) ∧ w'.cell? ⟨gb295, 1, none⟩ = some (.int .i64 a0_1) ∧ w'.cell? ⟨gb295, 2, none⟩ = some (.int .i64 a0_2) ∧ w'.cell? ⟨gb295, 3, none⟩ = some (.int .i64 a0_3) ∧ w'.cell? ⟨gb296, 0, none⟩ = some (.slice A1_0 l1_0.length c1_0)) ∧ (Kd.R (Kd.int .u32) 46 w' w.heap.size (fun k_ => some k_ ≠ (s_.2.1 : Value).ownBlock ∧ some k_ ≠ (.slice Ao29 t305.length co29 : Value).ownBlock ∧ some k_ ≠ (.slice Ao35 t331.length co35 : Value).ownBlock ∧ some k_ ≠ (.slice Ao46 t319.length co46 : Value).ownBlock) s_.1 t340) ∧ (Kd.Q (Kd.int .u32) 46 w' w.heap.size (fun k_ => some k_ ≠ (s_.1 : Value).ownBlock ∧ some k_ ≠ (.slice Ao29 t305.length co29 : Value).ownBlock ∧ some k_ ≠ (.slice Ao35 t331.length co35 : Value).ownBlock ∧ some k_ ≠ (.slice Ao46 t319.length co46 : Value).ownBlock) s_.2.1 t343) ∧ (Kd.Q (Kd.int .u32) 46 w' w.heap.size (fun k_ => some k_ ≠ (s_.1 : Value).ownBlock ∧ some k_ ≠ (s_.2.1 : Value).ownBlock ∧ some k_ ≠ (.slice Ao35 t331.length co35 : Value).ownBlock ∧ some k_ ≠ (.slice Ao46 t319.length co46 : Value).ownBlock) (.slice Ao29 t305.length co29) t305) ∧ (Kd.Q (Kd.int .u32) 46 w' w.heap.size (fun k_ => some k_ ≠ (s_.1 : Value).ownBlock ∧ some k_ ≠ (s_.2.1 : Value).ownBlock ∧ some k_ ≠ (.slice Ao29 t305.length co29 : Value).ownBlock ∧ some k_ ≠ (.slice Ao46 t319.length co46 : Value).ownBlock) (.slice Ao35 t331.length co35) t331) ∧ (Kd.Q (Kd.int .u32) 46 w' w.heap.size (fun k_ => some k_ ≠ (s_.1 : Value).ownBlock ∧ some k_ ≠ (s_.2.1 : Value).ownBlock ∧ some k_ ≠ (.slice Ao29 t305.length co29 : Value).ownBlock ∧ some k_ ≠ (.slice Ao35 t331.length co35 : Value).ownBlock) (.slice Ao46 t319.length co46) t334) ∧ (w'.heap[gb295]? = some (.cells #[.int .i64 a0_0, .int .i64 a0_1, .int .i64 a0_2, .int .i64 a0_3] 23 (0, 0))) ∧ (w'.heap[gb296]? = some (.cells #[.slice A1_0 l1_0.length c1_0] 26 (0, 0))) ∧ (w'.heap[gb310]? = some (.cells #[.slice Ao29 t305.length co29] 31 (0, 0))) ∧ (w'.heap[gb314]? = some (.cells #[.slice Ao35 t331.length co35] 31 (0, 0))) ∧ (w'.heap[gb324]? = some (.cells #[.slice Ao46 t319.length co46] 31 (0, 0))) ∧ (w'.heap[s_.2.2]? = some (.cells #[.slice none 0 0] 31 (0, 0))) ∧ (w.heap.size ≤ s_.2.2) ∧ (w.heap.size ≤ s_.2.2) ∧ (gb295 ≠ s_.2.2) ∧ (s_.2.2 ≠ gb295) ∧ (gb296 ≠ s_.2.2) ∧ (s_.2.2 ≠ gb296) ∧ (gb310 ≠ s_.2.2) ∧ (s_.2.2 ≠ gb310) ∧ (gb314 ≠ s_.2.2) ∧ (s_.2.2 ≠ gb314) ∧ (gb324 ≠ s_.2.2) ∧ (s_.2.2 ≠ gb324) ∧ (Below w.heap.size w w')) ?_ ?_
           rotate_left
           ·intro hCont
            refine two_ (i := 1) (j := 9) (Ni := some 96) (Nj := some 16) #[true, true, true, false, false, false, false, false, false, false, false, false, false] #[true, false, true, false, false, false, false, false, false, true, false, false, false] rfl rfl rfl rfl (two_of HT_.out (by kernel_rfl)) (by decide) (by decide) (fun K hK => ?_) (fun K hK => ?_)
            ·skip
             refine goes_ Try.func16 (by kernel_rfl) rfl #[.agg #[.int .i64 a0_0, .int .i64 a0_1, .int .i64 a0_2, .int .i64 a0_3]] (by rfl) rfl rfl (by (try simp only [List.map_toArray, List.map_cons, List.map_nil]); first | done | rfl | (simp only [List.length_drop, List.length_take]; rfl)) ?_
             with_reducible refine (laws_toChanRow.calls a0_0 a0_1 a0_2 a0_3 t336 t337 t338 t339 _ A136.out).mono ?_
             rintro e w149 ⟨rfl, hb⟩
             refine ⟨_, rfl, ?_⟩
             have n0_ := Aside0.mk (Kd.Q_below (by (with_reducible repeat (first | apply Kd.Q_alloc | apply Kd.Q_drewN | apply Kd.Q_drew)); exact HO_311000.out) hb)
             have n1_ := Aside0.mk (Kd.Q_below (by (with_reducible repeat (first | apply Kd.Q_alloc | apply Kd.Q_drewN | apply Kd.Q_drew)); exact HO_315000.out) hb)
             have n2_ := Aside0.mk (Kd.Q_below (by (with_reducible repeat (first | apply Kd.Q_alloc | apply Kd.Q_drewN | apply Kd.Q_drew)); exact HO_325000.out) hb)
             have n3_ := Aside0.mk (blk_below (bq BK295.out) hb)
             have n4_ := Aside0.mk (blk_below (bq BK296.out) hb)
             have n5_ := Aside0.mk (blk_below (bq BK310.out) hb)
             have n6_ := Aside0.mk (blk_below (bq BK314.out) hb)
             have n7_ := Aside0.mk (blk_below (bq BK324.out) hb)
             have n8_ := Aside0.mk (below_step (lq HB.out) hb)
             clear HO_311000
             clear HO_315000
             clear HO_325000
             clear BK295
             clear BK296
             clear BK310
             clear BK314
             clear BK324
             clear HB
             have HO_311000 := n0_
             have HO_315000 := n1_
             have HO_325000 := n2_
             have BK295 := n3_
             have BK296 := n4_
             have BK310 := n5_
             have BK314 := n6_
             have BK324 := n7_
             have HB := n8_
             clear n0_ n1_ n2_ n3_ n4_ n5_ n6_ n7_ n8_
             (try clear hb)
             (try clear hb2)
             (try clear hk)
             (try clear hi)
             refine hK.out _ _ ⟨(blk_cell BK295.out 0).trans rfl, (blk_cell BK295.out 1).trans rfl, (blk_cell BK295.out 2).trans rfl, (blk_cell BK295.out 3).trans rfl, (blk_cell BK296.out 0).trans rfl⟩ (fun hHeld => ?_)
             clear hK K
             refine norm_ (a' := ?_) ?_ ?_
             rotate_left
             ·show Act.put _ (some 96) _ = _
              simp only [Act.put, List.setIfInBounds_toArray, List.set_cons_zero, List.set_cons_succ, i64_w, i32_w]
              rfl
             refine two_ (i := 3) (j := 9) (Ni := some 98) (Nj := some 16) #[true, true, true, true, false, false, false, false, false, false, false, false, false] #[true, true, true, false, false, false, false, false, false, true, false, false, false] rfl rfl rfl rfl (two_of HT_.out (by kernel_rfl)) (by decide) (by decide) (fun K hK => ?_) (fun K hK => ?_)
             ·skip
              refine goes_ Try.func17 (by kernel_rfl) rfl #[.agg #[.slice A1_0 l1_0.length c1_0]] (by rfl) rfl rfl (by (try simp only [List.map_toArray, List.map_cons, List.map_nil]); first | done | rfl | (simp only [List.length_drop, List.length_take]; rfl)) ?_
              with_reducible refine (laws_toInEnd.calls kj85 _ _ l1_0 t340 _ ?side1 ?side2 A137.out).mono ?_
              (case side1 => repeat (first | exact (Kd.C_below HR1_0.out HB.out) | (with_reducible refine Kd.C_alloc ?_ _) | (with_reducible refine Kd.C_drewN ?_ _) | (with_reducible refine Kd.C_drew ?_)))
              (case side2 => exact HC1_0.out)
              rintro e w150 ⟨v341, rfl, ho0, hb⟩
              refine ⟨_, rfl, ?_⟩
              have n0_ := Aside0.mk (Kd.Q_elder' (by (with_reducible repeat (first | apply Kd.Q_alloc | apply Kd.Q_drewN | apply Kd.Q_drew)); exact HO_311000.out) (Kd.R_base ho0) hb)
              have n1_ := Aside0.mk (Kd.Q_elder' (by (with_reducible repeat (first | apply Kd.Q_alloc | apply Kd.Q_drewN | apply Kd.Q_drew)); exact HO_315000.out) (Kd.R_base ho0) hb)
              have n2_ := Aside0.mk (Kd.Q_elder' (by (with_reducible repeat (first | apply Kd.Q_alloc | apply Kd.Q_drewN | apply Kd.Q_drew)); exact HO_325000.out) (Kd.R_base ho0) hb)
              have n3_ := Aside0.mk (Kd.R_lower (Kd.R_new' (Kd.R_new' (Kd.R_new' ho0 (Kd.Q_lt (by (with_reducible repeat (first | apply Kd.Q_alloc | apply Kd.Q_drewN | apply Kd.Q_drew)); exact HO_311000.out))) (Kd.Q_lt (by (with_reducible repeat (first | apply Kd.Q_alloc | apply Kd.Q_drewN | apply Kd.Q_drew)); exact HO_315000.out))) (Kd.Q_lt (by (with_reducible repeat (first | apply Kd.Q_alloc | apply Kd.Q_drewN | apply Kd.Q_drew)); exact HO_325000.out))) (below_size (lq HB.out)))
              have n4_ := Aside0.mk (blk_below (bq BK295.out) hb)
              have n5_ := Aside0.mk (blk_below (bq BK296.out) hb)
              have n6_ := Aside0.mk (blk_below (bq BK310.out) hb)
              have n7_ := Aside0.mk (blk_below (bq BK314.out) hb)
              have n8_ := Aside0.mk (blk_below (bq BK324.out) hb)
              have n9_ := Aside0.mk (below_step (lq HB.out) hb)
              clear HO_311000
              clear HO_315000
              clear HO_325000
              clear BK295
              clear BK296
              clear BK310
              clear BK314
              clear BK324
              clear HB
              have HO_311000 := n0_
              have HO_315000 := n1_
              have HO_325000 := n2_
              have HO342 := n3_
              have BK295 := n4_
              have BK296 := n5_
              have BK310 := n6_
              have BK314 := n7_
              have BK324 := n8_
              have HB := n9_
              clear n0_ n1_ n2_ n3_ n4_ n5_ n6_ n7_ n8_ n9_
              (try clear hb)
              (try clear hb2)
              (try clear hk)
              (try clear hi)
              (try clear ho0)
              obtain ⟨Ao151, co151, eo151⟩ := Kd.R_slice HO342.out
              (first | subst eo151 | (injection eo151 with f1_ f2_ f3_; have f4_ := f1_.symm; have f5_ := f3_.symm; clear f1_ f2_ f3_; subst f4_; subst f5_))
              refine hK.out _ _ ⟨(blk_cell BK295.out 0).trans rfl, (blk_cell BK295.out 1).trans rfl, (blk_cell BK295.out 2).trans rfl, (blk_cell BK295.out 3).trans rfl, (blk_cell BK296.out 0).trans rfl⟩ (fun hHeld => ?_)
              clear hK K
              refine norm_ (a' := ?_) ?_ ?_
              rotate_left
              ·show Act.put _ (some 98) _ = _
               simp only [Act.put, List.setIfInBounds_toArray, List.set_cons_zero, List.set_cons_succ, i64_w, i32_w]
               rfl
              refine two_ (i := 4) (j := 9) (Ni := some 99) (Nj := some 16) #[true, true, true, true, true, false, false, false, false, false, false, false, false] #[true, true, true, true, false, false, false, false, false, true, false, false, false] rfl rfl rfl rfl (two_of HT_.out (by kernel_rfl)) (by decide) (by decide) (fun K hK => ?_) (fun K hK => ?_)
              ·skip
               refine goes_ Try.func32 (by kernel_rfl) rfl #[.agg #[.int .i64 t336, .int .i64 t337, .int .i64 t338, .int .i64 t339], .agg #[.slice Ao151 t340.length co151]] (by rfl) rfl rfl (by (try simp only [List.map_toArray, List.map_cons, List.map_nil]); first | done | rfl | (simp only [List.length_drop, List.length_take]; rfl)) ?_
               with_reducible refine (impl_RecvOn.calls t336 t337 t338 t339 _ _ t340 t343 t346 t347 _ ?side1 ?side2 A138.out).mono ?_
               (case side1 => repeat (first | exact (Kd.R_reads' HO342.out).2.2 | (with_reducible refine Kd.C_alloc ?_ _) | (with_reducible refine Kd.C_drewN ?_ _) | (with_reducible refine Kd.C_drew ?_)))
               (case side2 => exact (Kd.R_reads' HO342.out).2.1)
               rintro e w152 ⟨v344, rfl, ho0, hb⟩
               refine ⟨_, rfl, ?_⟩
               have n0_ := Aside0.mk (Kd.Q_elder' (by (with_reducible repeat (first | apply Kd.Q_alloc | apply Kd.Q_drewN | apply Kd.Q_drew)); exact HO_311000.out) (Kd.Q_base ho0) hb)
               have n1_ := Aside0.mk (Kd.Q_elder' (by (with_reducible repeat (first | apply Kd.Q_alloc | apply Kd.Q_drewN | apply Kd.Q_drew)); exact HO_315000.out) (Kd.Q_base ho0) hb)
               have n2_ := Aside0.mk (Kd.Q_elder' (by (with_reducible repeat (first | apply Kd.Q_alloc | apply Kd.Q_drewN | apply Kd.Q_drew)); exact HO_325000.out) (Kd.Q_base ho0) hb)
               have n3_ := Aside0.mk (Kd.R_elder' (rq HO342.out) (Kd.Q_base ho0) hb)
               have n4_ := Aside0.mk (Kd.Q_lower (Kd.Q_new' (Kd.Q_new' (Kd.Q_new' (Kd.Q_new' ho0 (Kd.Q_lt (by (with_reducible repeat (first | apply Kd.Q_alloc | apply Kd.Q_drewN | apply Kd.Q_drew)); exact HO_311000.out))) (Kd.Q_lt (by (with_reducible repeat (first | apply Kd.Q_alloc | apply Kd.Q_drewN | apply Kd.Q_drew)); exact HO_315000.out))) (Kd.Q_lt (by (with_reducible repeat (first | apply Kd.Q_alloc | apply Kd.Q_drewN | apply Kd.Q_drew)); exact HO_325000.out))) (Kd.R_lt (rq HO342.out))) (below_size (lq HB.out)))
               have n5_ := Aside0.mk (blk_below (bq BK295.out) hb)
               have n6_ := Aside0.mk (blk_below (bq BK296.out) hb)
               have n7_ := Aside0.mk (blk_below (bq BK310.out) hb)
               have n8_ := Aside0.mk (blk_below (bq BK314.out) hb)
               have n9_ := Aside0.mk (blk_below (bq BK324.out) hb)
               have n10_ := Aside0.mk (below_step (lq HB.out) hb)
               clear HO_311000
               clear HO_315000
               clear HO_325000
               clear HO342
               clear BK295
               clear BK296
               clear BK310
               clear BK314
               clear BK324
               clear HB
               have HO_311000 := n0_
               have HO_315000 := n1_
               have HO_325000 := n2_
               have HO342 := n3_
               have HO345 := n4_
               have BK295 := n5_
               have BK296 := n6_
               have BK310 := n7_
               have BK314 := n8_
               have BK324 := n9_
               have HB := n10_
               clear n0_ n1_ n2_ n3_ n4_ n5_ n6_ n7_ n8_ n9_ n10_
               (try clear hb)
               (try clear hb2)
               (try clear hk)
               (try clear hi)
               (try clear ho0)
               refine hK.out _ _ ⟨(blk_cell BK295.out 0).trans rfl, (blk_cell BK295.out 1).trans rfl, (blk_cell BK295.out 2).trans rfl, (blk_cell BK295.out 3).trans rfl, (blk_cell BK296.out 0).trans rfl⟩ (fun hHeld => ?_)
               clear hK K
               refine norm_ (a' := ?_) ?_ ?_
               rotate_left
               ·show Act.put _ (some 99) _ = _
                simp only [Act.put, List.setIfInBounds_toArray, List.set_cons_zero, List.set_cons_succ, i64_w, i32_w]
                rfl
               refine pure_ (i := 5) (N := some 94) (v := ?_) (a' := ?_) #[true, true, true, true, true, true, false, false, false, false, false, false, false] rfl rfl (any_of HT_.out (by kernel_rfl)) (fun _ _ _ h => h) (Or.inl ⟨by rfl, ?_⟩) ?_ ?_
               rotate_left
               ·intro w'
                go_simp
                with_reducible rfl
               rotate_left
               ·simp only [Act.put, List.setIfInBounds_toArray, List.set_cons_zero, List.set_cons_succ, i64_w, i32_w]
                rfl
               refine pure_ (i := 6) (N := some 100) (v := ?_) (a' := ?_) #[true, true, true, true, true, true, true, false, false, false, false, false, false] rfl rfl (any_of HT_.out (by kernel_rfl)) (fun _ _ _ h => h) (Or.inl ⟨by rfl, ?_⟩) ?_ ?_
               rotate_left
               ·intro w'
                go_simp
                with_reducible rfl
               rotate_left
               ·simp only [Act.put, List.setIfInBounds_toArray, List.set_cons_zero, List.set_cons_succ, i64_w, i32_w]
                rfl
               refine pure_ (i := 7) (N := some 101) (v := ?_) (a' := ?_) #[true, true, true, true, true, true, true, true, false, false, false, false, false] rfl rfl (any_of HT_.out (by kernel_rfl)) (fun _ _ _ h => h) (Or.inl ⟨by rfl, ?_⟩) ?_ ?_
               rotate_left
               ·intro w'
                go_simp
                with_reducible rfl
               rotate_left
               ·simp only [Act.put, List.setIfInBounds_toArray, List.set_cons_zero, List.set_cons_succ, i64_w, i32_w]
                rfl
               refine pure_ (i := 8) (N := some 102) (v := ?_) (a' := ?_) #[true, true, true, true, true, true, true, true, true, false, false, false, false] rfl rfl (any_of HT_.out (by kernel_rfl)) (fun _ _ _ h => h) (Or.inl ⟨by rfl, ?_⟩) ?_ ?_
               rotate_left
               ·intro w'
                go_simp
                with_reducible rfl
               rotate_left
               ·simp only [Act.put, List.setIfInBounds_toArray, List.set_cons_zero, List.set_cons_succ, i64_w, i32_w]
                rfl
               refine one_ (i := 9) (N := some 16) #[true, true, true, true, true, true, true, true, true, true, false, false, false] rfl rfl (one_of HT_.out (by kernel_rfl)) (by decide) (fun K hK => ?_)
               refine box_step ?hg (N := 16) ?hd (cs := #[.slice none 0 0]) (t := 31) ?hr ?_; (case hd => rfl); (case hg => rfl); (case hr => first | (go_simp; done) | (go_simp; rfl))
               intro gb348 hg w153 hbox hb
               have n0_ := Aside0.mk (Kd.Q_below (by (with_reducible repeat (first | apply Kd.Q_alloc | apply Kd.Q_drewN | apply Kd.Q_drew)); exact HO_311000.out) hb)
               have n1_ := Aside0.mk (Kd.Q_below (by (with_reducible repeat (first | apply Kd.Q_alloc | apply Kd.Q_drewN | apply Kd.Q_drew)); exact HO_315000.out) hb)
               have n2_ := Aside0.mk (Kd.Q_below (by (with_reducible repeat (first | apply Kd.Q_alloc | apply Kd.Q_drewN | apply Kd.Q_drew)); exact HO_325000.out) hb)
               have n3_ := Aside0.mk (Kd.R_below (rq HO342.out) hb)
               have n4_ := Aside0.mk (Kd.Q_below (by (with_reducible repeat (first | apply Kd.Q_alloc | apply Kd.Q_drewN | apply Kd.Q_drew)); exact HO345.out) hb)
               have n5_ := Aside0.mk (blk_below (bq BK295.out) hb)
               have n6_ := Aside0.mk (blk_below (bq BK296.out) hb)
               have n7_ := Aside0.mk (blk_below (bq BK310.out) hb)
               have n8_ := Aside0.mk (blk_below (bq BK314.out) hb)
               have n9_ := Aside0.mk (blk_below (bq BK324.out) hb)
               have n10_ := Aside0.mk (below_step (lq HB.out) hb)
               have n11_ := Aside0.mk (hbox)
               have n12_ := Aside0.mk ((ge_new hg (lq HB.out) : w.heap.size ≤ gb348))
               have n13_ := Aside0.mk ((ge_new hg (lq HB.out) : w.heap.size ≤ gb348))
               have n14_ := Aside0.mk ((ne_new hg (bq BK295.out) : gb295 ≠ gb348))
               have n15_ := Aside0.mk ((new_ne hg (bq BK295.out) : gb348 ≠ gb295))
               have n16_ := Aside0.mk ((ne_new hg (bq BK296.out) : gb296 ≠ gb348))
               have n17_ := Aside0.mk ((new_ne hg (bq BK296.out) : gb348 ≠ gb296))
               have n18_ := Aside0.mk ((ne_new hg (bq BK310.out) : gb310 ≠ gb348))
               have n19_ := Aside0.mk ((new_ne hg (bq BK310.out) : gb348 ≠ gb310))
               have n20_ := Aside0.mk ((ne_new hg (bq BK314.out) : gb314 ≠ gb348))
               have n21_ := Aside0.mk ((new_ne hg (bq BK314.out) : gb348 ≠ gb314))
               have n22_ := Aside0.mk ((ne_new hg (bq BK324.out) : gb324 ≠ gb348))
               have n23_ := Aside0.mk ((new_ne hg (bq BK324.out) : gb348 ≠ gb324))
               clear HO_311000
               clear HO_315000
               clear HO_325000
               clear HO342
               clear HO345
               clear BK295
               clear BK296
               clear BK310
               clear BK314
               clear BK324
               clear HB
               have HO_311000 := n0_
               have HO_315000 := n1_
               have HO_325000 := n2_
               have HO342 := n3_
               have HO345 := n4_
               have BK295 := n5_
               have BK296 := n6_
               have BK310 := n7_
               have BK314 := n8_
               have BK324 := n9_
               have HB := n10_
               have BK348 := n11_
               have GW348 := n12_
               have GE348 := n13_
               have NB295_348 := n14_
               have NB348_295 := n15_
               have NB296_348 := n16_
               have NB348_296 := n17_
               have NB310_348 := n18_
               have NB348_310 := n19_
               have NB314_348 := n20_
               have NB348_314 := n21_
               have NB324_348 := n22_
               have NB348_324 := n23_
               clear n0_ n1_ n2_ n3_ n4_ n5_ n6_ n7_ n8_ n9_ n10_ n11_ n12_ n13_ n14_ n15_ n16_ n17_ n18_ n19_ n20_ n21_ n22_ n23_
               clear hb hbox hg
               refine hK.out _ _ ⟨(blk_cell BK295.out 0).trans rfl, (blk_cell BK295.out 1).trans rfl, (blk_cell BK295.out 2).trans rfl, (blk_cell BK295.out 3).trans rfl, (blk_cell BK296.out 0).trans rfl⟩ (fun hHeld => ?_)
               clear hK K
               refine norm_ (a' := ?_) ?_ ?_
               rotate_left
               ·show Act.put _ (some 16) _ = _
                simp only [Act.put, List.setIfInBounds_toArray, List.set_cons_zero, List.set_cons_succ, i64_w, i32_w]
                rfl
               exact norm_ (by simp only [putAll, Act.put, List.setIfInBounds_toArray, List.set_cons_zero, List.set_cons_succ]) (hCont (.slice Ao151 t340.length co151, v344, gb348) _ ⟨hHeld, (by (with_reducible repeat (first | apply Kd.R_alloc | apply Kd.R_drewN | apply Kd.R_drew)); exact Kd.R_mono HO342.out (fun _ hk => ⟨hk.2, ⟨hk.1.1.1.2, ⟨hk.1.1.2, hk.1.2⟩⟩⟩)), (by (with_reducible repeat (first | apply Kd.Q_alloc | apply Kd.Q_drewN | apply Kd.Q_drew)); exact Kd.Q_mono HO345.out (fun _ hk => ⟨hk.2, ⟨hk.1.1.1.2, ⟨hk.1.1.2, hk.1.2⟩⟩⟩)), (by (with_reducible repeat (first | apply Kd.Q_alloc | apply Kd.Q_drewN | apply Kd.Q_drew)); exact Kd.Q_mono HO_311000.out (fun _ hk => ⟨hk.1.2, ⟨hk.2, ⟨hk.1.1.1, hk.1.1.2⟩⟩⟩)), (by (with_reducible repeat (first | apply Kd.Q_alloc | apply Kd.Q_drewN | apply Kd.Q_drew)); exact Kd.Q_mono HO_315000.out (fun _ hk => ⟨hk.1.2, ⟨hk.2, ⟨hk.1.1.1, hk.1.1.2⟩⟩⟩)), (by (with_reducible repeat (first | apply Kd.Q_alloc | apply Kd.Q_drewN | apply Kd.Q_drew)); exact Kd.Q_mono HO_325000.out (fun _ hk => ⟨hk.1.2, ⟨hk.2, ⟨hk.1.1.1, hk.1.1.2⟩⟩⟩)), (bq BK295.out), (bq BK296.out), (bq BK310.out), (bq BK314.out), (bq BK324.out), (bq BK348.out), GW348.out, GE348.out, NB295_348.out, NB348_295.out, NB296_348.out, NB348_296.out, NB310_348.out, NB348_310.out, NB314_348.out, NB348_314.out, NB324_348.out, NB348_324.out, (lq HB.out)⟩)
              ·skip
               refine box_step ?hg (N := 16) ?hd (cs := #[.slice none 0 0]) (t := 31) ?hr ?_; (case hd => rfl); (case hg => rfl); (case hr => first | (go_simp; done) | (go_simp; rfl))
               intro gb348 hg w151 hbox hb
               have n0_ := Aside0.mk (Kd.Q_below (by (with_reducible repeat (first | apply Kd.Q_alloc | apply Kd.Q_drewN | apply Kd.Q_drew)); exact HO_311000.out) hb)
               have n1_ := Aside0.mk (Kd.Q_below (by (with_reducible repeat (first | apply Kd.Q_alloc | apply Kd.Q_drewN | apply Kd.Q_drew)); exact HO_315000.out) hb)
               have n2_ := Aside0.mk (Kd.Q_below (by (with_reducible repeat (first | apply Kd.Q_alloc | apply Kd.Q_drewN | apply Kd.Q_drew)); exact HO_325000.out) hb)
               have n3_ := Aside0.mk (Kd.R_below (rq HO342.out) hb)
               have n4_ := Aside0.mk (blk_below (bq BK295.out) hb)
               have n5_ := Aside0.mk (blk_below (bq BK296.out) hb)
               have n6_ := Aside0.mk (blk_below (bq BK310.out) hb)
               have n7_ := Aside0.mk (blk_below (bq BK314.out) hb)
               have n8_ := Aside0.mk (blk_below (bq BK324.out) hb)
               have n9_ := Aside0.mk (below_step (lq HB.out) hb)
               have n10_ := Aside0.mk (hbox)
               have n11_ := Aside0.mk ((ge_new hg (lq HB.out) : w.heap.size ≤ gb348))
               have n12_ := Aside0.mk ((ge_new hg (lq HB.out) : w.heap.size ≤ gb348))
               have n13_ := Aside0.mk ((ne_new hg (bq BK295.out) : gb295 ≠ gb348))
               have n14_ := Aside0.mk ((new_ne hg (bq BK295.out) : gb348 ≠ gb295))
               have n15_ := Aside0.mk ((ne_new hg (bq BK296.out) : gb296 ≠ gb348))
               have n16_ := Aside0.mk ((new_ne hg (bq BK296.out) : gb348 ≠ gb296))
               have n17_ := Aside0.mk ((ne_new hg (bq BK310.out) : gb310 ≠ gb348))
               have n18_ := Aside0.mk ((new_ne hg (bq BK310.out) : gb348 ≠ gb310))
               have n19_ := Aside0.mk ((ne_new hg (bq BK314.out) : gb314 ≠ gb348))
               have n20_ := Aside0.mk ((new_ne hg (bq BK314.out) : gb348 ≠ gb314))
               have n21_ := Aside0.mk ((ne_new hg (bq BK324.out) : gb324 ≠ gb348))
               have n22_ := Aside0.mk ((new_ne hg (bq BK324.out) : gb348 ≠ gb324))
               clear HO_311000
               clear HO_315000
               clear HO_325000
               clear HO342
               clear BK295
               clear BK296
               clear BK310
               clear BK314
               clear BK324
               clear HB
               have HO_311000 := n0_
               have HO_315000 := n1_
               have HO_325000 := n2_
               have HO342 := n3_
               have BK295 := n4_
               have BK296 := n5_
               have BK310 := n6_
               have BK314 := n7_
               have BK324 := n8_
               have HB := n9_
               have BK348 := n10_
               have GW348 := n11_
               have GE348 := n12_
               have NB295_348 := n13_
               have NB348_295 := n14_
               have NB296_348 := n15_
               have NB348_296 := n16_
               have NB310_348 := n17_
               have NB348_310 := n18_
               have NB314_348 := n19_
               have NB348_314 := n20_
               have NB324_348 := n21_
               have NB348_324 := n22_
               clear n0_ n1_ n2_ n3_ n4_ n5_ n6_ n7_ n8_ n9_ n10_ n11_ n12_ n13_ n14_ n15_ n16_ n17_ n18_ n19_ n20_ n21_ n22_
               clear hb hbox hg
               obtain ⟨Ao152, co152, eo152⟩ := Kd.R_slice HO342.out
               (first | subst eo152 | (injection eo152 with f1_ f2_ f3_; have f4_ := f1_.symm; have f5_ := f3_.symm; clear f1_ f2_ f3_; subst f4_; subst f5_))
               refine hK.out _ _ ⟨(blk_cell BK295.out 0).trans rfl, (blk_cell BK295.out 1).trans rfl, (blk_cell BK295.out 2).trans rfl, (blk_cell BK295.out 3).trans rfl, (blk_cell BK296.out 0).trans rfl⟩ (fun hHeld => ?_)
               clear hK K
               refine norm_ (a' := ?_) ?_ ?_
               rotate_left
               ·show Act.put _ (some 16) _ = _
                simp only [Act.put, List.setIfInBounds_toArray, List.set_cons_zero, List.set_cons_succ, i64_w, i32_w]
                rfl
               refine one_ (i := 4) (N := some 99) #[true, true, true, true, true, false, false, false, false, true, false, false, false] rfl rfl (one_of HT_.out (by kernel_rfl)) (by decide) (fun K hK => ?_)
               refine goes_ Try.func32 (by kernel_rfl) rfl #[.agg #[.int .i64 t336, .int .i64 t337, .int .i64 t338, .int .i64 t339], .agg #[.slice Ao152 t340.length co152]] (by rfl) rfl rfl (by (try simp only [List.map_toArray, List.map_cons, List.map_nil]); first | done | rfl | (simp only [List.length_drop, List.length_take]; rfl)) ?_
               with_reducible refine (impl_RecvOn.calls t336 t337 t338 t339 _ _ t340 t343 t346 t347 _ ?side1 ?side2 A138.out).mono ?_
               (case side1 => repeat (first | exact (Kd.R_reads' HO342.out).2.2 | (with_reducible refine Kd.C_alloc ?_ _) | (with_reducible refine Kd.C_drewN ?_ _) | (with_reducible refine Kd.C_drew ?_)))
               (case side2 => exact (Kd.R_reads' HO342.out).2.1)
               rintro e w153 ⟨v344, rfl, ho0, hb⟩
               refine ⟨_, rfl, ?_⟩
               have n0_ := Aside0.mk (Kd.Q_elder' (by (with_reducible repeat (first | apply Kd.Q_alloc | apply Kd.Q_drewN | apply Kd.Q_drew)); exact HO_311000.out) (Kd.Q_base ho0) hb)
               have n1_ := Aside0.mk (Kd.Q_elder' (by (with_reducible repeat (first | apply Kd.Q_alloc | apply Kd.Q_drewN | apply Kd.Q_drew)); exact HO_315000.out) (Kd.Q_base ho0) hb)
               have n2_ := Aside0.mk (Kd.Q_elder' (by (with_reducible repeat (first | apply Kd.Q_alloc | apply Kd.Q_drewN | apply Kd.Q_drew)); exact HO_325000.out) (Kd.Q_base ho0) hb)
               have n3_ := Aside0.mk (Kd.R_elder' (rq HO342.out) (Kd.Q_base ho0) hb)
               have n4_ := Aside0.mk (Kd.Q_lower (Kd.Q_new' (Kd.Q_new' (Kd.Q_new' (Kd.Q_new' ho0 (Kd.Q_lt (by (with_reducible repeat (first | apply Kd.Q_alloc | apply Kd.Q_drewN | apply Kd.Q_drew)); exact HO_311000.out))) (Kd.Q_lt (by (with_reducible repeat (first | apply Kd.Q_alloc | apply Kd.Q_drewN | apply Kd.Q_drew)); exact HO_315000.out))) (Kd.Q_lt (by (with_reducible repeat (first | apply Kd.Q_alloc | apply Kd.Q_drewN | apply Kd.Q_drew)); exact HO_325000.out))) (Kd.R_lt (rq HO342.out))) (below_size (lq HB.out)))
               have n5_ := Aside0.mk (blk_below (bq BK295.out) hb)
               have n6_ := Aside0.mk (blk_below (bq BK296.out) hb)
               have n7_ := Aside0.mk (blk_below (bq BK310.out) hb)
               have n8_ := Aside0.mk (blk_below (bq BK314.out) hb)
               have n9_ := Aside0.mk (blk_below (bq BK324.out) hb)
               have n10_ := Aside0.mk (blk_below (bq BK348.out) hb)
               have n11_ := Aside0.mk (below_step (lq HB.out) hb)
               clear HO_311000
               clear HO_315000
               clear HO_325000
               clear HO342
               clear BK295
               clear BK296
               clear BK310
               clear BK314
               clear BK324
               clear BK348
               clear HB
               have HO_311000 := n0_
               have HO_315000 := n1_
               have HO_325000 := n2_
               have HO342 := n3_
               have HO345 := n4_
               have BK295 := n5_
               have BK296 := n6_
               have BK310 := n7_
               have BK314 := n8_
               have BK324 := n9_
               have BK348 := n10_
               have HB := n11_
               clear n0_ n1_ n2_ n3_ n4_ n5_ n6_ n7_ n8_ n9_ n10_ n11_
               (try clear hb)
               (try clear hb2)
               (try clear hk)
               (try clear hi)
               (try clear ho0)
               refine hK.out _ _ ⟨(blk_cell BK295.out 0).trans rfl, (blk_cell BK295.out 1).trans rfl, (blk_cell BK295.out 2).trans rfl, (blk_cell BK295.out 3).trans rfl, (blk_cell BK296.out 0).trans rfl⟩ (fun hHeld => ?_)
               clear hK K
               refine norm_ (a' := ?_) ?_ ?_
               rotate_left
               ·show Act.put _ (some 99) _ = _
                simp only [Act.put, List.setIfInBounds_toArray, List.set_cons_zero, List.set_cons_succ, i64_w, i32_w]
                rfl
               refine pure_ (i := 5) (N := some 94) (v := ?_) (a' := ?_) #[true, true, true, true, true, true, false, false, false, true, false, false, false] rfl rfl (any_of HT_.out (by kernel_rfl)) (fun _ _ _ h => h) (Or.inl ⟨by rfl, ?_⟩) ?_ ?_
               rotate_left
               ·intro w'
                go_simp
                with_reducible rfl
               rotate_left
               ·simp only [Act.put, List.setIfInBounds_toArray, List.set_cons_zero, List.set_cons_succ, i64_w, i32_w]
                rfl
               refine pure_ (i := 6) (N := some 100) (v := ?_) (a' := ?_) #[true, true, true, true, true, true, true, false, false, true, false, false, false] rfl rfl (any_of HT_.out (by kernel_rfl)) (fun _ _ _ h => h) (Or.inl ⟨by rfl, ?_⟩) ?_ ?_
               rotate_left
               ·intro w'
                go_simp
                with_reducible rfl
               rotate_left
               ·simp only [Act.put, List.setIfInBounds_toArray, List.set_cons_zero, List.set_cons_succ, i64_w, i32_w]
                rfl
               refine pure_ (i := 7) (N := some 101) (v := ?_) (a' := ?_) #[true, true, true, true, true, true, true, true, false, true, false, false, false] rfl rfl (any_of HT_.out (by kernel_rfl)) (fun _ _ _ h => h) (Or.inl ⟨by rfl, ?_⟩) ?_ ?_
               rotate_left
               ·intro w'
                go_simp
                with_reducible rfl
               rotate_left
               ·simp only [Act.put, List.setIfInBounds_toArray, List.set_cons_zero, List.set_cons_succ, i64_w, i32_w]
                rfl
               refine pure_ (i := 8) (N := some 102) (v := ?_) (a' := ?_) #[true, true, true, true, true, true, true, true, true, true, false, false, false] rfl rfl (any_of HT_.out (by kernel_rfl)) (fun _ _ _ h => h) (Or.inl ⟨by rfl, ?_⟩) ?_ ?_
               rotate_left
               ·intro w'
                go_simp
                with_reducible rfl
               rotate_left
               ·simp only [Act.put, List.setIfInBounds_toArray, List.set_cons_zero, List.set_cons_succ, i64_w, i32_w]
                rfl
               exact norm_ (by simp only [putAll, Act.put, List.setIfInBounds_toArray, List.set_cons_zero, List.set_cons_succ]) (hCont (.slice Ao152 t340.length co152, v344, gb348) _ ⟨hHeld, (by (with_reducible repeat (first | apply Kd.R_alloc | apply Kd.R_drewN | apply Kd.R_drew)); exact Kd.R_mono HO342.out (fun _ hk => ⟨hk.2, ⟨hk.1.1.1.2, ⟨hk.1.1.2, hk.1.2⟩⟩⟩)), (by (with_reducible repeat (first | apply Kd.Q_alloc | apply Kd.Q_drewN | apply Kd.Q_drew)); exact Kd.Q_mono HO345.out (fun _ hk => ⟨hk.2, ⟨hk.1.1.1.2, ⟨hk.1.1.2, hk.1.2⟩⟩⟩)), (by (with_reducible repeat (first | apply Kd.Q_alloc | apply Kd.Q_drewN | apply Kd.Q_drew)); exact Kd.Q_mono HO_311000.out (fun _ hk => ⟨hk.1.2, ⟨hk.2, ⟨hk.1.1.1, hk.1.1.2⟩⟩⟩)), (by (with_reducible repeat (first | apply Kd.Q_alloc | apply Kd.Q_drewN | apply Kd.Q_drew)); exact Kd.Q_mono HO_315000.out (fun _ hk => ⟨hk.1.2, ⟨hk.2, ⟨hk.1.1.1, hk.1.1.2⟩⟩⟩)), (by (with_reducible repeat (first | apply Kd.Q_alloc | apply Kd.Q_drewN | apply Kd.Q_drew)); exact Kd.Q_mono HO_325000.out (fun _ hk => ⟨hk.1.2, ⟨hk.2, ⟨hk.1.1.1, hk.1.1.2⟩⟩⟩)), (bq BK295.out), (bq BK296.out), (bq BK310.out), (bq BK314.out), (bq BK324.out), (bq BK348.out), GW348.out, GE348.out, NB295_348.out, NB348_295.out, NB296_348.out, NB348_296.out, NB310_348.out, NB348_310.out, NB314_348.out, NB348_314.out, NB324_348.out, NB348_324.out, (lq HB.out)⟩)
             ·skip
              refine box_step ?hg (N := 16) ?hd (cs := #[.slice none 0 0]) (t := 31) ?hr ?_; (case hd => rfl); (case hg => rfl); (case hr => first | (go_simp; done) | (go_simp; rfl))
              intro gb348 hg w150 hbox hb
              have n0_ := Aside0.mk (Kd.Q_below (by (with_reducible repeat (first | apply Kd.Q_alloc | apply Kd.Q_drewN | apply Kd.Q_drew)); exact HO_311000.out) hb)
              have n1_ := Aside0.mk (Kd.Q_below (by (with_reducible repeat (first | apply Kd.Q_alloc | apply Kd.Q_drewN | apply Kd.Q_drew)); exact HO_315000.out) hb)
              have n2_ := Aside0.mk (Kd.Q_below (by (with_reducible repeat (first | apply Kd.Q_alloc | apply Kd.Q_drewN | apply Kd.Q_drew)); exact HO_325000.out) hb)
              have n3_ := Aside0.mk (blk_below (bq BK295.out) hb)
              have n4_ := Aside0.mk (blk_below (bq BK296.out) hb)
              have n5_ := Aside0.mk (blk_below (bq BK310.out) hb)
              have n6_ := Aside0.mk (blk_below (bq BK314.out) hb)
              have n7_ := Aside0.mk (blk_below (bq BK324.out) hb)
              have n8_ := Aside0.mk (below_step (lq HB.out) hb)
              have n9_ := Aside0.mk (hbox)
              have n10_ := Aside0.mk ((ge_new hg (lq HB.out) : w.heap.size ≤ gb348))
              have n11_ := Aside0.mk ((ge_new hg (lq HB.out) : w.heap.size ≤ gb348))
              have n12_ := Aside0.mk ((ne_new hg (bq BK295.out) : gb295 ≠ gb348))
              have n13_ := Aside0.mk ((new_ne hg (bq BK295.out) : gb348 ≠ gb295))
              have n14_ := Aside0.mk ((ne_new hg (bq BK296.out) : gb296 ≠ gb348))
              have n15_ := Aside0.mk ((new_ne hg (bq BK296.out) : gb348 ≠ gb296))
              have n16_ := Aside0.mk ((ne_new hg (bq BK310.out) : gb310 ≠ gb348))
              have n17_ := Aside0.mk ((new_ne hg (bq BK310.out) : gb348 ≠ gb310))
              have n18_ := Aside0.mk ((ne_new hg (bq BK314.out) : gb314 ≠ gb348))
              have n19_ := Aside0.mk ((new_ne hg (bq BK314.out) : gb348 ≠ gb314))
              have n20_ := Aside0.mk ((ne_new hg (bq BK324.out) : gb324 ≠ gb348))
              have n21_ := Aside0.mk ((new_ne hg (bq BK324.out) : gb348 ≠ gb324))
              clear HO_311000
              clear HO_315000
              clear HO_325000
              clear BK295
              clear BK296
              clear BK310
              clear BK314
              clear BK324
              clear HB
              have HO_311000 := n0_
              have HO_315000 := n1_
              have HO_325000 := n2_
              have BK295 := n3_
              have BK296 := n4_
              have BK310 := n5_
              have BK314 := n6_
              have BK324 := n7_
              have HB := n8_
              have BK348 := n9_
              have GW348 := n10_
              have GE348 := n11_
              have NB295_348 := n12_
              have NB348_295 := n13_
              have NB296_348 := n14_
              have NB348_296 := n15_
              have NB310_348 := n16_
              have NB348_310 := n17_
              have NB314_348 := n18_
              have NB348_314 := n19_
              have NB324_348 := n20_
              have NB348_324 := n21_
              clear n0_ n1_ n2_ n3_ n4_ n5_ n6_ n7_ n8_ n9_ n10_ n11_ n12_ n13_ n14_ n15_ n16_ n17_ n18_ n19_ n20_ n21_
              clear hb hbox hg
              refine hK.out _ _ ⟨(blk_cell BK295.out 0).trans rfl, (blk_cell BK295.out 1).trans rfl, (blk_cell BK295.out 2).trans rfl, (blk_cell BK295.out 3).trans rfl, (blk_cell BK296.out 0).trans rfl⟩ (fun hHeld => ?_)
              clear hK K
              refine norm_ (a' := ?_) ?_ ?_
              rotate_left
              ·show Act.put _ (some 16) _ = _
               simp only [Act.put, List.setIfInBounds_toArray, List.set_cons_zero, List.set_cons_succ, i64_w, i32_w]
               rfl
              refine one_ (i := 3) (N := some 98) #[true, true, true, true, false, false, false, false, false, true, false, false, false] rfl rfl (one_of HT_.out (by kernel_rfl)) (by decide) (fun K hK => ?_)
              refine goes_ Try.func17 (by kernel_rfl) rfl #[.agg #[.slice A1_0 l1_0.length c1_0]] (by rfl) rfl rfl (by (try simp only [List.map_toArray, List.map_cons, List.map_nil]); first | done | rfl | (simp only [List.length_drop, List.length_take]; rfl)) ?_
              with_reducible refine (laws_toInEnd.calls kj85 _ _ l1_0 t340 _ ?side1 ?side2 A137.out).mono ?_
              (case side1 => repeat (first | exact (Kd.C_below HR1_0.out HB.out) | (with_reducible refine Kd.C_alloc ?_ _) | (with_reducible refine Kd.C_drewN ?_ _) | (with_reducible refine Kd.C_drew ?_)))
              (case side2 => exact HC1_0.out)
              rintro e w151 ⟨v341, rfl, ho0, hb⟩
              refine ⟨_, rfl, ?_⟩
              have n0_ := Aside0.mk (Kd.Q_elder' (by (with_reducible repeat (first | apply Kd.Q_alloc | apply Kd.Q_drewN | apply Kd.Q_drew)); exact HO_311000.out) (Kd.R_base ho0) hb)
              have n1_ := Aside0.mk (Kd.Q_elder' (by (with_reducible repeat (first | apply Kd.Q_alloc | apply Kd.Q_drewN | apply Kd.Q_drew)); exact HO_315000.out) (Kd.R_base ho0) hb)
              have n2_ := Aside0.mk (Kd.Q_elder' (by (with_reducible repeat (first | apply Kd.Q_alloc | apply Kd.Q_drewN | apply Kd.Q_drew)); exact HO_325000.out) (Kd.R_base ho0) hb)
              have n3_ := Aside0.mk (Kd.R_lower (Kd.R_new' (Kd.R_new' (Kd.R_new' ho0 (Kd.Q_lt (by (with_reducible repeat (first | apply Kd.Q_alloc | apply Kd.Q_drewN | apply Kd.Q_drew)); exact HO_311000.out))) (Kd.Q_lt (by (with_reducible repeat (first | apply Kd.Q_alloc | apply Kd.Q_drewN | apply Kd.Q_drew)); exact HO_315000.out))) (Kd.Q_lt (by (with_reducible repeat (first | apply Kd.Q_alloc | apply Kd.Q_drewN | apply Kd.Q_drew)); exact HO_325000.out))) (below_size (lq HB.out)))
              have n4_ := Aside0.mk (blk_below (bq BK295.out) hb)
              have n5_ := Aside0.mk (blk_below (bq BK296.out) hb)
              have n6_ := Aside0.mk (blk_below (bq BK310.out) hb)
              have n7_ := Aside0.mk (blk_below (bq BK314.out) hb)
              have n8_ := Aside0.mk (blk_below (bq BK324.out) hb)
              have n9_ := Aside0.mk (blk_below (bq BK348.out) hb)
              have n10_ := Aside0.mk (below_step (lq HB.out) hb)
              clear HO_311000
              clear HO_315000
              clear HO_325000
              clear BK295
              clear BK296
              clear BK310
              clear BK314
              clear BK324
              clear BK348
              clear HB
              have HO_311000 := n0_
              have HO_315000 := n1_
              have HO_325000 := n2_
              have HO342 := n3_
              have BK295 := n4_
              have BK296 := n5_
              have BK310 := n6_
              have BK314 := n7_
              have BK324 := n8_
              have BK348 := n9_
              have HB := n10_
              clear n0_ n1_ n2_ n3_ n4_ n5_ n6_ n7_ n8_ n9_ n10_
              (try clear hb)
              (try clear hb2)
              (try clear hk)
              (try clear hi)
              (try clear ho0)
              obtain ⟨Ao152, co152, eo152⟩ := Kd.R_slice HO342.out
              (first | subst eo152 | (injection eo152 with f1_ f2_ f3_; have f4_ := f1_.symm; have f5_ := f3_.symm; clear f1_ f2_ f3_; subst f4_; subst f5_))
              refine hK.out _ _ ⟨(blk_cell BK295.out 0).trans rfl, (blk_cell BK295.out 1).trans rfl, (blk_cell BK295.out 2).trans rfl, (blk_cell BK295.out 3).trans rfl, (blk_cell BK296.out 0).trans rfl⟩ (fun hHeld => ?_)
              clear hK K
              refine norm_ (a' := ?_) ?_ ?_
              rotate_left
              ·show Act.put _ (some 98) _ = _
               simp only [Act.put, List.setIfInBounds_toArray, List.set_cons_zero, List.set_cons_succ, i64_w, i32_w]
               rfl
              refine one_ (i := 4) (N := some 99) #[true, true, true, true, true, false, false, false, false, true, false, false, false] rfl rfl (one_of HT_.out (by kernel_rfl)) (by decide) (fun K hK => ?_)
              refine goes_ Try.func32 (by kernel_rfl) rfl #[.agg #[.int .i64 t336, .int .i64 t337, .int .i64 t338, .int .i64 t339], .agg #[.slice Ao152 t340.length co152]] (by rfl) rfl rfl (by (try simp only [List.map_toArray, List.map_cons, List.map_nil]); first | done | rfl | (simp only [List.length_drop, List.length_take]; rfl)) ?_
              with_reducible refine (impl_RecvOn.calls t336 t337 t338 t339 _ _ t340 t343 t346 t347 _ ?side1 ?side2 A138.out).mono ?_
              (case side1 => repeat (first | exact (Kd.R_reads' HO342.out).2.2 | (with_reducible refine Kd.C_alloc ?_ _) | (with_reducible refine Kd.C_drewN ?_ _) | (with_reducible refine Kd.C_drew ?_)))
              (case side2 => exact (Kd.R_reads' HO342.out).2.1)
              rintro e w153 ⟨v344, rfl, ho0, hb⟩
              refine ⟨_, rfl, ?_⟩
              have n0_ := Aside0.mk (Kd.Q_elder' (by (with_reducible repeat (first | apply Kd.Q_alloc | apply Kd.Q_drewN | apply Kd.Q_drew)); exact HO_311000.out) (Kd.Q_base ho0) hb)
              have n1_ := Aside0.mk (Kd.Q_elder' (by (with_reducible repeat (first | apply Kd.Q_alloc | apply Kd.Q_drewN | apply Kd.Q_drew)); exact HO_315000.out) (Kd.Q_base ho0) hb)
              have n2_ := Aside0.mk (Kd.Q_elder' (by (with_reducible repeat (first | apply Kd.Q_alloc | apply Kd.Q_drewN | apply Kd.Q_drew)); exact HO_325000.out) (Kd.Q_base ho0) hb)
              have n3_ := Aside0.mk (Kd.R_elder' (rq HO342.out) (Kd.Q_base ho0) hb)
              have n4_ := Aside0.mk (Kd.Q_lower (Kd.Q_new' (Kd.Q_new' (Kd.Q_new' (Kd.Q_new' ho0 (Kd.Q_lt (by (with_reducible repeat (first | apply Kd.Q_alloc | apply Kd.Q_drewN | apply Kd.Q_drew)); exact HO_311000.out))) (Kd.Q_lt (by (with_reducible repeat (first | apply Kd.Q_alloc | apply Kd.Q_drewN | apply Kd.Q_drew)); exact HO_315000.out))) (Kd.Q_lt (by (with_reducible repeat (first | apply Kd.Q_alloc | apply Kd.Q_drewN | apply Kd.Q_drew)); exact HO_325000.out))) (Kd.R_lt (rq HO342.out))) (below_size (lq HB.out)))
              have n5_ := Aside0.mk (blk_below (bq BK295.out) hb)
              have n6_ := Aside0.mk (blk_below (bq BK296.out) hb)
              have n7_ := Aside0.mk (blk_below (bq BK310.out) hb)
              have n8_ := Aside0.mk (blk_below (bq BK314.out) hb)
              have n9_ := Aside0.mk (blk_below (bq BK324.out) hb)
              have n10_ := Aside0.mk (blk_below (bq BK348.out) hb)
              have n11_ := Aside0.mk (below_step (lq HB.out) hb)
              clear HO_311000
              clear HO_315000
              clear HO_325000
              clear HO342
              clear BK295
              clear BK296
              clear BK310
              clear BK314
              clear BK324
              clear BK348
              clear HB
              have HO_311000 := n0_
              have HO_315000 := n1_
              have HO_325000 := n2_
              have HO342 := n3_
              have HO345 := n4_
              have BK295 := n5_
              have BK296 := n6_
              have BK310 := n7_
              have BK314 := n8_
              have BK324 := n9_
              have BK348 := n10_
              have HB := n11_
              clear n0_ n1_ n2_ n3_ n4_ n5_ n6_ n7_ n8_ n9_ n10_ n11_
              (try clear hb)
              (try clear hb2)
              (try clear hk)
              (try clear hi)
              (try clear ho0)
              refine hK.out _ _ ⟨(blk_cell BK295.out 0).trans rfl, (blk_cell BK295.out 1).trans rfl, (blk_cell BK295.out 2).trans rfl, (blk_cell BK295.out 3).trans rfl, (blk_cell BK296.out 0).trans rfl⟩ (fun hHeld => ?_)
              clear hK K
              refine norm_ (a' := ?_) ?_ ?_
              rotate_left
              ·show Act.put _ (some 99) _ = _
               simp only [Act.put, List.setIfInBounds_toArray, List.set_cons_zero, List.set_cons_succ, i64_w, i32_w]
               rfl
              refine pure_ (i := 5) (N := some 94) (v := ?_) (a' := ?_) #[true, true, true, true, true, true, false, false, false, true, false, false, false] rfl rfl (any_of HT_.out (by kernel_rfl)) (fun _ _ _ h => h) (Or.inl ⟨by rfl, ?_⟩) ?_ ?_
              rotate_left
              ·intro w'
               go_simp
               with_reducible rfl
              rotate_left
              ·simp only [Act.put, List.setIfInBounds_toArray, List.set_cons_zero, List.set_cons_succ, i64_w, i32_w]
               rfl
              refine pure_ (i := 6) (N := some 100) (v := ?_) (a' := ?_) #[true, true, true, true, true, true, true, false, false, true, false, false, false] rfl rfl (any_of HT_.out (by kernel_rfl)) (fun _ _ _ h => h) (Or.inl ⟨by rfl, ?_⟩) ?_ ?_
              rotate_left
              ·intro w'
               go_simp
               with_reducible rfl
              rotate_left
              ·simp only [Act.put, List.setIfInBounds_toArray, List.set_cons_zero, List.set_cons_succ, i64_w, i32_w]
               rfl
              refine pure_ (i := 7) (N := some 101) (v := ?_) (a' := ?_) #[true, true, true, true, true, true, true, true, false, true, false, false, false] rfl rfl (any_of HT_.out (by kernel_rfl)) (fun _ _ _ h => h) (Or.inl ⟨by rfl, ?_⟩) ?_ ?_
              rotate_left
              ·intro w'
               go_simp
               with_reducible rfl
              rotate_left
              ·simp only [Act.put, List.setIfInBounds_toArray, List.set_cons_zero, List.set_cons_succ, i64_w, i32_w]
               rfl
              refine pure_ (i := 8) (N := some 102) (v := ?_) (a' := ?_) #[true, true, true, true, true, true, true, true, true, true, false, false, false] rfl rfl (any_of HT_.out (by kernel_rfl)) (fun _ _ _ h => h) (Or.inl ⟨by rfl, ?_⟩) ?_ ?_
              rotate_left
              ·intro w'
               go_simp
               with_reducible rfl
              rotate_left
              ·simp only [Act.put, List.setIfInBounds_toArray, List.set_cons_zero, List.set_cons_succ, i64_w, i32_w]
               rfl
              exact norm_ (by simp only [putAll, Act.put, List.setIfInBounds_toArray, List.set_cons_zero, List.set_cons_succ]) (hCont (.slice Ao152 t340.length co152, v344, gb348) _ ⟨hHeld, (by (with_reducible repeat (first | apply Kd.R_alloc | apply Kd.R_drewN | apply Kd.R_drew)); exact Kd.R_mono HO342.out (fun _ hk => ⟨hk.2, ⟨hk.1.1.1.2, ⟨hk.1.1.2, hk.1.2⟩⟩⟩)), (by (with_reducible repeat (first | apply Kd.Q_alloc | apply Kd.Q_drewN | apply Kd.Q_drew)); exact Kd.Q_mono HO345.out (fun _ hk => ⟨hk.2, ⟨hk.1.1.1.2, ⟨hk.1.1.2, hk.1.2⟩⟩⟩)), (by (with_reducible repeat (first | apply Kd.Q_alloc | apply Kd.Q_drewN | apply Kd.Q_drew)); exact Kd.Q_mono HO_311000.out (fun _ hk => ⟨hk.1.2, ⟨hk.2, ⟨hk.1.1.1, hk.1.1.2⟩⟩⟩)), (by (with_reducible repeat (first | apply Kd.Q_alloc | apply Kd.Q_drewN | apply Kd.Q_drew)); exact Kd.Q_mono HO_315000.out (fun _ hk => ⟨hk.1.2, ⟨hk.2, ⟨hk.1.1.1, hk.1.1.2⟩⟩⟩)), (by (with_reducible repeat (first | apply Kd.Q_alloc | apply Kd.Q_drewN | apply Kd.Q_drew)); exact Kd.Q_mono HO_325000.out (fun _ hk => ⟨hk.1.2, ⟨hk.2, ⟨hk.1.1.1, hk.1.1.2⟩⟩⟩)), (bq BK295.out), (bq BK296.out), (bq BK310.out), (bq BK314.out), (bq BK324.out), (bq BK348.out), GW348.out, GE348.out, NB295_348.out, NB348_295.out, NB296_348.out, NB348_296.out, NB310_348.out, NB348_310.out, NB314_348.out, NB348_314.out, NB324_348.out, NB348_324.out, (lq HB.out)⟩)
            ·skip
             refine box_step ?hg (N := 16) ?hd (cs := #[.slice none 0 0]) (t := 31) ?hr ?_; (case hd => rfl); (case hg => rfl); (case hr => first | (go_simp; done) | (go_simp; rfl))
             intro gb348 hg w149 hbox hb
             have n0_ := Aside0.mk (Kd.Q_below (by (with_reducible repeat (first | apply Kd.Q_alloc | apply Kd.Q_drewN | apply Kd.Q_drew)); exact HO_311000.out) hb)
             have n1_ := Aside0.mk (Kd.Q_below (by (with_reducible repeat (first | apply Kd.Q_alloc | apply Kd.Q_drewN | apply Kd.Q_drew)); exact HO_315000.out) hb)
             have n2_ := Aside0.mk (Kd.Q_below (by (with_reducible repeat (first | apply Kd.Q_alloc | apply Kd.Q_drewN | apply Kd.Q_drew)); exact HO_325000.out) hb)
             have n3_ := Aside0.mk (blk_below (bq BK295.out) hb)
             have n4_ := Aside0.mk (blk_below (bq BK296.out) hb)
             have n5_ := Aside0.mk (blk_below (bq BK310.out) hb)
             have n6_ := Aside0.mk (blk_below (bq BK314.out) hb)
             have n7_ := Aside0.mk (blk_below (bq BK324.out) hb)
             have n8_ := Aside0.mk (below_step (lq HB.out) hb)
             have n9_ := Aside0.mk (hbox)
             have n10_ := Aside0.mk ((ge_new hg (lq HB.out) : w.heap.size ≤ gb348))
             have n11_ := Aside0.mk ((ge_new hg (lq HB.out) : w.heap.size ≤ gb348))
             have n12_ := Aside0.mk ((ne_new hg (bq BK295.out) : gb295 ≠ gb348))
             have n13_ := Aside0.mk ((new_ne hg (bq BK295.out) : gb348 ≠ gb295))
             have n14_ := Aside0.mk ((ne_new hg (bq BK296.out) : gb296 ≠ gb348))
             have n15_ := Aside0.mk ((new_ne hg (bq BK296.out) : gb348 ≠ gb296))
             have n16_ := Aside0.mk ((ne_new hg (bq BK310.out) : gb310 ≠ gb348))
             have n17_ := Aside0.mk ((new_ne hg (bq BK310.out) : gb348 ≠ gb310))
             have n18_ := Aside0.mk ((ne_new hg (bq BK314.out) : gb314 ≠ gb348))
             have n19_ := Aside0.mk ((new_ne hg (bq BK314.out) : gb348 ≠ gb314))
             have n20_ := Aside0.mk ((ne_new hg (bq BK324.out) : gb324 ≠ gb348))
             have n21_ := Aside0.mk ((new_ne hg (bq BK324.out) : gb348 ≠ gb324))
             clear HO_311000
             clear HO_315000
             clear HO_325000
             clear BK295
             clear BK296
             clear BK310
             clear BK314
             clear BK324
             clear HB
             have HO_311000 := n0_
             have HO_315000 := n1_
             have HO_325000 := n2_
             have BK295 := n3_
             have BK296 := n4_
             have BK310 := n5_
             have BK314 := n6_
             have BK324 := n7_
             have HB := n8_
             have BK348 := n9_
             have GW348 := n10_
             have GE348 := n11_
             have NB295_348 := n12_
             have NB348_295 := n13_
             have NB296_348 := n14_
             have NB348_296 := n15_
             have NB310_348 := n16_
             have NB348_310 := n17_
             have NB314_348 := n18_
             have NB348_314 := n19_
             have NB324_348 := n20_
             have NB348_324 := n21_
             clear n0_ n1_ n2_ n3_ n4_ n5_ n6_ n7_ n8_ n9_ n10_ n11_ n12_ n13_ n14_ n15_ n16_ n17_ n18_ n19_ n20_ n21_
             clear hb hbox hg
             refine hK.out _ _ ⟨(blk_cell BK295.out 0).trans rfl, (blk_cell BK295.out 1).trans rfl, (blk_cell BK295.out 2).trans rfl, (blk_cell BK295.out 3).trans rfl, (blk_cell BK296.out 0).trans rfl⟩ (fun hHeld => ?_)
             clear hK K
             refine norm_ (a' := ?_) ?_ ?_
             rotate_left
             ·show Act.put _ (some 16) _ = _
              simp only [Act.put, List.setIfInBounds_toArray, List.set_cons_zero, List.set_cons_succ, i64_w, i32_w]
              rfl
             refine one_ (i := 1) (N := some 96) #[true, true, true, false, false, false, false, false, false, true, false, false, false] rfl rfl (one_of HT_.out (by kernel_rfl)) (by decide) (fun K hK => ?_)
             refine goes_ Try.func16 (by kernel_rfl) rfl #[.agg #[.int .i64 a0_0, .int .i64 a0_1, .int .i64 a0_2, .int .i64 a0_3]] (by rfl) rfl rfl (by (try simp only [List.map_toArray, List.map_cons, List.map_nil]); first | done | rfl | (simp only [List.length_drop, List.length_take]; rfl)) ?_
             with_reducible refine (laws_toChanRow.calls a0_0 a0_1 a0_2 a0_3 t336 t337 t338 t339 _ A136.out).mono ?_
             rintro e w150 ⟨rfl, hb⟩
             refine ⟨_, rfl, ?_⟩
             have n0_ := Aside0.mk (Kd.Q_below (by (with_reducible repeat (first | apply Kd.Q_alloc | apply Kd.Q_drewN | apply Kd.Q_drew)); exact HO_311000.out) hb)
             have n1_ := Aside0.mk (Kd.Q_below (by (with_reducible repeat (first | apply Kd.Q_alloc | apply Kd.Q_drewN | apply Kd.Q_drew)); exact HO_315000.out) hb)
             have n2_ := Aside0.mk (Kd.Q_below (by (with_reducible repeat (first | apply Kd.Q_alloc | apply Kd.Q_drewN | apply Kd.Q_drew)); exact HO_325000.out) hb)
             have n3_ := Aside0.mk (blk_below (bq BK295.out) hb)
             have n4_ := Aside0.mk (blk_below (bq BK296.out) hb)
             have n5_ := Aside0.mk (blk_below (bq BK310.out) hb)
             have n6_ := Aside0.mk (blk_below (bq BK314.out) hb)
             have n7_ := Aside0.mk (blk_below (bq BK324.out) hb)
             have n8_ := Aside0.mk (blk_below (bq BK348.out) hb)
             have n9_ := Aside0.mk (below_step (lq HB.out) hb)
             clear HO_311000
             clear HO_315000
             clear HO_325000
             clear BK295
             clear BK296
             clear BK310
             clear BK314
             clear BK324
             clear BK348
             clear HB
             have HO_311000 := n0_
             have HO_315000 := n1_
             have HO_325000 := n2_
             have BK295 := n3_
             have BK296 := n4_
             have BK310 := n5_
             have BK314 := n6_
             have BK324 := n7_
             have BK348 := n8_
             have HB := n9_
             clear n0_ n1_ n2_ n3_ n4_ n5_ n6_ n7_ n8_ n9_
             (try clear hb)
             (try clear hb2)
             (try clear hk)
             (try clear hi)
             refine hK.out _ _ ⟨(blk_cell BK295.out 0).trans rfl, (blk_cell BK295.out 1).trans rfl, (blk_cell BK295.out 2).trans rfl, (blk_cell BK295.out 3).trans rfl, (blk_cell BK296.out 0).trans rfl⟩ (fun hHeld => ?_)
             clear hK K
             refine norm_ (a' := ?_) ?_ ?_
             rotate_left
             ·show Act.put _ (some 96) _ = _
              simp only [Act.put, List.setIfInBounds_toArray, List.set_cons_zero, List.set_cons_succ, i64_w, i32_w]
              rfl
             refine one_ (i := 3) (N := some 98) #[true, true, true, true, false, false, false, false, false, true, false, false, false] rfl rfl (one_of HT_.out (by kernel_rfl)) (by decide) (fun K hK => ?_)
             refine goes_ Try.func17 (by kernel_rfl) rfl #[.agg #[.slice A1_0 l1_0.length c1_0]] (by rfl) rfl rfl (by (try simp only [List.map_toArray, List.map_cons, List.map_nil]); first | done | rfl | (simp only [List.length_drop, List.length_take]; rfl)) ?_
             with_reducible refine (laws_toInEnd.calls kj85 _ _ l1_0 t340 _ ?side1 ?side2 A137.out).mono ?_
             (case side1 => repeat (first | exact (Kd.C_below HR1_0.out HB.out) | (with_reducible refine Kd.C_alloc ?_ _) | (with_reducible refine Kd.C_drewN ?_ _) | (with_reducible refine Kd.C_drew ?_)))
             (case side2 => exact HC1_0.out)
             rintro e w151 ⟨v341, rfl, ho0, hb⟩
             refine ⟨_, rfl, ?_⟩
             have n0_ := Aside0.mk (Kd.Q_elder' (by (with_reducible repeat (first | apply Kd.Q_alloc | apply Kd.Q_drewN | apply Kd.Q_drew)); exact HO_311000.out) (Kd.R_base ho0) hb)
             have n1_ := Aside0.mk (Kd.Q_elder' (by (with_reducible repeat (first | apply Kd.Q_alloc | apply Kd.Q_drewN | apply Kd.Q_drew)); exact HO_315000.out) (Kd.R_base ho0) hb)
             have n2_ := Aside0.mk (Kd.Q_elder' (by (with_reducible repeat (first | apply Kd.Q_alloc | apply Kd.Q_drewN | apply Kd.Q_drew)); exact HO_325000.out) (Kd.R_base ho0) hb)
             have n3_ := Aside0.mk (Kd.R_lower (Kd.R_new' (Kd.R_new' (Kd.R_new' ho0 (Kd.Q_lt (by (with_reducible repeat (first | apply Kd.Q_alloc | apply Kd.Q_drewN | apply Kd.Q_drew)); exact HO_311000.out))) (Kd.Q_lt (by (with_reducible repeat (first | apply Kd.Q_alloc | apply Kd.Q_drewN | apply Kd.Q_drew)); exact HO_315000.out))) (Kd.Q_lt (by (with_reducible repeat (first | apply Kd.Q_alloc | apply Kd.Q_drewN | apply Kd.Q_drew)); exact HO_325000.out))) (below_size (lq HB.out)))
             have n4_ := Aside0.mk (blk_below (bq BK295.out) hb)
             have n5_ := Aside0.mk (blk_below (bq BK296.out) hb)
             have n6_ := Aside0.mk (blk_below (bq BK310.out) hb)
             have n7_ := Aside0.mk (blk_below (bq BK314.out) hb)
             have n8_ := Aside0.mk (blk_below (bq BK324.out) hb)
             have n9_ := Aside0.mk (blk_below (bq BK348.out) hb)
             have n10_ := Aside0.mk (below_step (lq HB.out) hb)
             clear HO_311000
             clear HO_315000
             clear HO_325000
             clear BK295
             clear BK296
             clear BK310
             clear BK314
             clear BK324
             clear BK348
             clear HB
             have HO_311000 := n0_
             have HO_315000 := n1_
             have HO_325000 := n2_
             have HO342 := n3_
             have BK295 := n4_
             have BK296 := n5_
             have BK310 := n6_
             have BK314 := n7_
             have BK324 := n8_
             have BK348 := n9_
             have HB := n10_
             clear n0_ n1_ n2_ n3_ n4_ n5_ n6_ n7_ n8_ n9_ n10_
             (try clear hb)
             (try clear hb2)
             (try clear hk)
             (try clear hi)
             (try clear ho0)
             obtain ⟨Ao152, co152, eo152⟩ := Kd.R_slice HO342.out
             (first | subst eo152 | (injection eo152 with f1_ f2_ f3_; have f4_ := f1_.symm; have f5_ := f3_.symm; clear f1_ f2_ f3_; subst f4_; subst f5_))
             refine hK.out _ _ ⟨(blk_cell BK295.out 0).trans rfl, (blk_cell BK295.out 1).trans rfl, (blk_cell BK295.out 2).trans rfl, (blk_cell BK295.out 3).trans rfl, (blk_cell BK296.out 0).trans rfl⟩ (fun hHeld => ?_)
             clear hK K
             refine norm_ (a' := ?_) ?_ ?_
             rotate_left
             ·show Act.put _ (some 98) _ = _
              simp only [Act.put, List.setIfInBounds_toArray, List.set_cons_zero, List.set_cons_succ, i64_w, i32_w]
              rfl
             refine one_ (i := 4) (N := some 99) #[true, true, true, true, true, false, false, false, false, true, false, false, false] rfl rfl (one_of HT_.out (by kernel_rfl)) (by decide) (fun K hK => ?_)
             refine goes_ Try.func32 (by kernel_rfl) rfl #[.agg #[.int .i64 t336, .int .i64 t337, .int .i64 t338, .int .i64 t339], .agg #[.slice Ao152 t340.length co152]] (by rfl) rfl rfl (by (try simp only [List.map_toArray, List.map_cons, List.map_nil]); first | done | rfl | (simp only [List.length_drop, List.length_take]; rfl)) ?_
             with_reducible refine (impl_RecvOn.calls t336 t337 t338 t339 _ _ t340 t343 t346 t347 _ ?side1 ?side2 A138.out).mono ?_
             (case side1 => repeat (first | exact (Kd.R_reads' HO342.out).2.2 | (with_reducible refine Kd.C_alloc ?_ _) | (with_reducible refine Kd.C_drewN ?_ _) | (with_reducible refine Kd.C_drew ?_)))
             (case side2 => exact (Kd.R_reads' HO342.out).2.1)
             rintro e w153 ⟨v344, rfl, ho0, hb⟩
             refine ⟨_, rfl, ?_⟩
             have n0_ := Aside0.mk (Kd.Q_elder' (by (with_reducible repeat (first | apply Kd.Q_alloc | apply Kd.Q_drewN | apply Kd.Q_drew)); exact HO_311000.out) (Kd.Q_base ho0) hb)
             have n1_ := Aside0.mk (Kd.Q_elder' (by (with_reducible repeat (first | apply Kd.Q_alloc | apply Kd.Q_drewN | apply Kd.Q_drew)); exact HO_315000.out) (Kd.Q_base ho0) hb)
             have n2_ := Aside0.mk (Kd.Q_elder' (by (with_reducible repeat (first | apply Kd.Q_alloc | apply Kd.Q_drewN | apply Kd.Q_drew)); exact HO_325000.out) (Kd.Q_base ho0) hb)
             have n3_ := Aside0.mk (Kd.R_elder' (rq HO342.out) (Kd.Q_base ho0) hb)
             have n4_ := Aside0.mk (Kd.Q_lower (Kd.Q_new' (Kd.Q_new' (Kd.Q_new' (Kd.Q_new' ho0 (Kd.Q_lt (by (with_reducible repeat (first | apply Kd.Q_alloc | apply Kd.Q_drewN | apply Kd.Q_drew)); exact HO_311000.out))) (Kd.Q_lt (by (with_reducible repeat (first | apply Kd.Q_alloc | apply Kd.Q_drewN | apply Kd.Q_drew)); exact HO_315000.out))) (Kd.Q_lt (by (with_reducible repeat (first | apply Kd.Q_alloc | apply Kd.Q_drewN | apply Kd.Q_drew)); exact HO_325000.out))) (Kd.R_lt (rq HO342.out))) (below_size (lq HB.out)))
             have n5_ := Aside0.mk (blk_below (bq BK295.out) hb)
             have n6_ := Aside0.mk (blk_below (bq BK296.out) hb)
             have n7_ := Aside0.mk (blk_below (bq BK310.out) hb)
             have n8_ := Aside0.mk (blk_below (bq BK314.out) hb)
             have n9_ := Aside0.mk (blk_below (bq BK324.out) hb)
             have n10_ := Aside0.mk (blk_below (bq BK348.out) hb)
             have n11_ := Aside0.mk (below_step (lq HB.out) hb)
             clear HO_311000
             clear HO_315000
             clear HO_325000
             clear HO342
             clear BK295
             clear BK296
             clear BK310
             clear BK314
             clear BK324
             clear BK348
             clear HB
             have HO_311000 := n0_
             have HO_315000 := n1_
             have HO_325000 := n2_
             have HO342 := n3_
             have HO345 := n4_
             have BK295 := n5_
             have BK296 := n6_
             have BK310 := n7_
             have BK314 := n8_
             have BK324 := n9_
             have BK348 := n10_
             have HB := n11_
             clear n0_ n1_ n2_ n3_ n4_ n5_ n6_ n7_ n8_ n9_ n10_ n11_
             (try clear hb)
             (try clear hb2)
             (try clear hk)
             (try clear hi)
             (try clear ho0)
             refine hK.out _ _ ⟨(blk_cell BK295.out 0).trans rfl, (blk_cell BK295.out 1).trans rfl, (blk_cell BK295.out 2).trans rfl, (blk_cell BK295.out 3).trans rfl, (blk_cell BK296.out 0).trans rfl⟩ (fun hHeld => ?_)
             clear hK K
             refine norm_ (a' := ?_) ?_ ?_
             rotate_left
             ·show Act.put _ (some 99) _ = _
              simp only [Act.put, List.setIfInBounds_toArray, List.set_cons_zero, List.set_cons_succ, i64_w, i32_w]
              rfl
             refine pure_ (i := 5) (N := some 94) (v := ?_) (a' := ?_) #[true, true, true, true, true, true, false, false, false, true, false, false, false] rfl rfl (any_of HT_.out (by kernel_rfl)) (fun _ _ _ h => h) (Or.inl ⟨by rfl, ?_⟩) ?_ ?_
             rotate_left
             ·intro w'
              go_simp
              with_reducible rfl
             rotate_left
             ·simp only [Act.put, List.setIfInBounds_toArray, List.set_cons_zero, List.set_cons_succ, i64_w, i32_w]
              rfl
             refine pure_ (i := 6) (N := some 100) (v := ?_) (a' := ?_) #[true, true, true, true, true, true, true, false, false, true, false, false, false] rfl rfl (any_of HT_.out (by kernel_rfl)) (fun _ _ _ h => h) (Or.inl ⟨by rfl, ?_⟩) ?_ ?_
             rotate_left
             ·intro w'
              go_simp
              with_reducible rfl
             rotate_left
             ·simp only [Act.put, List.setIfInBounds_toArray, List.set_cons_zero, List.set_cons_succ, i64_w, i32_w]
              rfl
             refine pure_ (i := 7) (N := some 101) (v := ?_) (a' := ?_) #[true, true, true, true, true, true, true, true, false, true, false, false, false] rfl rfl (any_of HT_.out (by kernel_rfl)) (fun _ _ _ h => h) (Or.inl ⟨by rfl, ?_⟩) ?_ ?_
             rotate_left
             ·intro w'
              go_simp
              with_reducible rfl
             rotate_left
             ·simp only [Act.put, List.setIfInBounds_toArray, List.set_cons_zero, List.set_cons_succ, i64_w, i32_w]
              rfl
             refine pure_ (i := 8) (N := some 102) (v := ?_) (a' := ?_) #[true, true, true, true, true, true, true, true, true, true, false, false, false] rfl rfl (any_of HT_.out (by kernel_rfl)) (fun _ _ _ h => h) (Or.inl ⟨by rfl, ?_⟩) ?_ ?_
             rotate_left
             ·intro w'
              go_simp
              with_reducible rfl
             rotate_left
             ·simp only [Act.put, List.setIfInBounds_toArray, List.set_cons_zero, List.set_cons_succ, i64_w, i32_w]
              rfl
             exact norm_ (by simp only [putAll, Act.put, List.setIfInBounds_toArray, List.set_cons_zero, List.set_cons_succ]) (hCont (.slice Ao152 t340.length co152, v344, gb348) _ ⟨hHeld, (by (with_reducible repeat (first | apply Kd.R_alloc | apply Kd.R_drewN | apply Kd.R_drew)); exact Kd.R_mono HO342.out (fun _ hk => ⟨hk.2, ⟨hk.1.1.1.2, ⟨hk.1.1.2, hk.1.2⟩⟩⟩)), (by (with_reducible repeat (first | apply Kd.Q_alloc | apply Kd.Q_drewN | apply Kd.Q_drew)); exact Kd.Q_mono HO345.out (fun _ hk => ⟨hk.2, ⟨hk.1.1.1.2, ⟨hk.1.1.2, hk.1.2⟩⟩⟩)), (by (with_reducible repeat (first | apply Kd.Q_alloc | apply Kd.Q_drewN | apply Kd.Q_drew)); exact Kd.Q_mono HO_311000.out (fun _ hk => ⟨hk.1.2, ⟨hk.2, ⟨hk.1.1.1, hk.1.1.2⟩⟩⟩)), (by (with_reducible repeat (first | apply Kd.Q_alloc | apply Kd.Q_drewN | apply Kd.Q_drew)); exact Kd.Q_mono HO_315000.out (fun _ hk => ⟨hk.1.2, ⟨hk.2, ⟨hk.1.1.1, hk.1.1.2⟩⟩⟩)), (by (with_reducible repeat (first | apply Kd.Q_alloc | apply Kd.Q_drewN | apply Kd.Q_drew)); exact Kd.Q_mono HO_325000.out (fun _ hk => ⟨hk.1.2, ⟨hk.2, ⟨hk.1.1.1, hk.1.1.2⟩⟩⟩)), (bq BK295.out), (bq BK296.out), (bq BK310.out), (bq BK314.out), (bq BK324.out), (bq BK348.out), GW348.out, GE348.out, NB295_348.out, NB348_295.out, NB296_348.out, NB348_296.out, NB310_348.out, NB348_310.out, NB314_348.out, NB348_314.out, NB324_348.out, NB348_324.out, (lq HB.out)⟩)
           rintro ⟨v341, v344, gb348⟩ w154 ⟨hS_, h0_, h1_, h2_, h3_, h4_, h5_, h6_, h7_, h8_, h9_, h10_, h11_, h12_, h13_, h14_, h15_, h16_, h17_, h18_, h19_, h20_, h21_, h22_, h23_⟩
           have n0_ : Aside0 (Kd.R (Kd.int .u32) 46 w154 w.heap.size (fun k_ => some k_ ≠ (v344 : Value).ownBlock ∧ some k_ ≠ (.slice Ao29 t305.length co29 : Value).ownBlock ∧ some k_ ≠ (.slice Ao35 t331.length co35 : Value).ownBlock ∧ some k_ ≠ (.slice Ao46 t319.length co46 : Value).ownBlock) v341 t340) := ⟨h0_⟩
           have n1_ : Aside0 (Kd.Q (Kd.int .u32) 46 w154 w.heap.size (fun k_ => some k_ ≠ (v341 : Value).ownBlock ∧ some k_ ≠ (.slice Ao29 t305.length co29 : Value).ownBlock ∧ some k_ ≠ (.slice Ao35 t331.length co35 : Value).ownBlock ∧ some k_ ≠ (.slice Ao46 t319.length co46 : Value).ownBlock) v344 t343) := ⟨h1_⟩
           have n2_ : Aside0 (Kd.Q (Kd.int .u32) 46 w154 w.heap.size (fun k_ => some k_ ≠ (v341 : Value).ownBlock ∧ some k_ ≠ (v344 : Value).ownBlock ∧ some k_ ≠ (.slice Ao35 t331.length co35 : Value).ownBlock ∧ some k_ ≠ (.slice Ao46 t319.length co46 : Value).ownBlock) (.slice Ao29 t305.length co29) t305) := ⟨h2_⟩
           have n3_ : Aside0 (Kd.Q (Kd.int .u32) 46 w154 w.heap.size (fun k_ => some k_ ≠ (v341 : Value).ownBlock ∧ some k_ ≠ (v344 : Value).ownBlock ∧ some k_ ≠ (.slice Ao29 t305.length co29 : Value).ownBlock ∧ some k_ ≠ (.slice Ao46 t319.length co46 : Value).ownBlock) (.slice Ao35 t331.length co35) t331) := ⟨h3_⟩
           have n4_ : Aside0 (Kd.Q (Kd.int .u32) 46 w154 w.heap.size (fun k_ => some k_ ≠ (v341 : Value).ownBlock ∧ some k_ ≠ (v344 : Value).ownBlock ∧ some k_ ≠ (.slice Ao29 t305.length co29 : Value).ownBlock ∧ some k_ ≠ (.slice Ao35 t331.length co35 : Value).ownBlock) (.slice Ao46 t319.length co46) t334) := ⟨h4_⟩
           have n5_ : Aside0 (w154.heap[gb295]? = some (.cells #[.int .i64 a0_0, .int .i64 a0_1, .int .i64 a0_2, .int .i64 a0_3] 23 (0, 0))) := ⟨h5_⟩
           have n6_ : Aside0 (w154.heap[gb296]? = some (.cells #[.slice A1_0 l1_0.length c1_0] 26 (0, 0))) := ⟨h6_⟩
           have n7_ : Aside0 (w154.heap[gb310]? = some (.cells #[.slice Ao29 t305.length co29] 31 (0, 0))) := ⟨h7_⟩
           have n8_ : Aside0 (w154.heap[gb314]? = some (.cells #[.slice Ao35 t331.length co35] 31 (0, 0))) := ⟨h8_⟩
           have n9_ : Aside0 (w154.heap[gb324]? = some (.cells #[.slice Ao46 t319.length co46] 31 (0, 0))) := ⟨h9_⟩
           have n10_ : Aside0 (w154.heap[gb348]? = some (.cells #[.slice none 0 0] 31 (0, 0))) := ⟨h10_⟩
           have n11_ : Aside0 (w.heap.size ≤ gb348) := ⟨h11_⟩
           have n12_ : Aside0 (w.heap.size ≤ gb348) := ⟨h12_⟩
           have n13_ : Aside0 (gb295 ≠ gb348) := ⟨h13_⟩
           have n14_ : Aside0 (gb348 ≠ gb295) := ⟨h14_⟩
           have n15_ : Aside0 (gb296 ≠ gb348) := ⟨h15_⟩
           have n16_ : Aside0 (gb348 ≠ gb296) := ⟨h16_⟩
           have n17_ : Aside0 (gb310 ≠ gb348) := ⟨h17_⟩
           have n18_ : Aside0 (gb348 ≠ gb310) := ⟨h18_⟩
           have n19_ : Aside0 (gb314 ≠ gb348) := ⟨h19_⟩
           have n20_ : Aside0 (gb348 ≠ gb314) := ⟨h20_⟩
           have n21_ : Aside0 (gb324 ≠ gb348) := ⟨h21_⟩
           have n22_ : Aside0 (gb348 ≠ gb324) := ⟨h22_⟩
           have n23_ : Aside0 (Below w.heap.size w w154) := ⟨h23_⟩
           clear HO_311000
           clear HO_315000
           clear HO_325000
           clear BK295
           clear BK296
           clear BK310
           clear BK314
           clear BK324
           clear HB
           clear h0_ h1_ h2_ h3_ h4_ h5_ h6_ h7_ h8_ h9_ h10_ h11_ h12_ h13_ h14_ h15_ h16_ h17_ h18_ h19_ h20_ h21_ h22_ h23_
           have HO342 := n0_
           have HO345 := n1_
           have HO_311000 := n2_
           have HO_315000 := n3_
           have HO_325000 := n4_
           have BK295 := n5_
           have BK296 := n6_
           have BK310 := n7_
           have BK314 := n8_
           have BK324 := n9_
           have BK348 := n10_
           have GW348 := n11_
           have GE348 := n12_
           have NB295_348 := n13_
           have NB348_295 := n14_
           have NB296_348 := n15_
           have NB348_296 := n16_
           have NB310_348 := n17_
           have NB348_310 := n18_
           have NB314_348 := n19_
           have NB348_314 := n20_
           have NB324_348 := n21_
           have NB348_324 := n22_
           have HB := n23_
           clear n0_ n1_ n2_ n3_ n4_ n5_ n6_ n7_ n8_ n9_ n10_ n11_ n12_ n13_ n14_ n15_ n16_ n17_ n18_ n19_ n20_ n21_ n22_ n23_
           have hHeld : w154.cell? ⟨gb295, 0, none⟩ = some (.int .i64 a0_0) ∧ w154.cell? ⟨gb295, 1, none⟩ = some (.int .i64 a0_1) ∧ w154.cell? ⟨gb295, 2, none⟩ = some (.int .i64 a0_2) ∧ w154.cell? ⟨gb295, 3, none⟩ = some (.int .i64 a0_3) ∧ w154.cell? ⟨gb296, 0, none⟩ = some (.slice A1_0 l1_0.length c1_0) := hS_
           obtain ⟨Ao155, co155, eo155, _⟩ := Kd.Q_slice HO345.out
           (first | subst eo155 | (injection eo155 with f1_ f2_ f3_; have f4_ := f1_.symm; have f5_ := f3_.symm; clear f1_ f2_ f3_; subst f4_; subst f5_))
           refine norm_ (a' := ?_) ?_ ?_
           rotate_left
           ·simp only [putAll, Act.put, List.setIfInBounds_toArray, List.set_cons_zero, List.set_cons_succ]
            rfl
           refine one_ (i := 10) (N := none) #[true, true, true, true, true, true, true, true, true, true, true, false, false] rfl rfl (one_of HT_.out (by kernel_rfl)) (by decide) (fun K hK => ?_)
           have hs156 : w154.cell? ⟨gb348, 0, none⟩ = some (.slice none 0 0) := (blk_cell BK348.out 0).trans rfl
           have hfs156 := blk_frozen BK348.out 0
           have hns156_0 := NB295_348.out
           have hns156_1 := NB296_348.out
           have hns156_2 := NB310_348.out
           have hns156_3 := NB314_348.out
           have hns156_4 := NB324_348.out
           have hms156_0 := NB348_295.out
           have hms156_1 := NB348_296.out
           have hms156_2 := NB348_310.out
           have hms156_3 := NB348_314.out
           have hms156_4 := NB348_324.out
           refine skip_ (w1 := ?_) (by rfl) rfl ?_ ?_
           rotate_left
           ·go_simp
            rfl
           refine hK.out _ _ ⟨((cell_far (p := ⟨gb348, _, none⟩) NB295_348.out _).trans (hHeld.1)), ((cell_far (p := ⟨gb348, _, none⟩) NB295_348.out _).trans (hHeld.2.1)), ((cell_far (p := ⟨gb348, _, none⟩) NB295_348.out _).trans (hHeld.2.2.1)), ((cell_far (p := ⟨gb348, _, none⟩) NB295_348.out _).trans (hHeld.2.2.2.1)), ((cell_far (p := ⟨gb348, _, none⟩) NB296_348.out _).trans (hHeld.2.2.2.2))⟩ (fun hHeld => ?_)
           clear hK K
           refine pure_ (i := 11) (N := some 17) (v := ?_) (a' := ?_) #[true, true, true, true, true, true, true, true, true, true, true, true, false] rfl rfl (any_of HT_.out (by kernel_rfl)) (fun _ _ _ h => h) (Or.inl ⟨by rfl, ?_⟩) ?_ ?_
           rotate_left
           ·intro w'
            go_simp
            with_reducible rfl
           rotate_left
           ·simp only [Act.put, List.setIfInBounds_toArray, List.set_cons_zero, List.set_cons_succ, i64_w, i32_w]
            rfl
           refine pure_ (i := 12) (N := some 18) (v := ?_) (a' := ?_) #[true, true, true, true, true, true, true, true, true, true, true, true, true] rfl rfl (any_of HT_.out (by kernel_rfl)) (fun _ _ _ h => h) (Or.inl ⟨by rfl, ?_⟩) ?_ ?_
           rotate_left
           ·intro w'
            go_simp
            with_reducible rfl
           rotate_left
           ·simp only [Act.put, List.setIfInBounds_toArray, List.set_cons_zero, List.set_cons_succ, i64_w, i32_w]
            rfl
           refine done_ (done_of HT_.out (by kernel_rfl)) ?_
           go_upto_region 25 with (fail)
           go_cut [116] (fun v116 wc => ∃ (kq : Nat) (x116_138 : Bool), v116 = .bool x116_138 ∧ Aside0 (laws_FnExactRecvOn.j2 kq t333 x116_138 t334 = some true) ∧ Aside0 (kq ≤ kj85) ∧ Aside0 (Kd.Q (Kd.int .u32) 46 wc w.heap.size (fun k_ => some k_ ≠ ((.slice Ao35 t331.length co35) : Value).ownBlock ∧ some k_ ≠ ((.slice Ao46 t319.length co46) : Value).ownBlock ∧ some k_ ≠ ((.slice Ao155 t343.length co155) : Value).ownBlock) (.slice Ao29 t305.length co29) t305) ∧ Aside0 (Kd.Q (Kd.int .u32) 46 wc w.heap.size (fun k_ => some k_ ≠ ((.slice Ao29 t305.length co29) : Value).ownBlock ∧ some k_ ≠ ((.slice Ao46 t319.length co46) : Value).ownBlock ∧ some k_ ≠ ((.slice Ao155 t343.length co155) : Value).ownBlock) (.slice Ao35 t331.length co35) t331) ∧ Aside0 (Kd.Q (Kd.int .u32) 46 wc w.heap.size (fun k_ => some k_ ≠ ((.slice Ao29 t305.length co29) : Value).ownBlock ∧ some k_ ≠ ((.slice Ao35 t331.length co35) : Value).ownBlock ∧ some k_ ≠ ((.slice Ao155 t343.length co155) : Value).ownBlock) (.slice Ao46 t319.length co46) t334) ∧ Aside0 (Kd.Q (Kd.int .u32) 46 wc w.heap.size (fun k_ => some k_ ≠ ((.slice Ao29 t305.length co29) : Value).ownBlock ∧ some k_ ≠ ((.slice Ao35 t331.length co35) : Value).ownBlock ∧ some k_ ≠ ((.slice Ao46 t319.length co46) : Value).ownBlock) (.slice Ao155 t343.length co155) t343) ∧ Aside0 (wc.heap[gb295]? = some (.cells #[.int .i64 a0_0, .int .i64 a0_1, .int .i64 a0_2, .int .i64 a0_3] 23 (0, 0))) ∧ Aside0 (wc.heap[gb296]? = some (.cells #[(.slice A1_0 l1_0.length c1_0)] 26 (0, 0))) ∧ Aside0 (wc.heap[gb310]? = some (.cells #[(.slice Ao29 t305.length co29)] 31 (0, 0))) ∧ Aside0 (wc.heap[gb314]? = some (.cells #[(.slice Ao35 t331.length co35)] 31 (0, 0))) ∧ Aside0 (wc.heap[gb324]? = some (.cells #[(.slice Ao46 t319.length co46)] 31 (0, 0))) ∧ Aside0 (wc.heap[gb348]? = some (.cells #[(.slice Ao155 t343.length co155)] 31 (0, 0))) ∧ Aside0 (Below w.heap.size w wc))
           case first =>
            have H := HC139.out
            clear HC139
            replace H := Option.bind_eq_some_iff.mp H
            obtain ⟨t349, A1570, H⟩ := H
            (try dsimp only at H)
            have A157 := Aside0.mk A1570
            clear A1570
            by_cases c158 : t349 = true
            ·subst c158
             rw [if_pos rfl] at H
             by_cases c159 : t346 = t308
             ·rw [if_pos c159] at H
              have c159b0 : (t346 == t308) = true := beq_iff_eq.mpr c159
              have c159b1 : (t346 != t308) = false := bne_eq_false_iff_eq.mpr c159
              clear c159
              (first | rw [c159b0] | (simp only [i64_w, i32_w]; rw [c159b0]) | skip)
              have H' := Aside0.mk H
              clear H
              have hnb160 := NB348_295.out
              have hnc160 := NB295_348.out
              have hnb161 := NB348_296.out
              have hnc161 := NB296_348.out
              have hnb162 := NB348_310.out
              have hnc162 := NB310_348.out
              have hnb163 := NB348_314.out
              have hnc163 := NB314_348.out
              have hnb164 := NB348_324.out
              have hnc164 := NB324_348.out
              have hcz165_0 : w154.cell? ⟨gb348, 0, none⟩ = some (.slice none 0 0) := (blk_cell BK348.out 0).trans rfl
              have hfz165_0 := blk_frozen BK348.out 0
              have hnb166 := NB310_295.out
              have hnc166 := NB295_310.out
              have hnb167 := NB310_296.out
              have hnc167 := NB296_310.out
              have hnb168 := NB310_314.out
              have hnc168 := NB314_310.out
              have hnb169 := NB310_324.out
              have hnc169 := NB324_310.out
              have hcz170_0 : w154.cell? ⟨gb310, 0, none⟩ = some (.slice Ao29 t305.length co29) := (blk_cell BK310.out 0).trans rfl
              have hfz170_0 := blk_frozen BK310.out 0
              go_wp2_with (first | ((with_reducible refine gate_callee (f := 19) rfl ?_); refine goesL_ (some 105) rfl rfl Try.func19 (by kernel_rfl) rfl #[.agg #[.slice Ao155 t343.length co155], .agg #[.slice Ao29 t305.length co29]] rfl (by (try simp only [List.map_toArray, List.map_cons, List.map_nil]); first | done | rfl | (simp only [List.length_drop, List.length_take]; rfl)) ?_; (with_reducible refine (laws_eqInEnd.calls kj85 _ _ t343 _ _ t305 true _ ?side1 ?side2 ?side3 ?side4 A157.out).mono ?_); (case side1 => refine (Kd.Q_reads' (e := 46) (base := w.heap.size) (ok := fun k_ => (some k_ ≠ (v341 : Value).ownBlock ∧ (some k_ ≠ (.slice Ao29 t305.length co29 : Value).ownBlock ∧ (some k_ ≠ (.slice Ao35 t331.length co35 : Value).ownBlock ∧ some k_ ≠ (.slice Ao46 t319.length co46 : Value).ownBlock)))) (n := t343.length) (c := co155) ?_).2.2; exact (by (with_reducible repeat (first | apply Kd.Q_alloc | apply Kd.Q_drewN | apply Kd.Q_drew)); exact (Kd.Q_mono (Kd.Q_far (p := ⟨gb348, 0, none⟩) (Kd.Q_types HO345.out BK348.out (by decide)) (fun _ hk => hk.2) (.slice Ao155 t343.length co155)) (fun _ h_ => h_.1)))); (case side2 => exact (Kd.Q_reads' HO345.out).2.1); (case side3 => refine (Kd.Q_reads' (e := 46) (base := w.heap.size) (ok := fun k_ => (some k_ ≠ (v341 : Value).ownBlock ∧ (some k_ ≠ (.slice Ao155 t343.length co155 : Value).ownBlock ∧ (some k_ ≠ (.slice Ao35 t331.length co35 : Value).ownBlock ∧ some k_ ≠ (.slice Ao46 t319.length co46 : Value).ownBlock)))) (n := t305.length) (c := co29) ?_).2.2; exact (by (with_reducible repeat (first | apply Kd.Q_alloc | apply Kd.Q_drewN | apply Kd.Q_drew)); exact (Kd.Q_mono (Kd.Q_far (p := ⟨gb348, 0, none⟩) (Kd.Q_types HO_311000.out BK348.out (by decide)) (fun _ hk => hk.2) (.slice Ao155 t343.length co155)) (fun _ h_ => h_.1)))); (case side4 => exact (Kd.Q_reads' HO_311000.out).2.1); rintro e w171 ⟨rfl, hb⟩; refine ⟨_, rfl, ?_⟩; have n0_ := Aside0.mk (Kd.Q_below (by (with_reducible repeat (first | apply Kd.Q_alloc | apply Kd.Q_drewN | apply Kd.Q_drew)); exact (Kd.Q_mono (Kd.Q_far (p := ⟨gb348, 0, none⟩) (Kd.Q_types HO_311000.out BK348.out (by decide)) (fun _ hk => hk.2) (.slice Ao155 t343.length co155)) (fun _ h_ => h_.1))) hb); have n1_ := Aside0.mk (Kd.Q_below (by (with_reducible repeat (first | apply Kd.Q_alloc | apply Kd.Q_drewN | apply Kd.Q_drew)); exact (Kd.Q_mono (Kd.Q_far (p := ⟨gb348, 0, none⟩) (Kd.Q_types HO_315000.out BK348.out (by decide)) (fun _ hk => hk.2) (.slice Ao155 t343.length co155)) (fun _ h_ => h_.1))) hb); have n2_ := Aside0.mk (Kd.Q_below (by (with_reducible repeat (first | apply Kd.Q_alloc | apply Kd.Q_drewN | apply Kd.Q_drew)); exact (Kd.Q_mono (Kd.Q_far (p := ⟨gb348, 0, none⟩) (Kd.Q_types HO_325000.out BK348.out (by decide)) (fun _ hk => hk.2) (.slice Ao155 t343.length co155)) (fun _ h_ => h_.1))) hb); have n3_ := Aside0.mk (Kd.R_below (rq (Kd.R_mono (Kd.R_far (p := ⟨gb348, 0, none⟩) (Kd.R_types HO342.out BK348.out (by decide)) (fun _ hk => hk.2) (.slice Ao155 t343.length co155)) (fun _ h_ => h_.1))) hb); have n4_ := Aside0.mk (Kd.Q_below (by (with_reducible repeat (first | apply Kd.Q_alloc | apply Kd.Q_drewN | apply Kd.Q_drew)); exact (Kd.Q_mono (Kd.Q_far (p := ⟨gb348, 0, none⟩) (Kd.Q_types HO345.out BK348.out (by decide)) (fun _ hk => hk.2) (.slice Ao155 t343.length co155)) (fun _ h_ => h_.1))) hb); have n5_ := Aside0.mk (blk_below (g := gb295) (o := .cells #[.int .i64 a0_0, .int .i64 a0_1, .int .i64 a0_2, .int .i64 a0_3] 23 (0, 0)) (by (with_reducible repeat (first | refine blk_drewN ?_ _ | refine blk_drew ?_ | refine blk_alloc ?_ _)); refine blk_far ?_ NB295_348.out _; (with_reducible repeat (first | refine blk_drewN ?_ _ | refine blk_drew ?_ | refine blk_alloc ?_ _)); exact BK295.out) hb); have n6_ := Aside0.mk (blk_below (g := gb296) (o := .cells #[.slice A1_0 l1_0.length c1_0] 26 (0, 0)) (by (with_reducible repeat (first | refine blk_drewN ?_ _ | refine blk_drew ?_ | refine blk_alloc ?_ _)); refine blk_far ?_ NB296_348.out _; (with_reducible repeat (first | refine blk_drewN ?_ _ | refine blk_drew ?_ | refine blk_alloc ?_ _)); exact BK296.out) hb); have n7_ := Aside0.mk (blk_below (g := gb310) (o := .cells #[.slice Ao29 t305.length co29] 31 (0, 0)) (by (with_reducible repeat (first | refine blk_drewN ?_ _ | refine blk_drew ?_ | refine blk_alloc ?_ _)); refine blk_far ?_ NB310_348.out _; (with_reducible repeat (first | refine blk_drewN ?_ _ | refine blk_drew ?_ | refine blk_alloc ?_ _)); exact BK310.out) hb); have n8_ := Aside0.mk (blk_below (g := gb314) (o := .cells #[.slice Ao35 t331.length co35] 31 (0, 0)) (by (with_reducible repeat (first | refine blk_drewN ?_ _ | refine blk_drew ?_ | refine blk_alloc ?_ _)); refine blk_far ?_ NB314_348.out _; (with_reducible repeat (first | refine blk_drewN ?_ _ | refine blk_drew ?_ | refine blk_alloc ?_ _)); exact BK314.out) hb); have n9_ := Aside0.mk (blk_below (g := gb324) (o := .cells #[.slice Ao46 t319.length co46] 31 (0, 0)) (by (with_reducible repeat (first | refine blk_drewN ?_ _ | refine blk_drew ?_ | refine blk_alloc ?_ _)); refine blk_far ?_ NB324_348.out _; (with_reducible repeat (first | refine blk_drewN ?_ _ | refine blk_drew ?_ | refine blk_alloc ?_ _)); exact BK324.out) hb); have n10_ := Aside0.mk (blk_below (g := gb348) (o := .cells #[.slice Ao155 t343.length co155] 31 (0, 0)) (by (with_reducible repeat (first | refine blk_drewN ?_ _ | refine blk_drew ?_ | refine blk_alloc ?_ _)); refine blk_put (cs := #[.slice none 0 0]) ?_ 0 _ rfl; (with_reducible repeat (first | refine blk_drewN ?_ _ | refine blk_drew ?_ | refine blk_alloc ?_ _)); exact BK348.out) hb); have n11_ := Aside0.mk (below_step (by repeat (first | (with_reducible first | exact HB.out | apply below_alloc | apply pw_below_drewN | apply below_drew1 | refine below_set ?_ GE348.out) | exact HB.out)) hb); clear HO_311000; clear HO_315000; clear HO_325000; clear HO342; clear HO345; clear BK295; clear BK296; clear BK310; clear BK314; clear BK324; clear BK348; clear HB; have HO_311000 := n0_; have HO_315000 := n1_; have HO_325000 := n2_; have HO342 := n3_; have HO345 := n4_; have BK295 := n5_; have BK296 := n6_; have BK310 := n7_; have BK314 := n8_; have BK324 := n9_; have BK348 := n10_; have HB := n11_; clear n0_ n1_ n2_ n3_ n4_ n5_ n6_ n7_ n8_ n9_ n10_ n11_; (try clear hb); (try clear hb2); (try clear hk); (try clear hi)))
              go_meet
              case rel => exact ⟨_, ((t347 != t309)), (by first | rfl | (simp; done) | (simp [*]; done)), H', ⟨by have := HJ15.out; have := HJ85.out; first | omega | exact Nat.le_refl _⟩, ⟨by (try simp only [hl315000_85]); (with_reducible repeat (first | apply Kd.Q_alloc | apply Kd.Q_drewN | apply Kd.Q_drew)); exact Kd.Q_mono HO_311000.out (fun _ hk => ⟨hk.2.2.1, ⟨hk.2.2.2, hk.2.1⟩⟩)⟩, ⟨by (try simp only [hl315000_85]); (with_reducible repeat (first | apply Kd.Q_alloc | apply Kd.Q_drewN | apply Kd.Q_drew)); exact Kd.Q_mono HO_315000.out (fun _ hk => ⟨hk.2.2.1, ⟨hk.2.2.2, hk.2.1⟩⟩)⟩, ⟨by (try simp only [hl315000_85]); (with_reducible repeat (first | apply Kd.Q_alloc | apply Kd.Q_drewN | apply Kd.Q_drew)); exact Kd.Q_mono HO_325000.out (fun _ hk => ⟨hk.2.2.1, ⟨hk.2.2.2, hk.2.1⟩⟩)⟩, ⟨by (try simp only [hl315000_85]); (with_reducible repeat (first | apply Kd.Q_alloc | apply Kd.Q_drewN | apply Kd.Q_drew)); exact Kd.Q_mono HO345.out (fun _ hk => ⟨hk.2.1, ⟨hk.2.2.1, hk.2.2.2⟩⟩)⟩, ⟨by (try simp only [hl315000_85]); (with_reducible repeat (first | refine blk_drewN ?_ _ | refine blk_drew ?_ | refine blk_alloc ?_ _)); exact BK295.out⟩, ⟨by (try simp only [hl315000_85]); (with_reducible repeat (first | refine blk_drewN ?_ _ | refine blk_drew ?_ | refine blk_alloc ?_ _)); exact BK296.out⟩, ⟨by (try simp only [hl315000_85]); (with_reducible repeat (first | refine blk_drewN ?_ _ | refine blk_drew ?_ | refine blk_alloc ?_ _)); exact BK310.out⟩, ⟨by (try simp only [hl315000_85]); (with_reducible repeat (first | refine blk_drewN ?_ _ | refine blk_drew ?_ | refine blk_alloc ?_ _)); exact BK314.out⟩, ⟨by (try simp only [hl315000_85]); (with_reducible repeat (first | refine blk_drewN ?_ _ | refine blk_drew ?_ | refine blk_alloc ?_ _)); exact BK324.out⟩, ⟨by (try simp only [hl315000_85]); (with_reducible repeat (first | refine blk_drewN ?_ _ | refine blk_drew ?_ | refine blk_alloc ?_ _)); exact BK348.out⟩, ⟨by exact lq HB.out⟩⟩
             ·rw [if_neg c159] at H
              have c159b0 : (t346 == t308) = false := beq_eq_false_iff_ne.mpr c159
              have c159b1 : (t346 != t308) = true := bne_iff_ne.mpr c159
              (first | rw [c159b0] | (simp only [i64_w, i32_w]; rw [c159b0]) | skip)
              have H' := Aside0.mk H
              clear H
              have hnb172 := NB348_295.out
              have hnc172 := NB295_348.out
              have hnb173 := NB348_296.out
              have hnc173 := NB296_348.out
              have hnb174 := NB348_310.out
              have hnc174 := NB310_348.out
              have hnb175 := NB348_314.out
              have hnc175 := NB314_348.out
              have hnb176 := NB348_324.out
              have hnc176 := NB324_348.out
              have hcz177_0 : w154.cell? ⟨gb348, 0, none⟩ = some (.slice none 0 0) := (blk_cell BK348.out 0).trans rfl
              have hfz177_0 := blk_frozen BK348.out 0
              have hnb178 := NB310_295.out
              have hnc178 := NB295_310.out
              have hnb179 := NB310_296.out
              have hnc179 := NB296_310.out
              have hnb180 := NB310_314.out
              have hnc180 := NB314_310.out
              have hnb181 := NB310_324.out
              have hnc181 := NB324_310.out
              have hcz182_0 : w154.cell? ⟨gb310, 0, none⟩ = some (.slice Ao29 t305.length co29) := (blk_cell BK310.out 0).trans rfl
              have hfz182_0 := blk_frozen BK310.out 0
              go_wp2_with (first | ((with_reducible refine gate_callee (f := 19) rfl ?_); refine goesL_ (some 105) rfl rfl Try.func19 (by kernel_rfl) rfl #[.agg #[.slice Ao155 t343.length co155], .agg #[.slice Ao29 t305.length co29]] rfl (by (try simp only [List.map_toArray, List.map_cons, List.map_nil]); first | done | rfl | (simp only [List.length_drop, List.length_take]; rfl)) ?_; (with_reducible refine (laws_eqInEnd.calls kj85 _ _ t343 _ _ t305 true _ ?side1 ?side2 ?side3 ?side4 A157.out).mono ?_); (case side1 => refine (Kd.Q_reads' (e := 46) (base := w.heap.size) (ok := fun k_ => (some k_ ≠ (v341 : Value).ownBlock ∧ (some k_ ≠ (.slice Ao29 t305.length co29 : Value).ownBlock ∧ (some k_ ≠ (.slice Ao35 t331.length co35 : Value).ownBlock ∧ some k_ ≠ (.slice Ao46 t319.length co46 : Value).ownBlock)))) (n := t343.length) (c := co155) ?_).2.2; exact (by (with_reducible repeat (first | apply Kd.Q_alloc | apply Kd.Q_drewN | apply Kd.Q_drew)); exact (Kd.Q_mono (Kd.Q_far (p := ⟨gb348, 0, none⟩) (Kd.Q_types HO345.out BK348.out (by decide)) (fun _ hk => hk.2) (.slice Ao155 t343.length co155)) (fun _ h_ => h_.1)))); (case side2 => exact (Kd.Q_reads' HO345.out).2.1); (case side3 => refine (Kd.Q_reads' (e := 46) (base := w.heap.size) (ok := fun k_ => (some k_ ≠ (v341 : Value).ownBlock ∧ (some k_ ≠ (.slice Ao155 t343.length co155 : Value).ownBlock ∧ (some k_ ≠ (.slice Ao35 t331.length co35 : Value).ownBlock ∧ some k_ ≠ (.slice Ao46 t319.length co46 : Value).ownBlock)))) (n := t305.length) (c := co29) ?_).2.2; exact (by (with_reducible repeat (first | apply Kd.Q_alloc | apply Kd.Q_drewN | apply Kd.Q_drew)); exact (Kd.Q_mono (Kd.Q_far (p := ⟨gb348, 0, none⟩) (Kd.Q_types HO_311000.out BK348.out (by decide)) (fun _ hk => hk.2) (.slice Ao155 t343.length co155)) (fun _ h_ => h_.1)))); (case side4 => exact (Kd.Q_reads' HO_311000.out).2.1); rintro e w183 ⟨rfl, hb⟩; refine ⟨_, rfl, ?_⟩; have n0_ := Aside0.mk (Kd.Q_below (by (with_reducible repeat (first | apply Kd.Q_alloc | apply Kd.Q_drewN | apply Kd.Q_drew)); exact (Kd.Q_mono (Kd.Q_far (p := ⟨gb348, 0, none⟩) (Kd.Q_types HO_311000.out BK348.out (by decide)) (fun _ hk => hk.2) (.slice Ao155 t343.length co155)) (fun _ h_ => h_.1))) hb); have n1_ := Aside0.mk (Kd.Q_below (by (with_reducible repeat (first | apply Kd.Q_alloc | apply Kd.Q_drewN | apply Kd.Q_drew)); exact (Kd.Q_mono (Kd.Q_far (p := ⟨gb348, 0, none⟩) (Kd.Q_types HO_315000.out BK348.out (by decide)) (fun _ hk => hk.2) (.slice Ao155 t343.length co155)) (fun _ h_ => h_.1))) hb); have n2_ := Aside0.mk (Kd.Q_below (by (with_reducible repeat (first | apply Kd.Q_alloc | apply Kd.Q_drewN | apply Kd.Q_drew)); exact (Kd.Q_mono (Kd.Q_far (p := ⟨gb348, 0, none⟩) (Kd.Q_types HO_325000.out BK348.out (by decide)) (fun _ hk => hk.2) (.slice Ao155 t343.length co155)) (fun _ h_ => h_.1))) hb); have n3_ := Aside0.mk (Kd.R_below (rq (Kd.R_mono (Kd.R_far (p := ⟨gb348, 0, none⟩) (Kd.R_types HO342.out BK348.out (by decide)) (fun _ hk => hk.2) (.slice Ao155 t343.length co155)) (fun _ h_ => h_.1))) hb); have n4_ := Aside0.mk (Kd.Q_below (by (with_reducible repeat (first | apply Kd.Q_alloc | apply Kd.Q_drewN | apply Kd.Q_drew)); exact (Kd.Q_mono (Kd.Q_far (p := ⟨gb348, 0, none⟩) (Kd.Q_types HO345.out BK348.out (by decide)) (fun _ hk => hk.2) (.slice Ao155 t343.length co155)) (fun _ h_ => h_.1))) hb); have n5_ := Aside0.mk (blk_below (g := gb295) (o := .cells #[.int .i64 a0_0, .int .i64 a0_1, .int .i64 a0_2, .int .i64 a0_3] 23 (0, 0)) (by (with_reducible repeat (first | refine blk_drewN ?_ _ | refine blk_drew ?_ | refine blk_alloc ?_ _)); refine blk_far ?_ NB295_348.out _; (with_reducible repeat (first | refine blk_drewN ?_ _ | refine blk_drew ?_ | refine blk_alloc ?_ _)); exact BK295.out) hb); have n6_ := Aside0.mk (blk_below (g := gb296) (o := .cells #[.slice A1_0 l1_0.length c1_0] 26 (0, 0)) (by (with_reducible repeat (first | refine blk_drewN ?_ _ | refine blk_drew ?_ | refine blk_alloc ?_ _)); refine blk_far ?_ NB296_348.out _; (with_reducible repeat (first | refine blk_drewN ?_ _ | refine blk_drew ?_ | refine blk_alloc ?_ _)); exact BK296.out) hb); have n7_ := Aside0.mk (blk_below (g := gb310) (o := .cells #[.slice Ao29 t305.length co29] 31 (0, 0)) (by (with_reducible repeat (first | refine blk_drewN ?_ _ | refine blk_drew ?_ | refine blk_alloc ?_ _)); refine blk_far ?_ NB310_348.out _; (with_reducible repeat (first | refine blk_drewN ?_ _ | refine blk_drew ?_ | refine blk_alloc ?_ _)); exact BK310.out) hb); have n8_ := Aside0.mk (blk_below (g := gb314) (o := .cells #[.slice Ao35 t331.length co35] 31 (0, 0)) (by (with_reducible repeat (first | refine blk_drewN ?_ _ | refine blk_drew ?_ | refine blk_alloc ?_ _)); refine blk_far ?_ NB314_348.out _; (with_reducible repeat (first | refine blk_drewN ?_ _ | refine blk_drew ?_ | refine blk_alloc ?_ _)); exact BK314.out) hb); have n9_ := Aside0.mk (blk_below (g := gb324) (o := .cells #[.slice Ao46 t319.length co46] 31 (0, 0)) (by (with_reducible repeat (first | refine blk_drewN ?_ _ | refine blk_drew ?_ | refine blk_alloc ?_ _)); refine blk_far ?_ NB324_348.out _; (with_reducible repeat (first | refine blk_drewN ?_ _ | refine blk_drew ?_ | refine blk_alloc ?_ _)); exact BK324.out) hb); have n10_ := Aside0.mk (blk_below (g := gb348) (o := .cells #[.slice Ao155 t343.length co155] 31 (0, 0)) (by (with_reducible repeat (first | refine blk_drewN ?_ _ | refine blk_drew ?_ | refine blk_alloc ?_ _)); refine blk_put (cs := #[.slice none 0 0]) ?_ 0 _ rfl; (with_reducible repeat (first | refine blk_drewN ?_ _ | refine blk_drew ?_ | refine blk_alloc ?_ _)); exact BK348.out) hb); have n11_ := Aside0.mk (below_step (by repeat (first | (with_reducible first | exact HB.out | apply below_alloc | apply pw_below_drewN | apply below_drew1 | refine below_set ?_ GE348.out) | exact HB.out)) hb); clear HO_311000; clear HO_315000; clear HO_325000; clear HO342; clear HO345; clear BK295; clear BK296; clear BK310; clear BK314; clear BK324; clear BK348; clear HB; have HO_311000 := n0_; have HO_315000 := n1_; have HO_325000 := n2_; have HO342 := n3_; have HO345 := n4_; have BK295 := n5_; have BK296 := n6_; have BK310 := n7_; have BK314 := n8_; have BK324 := n9_; have BK348 := n10_; have HB := n11_; clear n0_ n1_ n2_ n3_ n4_ n5_ n6_ n7_ n8_ n9_ n10_ n11_; (try clear hb); (try clear hb2); (try clear hk); (try clear hi)))
              go_meet
              case rel => exact ⟨_, (true), (by first | rfl | (simp; done) | (simp [*]; done)), H', ⟨by have := HJ15.out; have := HJ85.out; first | omega | exact Nat.le_refl _⟩, ⟨by (try simp only [hl315000_85]); (with_reducible repeat (first | apply Kd.Q_alloc | apply Kd.Q_drewN | apply Kd.Q_drew)); exact Kd.Q_mono HO_311000.out (fun _ hk => ⟨hk.2.2.1, ⟨hk.2.2.2, hk.2.1⟩⟩)⟩, ⟨by (try simp only [hl315000_85]); (with_reducible repeat (first | apply Kd.Q_alloc | apply Kd.Q_drewN | apply Kd.Q_drew)); exact Kd.Q_mono HO_315000.out (fun _ hk => ⟨hk.2.2.1, ⟨hk.2.2.2, hk.2.1⟩⟩)⟩, ⟨by (try simp only [hl315000_85]); (with_reducible repeat (first | apply Kd.Q_alloc | apply Kd.Q_drewN | apply Kd.Q_drew)); exact Kd.Q_mono HO_325000.out (fun _ hk => ⟨hk.2.2.1, ⟨hk.2.2.2, hk.2.1⟩⟩)⟩, ⟨by (try simp only [hl315000_85]); (with_reducible repeat (first | apply Kd.Q_alloc | apply Kd.Q_drewN | apply Kd.Q_drew)); exact Kd.Q_mono HO345.out (fun _ hk => ⟨hk.2.1, ⟨hk.2.2.1, hk.2.2.2⟩⟩)⟩, ⟨by (try simp only [hl315000_85]); (with_reducible repeat (first | refine blk_drewN ?_ _ | refine blk_drew ?_ | refine blk_alloc ?_ _)); exact BK295.out⟩, ⟨by (try simp only [hl315000_85]); (with_reducible repeat (first | refine blk_drewN ?_ _ | refine blk_drew ?_ | refine blk_alloc ?_ _)); exact BK296.out⟩, ⟨by (try simp only [hl315000_85]); (with_reducible repeat (first | refine blk_drewN ?_ _ | refine blk_drew ?_ | refine blk_alloc ?_ _)); exact BK310.out⟩, ⟨by (try simp only [hl315000_85]); (with_reducible repeat (first | refine blk_drewN ?_ _ | refine blk_drew ?_ | refine blk_alloc ?_ _)); exact BK314.out⟩, ⟨by (try simp only [hl315000_85]); (with_reducible repeat (first | refine blk_drewN ?_ _ | refine blk_drew ?_ | refine blk_alloc ?_ _)); exact BK324.out⟩, ⟨by (try simp only [hl315000_85]); (with_reducible repeat (first | refine blk_drewN ?_ _ | refine blk_drew ?_ | refine blk_alloc ?_ _)); exact BK348.out⟩, ⟨by exact lq HB.out⟩⟩
            ·replace c158 := Bool.eq_false_iff.mpr c158
             subst c158
             rw [if_neg (show ¬ (false = true) by decide)] at H
             have H' := Aside0.mk H
             clear H
             have hnb184 := NB348_295.out
             have hnc184 := NB295_348.out
             have hnb185 := NB348_296.out
             have hnc185 := NB296_348.out
             have hnb186 := NB348_310.out
             have hnc186 := NB310_348.out
             have hnb187 := NB348_314.out
             have hnc187 := NB314_348.out
             have hnb188 := NB348_324.out
             have hnc188 := NB324_348.out
             have hcz189_0 : w154.cell? ⟨gb348, 0, none⟩ = some (.slice none 0 0) := (blk_cell BK348.out 0).trans rfl
             have hfz189_0 := blk_frozen BK348.out 0
             have hnb190 := NB310_295.out
             have hnc190 := NB295_310.out
             have hnb191 := NB310_296.out
             have hnc191 := NB296_310.out
             have hnb192 := NB310_314.out
             have hnc192 := NB314_310.out
             have hnb193 := NB310_324.out
             have hnc193 := NB324_310.out
             have hcz194_0 : w154.cell? ⟨gb310, 0, none⟩ = some (.slice Ao29 t305.length co29) := (blk_cell BK310.out 0).trans rfl
             have hfz194_0 := blk_frozen BK310.out 0
             go_wp2_with (first | ((with_reducible refine gate_callee (f := 19) rfl ?_); refine goesL_ (some 105) rfl rfl Try.func19 (by kernel_rfl) rfl #[.agg #[.slice Ao155 t343.length co155], .agg #[.slice Ao29 t305.length co29]] rfl (by (try simp only [List.map_toArray, List.map_cons, List.map_nil]); first | done | rfl | (simp only [List.length_drop, List.length_take]; rfl)) ?_; (with_reducible refine (laws_eqInEnd.calls kj85 _ _ t343 _ _ t305 false _ ?side1 ?side2 ?side3 ?side4 A157.out).mono ?_); (case side1 => refine (Kd.Q_reads' (e := 46) (base := w.heap.size) (ok := fun k_ => (some k_ ≠ (v341 : Value).ownBlock ∧ (some k_ ≠ (.slice Ao29 t305.length co29 : Value).ownBlock ∧ (some k_ ≠ (.slice Ao35 t331.length co35 : Value).ownBlock ∧ some k_ ≠ (.slice Ao46 t319.length co46 : Value).ownBlock)))) (n := t343.length) (c := co155) ?_).2.2; exact (by (with_reducible repeat (first | apply Kd.Q_alloc | apply Kd.Q_drewN | apply Kd.Q_drew)); exact (Kd.Q_mono (Kd.Q_far (p := ⟨gb348, 0, none⟩) (Kd.Q_types HO345.out BK348.out (by decide)) (fun _ hk => hk.2) (.slice Ao155 t343.length co155)) (fun _ h_ => h_.1)))); (case side2 => exact (Kd.Q_reads' HO345.out).2.1); (case side3 => refine (Kd.Q_reads' (e := 46) (base := w.heap.size) (ok := fun k_ => (some k_ ≠ (v341 : Value).ownBlock ∧ (some k_ ≠ (.slice Ao155 t343.length co155 : Value).ownBlock ∧ (some k_ ≠ (.slice Ao35 t331.length co35 : Value).ownBlock ∧ some k_ ≠ (.slice Ao46 t319.length co46 : Value).ownBlock)))) (n := t305.length) (c := co29) ?_).2.2; exact (by (with_reducible repeat (first | apply Kd.Q_alloc | apply Kd.Q_drewN | apply Kd.Q_drew)); exact (Kd.Q_mono (Kd.Q_far (p := ⟨gb348, 0, none⟩) (Kd.Q_types HO_311000.out BK348.out (by decide)) (fun _ hk => hk.2) (.slice Ao155 t343.length co155)) (fun _ h_ => h_.1)))); (case side4 => exact (Kd.Q_reads' HO_311000.out).2.1); rintro e w195 ⟨rfl, hb⟩; refine ⟨_, rfl, ?_⟩; have n0_ := Aside0.mk (Kd.Q_below (by (with_reducible repeat (first | apply Kd.Q_alloc | apply Kd.Q_drewN | apply Kd.Q_drew)); exact (Kd.Q_mono (Kd.Q_far (p := ⟨gb348, 0, none⟩) (Kd.Q_types HO_311000.out BK348.out (by decide)) (fun _ hk => hk.2) (.slice Ao155 t343.length co155)) (fun _ h_ => h_.1))) hb); have n1_ := Aside0.mk (Kd.Q_below (by (with_reducible repeat (first | apply Kd.Q_alloc | apply Kd.Q_drewN | apply Kd.Q_drew)); exact (Kd.Q_mono (Kd.Q_far (p := ⟨gb348, 0, none⟩) (Kd.Q_types HO_315000.out BK348.out (by decide)) (fun _ hk => hk.2) (.slice Ao155 t343.length co155)) (fun _ h_ => h_.1))) hb); have n2_ := Aside0.mk (Kd.Q_below (by (with_reducible repeat (first | apply Kd.Q_alloc | apply Kd.Q_drewN | apply Kd.Q_drew)); exact (Kd.Q_mono (Kd.Q_far (p := ⟨gb348, 0, none⟩) (Kd.Q_types HO_325000.out BK348.out (by decide)) (fun _ hk => hk.2) (.slice Ao155 t343.length co155)) (fun _ h_ => h_.1))) hb); have n3_ := Aside0.mk (Kd.R_below (rq (Kd.R_mono (Kd.R_far (p := ⟨gb348, 0, none⟩) (Kd.R_types HO342.out BK348.out (by decide)) (fun _ hk => hk.2) (.slice Ao155 t343.length co155)) (fun _ h_ => h_.1))) hb); have n4_ := Aside0.mk (Kd.Q_below (by (with_reducible repeat (first | apply Kd.Q_alloc | apply Kd.Q_drewN | apply Kd.Q_drew)); exact (Kd.Q_mono (Kd.Q_far (p := ⟨gb348, 0, none⟩) (Kd.Q_types HO345.out BK348.out (by decide)) (fun _ hk => hk.2) (.slice Ao155 t343.length co155)) (fun _ h_ => h_.1))) hb); have n5_ := Aside0.mk (blk_below (g := gb295) (o := .cells #[.int .i64 a0_0, .int .i64 a0_1, .int .i64 a0_2, .int .i64 a0_3] 23 (0, 0)) (by (with_reducible repeat (first | refine blk_drewN ?_ _ | refine blk_drew ?_ | refine blk_alloc ?_ _)); refine blk_far ?_ NB295_348.out _; (with_reducible repeat (first | refine blk_drewN ?_ _ | refine blk_drew ?_ | refine blk_alloc ?_ _)); exact BK295.out) hb); have n6_ := Aside0.mk (blk_below (g := gb296) (o := .cells #[.slice A1_0 l1_0.length c1_0] 26 (0, 0)) (by (with_reducible repeat (first | refine blk_drewN ?_ _ | refine blk_drew ?_ | refine blk_alloc ?_ _)); refine blk_far ?_ NB296_348.out _; (with_reducible repeat (first | refine blk_drewN ?_ _ | refine blk_drew ?_ | refine blk_alloc ?_ _)); exact BK296.out) hb); have n7_ := Aside0.mk (blk_below (g := gb310) (o := .cells #[.slice Ao29 t305.length co29] 31 (0, 0)) (by (with_reducible repeat (first | refine blk_drewN ?_ _ | refine blk_drew ?_ | refine blk_alloc ?_ _)); refine blk_far ?_ NB310_348.out _; (with_reducible repeat (first | refine blk_drewN ?_ _ | refine blk_drew ?_ | refine blk_alloc ?_ _)); exact BK310.out) hb); have n8_ := Aside0.mk (blk_below (g := gb314) (o := .cells #[.slice Ao35 t331.length co35] 31 (0, 0)) (by (with_reducible repeat (first | refine blk_drewN ?_ _ | refine blk_drew ?_ | refine blk_alloc ?_ _)); refine blk_far ?_ NB314_348.out _; (with_reducible repeat (first | refine blk_drewN ?_ _ | refine blk_drew ?_ | refine blk_alloc ?_ _)); exact BK314.out) hb); have n9_ := Aside0.mk (blk_below (g := gb324) (o := .cells #[.slice Ao46 t319.length co46] 31 (0, 0)) (by (with_reducible repeat (first | refine blk_drewN ?_ _ | refine blk_drew ?_ | refine blk_alloc ?_ _)); refine blk_far ?_ NB324_348.out _; (with_reducible repeat (first | refine blk_drewN ?_ _ | refine blk_drew ?_ | refine blk_alloc ?_ _)); exact BK324.out) hb); have n10_ := Aside0.mk (blk_below (g := gb348) (o := .cells #[.slice Ao155 t343.length co155] 31 (0, 0)) (by (with_reducible repeat (first | refine blk_drewN ?_ _ | refine blk_drew ?_ | refine blk_alloc ?_ _)); refine blk_put (cs := #[.slice none 0 0]) ?_ 0 _ rfl; (with_reducible repeat (first | refine blk_drewN ?_ _ | refine blk_drew ?_ | refine blk_alloc ?_ _)); exact BK348.out) hb); have n11_ := Aside0.mk (below_step (by repeat (first | (with_reducible first | exact HB.out | apply below_alloc | apply pw_below_drewN | apply below_drew1 | refine below_set ?_ GE348.out) | exact HB.out)) hb); clear HO_311000; clear HO_315000; clear HO_325000; clear HO342; clear HO345; clear BK295; clear BK296; clear BK310; clear BK314; clear BK324; clear BK348; clear HB; have HO_311000 := n0_; have HO_315000 := n1_; have HO_325000 := n2_; have HO342 := n3_; have HO345 := n4_; have BK295 := n5_; have BK296 := n6_; have BK310 := n7_; have BK314 := n8_; have BK324 := n9_; have BK348 := n10_; have HB := n11_; clear n0_ n1_ n2_ n3_ n4_ n5_ n6_ n7_ n8_ n9_ n10_ n11_; (try clear hb); (try clear hb2); (try clear hk); (try clear hi)))
             go_meet
             case rel => exact ⟨_, (true), (by first | rfl | (simp; done) | (simp [*]; done)), H', ⟨by have := HJ15.out; have := HJ85.out; first | omega | exact Nat.le_refl _⟩, ⟨by (try simp only [hl315000_85]); (with_reducible repeat (first | apply Kd.Q_alloc | apply Kd.Q_drewN | apply Kd.Q_drew)); exact Kd.Q_mono HO_311000.out (fun _ hk => ⟨hk.2.2.1, ⟨hk.2.2.2, hk.2.1⟩⟩)⟩, ⟨by (try simp only [hl315000_85]); (with_reducible repeat (first | apply Kd.Q_alloc | apply Kd.Q_drewN | apply Kd.Q_drew)); exact Kd.Q_mono HO_315000.out (fun _ hk => ⟨hk.2.2.1, ⟨hk.2.2.2, hk.2.1⟩⟩)⟩, ⟨by (try simp only [hl315000_85]); (with_reducible repeat (first | apply Kd.Q_alloc | apply Kd.Q_drewN | apply Kd.Q_drew)); exact Kd.Q_mono HO_325000.out (fun _ hk => ⟨hk.2.2.1, ⟨hk.2.2.2, hk.2.1⟩⟩)⟩, ⟨by (try simp only [hl315000_85]); (with_reducible repeat (first | apply Kd.Q_alloc | apply Kd.Q_drewN | apply Kd.Q_drew)); exact Kd.Q_mono HO345.out (fun _ hk => ⟨hk.2.1, ⟨hk.2.2.1, hk.2.2.2⟩⟩)⟩, ⟨by (try simp only [hl315000_85]); (with_reducible repeat (first | refine blk_drewN ?_ _ | refine blk_drew ?_ | refine blk_alloc ?_ _)); exact BK295.out⟩, ⟨by (try simp only [hl315000_85]); (with_reducible repeat (first | refine blk_drewN ?_ _ | refine blk_drew ?_ | refine blk_alloc ?_ _)); exact BK296.out⟩, ⟨by (try simp only [hl315000_85]); (with_reducible repeat (first | refine blk_drewN ?_ _ | refine blk_drew ?_ | refine blk_alloc ?_ _)); exact BK310.out⟩, ⟨by (try simp only [hl315000_85]); (with_reducible repeat (first | refine blk_drewN ?_ _ | refine blk_drew ?_ | refine blk_alloc ?_ _)); exact BK314.out⟩, ⟨by (try simp only [hl315000_85]); (with_reducible repeat (first | refine blk_drewN ?_ _ | refine blk_drew ?_ | refine blk_alloc ?_ _)); exact BK324.out⟩, ⟨by (try simp only [hl315000_85]); (with_reducible repeat (first | refine blk_drewN ?_ _ | refine blk_drew ?_ | refine blk_alloc ?_ _)); exact BK348.out⟩, ⟨by exact lq HB.out⟩⟩
           case rest =>
            clear HC139
            try clear c1
            try clear p2
            try clear c3
            try clear c15
            try clear c16
            try clear c17
            try clear c18
            try clear c19
            try clear c32
            try clear c158
            try clear c159
            try clear c159b0
            try clear c159b1
            try clear c160
            try clear c161
            try clear c162
            try clear c163
            try clear c164
            try clear c166
            try clear c167
            try clear c168
            try clear c169
            try clear c172
            try clear c173
            try clear c174
            try clear c175
            try clear c176
            try clear c178
            try clear c179
            try clear c180
            try clear c181
            try clear c184
            try clear c185
            try clear c186
            try clear c187
            try clear c188
            try clear c190
            try clear c191
            try clear c192
            try clear c193
            try clear hcz165_0
            try clear hcz170_0
            try clear hcz177_0
            try clear hcz182_0
            try clear hcz189_0
            try clear hcz194_0
            try clear hfz165_0
            try clear hfz170_0
            try clear hfz177_0
            try clear hfz182_0
            try clear hfz189_0
            try clear hfz194_0
            obtain ⟨kq, x116_138, rfl, HA, HJ138, HO_311000, HO_315000, HO_325000, HO_349000, BK295, BK296, BK310, BK314, BK324, BK348, HB⟩ := hcut
            have hl325000_138 := (Kd.Q_reads' HO_325000.out).1
            rw [hl325000_138] at HO_325000
            (try simp only [hl325000_138])
            (try simp only [hl325000_138] at BK295)
            (try simp only [hl325000_138] at BK296)
            (try simp only [hl325000_138] at BK310)
            (try simp only [hl325000_138] at BK314)
            (try simp only [hl325000_138] at BK324)
            (try simp only [hl325000_138] at BK348)
            (try simp only [hl325000_138] at HO_311000)
            (try simp only [hl325000_138] at HO_315000)
            (try simp only [hl325000_138] at HO_349000)
            cases kq with
            | zero => exact absurd HA.out (by simp [laws_FnExactRecvOn.j2])
            | succ kj138 =>
             have H := HA.out
             clear HA
             simp only [laws_FnExactRecvOn.j2] at H
             by_cases c196 : x116_138 = true
             ·subst c196
              rw [if_pos rfl] at H
              exact absurd H (by simp)
             ·replace c196 := Bool.eq_false_iff.mpr c196
              subst c196
              rw [if_neg (show ¬ (false = true) by decide)] at H
              replace H := Option.bind_eq_some_iff.mp H
              obtain ⟨t350, A1970, H⟩ := H
              (try dsimp only at H)
              have A197 := Aside0.mk A1970
              clear A1970
              by_cases c198 : t350 < 0
              ·rw [if_pos c198] at H
               have c198b0 : decide (t350 < 0) = true := decide_eq_true c198
               clear c198
               exact absurd H (by simp)
              ·rw [if_neg c198] at H
               have c198b0 : decide (t350 < 0) = false := decide_eq_false c198
               clear c198
               by_cases c199 : t350 = t333
               ·rw [if_pos c199] at H
                have c199b0 : (t350 == t333) = true := beq_iff_eq.mpr c199
                have c199b1 : (t350 != t333) = false := bne_eq_false_iff_eq.mpr c199
                clear c199
                clear H
                have hnb200 := NB324_295.out
                have hnc200 := NB295_324.out
                have hnb201 := NB324_296.out
                have hnc201 := NB296_324.out
                have hnb202 := NB324_310.out
                have hnc202 := NB310_324.out
                have hnb203 := NB324_314.out
                have hnc203 := NB314_324.out
                have hnb204 := NB324_348.out
                have hnc204 := NB348_324.out
                have hcz205_0 : wc.cell? ⟨gb324, 0, none⟩ = some (.slice Ao46 t334.length co46) := (blk_cell BK324.out 0).trans rfl
                have hfz205_0 := blk_frozen BK324.out 0
                go_wp2_with (first | ((with_reducible refine gate_callee (f := 34) rfl ?_); refine goesL_ (some 119) rfl rfl Try.func34 (by kernel_rfl) rfl #[.agg #[.slice Ao46 t334.length co46], .int .i64 1] rfl (by (try simp only [List.map_toArray, List.map_cons, List.map_nil]); first | done | rfl | (simp only [List.length_drop, List.length_take]; rfl)) ?_; (with_reducible refine (laws_heldInEnd.calls kj138 _ _ t334 1 t350 _ ?side1 ?side2 A197.out).mono ?_); (case side1 => repeat (first | exact (Kd.Q_reads' HO_325000.out).2.2 | (with_reducible refine Kd.C_alloc ?_ _) | (with_reducible refine Kd.C_drewN ?_ _) | (with_reducible refine Kd.C_drew ?_))); (case side2 => exact (Kd.Q_reads' HO_325000.out).2.1); rintro e w206 ⟨rfl, hb⟩; refine ⟨_, rfl, ?_⟩; have n0_ := Aside0.mk (Kd.Q_below (by (with_reducible repeat (first | apply Kd.Q_alloc | apply Kd.Q_drewN | apply Kd.Q_drew)); exact HO_311000.out) hb); have n1_ := Aside0.mk (Kd.Q_below (by (with_reducible repeat (first | apply Kd.Q_alloc | apply Kd.Q_drewN | apply Kd.Q_drew)); exact HO_315000.out) hb); have n2_ := Aside0.mk (Kd.Q_below (by (with_reducible repeat (first | apply Kd.Q_alloc | apply Kd.Q_drewN | apply Kd.Q_drew)); exact HO_325000.out) hb); have n3_ := Aside0.mk (Kd.Q_below (by (with_reducible repeat (first | apply Kd.Q_alloc | apply Kd.Q_drewN | apply Kd.Q_drew)); exact HO_349000.out) hb); have n4_ := Aside0.mk (blk_below (bq BK295.out) hb); have n5_ := Aside0.mk (blk_below (bq BK296.out) hb); have n6_ := Aside0.mk (blk_below (bq BK310.out) hb); have n7_ := Aside0.mk (blk_below (bq BK314.out) hb); have n8_ := Aside0.mk (blk_below (bq BK324.out) hb); have n9_ := Aside0.mk (blk_below (bq BK348.out) hb); have n10_ := Aside0.mk (below_step (lq HB.out) hb); clear HO_311000; clear HO_315000; clear HO_325000; clear HO_349000; clear BK295; clear BK296; clear BK310; clear BK314; clear BK324; clear BK348; clear HB; have HO_311000 := n0_; have HO_315000 := n1_; have HO_325000 := n2_; have HO_349000 := n3_; have BK295 := n4_; have BK296 := n5_; have BK310 := n6_; have BK314 := n7_; have BK324 := n8_; have BK348 := n9_; have HB := n10_; clear n0_ n1_ n2_ n3_ n4_ n5_ n6_ n7_ n8_ n9_ n10_; (try clear hb); (try clear hb2); (try clear hk); (try clear hi)))
                go_ret
                exact ⟨by first | rfl | (simp [errW_none, errW_some] <;> rfl) | (simp [*, errW_none, errW_some] <;> rfl), by exact lq HB.out⟩
               ·rw [if_neg c199] at H
                have c199b0 : (t350 == t333) = false := beq_eq_false_iff_ne.mpr c199
                have c199b1 : (t350 != t333) = true := bne_iff_ne.mpr c199
                exact absurd H (by simp)
          ·rw [if_neg c135] at H
           have c135b0 : (t335 == t333) = false := beq_eq_false_iff_ne.mpr c135
           have c135b1 : (t335 != t333) = true := bne_iff_ne.mpr c135
           exact absurd H (by simp)
     ·replace c84 := Bool.eq_false_iff.mpr c84
      subst c84
      rw [if_neg (show ¬ (false = true) by decide)] at H
      exact absurd H (by simp)

end Go.Proofs.Ytioifcanipijhaa.GC
