/- Told by a program of this session, out of the translation: each function of the group as a plain Lean function, and that Go's call comes to just its answer. Lean checks it. -/
import Derived.Test.YtioifcanipijhaaGCx0
import Derived.Test.YtioifcanipijhaaGCx4
import Derived.Test.YtioifcanipijhaaGCx5
import Derived.Test.YtioifcanipijhaaGCx7
import Derived.Test.YtioifcanipijhaaChbC
namespace Go.Proofs.Ytioifcanipijhaa.GC
open Go.RowKit Go.Proofs.YtioifcanipijhaaW.PrintWords Go.Proofs.YtioifcanipijhaaW.PrintLast Go.Proofs.YtioifcanipijhaaW.PrintMore Go.Proofs.Ytioifcanipijhaa.Q
attribute [local go_sem] max2_int min2_int max_two min_two max_three min_three max_four min_four   -- for this text's walks alone
set_option linter.unusedVariables false
set_option linter.unusedSimpArgs false

/-! ### laws_FnExactSendOn: function 8 -/
mutual
def laws_FnExactSendOn.j0 : Nat → Int → Int → Int → Bool → Int → Int → Int → Int → Int → List Int → Int → List Int → Int → List Int → Int → List Int → Option (Bool)
 | 0, _, _, _, _, _, _, _, _, _, _, _, _, _, _, _, _ => none
 | k + 1, x2, x9, x12, x50, x190000, x190001, x190002, x190003, x191000, x191001, x206000, x206001, x211000, x211001, x221000, x221001 => if x50 = true then (some false) else ((laws_toOutEnd.f k x191000 x191001).bind fun bt222 => ((laws_eqOutEnd.f k x211000 x211001 bt222.1 bt222.2).bind fun t226 => (if t226 = true then ((laws_markOutEnd.f k x211000 x211001 1).bind fun bt227 => (if bt227.1 < 0 then (laws_FnExactSendOn.j1 k x2 x9 true x190000 x190001 x190002 x190003 x191000 x191001 x206000 x206001 x221000 x221001) else ((laws_eqOutEnd.f k x221000 x221001 x206000 x206001).bind fun t229 => (if t229 = true then (laws_FnExactSendOn.j1 k x2 x9 (x12 != x9) x190000 x190001 x190002 x190003 x191000 x191001 x206000 x206001 x221000 x221001) else (laws_FnExactSendOn.j1 k x2 x9 true x190000 x190001 x190002 x190003 x191000 x191001 x206000 x206001 x221000 x221001))))) else (some false))))
def laws_FnExactSendOn.j1 : Nat → Int → Int → Bool → Int → Int → Int → Int → Int → List Int → Int → List Int → Int → List Int → Option (Bool)
 | 0, _, _, _, _, _, _, _, _, _, _, _, _, _ => none
 | k + 1, x2, x9, x71, x190000, x190001, x190002, x190003, x191000, x191001, x206000, x206001, x221000, x221001 => if x71 = true then (some false) else ((laws_markOutEnd.f k x221000 x221001 1).bind fun bt230 => ((laws_heldOutEnd.f k x221000 bt230.2 1).bind fun t232 => (if t232 < 0 then (some false) else (if t232 = bt230.1 then ((laws_toChanRow.f x190000 x190001 x190002 x190003).bind fun bt233 => ((laws_toOutEnd.f k x191000 x191001).bind fun bt237 => ((impl_SendOn.f bt233.1 bt233.2.1 bt233.2.2.1 bt233.2.2.2 bt237.1 bt237.2 x2).bind fun bt241 => ((laws_eqOutEnd.f k bt241.1 bt241.2.1 x206000 x206001).bind fun t247 => (if t247 = true then (laws_FnExactSendOn.j2 k bt230.1 (bt241.2.2 != x9) x221000 bt230.2) else (laws_FnExactSendOn.j2 k bt230.1 true x221000 bt230.2)))))) else (some false)))))
def laws_FnExactSendOn.j2 : Nat → Int → Bool → Int → List Int → Option (Bool)
 | 0, _, _, _, _ => none
 | k + 1, x14, x100, x221000, x221001 => if x100 = true then (some false) else ((laws_heldOutEnd.f k x221000 x221001 1).bind fun t248 => (if t248 < 0 then (some false) else (if t248 = x14 then (some true) else (some false))))
end
def laws_FnExactSendOn.f (k : Nat) (a0_0 : Int) (a0_1 : Int) (a0_2 : Int) (a0_3 : Int) (a1_0 : Int) (l1_1 : List Int) (a2 : Int) : Option (Bool) := (laws_szOutEnd.f a1_0 l1_1 1048576).bind fun t191 => (if t191 < 0 then (some true) else ((laws_toChanRow.f a0_0 a0_1 a0_2 a0_3).bind fun bt192 => ((laws_toOutEnd.f k a1_0 l1_1).bind fun bt196 => ((spec_SendOn.f bt192.1 bt192.2.1 bt192.2.2.1 bt192.2.2.2 bt196.1 bt196.2 a2).bind fun bt200 => ((laws_toOutEnd.f k a1_0 l1_1).bind fun bt206 => ((laws_toChanRow.f a0_0 a0_1 a0_2 a0_3).bind fun bt211 => ((impl_SendOn.f bt211.1 bt211.2.1 bt211.2.2.1 bt211.2.2.2 bt206.1 bt206.2 a2).bind fun bt215 => ((laws_eqOutEnd.f k bt215.1 bt215.2.1 bt200.1 bt200.2.1).bind fun t221 => (if t221 = true then (laws_FnExactSendOn.j0 k a2 bt200.2.2 bt215.2.2 (bt215.2.2 != bt200.2.2) a0_0 a0_1 a0_2 a0_3 a1_0 l1_1 bt200.1 bt200.2.1 bt206.1 bt206.2 bt215.1 bt215.2.1) else (laws_FnExactSendOn.j0 k a2 bt200.2.2 bt215.2.2 true a0_0 a0_1 a0_2 a0_3 a1_0 l1_1 bt200.1 bt200.2.1 bt206.1 bt206.2 bt215.1 bt215.2.1))))))))))
theorem laws_FnExactSendOn.mono_l : ∀ k, (∀ y0 y1 y2 y3 y4 y5 y6 y7 y8 y9 y10 y11 y12 y13 y14 y15, LeO (laws_FnExactSendOn.j0 k y0 y1 y2 y3 y4 y5 y6 y7 y8 y9 y10 y11 y12 y13 y14 y15) (laws_FnExactSendOn.j0 (k + 1) y0 y1 y2 y3 y4 y5 y6 y7 y8 y9 y10 y11 y12 y13 y14 y15)) ∧ (∀ y0 y1 y2 y3 y4 y5 y6 y7 y8 y9 y10 y11 y12, LeO (laws_FnExactSendOn.j1 k y0 y1 y2 y3 y4 y5 y6 y7 y8 y9 y10 y11 y12) (laws_FnExactSendOn.j1 (k + 1) y0 y1 y2 y3 y4 y5 y6 y7 y8 y9 y10 y11 y12)) ∧ (∀ y0 y1 y2 y3, LeO (laws_FnExactSendOn.j2 k y0 y1 y2 y3) (laws_FnExactSendOn.j2 (k + 1) y0 y1 y2 y3))
 | 0 => ⟨fun _ _ _ _ _ _ _ _ _ _ _ _ _ _ _ _ r h => by simp [laws_FnExactSendOn.j0] at h, fun _ _ _ _ _ _ _ _ _ _ _ _ _ r h => by simp [laws_FnExactSendOn.j1] at h, fun _ _ _ _ r h => by simp [laws_FnExactSendOn.j2] at h⟩
 | k + 1 => by
  obtain ⟨ih0, ih1, ih2⟩ := laws_FnExactSendOn.mono_l k
  refine ⟨?_, ?_, ?_⟩
  ·intro y0 y1 y2 y3 y4 y5 y6 y7 y8 y9 y10 y11 y12 y13 y14 y15
   unfold laws_FnExactSendOn.j0
   repeat' first
   | (with_reducible exact ih0 _ _ _ _ _ _ _ _ _ _ _ _ _ _ _ _)
   | (with_reducible exact ih1 _ _ _ _ _ _ _ _ _ _ _ _ _)
   | (with_reducible exact ih2 _ _ _ _)
   | (with_reducible exact laws_eqOutEnd.mono _ _ _ _ _)
   | (with_reducible exact laws_heldOutEnd.mono _ _ _ _)
   | (with_reducible exact laws_markOutEnd.mono _ _ _ _)
   | (with_reducible exact laws_toOutEnd.mono _ _ _)
   | (with_reducible exact LeO.refl _)
   | (with_reducible exact LeO.none _)
   | (with_reducible refine LeO.ite ?_ ?_)
   | (with_reducible refine LeO.bind ?_ (fun _ => ?_))
   | exact ih0 _ _ _ _ _ _ _ _ _ _ _ _ _ _ _ _
   | exact ih1 _ _ _ _ _ _ _ _ _ _ _ _ _
   | exact ih2 _ _ _ _
   | exact laws_eqOutEnd.mono _ _ _ _ _
   | exact laws_heldOutEnd.mono _ _ _ _
   | exact laws_markOutEnd.mono _ _ _ _
   | exact laws_toOutEnd.mono _ _ _
   | exact LeO.none _
   | refine LeO.ite ?_ ?_
   | refine LeO.bind ?_ (fun _ => ?_)
  ·intro y0 y1 y2 y3 y4 y5 y6 y7 y8 y9 y10 y11 y12
   unfold laws_FnExactSendOn.j1
   repeat' first
   | (with_reducible exact ih0 _ _ _ _ _ _ _ _ _ _ _ _ _ _ _ _)
   | (with_reducible exact ih1 _ _ _ _ _ _ _ _ _ _ _ _ _)
   | (with_reducible exact ih2 _ _ _ _)
   | (with_reducible exact laws_eqOutEnd.mono _ _ _ _ _)
   | (with_reducible exact laws_heldOutEnd.mono _ _ _ _)
   | (with_reducible exact laws_markOutEnd.mono _ _ _ _)
   | (with_reducible exact laws_toOutEnd.mono _ _ _)
   | (with_reducible exact LeO.refl _)
   | (with_reducible exact LeO.none _)
   | (with_reducible refine LeO.ite ?_ ?_)
   | (with_reducible refine LeO.bind ?_ (fun _ => ?_))
   | exact ih0 _ _ _ _ _ _ _ _ _ _ _ _ _ _ _ _
   | exact ih1 _ _ _ _ _ _ _ _ _ _ _ _ _
   | exact ih2 _ _ _ _
   | exact laws_eqOutEnd.mono _ _ _ _ _
   | exact laws_heldOutEnd.mono _ _ _ _
   | exact laws_markOutEnd.mono _ _ _ _
   | exact laws_toOutEnd.mono _ _ _
   | exact LeO.none _
   | refine LeO.ite ?_ ?_
   | refine LeO.bind ?_ (fun _ => ?_)
  ·intro y0 y1 y2 y3
   unfold laws_FnExactSendOn.j2
   repeat' first
   | (with_reducible exact ih0 _ _ _ _ _ _ _ _ _ _ _ _ _ _ _ _)
   | (with_reducible exact ih1 _ _ _ _ _ _ _ _ _ _ _ _ _)
   | (with_reducible exact ih2 _ _ _ _)
   | (with_reducible exact laws_eqOutEnd.mono _ _ _ _ _)
   | (with_reducible exact laws_heldOutEnd.mono _ _ _ _)
   | (with_reducible exact laws_markOutEnd.mono _ _ _ _)
   | (with_reducible exact laws_toOutEnd.mono _ _ _)
   | (with_reducible exact LeO.refl _)
   | (with_reducible exact LeO.none _)
   | (with_reducible refine LeO.ite ?_ ?_)
   | (with_reducible refine LeO.bind ?_ (fun _ => ?_))
   | exact ih0 _ _ _ _ _ _ _ _ _ _ _ _ _ _ _ _
   | exact ih1 _ _ _ _ _ _ _ _ _ _ _ _ _
   | exact ih2 _ _ _ _
   | exact laws_eqOutEnd.mono _ _ _ _ _
   | exact laws_heldOutEnd.mono _ _ _ _
   | exact laws_markOutEnd.mono _ _ _ _
   | exact laws_toOutEnd.mono _ _ _
   | exact LeO.none _
   | refine LeO.ite ?_ ?_
   | refine LeO.bind ?_ (fun _ => ?_)
theorem laws_FnExactSendOn.mono : ∀ a0 a1 a2 a3 a4 a5 a6 k, LeO (laws_FnExactSendOn.f k a0 a1 a2 a3 a4 a5 a6) (laws_FnExactSendOn.f (k + 1) a0 a1 a2 a3 a4 a5 a6) := by
 intro a0 a1 a2 a3 a4 a5 a6 k
 obtain ⟨ih0, ih1, ih2⟩ := laws_FnExactSendOn.mono_l k
 unfold laws_FnExactSendOn.f
 repeat' first
   | (with_reducible exact ih0 _ _ _ _ _ _ _ _ _ _ _ _ _ _ _ _)
   | (with_reducible exact ih1 _ _ _ _ _ _ _ _ _ _ _ _ _)
   | (with_reducible exact ih2 _ _ _ _)
   | (with_reducible exact laws_eqOutEnd.mono _ _ _ _ _)
   | (with_reducible exact laws_heldOutEnd.mono _ _ _ _)
   | (with_reducible exact laws_markOutEnd.mono _ _ _ _)
   | (with_reducible exact laws_toOutEnd.mono _ _ _)
   | (with_reducible exact LeO.refl _)
   | (with_reducible exact LeO.none _)
   | (with_reducible refine LeO.ite ?_ ?_)
   | (with_reducible refine LeO.bind ?_ (fun _ => ?_))
   | exact ih0 _ _ _ _ _ _ _ _ _ _ _ _ _ _ _ _
   | exact ih1 _ _ _ _ _ _ _ _ _ _ _ _ _
   | exact ih2 _ _ _ _
   | exact laws_eqOutEnd.mono _ _ _ _ _
   | exact laws_heldOutEnd.mono _ _ _ _
   | exact laws_markOutEnd.mono _ _ _ _
   | exact laws_toOutEnd.mono _ _ _
   | exact LeO.none _
   | refine LeO.ite ?_ ?_
   | refine LeO.bind ?_ (fun _ => ?_)
def laws_FnExactSendOn.T5 : Bool × List (List Nat × List Nat) := (true, [([], []), ([0], [0]), ([], []), ([2, 1], [2]), ([], []), ([1, 3, 4, 3], [1, 3, 4]), ([5], [5]), ([6], [6]), ([6], [6]), ([], []), ([9, 7, 5, 0, 1, 2, 3, 4, 5, 6, 7, 9], [7, 9]), ([8, 10, 0, 1, 2, 3, 4, 5, 6, 7, 8, 9, 10], [8])])
def laws_FnExactSendOn.B5 : List Nat := [0, 1, 0, 7, 0, 31, 63, 127, 127, 0, 767, 2047]
theorem laws_FnExactSendOn.tab5 : rtab .any (opsOf Try.f8 5) = laws_FnExactSendOn.T5 := by kernel_rfl
theorem laws_FnExactSendOn.bits5 : waitsOk laws_FnExactSendOn.T5.2 laws_FnExactSendOn.B5 = true := by kernel_rfl
def laws_FnExactSendOn.T7 : Bool × List (List Nat × List Nat) := (true, [([], []), ([0], [0]), ([], []), ([], []), ([1, 2, 3, 1], [1, 2, 3]), ([4], [4]), ([5], [5]), ([5], [5]), ([], []), ([8, 6, 4, 0, 1, 2, 3, 4, 5, 6, 8], [6, 8]), ([7, 9, 0, 1, 2, 3, 4, 5, 6, 7, 8, 9], [7])])
def laws_FnExactSendOn.B7 : List Nat := [0, 1, 0, 0, 15, 31, 63, 63, 0, 383, 1023]
theorem laws_FnExactSendOn.tab7 : rtab .any (opsOf Try.f8 7) = laws_FnExactSendOn.T7 := by kernel_rfl
theorem laws_FnExactSendOn.bits7 : waitsOk laws_FnExactSendOn.T7.2 laws_FnExactSendOn.B7 = true := by kernel_rfl
def laws_FnExactSendOn.T24 : Bool × List (List Nat × List Nat) := (true, [([], []), ([0], [0]), ([], []), ([2, 1], [2]), ([], []), ([1, 3, 4, 3], [1, 3, 4]), ([5], [5]), ([6], [6]), ([6], [6]), ([], []), ([9, 7, 5, 0, 1, 2, 3, 4, 5, 6, 7, 9], [7, 9]), ([8, 10, 0, 1, 2, 3, 4, 5, 6, 7, 8, 9, 10], [8])])
def laws_FnExactSendOn.B24 : List Nat := [0, 1, 0, 7, 0, 31, 63, 127, 127, 0, 767, 2047]
theorem laws_FnExactSendOn.tab24 : rtab .any (opsOf Try.f8 24) = laws_FnExactSendOn.T24 := by kernel_rfl
theorem laws_FnExactSendOn.bits24 : waitsOk laws_FnExactSendOn.T24.2 laws_FnExactSendOn.B24 = true := by kernel_rfl
set_option maxHeartbeats 8000000 in
set_option maxRecDepth 100000 in
theorem laws_FnExactSendOn.calls (k : Nat) (a0_0 : Int) (a0_1 : Int) (a0_2 : Int) (a0_3 : Int) (a1_0 : Int) (A1_1 : Option Addr) (c1_1 : Nat) (l1_1 : List Int) (a2 : Int) (w : World) (hr1_1 : Kd.C (Kd.int .u32) w A1_1 l1_1.length l1_1) (hc1_1 : l1_1.length ≤ c1_1) (h : laws_FnExactSendOn.f k a0_0 a0_1 a0_2 a0_3 a1_0 l1_1 a2 = some true) :
  Calls Try.prog 8 #[.agg #[.int .i64 a0_0, .int .i64 a0_1, .int .i64 a0_2, .int .i64 a0_3], .agg #[.int .i64 a1_0, .slice A1_1 l1_1.length c1_1], .int .u32 a2] w fun e w' => e = .returned (.bool true) ∧ Below w.heap.size w w' := by
 have hu23 := Try.underlying23
 have hu36 := Try.underlying36
 have hu39 := Try.underlying39
 have HR1_1 := Aside0.mk hr1_1
 have HC1_1 := Aside0.mk hc1_1
 clear hr1_1 hc1_1
 have HB := Aside0.mk (Below.refl w.heap.size w)
 have H : ((laws_szOutEnd.f a1_0 l1_1 1048576).bind fun t191 => (if t191 < 0 then (some true) else ((laws_toChanRow.f a0_0 a0_1 a0_2 a0_3).bind fun bt192 => ((laws_toOutEnd.f k a1_0 l1_1).bind fun bt196 => ((spec_SendOn.f bt192.1 bt192.2.1 bt192.2.2.1 bt192.2.2.2 bt196.1 bt196.2 a2).bind fun bt200 => ((laws_toOutEnd.f k a1_0 l1_1).bind fun bt206 => ((laws_toChanRow.f a0_0 a0_1 a0_2 a0_3).bind fun bt211 => ((impl_SendOn.f bt211.1 bt211.2.1 bt211.2.2.1 bt211.2.2.2 bt206.1 bt206.2 a2).bind fun bt215 => ((laws_eqOutEnd.f k bt215.1 bt215.2.1 bt200.1 bt200.2.1).bind fun t221 => (if t221 = true then (laws_FnExactSendOn.j0 k a2 bt200.2.2 bt215.2.2 (bt215.2.2 != bt200.2.2) a0_0 a0_1 a0_2 a0_3 a1_0 l1_1 bt200.1 bt200.2.1 bt206.1 bt206.2 bt215.1 bt215.2.1) else (laws_FnExactSendOn.j0 k a2 bt200.2.2 bt215.2.2 true a0_0 a0_1 a0_2 a0_3 a1_0 l1_1 bt200.1 bt200.2.1 bt206.1 bt206.2 bt215.1 bt215.2.1))))))))))) = some true := h
 clear h
 replace H := Option.bind_eq_some_iff.mp H
 obtain ⟨t191, A40, H⟩ := H
 (try dsimp only at H)
 have A4 := Aside0.mk A40
 clear A40
 by_cases c5 : t191 < 0
 ·rw [if_pos c5] at H
  have c5b0 : decide (t191 < 0) = true := decide_eq_true c5
  clear c5
  clear H
  go_enter Try.func8, Try.ntmps8
  go_wp2_with (first | ((with_reducible refine gate_dst (N := 3) rfl ?_); refine box_event ?hg (N := 3) ?hd (cs := #[.int .i64 a0_0, .int .i64 a0_1, .int .i64 a0_2, .int .i64 a0_3]) (t := 23) ?hr ?_; (case hd => rfl); (case hg => rfl); (case hr => first | (go_simp; done) | (go_simp; rfl)); intro gb189 hg w6 hbox hb; have n0_ := Aside0.mk (below_step (lq HB.out) hb); have n1_ := Aside0.mk (hbox); have n2_ := Aside0.mk ((ge_new hg (lq HB.out) : w.heap.size ≤ gb189)); have n3_ := Aside0.mk ((ge_new hg (lq HB.out) : w.heap.size ≤ gb189)); clear HB; have HB := n0_; have BK189 := n1_; have GW189 := n2_; have GE189 := n3_; clear n0_ n1_ n2_ n3_; clear hb hbox hg) | ((with_reducible refine gate_dst (N := 4) rfl ?_); refine box_event ?hg (N := 4) ?hd (cs := #[.int .i64 a1_0, .slice A1_1 l1_1.length c1_1]) (t := 36) ?hr ?_; (case hd => rfl); (case hg => rfl); (case hr => first | (go_simp; done) | (go_simp; rfl)); intro gb190 hg w7 hbox hb; have n0_ := Aside0.mk (blk_below (bq BK189.out) hb); have n1_ := Aside0.mk (below_step (lq HB.out) hb); have n2_ := Aside0.mk (hbox); have n3_ := Aside0.mk ((ge_new hg (lq HB.out) : w.heap.size ≤ gb190)); have n4_ := Aside0.mk ((ge_new hg (lq HB.out) : w.heap.size ≤ gb190)); have n5_ := Aside0.mk ((ne_new hg (bq BK189.out) : gb189 ≠ gb190)); have n6_ := Aside0.mk ((new_ne hg (bq BK189.out) : gb190 ≠ gb189)); clear BK189; clear HB; have BK189 := n0_; have HB := n1_; have BK190 := n2_; have GW190 := n3_; have GE190 := n4_; have NB189_190 := n5_; have NB190_189 := n6_; clear n0_ n1_ n2_ n3_ n4_ n5_ n6_; clear hb hbox hg; have hnb8 := NB190_189.out; have hnc8 := NB189_190.out; have hcz9_0 : w7.cell? ⟨gb190, 0, none⟩ = some (.int .i64 a1_0) := (blk_cell BK190.out 0).trans rfl; have hcz9_1 : w7.cell? ⟨gb190, 1, none⟩ = some (.slice A1_1 l1_1.length c1_1) := (blk_cell BK190.out 1).trans rfl; have hfz9_0 := blk_frozen BK190.out 0; have hfz9_1 := blk_frozen BK190.out 1) | ((with_reducible refine gate_callee (f := 20) rfl ?_); refine goesL_ (some 20) rfl rfl Try.func20 (by kernel_rfl) rfl #[.agg #[.int .i64 a1_0, .slice A1_1 l1_1.length c1_1], .int .i64 1048576] rfl (by (try simp only [List.map_toArray, List.map_cons, List.map_nil]); first | done | rfl | (simp only [List.length_drop, List.length_take]; rfl)) ?_; (with_reducible refine (laws_szOutEnd.calls a1_0 _ _ l1_1 1048576 t191 _ ?side1 ?side2 A4.out).mono ?_); (case side1 => repeat (first | exact (Kd.C_below HR1_1.out HB.out) | (with_reducible refine Kd.C_alloc ?_ _) | (with_reducible refine Kd.C_drewN ?_ _) | (with_reducible refine Kd.C_drew ?_))); (case side2 => exact HC1_1.out); rintro e w10 ⟨rfl, hb⟩; refine ⟨_, rfl, ?_⟩; have n0_ := Aside0.mk (blk_below (bq BK189.out) hb); have n1_ := Aside0.mk (blk_below (bq BK190.out) hb); have n2_ := Aside0.mk (below_step (lq HB.out) hb); clear BK189; clear BK190; clear HB; have BK189 := n0_; have BK190 := n1_; have HB := n2_; clear n0_ n1_ n2_; (try clear hb); (try clear hb2); (try clear hk); (try clear hi)))
  go_ret
  exact ⟨by first | rfl | (simp [errW_none, errW_some] <;> rfl) | (simp [*, errW_none, errW_some] <;> rfl), by exact lq HB.out⟩
 ·rw [if_neg c5] at H
  have c5b0 : decide (t191 < 0) = false := decide_eq_false c5
  clear c5
  replace H := Option.bind_eq_some_iff.mp H
  obtain ⟨⟨t192, t193, t194, t195⟩, A110, H⟩ := H
  (try dsimp only at H)
  have A11 := Aside0.mk A110
  clear A110
  replace H := Option.bind_eq_some_iff.mp H
  obtain ⟨⟨t196, t197⟩, A120, H⟩ := H
  (try dsimp only at H)
  have A12 := Aside0.mk A120
  clear A120
  replace H := Option.bind_eq_some_iff.mp H
  obtain ⟨⟨t200, t201, t204⟩, A130, H⟩ := H
  (try dsimp only at H)
  have A13 := Aside0.mk A130
  clear A130
  replace H := Option.bind_eq_some_iff.mp H
  obtain ⟨⟨t206, t207⟩, A140, H⟩ := H
  (try dsimp only at H)
  have A14 := Aside0.mk A140
  clear A140
  replace H := Option.bind_eq_some_iff.mp H
  obtain ⟨⟨t211, t212, t213, t214⟩, A150, H⟩ := H
  (try dsimp only at H)
  have A15 := Aside0.mk A150
  clear A150
  replace H := Option.bind_eq_some_iff.mp H
  obtain ⟨⟨t215, t216, t219⟩, A160, H⟩ := H
  (try dsimp only at H)
  have A16 := Aside0.mk A160
  clear A160
  have HC17 := Aside0.mk H
  clear H
  go_enter Try.func8, Try.ntmps8
  try go_wp2_with (first | ((with_reducible refine gate_dst (N := 3) rfl ?_); refine box_event ?hg (N := 3) ?hd (cs := #[.int .i64 a0_0, .int .i64 a0_1, .int .i64 a0_2, .int .i64 a0_3]) (t := 23) ?hr ?_; (case hd => rfl); (case hg => rfl); (case hr => first | (go_simp; done) | (go_simp; rfl)); intro gb189 hg w18 hbox hb; have n0_ := Aside0.mk (below_step (lq HB.out) hb); have n1_ := Aside0.mk (hbox); have n2_ := Aside0.mk ((ge_new hg (lq HB.out) : w.heap.size ≤ gb189)); have n3_ := Aside0.mk ((ge_new hg (lq HB.out) : w.heap.size ≤ gb189)); clear HB; have HB := n0_; have BK189 := n1_; have GW189 := n2_; have GE189 := n3_; clear n0_ n1_ n2_ n3_; clear hb hbox hg) | ((with_reducible refine gate_dst (N := 4) rfl ?_); refine box_event ?hg (N := 4) ?hd (cs := #[.int .i64 a1_0, .slice A1_1 l1_1.length c1_1]) (t := 36) ?hr ?_; (case hd => rfl); (case hg => rfl); (case hr => first | (go_simp; done) | (go_simp; rfl)); intro gb190 hg w19 hbox hb; have n0_ := Aside0.mk (blk_below (bq BK189.out) hb); have n1_ := Aside0.mk (below_step (lq HB.out) hb); have n2_ := Aside0.mk (hbox); have n3_ := Aside0.mk ((ge_new hg (lq HB.out) : w.heap.size ≤ gb190)); have n4_ := Aside0.mk ((ge_new hg (lq HB.out) : w.heap.size ≤ gb190)); have n5_ := Aside0.mk ((ne_new hg (bq BK189.out) : gb189 ≠ gb190)); have n6_ := Aside0.mk ((new_ne hg (bq BK189.out) : gb190 ≠ gb189)); clear BK189; clear HB; have BK189 := n0_; have HB := n1_; have BK190 := n2_; have GW190 := n3_; have GE190 := n4_; have NB189_190 := n5_; have NB190_189 := n6_; clear n0_ n1_ n2_ n3_ n4_ n5_ n6_; clear hb hbox hg; have hnb20 := NB190_189.out; have hnc20 := NB189_190.out; have hcz21_0 : w19.cell? ⟨gb190, 0, none⟩ = some (.int .i64 a1_0) := (blk_cell BK190.out 0).trans rfl; have hcz21_1 : w19.cell? ⟨gb190, 1, none⟩ = some (.slice A1_1 l1_1.length c1_1) := (blk_cell BK190.out 1).trans rfl; have hfz21_0 := blk_frozen BK190.out 0; have hfz21_1 := blk_frozen BK190.out 1) | ((with_reducible refine gate_callee (f := 20) rfl ?_); refine goesL_ (some 20) rfl rfl Try.func20 (by kernel_rfl) rfl #[.agg #[.int .i64 a1_0, .slice A1_1 l1_1.length c1_1], .int .i64 1048576] rfl (by (try simp only [List.map_toArray, List.map_cons, List.map_nil]); first | done | rfl | (simp only [List.length_drop, List.length_take]; rfl)) ?_; (with_reducible refine (laws_szOutEnd.calls a1_0 _ _ l1_1 1048576 t191 _ ?side1 ?side2 A4.out).mono ?_); (case side1 => repeat (first | exact (Kd.C_below HR1_1.out HB.out) | (with_reducible refine Kd.C_alloc ?_ _) | (with_reducible refine Kd.C_drewN ?_ _) | (with_reducible refine Kd.C_drew ?_))); (case side2 => exact HC1_1.out); rintro e w22 ⟨rfl, hb⟩; refine ⟨_, rfl, ?_⟩; have n0_ := Aside0.mk (blk_below (bq BK189.out) hb); have n1_ := Aside0.mk (blk_below (bq BK190.out) hb); have n2_ := Aside0.mk (below_step (lq HB.out) hb); clear BK189; clear BK190; clear HB; have BK189 := n0_; have BK190 := n1_; have HB := n2_; clear n0_ n1_ n2_; (try clear hb); (try clear hb2); (try clear hk); (try clear hi)))
  have n0_ := Aside0.mk (blk_drew BK189.out)
  have n1_ := Aside0.mk (blk_drew BK190.out)
  have n2_ := Aside0.mk (below_drew1 HB.out)
  clear BK189
  clear BK190
  clear HB
  have BK189 := n0_
  have BK190 := n1_
  have HB := n2_
  clear n0_ n1_ n2_
  refine start_ (n := 12) (S := fun w' => w'.cell? ⟨gb189, 0, none⟩ = some (.int .i64 a0_0) ∧ w'.cell? ⟨gb189, 1, none⟩ = some (.int .i64 a0_1) ∧ w'.cell? ⟨gb189, 2, none⟩ = some (.int .i64 a0_2) ∧ w'.cell? ⟨gb189, 3, none⟩ = some (.int .i64 a0_3) ∧ w'.cell? ⟨gb190, 0, none⟩ = some (.int .i64 a1_0) ∧ w'.cell? ⟨gb190, 1, none⟩ = some (.slice A1_1 l1_1.length c1_1)) (ds := []) #[false, false, false, false, false, false, false, false, false, false, false, false] (by kernel_rfl) rfl rfl ⟨(blk_cell BK189.out 0).trans rfl, (blk_cell BK189.out 1).trans rfl, (blk_cell BK189.out 2).trans rfl, (blk_cell BK189.out 3).trans rfl, (blk_cell BK190.out 0).trans rfl, (blk_cell BK190.out 1).trans rfl⟩ (fun hHeld => ?_); refine with_tabW laws_FnExactSendOn.tab5 laws_FnExactSendOn.bits5 (fun HT_ HW_ => ?_)
  generalize w22.drew = w23 at BK189 BK190 HB hHeld ⊢
  refine pure_ (i := 4) (N := some 28) (v := ?_) (a' := ?_) #[false, false, false, false, true, false, false, false, false, false, false, false] rfl rfl (any_of HT_.out (by kernel_rfl)) (fun _ _ _ h => h) (Or.inl ⟨by rfl, ?_⟩) ?_ ?_
  rotate_left
  ·intro w'
   go_simp
   with_reducible rfl
  rotate_left
  ·simp only [Act.put, List.setIfInBounds_toArray, List.set_cons_zero, List.set_cons_succ, i64_w, i32_w]
   rfl
  refine take_ (i := 0) (N := some 24) (v := ?_) (a' := ?_) #[true, false, false, false, true, false, false, false, false, false, false, false] rfl rfl (take_ofW HT_.out HW_.out (by kernel_rfl)) (fun _ _ _ h => h) (Or.inl ⟨by rfl, ?_⟩) hHeld ?_ ?_
  rotate_left
  ·rintro w' ⟨s0, s1, s2, s3, s4, s5⟩
   go_simp
   with_reducible rfl
  rotate_left
  ·simp only [Act.put, List.setIfInBounds_toArray, List.set_cons_zero, List.set_cons_succ, i64_w, i32_w]
   rfl
  refine take_ (i := 2) (N := some 26) (v := ?_) (a' := ?_) #[true, false, true, false, true, false, false, false, false, false, false, false] rfl rfl (take_ofW HT_.out HW_.out (by kernel_rfl)) (fun _ _ _ h => h) (Or.inl ⟨by rfl, ?_⟩) hHeld ?_ ?_
  rotate_left
  ·rintro w' ⟨s0, s1, s2, s3, s4, s5⟩
   go_simp
   with_reducible rfl
  rotate_left
  ·simp only [Act.put, List.setIfInBounds_toArray, List.set_cons_zero, List.set_cons_succ, i64_w, i32_w]
   rfl
  refine join_ (σ := Value × Value × Nat) 2 #[true, true, true, true, true, true, true, true, true, true, false, false] (fun s_ => [(25, .agg #[.int .i64 t192, .int .i64 t193, .int .i64 t194, .int .i64 t195]), (27, .agg #[.int .i64 t196, s_.1]), (29, .tuple #[.agg #[.int .i64 t200, s_.2.1], .int .i64 t204]), (8, .pointer (some ⟨s_.2.2, 0, none⟩)), (23, .tuple #[.agg #[.int .i64 t200, s_.2.1], .int .i64 t204]), (30, .agg #[.int .i64 t200, s_.2.1]), (31, .int .i64 t204)]) (fun s_ w' => (w'.cell? ⟨gb189, 0, none⟩ = some (.int .i64 a0_0) ∧ w'.cell? ⟨gb189, 1, none⟩ = some (.int .i64 a0_1) ∧ w'.cell? ⟨gb189, 2, none⟩ = some (.int .i64 a0_2) ∧ w'.cell? ⟨gb189, 3, none⟩ = some (.int .i64 a0_3) ∧ w'.cell? ⟨gb190, 0, none⟩ = some (.int .i64 a1_0) ∧ w'.cell? ⟨gb190, 1, none⟩ = some (.slice A1_1 l1_1.length c1_1)) ∧ (Kd.R (Kd.int .u32) 46 w' w.heap.size (fun k_ => some k_ ≠ (s_.2.1 : Value).ownBlock) s_.1 t197) ∧ (Kd.R (Kd.int .u32) 46 w' w.heap.size (fun k_ => some k_ ≠ (s_.1 : Value).ownBlock) s_.2.1 t201) ∧ (w'.heap[gb189]? = some (.cells #[.int .i64 a0_0, .int .i64 a0_1, .int .i64 a0_2, .int .i64 a0_3] 23 (0, 0))) ∧ (w'.heap[gb190]? = some (.cells #[.int .i64 a1_0, .slice A1_1 l1_1.length c1_1] 36 (0, 0))) ∧ (w'.heap[s_.2.2]? = some (.cells #[.int .i64 0, .slice none 0 0] 39 (0, 0))) ∧ (w.heap.size ≤ s_.2.2) ∧ (w.heap.size ≤ s_.2.2) ∧ (gb189 ≠ s_.2.2) ∧ (s_.2.2 ≠ gb189) ∧ (gb190 ≠ s_.2.2) ∧ (s_.2.2 ≠ gb190) ∧ (Below w.heap.size w w')) ?_ ?_
  rotate_left
  ·intro hCont
   refine two_ (i := 1) (j := 9) (Ni := some 25) (Nj := some 8) #[true, true, true, false, true, false, false, false, false, false, false, false] #[true, false, true, false, true, false, false, false, false, true, false, false] rfl rfl rfl rfl (two_of HT_.out (by kernel_rfl)) (by decide) (by decide) (fun K hK => ?_) (fun K hK => ?_)
   ·skip
    refine goes_ Try.func16 (by kernel_rfl) rfl #[.agg #[.int .i64 a0_0, .int .i64 a0_1, .int .i64 a0_2, .int .i64 a0_3]] (by rfl) rfl rfl (by (try simp only [List.map_toArray, List.map_cons, List.map_nil]); first | done | rfl | (simp only [List.length_drop, List.length_take]; rfl)) ?_
    with_reducible refine (laws_toChanRow.calls a0_0 a0_1 a0_2 a0_3 t192 t193 t194 t195 _ A11.out).mono ?_
    rintro e w24 ⟨rfl, hb⟩
    refine ⟨_, rfl, ?_⟩
    have n0_ := Aside0.mk (blk_below (bq BK189.out) hb)
    have n1_ := Aside0.mk (blk_below (bq BK190.out) hb)
    have n2_ := Aside0.mk (below_step (lq HB.out) hb)
    clear BK189
    clear BK190
    clear HB
    have BK189 := n0_
    have BK190 := n1_
    have HB := n2_
    clear n0_ n1_ n2_
    (try clear hb)
    (try clear hb2)
    (try clear hk)
    (try clear hi)
    refine hK.out _ _ ⟨(blk_cell BK189.out 0).trans rfl, (blk_cell BK189.out 1).trans rfl, (blk_cell BK189.out 2).trans rfl, (blk_cell BK189.out 3).trans rfl, (blk_cell BK190.out 0).trans rfl, (blk_cell BK190.out 1).trans rfl⟩ (fun hHeld => ?_)
    clear hK K
    refine norm_ (a' := ?_) ?_ ?_
    rotate_left
    ·show Act.put _ (some 25) _ = _
     simp only [Act.put, List.setIfInBounds_toArray, List.set_cons_zero, List.set_cons_succ, i64_w, i32_w]
     rfl
    refine two_ (i := 3) (j := 9) (Ni := some 27) (Nj := some 8) #[true, true, true, true, true, false, false, false, false, false, false, false] #[true, true, true, false, true, false, false, false, false, true, false, false] rfl rfl rfl rfl (two_of HT_.out (by kernel_rfl)) (by decide) (by decide) (fun K hK => ?_) (fun K hK => ?_)
    ·skip
     refine goes_ Try.func22 (by kernel_rfl) rfl #[.agg #[.int .i64 a1_0, .slice A1_1 l1_1.length c1_1]] (by rfl) rfl rfl (by (try simp only [List.map_toArray, List.map_cons, List.map_nil]); first | done | rfl | (simp only [List.length_drop, List.length_take]; rfl)) ?_
     with_reducible refine (laws_toOutEnd.calls k a1_0 _ _ l1_1 t196 t197 _ ?side1 ?side2 A12.out).mono ?_
     (case side1 => repeat (first | exact (Kd.C_below HR1_1.out HB.out) | (with_reducible refine Kd.C_alloc ?_ _) | (with_reducible refine Kd.C_drewN ?_ _) | (with_reducible refine Kd.C_drew ?_)))
     (case side2 => exact HC1_1.out)
     rintro e w25 ⟨v198, rfl, ho0, hb⟩
     refine ⟨_, rfl, ?_⟩
     have n0_ := Aside0.mk (Kd.R_lower ho0 (below_size (lq HB.out)))
     have n1_ := Aside0.mk (blk_below (bq BK189.out) hb)
     have n2_ := Aside0.mk (blk_below (bq BK190.out) hb)
     have n3_ := Aside0.mk (below_step (lq HB.out) hb)
     clear BK189
     clear BK190
     clear HB
     have HO199 := n0_
     have BK189 := n1_
     have BK190 := n2_
     have HB := n3_
     clear n0_ n1_ n2_ n3_
     (try clear hb)
     (try clear hb2)
     (try clear hk)
     (try clear hi)
     (try clear ho0)
     obtain ⟨Ao26, co26, eo26⟩ := Kd.R_slice HO199.out
     (first | subst eo26 | (injection eo26 with f1_ f2_ f3_; have f4_ := f1_.symm; have f5_ := f3_.symm; clear f1_ f2_ f3_; subst f4_; subst f5_))
     refine hK.out _ _ ⟨(blk_cell BK189.out 0).trans rfl, (blk_cell BK189.out 1).trans rfl, (blk_cell BK189.out 2).trans rfl, (blk_cell BK189.out 3).trans rfl, (blk_cell BK190.out 0).trans rfl, (blk_cell BK190.out 1).trans rfl⟩ (fun hHeld => ?_)
     clear hK K
     refine norm_ (a' := ?_) ?_ ?_
     rotate_left
     ·show Act.put _ (some 27) _ = _
      simp only [Act.put, List.setIfInBounds_toArray, List.set_cons_zero, List.set_cons_succ, i64_w, i32_w]
      rfl
     refine two_ (i := 5) (j := 9) (Ni := some 29) (Nj := some 8) #[true, true, true, true, true, true, false, false, false, false, false, false] #[true, true, true, true, true, false, false, false, false, true, false, false] rfl rfl rfl rfl (two_of HT_.out (by kernel_rfl)) (by decide) (by decide) (fun K hK => ?_) (fun K hK => ?_)
     ·skip
      refine goes_ Try.func35 (by kernel_rfl) rfl #[.agg #[.int .i64 t192, .int .i64 t193, .int .i64 t194, .int .i64 t195], .agg #[.int .i64 t196, .slice Ao26 t197.length co26], .int .u32 a2] (by rfl) rfl rfl (by (try simp only [List.map_toArray, List.map_cons, List.map_nil]); first | done | rfl | (simp only [List.length_drop, List.length_take]; rfl)) ?_
      with_reducible refine (spec_SendOn.calls t192 t193 t194 t195 t196 _ _ t197 a2 t200 t201 t204 _ ?side1 ?side2 A13.out).mono ?_
      (case side1 => repeat (first | exact (Kd.R_reads' HO199.out).2.2 | (with_reducible refine Kd.C_alloc ?_ _) | (with_reducible refine Kd.C_drewN ?_ _) | (with_reducible refine Kd.C_drew ?_)))
      (case side2 => exact (Kd.R_reads' HO199.out).2.1)
      rintro e w27 ⟨v202, rfl, ho0, hb⟩
      refine ⟨_, rfl, ?_⟩
      have n0_ := Aside0.mk (Kd.R_elder' (rq HO199.out) (Kd.R_base ho0) hb)
      have n1_ := Aside0.mk (Kd.R_lower (Kd.R_new' ho0 (Kd.R_lt (rq HO199.out))) (below_size (lq HB.out)))
      have n2_ := Aside0.mk (blk_below (bq BK189.out) hb)
      have n3_ := Aside0.mk (blk_below (bq BK190.out) hb)
      have n4_ := Aside0.mk (below_step (lq HB.out) hb)
      clear HO199
      clear BK189
      clear BK190
      clear HB
      have HO199 := n0_
      have HO203 := n1_
      have BK189 := n2_
      have BK190 := n3_
      have HB := n4_
      clear n0_ n1_ n2_ n3_ n4_
      (try clear hb)
      (try clear hb2)
      (try clear hk)
      (try clear hi)
      (try clear ho0)
      refine hK.out _ _ ⟨(blk_cell BK189.out 0).trans rfl, (blk_cell BK189.out 1).trans rfl, (blk_cell BK189.out 2).trans rfl, (blk_cell BK189.out 3).trans rfl, (blk_cell BK190.out 0).trans rfl, (blk_cell BK190.out 1).trans rfl⟩ (fun hHeld => ?_)
      clear hK K
      refine norm_ (a' := ?_) ?_ ?_
      rotate_left
      ·show Act.put _ (some 29) _ = _
       simp only [Act.put, List.setIfInBounds_toArray, List.set_cons_zero, List.set_cons_succ, i64_w, i32_w]
       rfl
      refine pure_ (i := 6) (N := some 23) (v := ?_) (a' := ?_) #[true, true, true, true, true, true, true, false, false, false, false, false] rfl rfl (any_of HT_.out (by kernel_rfl)) (fun _ _ _ h => h) (Or.inl ⟨by rfl, ?_⟩) ?_ ?_
      rotate_left
      ·intro w'
       go_simp
       with_reducible rfl
      rotate_left
      ·simp only [Act.put, List.setIfInBounds_toArray, List.set_cons_zero, List.set_cons_succ, i64_w, i32_w]
       rfl
      refine pure_ (i := 7) (N := some 30) (v := ?_) (a' := ?_) #[true, true, true, true, true, true, true, true, false, false, false, false] rfl rfl (any_of HT_.out (by kernel_rfl)) (fun _ _ _ h => h) (Or.inl ⟨by rfl, ?_⟩) ?_ ?_
      rotate_left
      ·intro w'
       go_simp
       with_reducible rfl
      rotate_left
      ·simp only [Act.put, List.setIfInBounds_toArray, List.set_cons_zero, List.set_cons_succ, i64_w, i32_w]
       rfl
      refine pure_ (i := 8) (N := some 31) (v := ?_) (a' := ?_) #[true, true, true, true, true, true, true, true, true, false, false, false] rfl rfl (any_of HT_.out (by kernel_rfl)) (fun _ _ _ h => h) (Or.inl ⟨by rfl, ?_⟩) ?_ ?_
      rotate_left
      ·intro w'
       go_simp
       with_reducible rfl
      rotate_left
      ·simp only [Act.put, List.setIfInBounds_toArray, List.set_cons_zero, List.set_cons_succ, i64_w, i32_w]
       rfl
      refine one_ (i := 9) (N := some 8) #[true, true, true, true, true, true, true, true, true, true, false, false] rfl rfl (one_of HT_.out (by kernel_rfl)) (by decide) (fun K hK => ?_)
      refine box_step ?hg (N := 8) ?hd (cs := #[.int .i64 0, .slice none 0 0]) (t := 39) ?hr ?_; (case hd => rfl); (case hg => rfl); (case hr => first | (go_simp; done) | (go_simp; rfl))
      intro gb205 hg w28 hbox hb
      have n0_ := Aside0.mk (Kd.R_below (rq HO199.out) hb)
      have n1_ := Aside0.mk (Kd.R_below (rq HO203.out) hb)
      have n2_ := Aside0.mk (blk_below (bq BK189.out) hb)
      have n3_ := Aside0.mk (blk_below (bq BK190.out) hb)
      have n4_ := Aside0.mk (below_step (lq HB.out) hb)
      have n5_ := Aside0.mk (hbox)
      have n6_ := Aside0.mk ((ge_new hg (lq HB.out) : w.heap.size ≤ gb205))
      have n7_ := Aside0.mk ((ge_new hg (lq HB.out) : w.heap.size ≤ gb205))
      have n8_ := Aside0.mk ((ne_new hg (bq BK189.out) : gb189 ≠ gb205))
      have n9_ := Aside0.mk ((new_ne hg (bq BK189.out) : gb205 ≠ gb189))
      have n10_ := Aside0.mk ((ne_new hg (bq BK190.out) : gb190 ≠ gb205))
      have n11_ := Aside0.mk ((new_ne hg (bq BK190.out) : gb205 ≠ gb190))
      clear HO199
      clear HO203
      clear BK189
      clear BK190
      clear HB
      have HO199 := n0_
      have HO203 := n1_
      have BK189 := n2_
      have BK190 := n3_
      have HB := n4_
      have BK205 := n5_
      have GW205 := n6_
      have GE205 := n7_
      have NB189_205 := n8_
      have NB205_189 := n9_
      have NB190_205 := n10_
      have NB205_190 := n11_
      clear n0_ n1_ n2_ n3_ n4_ n5_ n6_ n7_ n8_ n9_ n10_ n11_
      clear hb hbox hg
      refine hK.out _ _ ⟨(blk_cell BK189.out 0).trans rfl, (blk_cell BK189.out 1).trans rfl, (blk_cell BK189.out 2).trans rfl, (blk_cell BK189.out 3).trans rfl, (blk_cell BK190.out 0).trans rfl, (blk_cell BK190.out 1).trans rfl⟩ (fun hHeld => ?_)
      clear hK K
      refine norm_ (a' := ?_) ?_ ?_
      rotate_left
      ·show Act.put _ (some 8) _ = _
       simp only [Act.put, List.setIfInBounds_toArray, List.set_cons_zero, List.set_cons_succ, i64_w, i32_w]
       rfl
      exact norm_ (by simp only [putAll, Act.put, List.setIfInBounds_toArray, List.set_cons_zero, List.set_cons_succ]) (hCont (.slice Ao26 t197.length co26, v202, gb205) _ ⟨hHeld, (by (with_reducible repeat (first | apply Kd.R_alloc | apply Kd.R_drewN | apply Kd.R_drew)); exact Kd.R_mono HO199.out (fun _ hk => hk.2)), (by (with_reducible repeat (first | apply Kd.R_alloc | apply Kd.R_drewN | apply Kd.R_drew)); exact Kd.R_mono HO203.out (fun _ hk => hk.2)), (bq BK189.out), (bq BK190.out), (bq BK205.out), GW205.out, GE205.out, NB189_205.out, NB205_189.out, NB190_205.out, NB205_190.out, (lq HB.out)⟩)
     ·skip
      refine box_step ?hg (N := 8) ?hd (cs := #[.int .i64 0, .slice none 0 0]) (t := 39) ?hr ?_; (case hd => rfl); (case hg => rfl); (case hr => first | (go_simp; done) | (go_simp; rfl))
      intro gb205 hg w26 hbox hb
      have n0_ := Aside0.mk (Kd.R_below (rq HO199.out) hb)
      have n1_ := Aside0.mk (blk_below (bq BK189.out) hb)
      have n2_ := Aside0.mk (blk_below (bq BK190.out) hb)
      have n3_ := Aside0.mk (below_step (lq HB.out) hb)
      have n4_ := Aside0.mk (hbox)
      have n5_ := Aside0.mk ((ge_new hg (lq HB.out) : w.heap.size ≤ gb205))
      have n6_ := Aside0.mk ((ge_new hg (lq HB.out) : w.heap.size ≤ gb205))
      have n7_ := Aside0.mk ((ne_new hg (bq BK189.out) : gb189 ≠ gb205))
      have n8_ := Aside0.mk ((new_ne hg (bq BK189.out) : gb205 ≠ gb189))
      have n9_ := Aside0.mk ((ne_new hg (bq BK190.out) : gb190 ≠ gb205))
      have n10_ := Aside0.mk ((new_ne hg (bq BK190.out) : gb205 ≠ gb190))
      clear HO199
      clear BK189
      clear BK190
      clear HB
      have HO199 := n0_
      have BK189 := n1_
      have BK190 := n2_
      have HB := n3_
      have BK205 := n4_
      have GW205 := n5_
      have GE205 := n6_
      have NB189_205 := n7_
      have NB205_189 := n8_
      have NB190_205 := n9_
      have NB205_190 := n10_
      clear n0_ n1_ n2_ n3_ n4_ n5_ n6_ n7_ n8_ n9_ n10_
      clear hb hbox hg
      obtain ⟨Ao27, co27, eo27⟩ := Kd.R_slice HO199.out
      (first | subst eo27 | (injection eo27 with f1_ f2_ f3_; have f4_ := f1_.symm; have f5_ := f3_.symm; clear f1_ f2_ f3_; subst f4_; subst f5_))
      refine hK.out _ _ ⟨(blk_cell BK189.out 0).trans rfl, (blk_cell BK189.out 1).trans rfl, (blk_cell BK189.out 2).trans rfl, (blk_cell BK189.out 3).trans rfl, (blk_cell BK190.out 0).trans rfl, (blk_cell BK190.out 1).trans rfl⟩ (fun hHeld => ?_)
      clear hK K
      refine norm_ (a' := ?_) ?_ ?_
      rotate_left
      ·show Act.put _ (some 8) _ = _
       simp only [Act.put, List.setIfInBounds_toArray, List.set_cons_zero, List.set_cons_succ, i64_w, i32_w]
       rfl
      refine one_ (i := 5) (N := some 29) #[true, true, true, true, true, true, false, false, false, true, false, false] rfl rfl (one_of HT_.out (by kernel_rfl)) (by decide) (fun K hK => ?_)
      refine goes_ Try.func35 (by kernel_rfl) rfl #[.agg #[.int .i64 t192, .int .i64 t193, .int .i64 t194, .int .i64 t195], .agg #[.int .i64 t196, .slice Ao27 t197.length co27], .int .u32 a2] (by rfl) rfl rfl (by (try simp only [List.map_toArray, List.map_cons, List.map_nil]); first | done | rfl | (simp only [List.length_drop, List.length_take]; rfl)) ?_
      with_reducible refine (spec_SendOn.calls t192 t193 t194 t195 t196 _ _ t197 a2 t200 t201 t204 _ ?side1 ?side2 A13.out).mono ?_
      (case side1 => repeat (first | exact (Kd.R_reads' HO199.out).2.2 | (with_reducible refine Kd.C_alloc ?_ _) | (with_reducible refine Kd.C_drewN ?_ _) | (with_reducible refine Kd.C_drew ?_)))
      (case side2 => exact (Kd.R_reads' HO199.out).2.1)
      rintro e w28 ⟨v202, rfl, ho0, hb⟩
      refine ⟨_, rfl, ?_⟩
      have n0_ := Aside0.mk (Kd.R_elder' (rq HO199.out) (Kd.R_base ho0) hb)
      have n1_ := Aside0.mk (Kd.R_lower (Kd.R_new' ho0 (Kd.R_lt (rq HO199.out))) (below_size (lq HB.out)))
      have n2_ := Aside0.mk (blk_below (bq BK189.out) hb)
      have n3_ := Aside0.mk (blk_below (bq BK190.out) hb)
      have n4_ := Aside0.mk (blk_below (bq BK205.out) hb)
      have n5_ := Aside0.mk (below_step (lq HB.out) hb)
      clear HO199
      clear BK189
      clear BK190
      clear BK205
      clear HB
      have HO199 := n0_
      have HO203 := n1_
      have BK189 := n2_
      have BK190 := n3_
      have BK205 := n4_
      have HB := n5_
      clear n0_ n1_ n2_ n3_ n4_ n5_
      (try clear hb)
      (try clear hb2)
      (try clear hk)
      (try clear hi)
      (try clear ho0)
      refine hK.out _ _ ⟨(blk_cell BK189.out 0).trans rfl, (blk_cell BK189.out 1).trans rfl, (blk_cell BK189.out 2).trans rfl, (blk_cell BK189.out 3).trans rfl, (blk_cell BK190.out 0).trans rfl, (blk_cell BK190.out 1).trans rfl⟩ (fun hHeld => ?_)
      clear hK K
      refine norm_ (a' := ?_) ?_ ?_
      rotate_left
      ·show Act.put _ (some 29) _ = _
       simp only [Act.put, List.setIfInBounds_toArray, List.set_cons_zero, List.set_cons_succ, i64_w, i32_w]
       rfl
      refine pure_ (i := 6) (N := some 23) (v := ?_) (a' := ?_) #[true, true, true, true, true, true, true, false, false, true, false, false] rfl rfl (any_of HT_.out (by kernel_rfl)) (fun _ _ _ h => h) (Or.inl ⟨by rfl, ?_⟩) ?_ ?_
      rotate_left
      ·intro w'
       go_simp
       with_reducible rfl
      rotate_left
      ·simp only [Act.put, List.setIfInBounds_toArray, List.set_cons_zero, List.set_cons_succ, i64_w, i32_w]
       rfl
      refine pure_ (i := 7) (N := some 30) (v := ?_) (a' := ?_) #[true, true, true, true, true, true, true, true, false, true, false, false] rfl rfl (any_of HT_.out (by kernel_rfl)) (fun _ _ _ h => h) (Or.inl ⟨by rfl, ?_⟩) ?_ ?_
      rotate_left
      ·intro w'
       go_simp
       with_reducible rfl
      rotate_left
      ·simp only [Act.put, List.setIfInBounds_toArray, List.set_cons_zero, List.set_cons_succ, i64_w, i32_w]
       rfl
      refine pure_ (i := 8) (N := some 31) (v := ?_) (a' := ?_) #[true, true, true, true, true, true, true, true, true, true, false, false] rfl rfl (any_of HT_.out (by kernel_rfl)) (fun _ _ _ h => h) (Or.inl ⟨by rfl, ?_⟩) ?_ ?_
      rotate_left
      ·intro w'
       go_simp
       with_reducible rfl
      rotate_left
      ·simp only [Act.put, List.setIfInBounds_toArray, List.set_cons_zero, List.set_cons_succ, i64_w, i32_w]
       rfl
      exact norm_ (by simp only [putAll, Act.put, List.setIfInBounds_toArray, List.set_cons_zero, List.set_cons_succ]) (hCont (.slice Ao27 t197.length co27, v202, gb205) _ ⟨hHeld, (by (with_reducible repeat (first | apply Kd.R_alloc | apply Kd.R_drewN | apply Kd.R_drew)); exact Kd.R_mono HO199.out (fun _ hk => hk.2)), (by (with_reducible repeat (first | apply Kd.R_alloc | apply Kd.R_drewN | apply Kd.R_drew)); exact Kd.R_mono HO203.out (fun _ hk => hk.2)), (bq BK189.out), (bq BK190.out), (bq BK205.out), GW205.out, GE205.out, NB189_205.out, NB205_189.out, NB190_205.out, NB205_190.out, (lq HB.out)⟩)
    ·skip
     refine box_step ?hg (N := 8) ?hd (cs := #[.int .i64 0, .slice none 0 0]) (t := 39) ?hr ?_; (case hd => rfl); (case hg => rfl); (case hr => first | (go_simp; done) | (go_simp; rfl))
     intro gb205 hg w25 hbox hb
     have n0_ := Aside0.mk (blk_below (bq BK189.out) hb)
     have n1_ := Aside0.mk (blk_below (bq BK190.out) hb)
     have n2_ := Aside0.mk (below_step (lq HB.out) hb)
     have n3_ := Aside0.mk (hbox)
     have n4_ := Aside0.mk ((ge_new hg (lq HB.out) : w.heap.size ≤ gb205))
     have n5_ := Aside0.mk ((ge_new hg (lq HB.out) : w.heap.size ≤ gb205))
     have n6_ := Aside0.mk ((ne_new hg (bq BK189.out) : gb189 ≠ gb205))
     have n7_ := Aside0.mk ((new_ne hg (bq BK189.out) : gb205 ≠ gb189))
     have n8_ := Aside0.mk ((ne_new hg (bq BK190.out) : gb190 ≠ gb205))
     have n9_ := Aside0.mk ((new_ne hg (bq BK190.out) : gb205 ≠ gb190))
     clear BK189
     clear BK190
     clear HB
     have BK189 := n0_
     have BK190 := n1_
     have HB := n2_
     have BK205 := n3_
     have GW205 := n4_
     have GE205 := n5_
     have NB189_205 := n6_
     have NB205_189 := n7_
     have NB190_205 := n8_
     have NB205_190 := n9_
     clear n0_ n1_ n2_ n3_ n4_ n5_ n6_ n7_ n8_ n9_
     clear hb hbox hg
     refine hK.out _ _ ⟨(blk_cell BK189.out 0).trans rfl, (blk_cell BK189.out 1).trans rfl, (blk_cell BK189.out 2).trans rfl, (blk_cell BK189.out 3).trans rfl, (blk_cell BK190.out 0).trans rfl, (blk_cell BK190.out 1).trans rfl⟩ (fun hHeld => ?_)
     clear hK K
     refine norm_ (a' := ?_) ?_ ?_
     rotate_left
     ·show Act.put _ (some 8) _ = _
      simp only [Act.put, List.setIfInBounds_toArray, List.set_cons_zero, List.set_cons_succ, i64_w, i32_w]
      rfl
     refine one_ (i := 3) (N := some 27) #[true, true, true, true, true, false, false, false, false, true, false, false] rfl rfl (one_of HT_.out (by kernel_rfl)) (by decide) (fun K hK => ?_)
     refine goes_ Try.func22 (by kernel_rfl) rfl #[.agg #[.int .i64 a1_0, .slice A1_1 l1_1.length c1_1]] (by rfl) rfl rfl (by (try simp only [List.map_toArray, List.map_cons, List.map_nil]); first | done | rfl | (simp only [List.length_drop, List.length_take]; rfl)) ?_
     with_reducible refine (laws_toOutEnd.calls k a1_0 _ _ l1_1 t196 t197 _ ?side1 ?side2 A12.out).mono ?_
     (case side1 => repeat (first | exact (Kd.C_below HR1_1.out HB.out) | (with_reducible refine Kd.C_alloc ?_ _) | (with_reducible refine Kd.C_drewN ?_ _) | (with_reducible refine Kd.C_drew ?_)))
     (case side2 => exact HC1_1.out)
     rintro e w26 ⟨v198, rfl, ho0, hb⟩
     refine ⟨_, rfl, ?_⟩
     have n0_ := Aside0.mk (Kd.R_lower ho0 (below_size (lq HB.out)))
     have n1_ := Aside0.mk (blk_below (bq BK189.out) hb)
     have n2_ := Aside0.mk (blk_below (bq BK190.out) hb)
     have n3_ := Aside0.mk (blk_below (bq BK205.out) hb)
     have n4_ := Aside0.mk (below_step (lq HB.out) hb)
     clear BK189
     clear BK190
     clear BK205
     clear HB
     have HO199 := n0_
     have BK189 := n1_
     have BK190 := n2_
     have BK205 := n3_
     have HB := n4_
     clear n0_ n1_ n2_ n3_ n4_
     (try clear hb)
     (try clear hb2)
     (try clear hk)
     (try clear hi)
     (try clear ho0)
     obtain ⟨Ao27, co27, eo27⟩ := Kd.R_slice HO199.out
     (first | subst eo27 | (injection eo27 with f1_ f2_ f3_; have f4_ := f1_.symm; have f5_ := f3_.symm; clear f1_ f2_ f3_; subst f4_; subst f5_))
     refine hK.out _ _ ⟨(blk_cell BK189.out 0).trans rfl, (blk_cell BK189.out 1).trans rfl, (blk_cell BK189.out 2).trans rfl, (blk_cell BK189.out 3).trans rfl, (blk_cell BK190.out 0).trans rfl, (blk_cell BK190.out 1).trans rfl⟩ (fun hHeld => ?_)
     clear hK K
     refine norm_ (a' := ?_) ?_ ?_
     rotate_left
     ·show Act.put _ (some 27) _ = _
      simp only [Act.put, List.setIfInBounds_toArray, List.set_cons_zero, List.set_cons_succ, i64_w, i32_w]
      rfl
     refine one_ (i := 5) (N := some 29) #[true, true, true, true, true, true, false, false, false, true, false, false] rfl rfl (one_of HT_.out (by kernel_rfl)) (by decide) (fun K hK => ?_)
     refine goes_ Try.func35 (by kernel_rfl) rfl #[.agg #[.int .i64 t192, .int .i64 t193, .int .i64 t194, .int .i64 t195], .agg #[.int .i64 t196, .slice Ao27 t197.length co27], .int .u32 a2] (by rfl) rfl rfl (by (try simp only [List.map_toArray, List.map_cons, List.map_nil]); first | done | rfl | (simp only [List.length_drop, List.length_take]; rfl)) ?_
     with_reducible refine (spec_SendOn.calls t192 t193 t194 t195 t196 _ _ t197 a2 t200 t201 t204 _ ?side1 ?side2 A13.out).mono ?_
     (case side1 => repeat (first | exact (Kd.R_reads' HO199.out).2.2 | (with_reducible refine Kd.C_alloc ?_ _) | (with_reducible refine Kd.C_drewN ?_ _) | (with_reducible refine Kd.C_drew ?_)))
     (case side2 => exact (Kd.R_reads' HO199.out).2.1)
     rintro e w28 ⟨v202, rfl, ho0, hb⟩
     refine ⟨_, rfl, ?_⟩
     have n0_ := Aside0.mk (Kd.R_elder' (rq HO199.out) (Kd.R_base ho0) hb)
     have n1_ := Aside0.mk (Kd.R_lower (Kd.R_new' ho0 (Kd.R_lt (rq HO199.out))) (below_size (lq HB.out)))
     have n2_ := Aside0.mk (blk_below (bq BK189.out) hb)
     have n3_ := Aside0.mk (blk_below (bq BK190.out) hb)
     have n4_ := Aside0.mk (blk_below (bq BK205.out) hb)
     have n5_ := Aside0.mk (below_step (lq HB.out) hb)
     clear HO199
     clear BK189
     clear BK190
     clear BK205
     clear HB
     have HO199 := n0_
     have HO203 := n1_
     have BK189 := n2_
     have BK190 := n3_
     have BK205 := n4_
     have HB := n5_
     clear n0_ n1_ n2_ n3_ n4_ n5_
     (try clear hb)
     (try clear hb2)
     (try clear hk)
     (try clear hi)
     (try clear ho0)
     refine hK.out _ _ ⟨(blk_cell BK189.out 0).trans rfl, (blk_cell BK189.out 1).trans rfl, (blk_cell BK189.out 2).trans rfl, (blk_cell BK189.out 3).trans rfl, (blk_cell BK190.out 0).trans rfl, (blk_cell BK190.out 1).trans rfl⟩ (fun hHeld => ?_)
     clear hK K
     refine norm_ (a' := ?_) ?_ ?_
     rotate_left
     ·show Act.put _ (some 29) _ = _
      simp only [Act.put, List.setIfInBounds_toArray, List.set_cons_zero, List.set_cons_succ, i64_w, i32_w]
      rfl
     refine pure_ (i := 6) (N := some 23) (v := ?_) (a' := ?_) #[true, true, true, true, true, true, true, false, false, true, false, false] rfl rfl (any_of HT_.out (by kernel_rfl)) (fun _ _ _ h => h) (Or.inl ⟨by rfl, ?_⟩) ?_ ?_
     rotate_left
     ·intro w'
      go_simp
      with_reducible rfl
     rotate_left
     ·simp only [Act.put, List.setIfInBounds_toArray, List.set_cons_zero, List.set_cons_succ, i64_w, i32_w]
      rfl
     refine pure_ (i := 7) (N := some 30) (v := ?_) (a' := ?_) #[true, true, true, true, true, true, true, true, false, true, false, false] rfl rfl (any_of HT_.out (by kernel_rfl)) (fun _ _ _ h => h) (Or.inl ⟨by rfl, ?_⟩) ?_ ?_
     rotate_left
     ·intro w'
      go_simp
      with_reducible rfl
     rotate_left
     ·simp only [Act.put, List.setIfInBounds_toArray, List.set_cons_zero, List.set_cons_succ, i64_w, i32_w]
      rfl
     refine pure_ (i := 8) (N := some 31) (v := ?_) (a' := ?_) #[true, true, true, true, true, true, true, true, true, true, false, false] rfl rfl (any_of HT_.out (by kernel_rfl)) (fun _ _ _ h => h) (Or.inl ⟨by rfl, ?_⟩) ?_ ?_
     rotate_left
     ·intro w'
      go_simp
      with_reducible rfl
     rotate_left
     ·simp only [Act.put, List.setIfInBounds_toArray, List.set_cons_zero, List.set_cons_succ, i64_w, i32_w]
      rfl
     exact norm_ (by simp only [putAll, Act.put, List.setIfInBounds_toArray, List.set_cons_zero, List.set_cons_succ]) (hCont (.slice Ao27 t197.length co27, v202, gb205) _ ⟨hHeld, (by (with_reducible repeat (first | apply Kd.R_alloc | apply Kd.R_drewN | apply Kd.R_drew)); exact Kd.R_mono HO199.out (fun _ hk => hk.2)), (by (with_reducible repeat (first | apply Kd.R_alloc | apply Kd.R_drewN | apply Kd.R_drew)); exact Kd.R_mono HO203.out (fun _ hk => hk.2)), (bq BK189.out), (bq BK190.out), (bq BK205.out), GW205.out, GE205.out, NB189_205.out, NB205_189.out, NB190_205.out, NB205_190.out, (lq HB.out)⟩)
   ·skip
    refine box_step ?hg (N := 8) ?hd (cs := #[.int .i64 0, .slice none 0 0]) (t := 39) ?hr ?_; (case hd => rfl); (case hg => rfl); (case hr => first | (go_simp; done) | (go_simp; rfl))
    intro gb205 hg w24 hbox hb
    have n0_ := Aside0.mk (blk_below (bq BK189.out) hb)
    have n1_ := Aside0.mk (blk_below (bq BK190.out) hb)
    have n2_ := Aside0.mk (below_step (lq HB.out) hb)
    have n3_ := Aside0.mk (hbox)
    have n4_ := Aside0.mk ((ge_new hg (lq HB.out) : w.heap.size ≤ gb205))
    have n5_ := Aside0.mk ((ge_new hg (lq HB.out) : w.heap.size ≤ gb205))
    have n6_ := Aside0.mk ((ne_new hg (bq BK189.out) : gb189 ≠ gb205))
    have n7_ := Aside0.mk ((new_ne hg (bq BK189.out) : gb205 ≠ gb189))
    have n8_ := Aside0.mk ((ne_new hg (bq BK190.out) : gb190 ≠ gb205))
    have n9_ := Aside0.mk ((new_ne hg (bq BK190.out) : gb205 ≠ gb190))
    clear BK189
    clear BK190
    clear HB
    have BK189 := n0_
    have BK190 := n1_
    have HB := n2_
    have BK205 := n3_
    have GW205 := n4_
    have GE205 := n5_
    have NB189_205 := n6_
    have NB205_189 := n7_
    have NB190_205 := n8_
    have NB205_190 := n9_
    clear n0_ n1_ n2_ n3_ n4_ n5_ n6_ n7_ n8_ n9_
    clear hb hbox hg
    refine hK.out _ _ ⟨(blk_cell BK189.out 0).trans rfl, (blk_cell BK189.out 1).trans rfl, (blk_cell BK189.out 2).trans rfl, (blk_cell BK189.out 3).trans rfl, (blk_cell BK190.out 0).trans rfl, (blk_cell BK190.out 1).trans rfl⟩ (fun hHeld => ?_)
    clear hK K
    refine norm_ (a' := ?_) ?_ ?_
    rotate_left
    ·show Act.put _ (some 8) _ = _
     simp only [Act.put, List.setIfInBounds_toArray, List.set_cons_zero, List.set_cons_succ, i64_w, i32_w]
     rfl
    refine one_ (i := 1) (N := some 25) #[true, true, true, false, true, false, false, false, false, true, false, false] rfl rfl (one_of HT_.out (by kernel_rfl)) (by decide) (fun K hK => ?_)
    refine goes_ Try.func16 (by kernel_rfl) rfl #[.agg #[.int .i64 a0_0, .int .i64 a0_1, .int .i64 a0_2, .int .i64 a0_3]] (by rfl) rfl rfl (by (try simp only [List.map_toArray, List.map_cons, List.map_nil]); first | done | rfl | (simp only [List.length_drop, List.length_take]; rfl)) ?_
    with_reducible refine (laws_toChanRow.calls a0_0 a0_1 a0_2 a0_3 t192 t193 t194 t195 _ A11.out).mono ?_
    rintro e w25 ⟨rfl, hb⟩
    refine ⟨_, rfl, ?_⟩
    have n0_ := Aside0.mk (blk_below (bq BK189.out) hb)
    have n1_ := Aside0.mk (blk_below (bq BK190.out) hb)
    have n2_ := Aside0.mk (blk_below (bq BK205.out) hb)
    have n3_ := Aside0.mk (below_step (lq HB.out) hb)
    clear BK189
    clear BK190
    clear BK205
    clear HB
    have BK189 := n0_
    have BK190 := n1_
    have BK205 := n2_
    have HB := n3_
    clear n0_ n1_ n2_ n3_
    (try clear hb)
    (try clear hb2)
    (try clear hk)
    (try clear hi)
    refine hK.out _ _ ⟨(blk_cell BK189.out 0).trans rfl, (blk_cell BK189.out 1).trans rfl, (blk_cell BK189.out 2).trans rfl, (blk_cell BK189.out 3).trans rfl, (blk_cell BK190.out 0).trans rfl, (blk_cell BK190.out 1).trans rfl⟩ (fun hHeld => ?_)
    clear hK K
    refine norm_ (a' := ?_) ?_ ?_
    rotate_left
    ·show Act.put _ (some 25) _ = _
     simp only [Act.put, List.setIfInBounds_toArray, List.set_cons_zero, List.set_cons_succ, i64_w, i32_w]
     rfl
    refine one_ (i := 3) (N := some 27) #[true, true, true, true, true, false, false, false, false, true, false, false] rfl rfl (one_of HT_.out (by kernel_rfl)) (by decide) (fun K hK => ?_)
    refine goes_ Try.func22 (by kernel_rfl) rfl #[.agg #[.int .i64 a1_0, .slice A1_1 l1_1.length c1_1]] (by rfl) rfl rfl (by (try simp only [List.map_toArray, List.map_cons, List.map_nil]); first | done | rfl | (simp only [List.length_drop, List.length_take]; rfl)) ?_
    with_reducible refine (laws_toOutEnd.calls k a1_0 _ _ l1_1 t196 t197 _ ?side1 ?side2 A12.out).mono ?_
    (case side1 => repeat (first | exact (Kd.C_below HR1_1.out HB.out) | (with_reducible refine Kd.C_alloc ?_ _) | (with_reducible refine Kd.C_drewN ?_ _) | (with_reducible refine Kd.C_drew ?_)))
    (case side2 => exact HC1_1.out)
    rintro e w26 ⟨v198, rfl, ho0, hb⟩
    refine ⟨_, rfl, ?_⟩
    have n0_ := Aside0.mk (Kd.R_lower ho0 (below_size (lq HB.out)))
    have n1_ := Aside0.mk (blk_below (bq BK189.out) hb)
    have n2_ := Aside0.mk (blk_below (bq BK190.out) hb)
    have n3_ := Aside0.mk (blk_below (bq BK205.out) hb)
    have n4_ := Aside0.mk (below_step (lq HB.out) hb)
    clear BK189
    clear BK190
    clear BK205
    clear HB
    have HO199 := n0_
    have BK189 := n1_
    have BK190 := n2_
    have BK205 := n3_
    have HB := n4_
    clear n0_ n1_ n2_ n3_ n4_
    (try clear hb)
    (try clear hb2)
    (try clear hk)
    (try clear hi)
    (try clear ho0)
    obtain ⟨Ao27, co27, eo27⟩ := Kd.R_slice HO199.out
    (first | subst eo27 | (injection eo27 with f1_ f2_ f3_; have f4_ := f1_.symm; have f5_ := f3_.symm; clear f1_ f2_ f3_; subst f4_; subst f5_))
    refine hK.out _ _ ⟨(blk_cell BK189.out 0).trans rfl, (blk_cell BK189.out 1).trans rfl, (blk_cell BK189.out 2).trans rfl, (blk_cell BK189.out 3).trans rfl, (blk_cell BK190.out 0).trans rfl, (blk_cell BK190.out 1).trans rfl⟩ (fun hHeld => ?_)
    clear hK K
    refine norm_ (a' := ?_) ?_ ?_
    rotate_left
    ·show Act.put _ (some 27) _ = _
     simp only [Act.put, List.setIfInBounds_toArray, List.set_cons_zero, List.set_cons_succ, i64_w, i32_w]
     rfl
    refine one_ (i := 5) (N := some 29) #[true, true, true, true, true, true, false, false, false, true, false, false] rfl rfl (one_of HT_.out (by kernel_rfl)) (by decide) (fun K hK => ?_)
    refine goes_ Try.func35 (by kernel_rfl) rfl #[.agg #[.int .i64 t192, .int .i64 t193, .int .i64 t194, .int .i64 t195], .agg #[.int .i64 t196, .slice Ao27 t197.length co27], .int .u32 a2] (by rfl) rfl rfl (by (try simp only [List.map_toArray, List.map_cons, List.map_nil]); first | done | rfl | (simp only [List.length_drop, List.length_take]; rfl)) ?_
    with_reducible refine (spec_SendOn.calls t192 t193 t194 t195 t196 _ _ t197 a2 t200 t201 t204 _ ?side1 ?side2 A13.out).mono ?_
    (case side1 => repeat (first | exact (Kd.R_reads' HO199.out).2.2 | (with_reducible refine Kd.C_alloc ?_ _) | (with_reducible refine Kd.C_drewN ?_ _) | (with_reducible refine Kd.C_drew ?_)))
    (case side2 => exact (Kd.R_reads' HO199.out).2.1)
    rintro e w28 ⟨v202, rfl, ho0, hb⟩
    refine ⟨_, rfl, ?_⟩
    have n0_ := Aside0.mk (Kd.R_elder' (rq HO199.out) (Kd.R_base ho0) hb)
    have n1_ := Aside0.mk (Kd.R_lower (Kd.R_new' ho0 (Kd.R_lt (rq HO199.out))) (below_size (lq HB.out)))
    have n2_ := Aside0.mk (blk_below (bq BK189.out) hb)
    have n3_ := Aside0.mk (blk_below (bq BK190.out) hb)
    have n4_ := Aside0.mk (blk_below (bq BK205.out) hb)
    have n5_ := Aside0.mk (below_step (lq HB.out) hb)
    clear HO199
    clear BK189
    clear BK190
    clear BK205
    clear HB
    have HO199 := n0_
    have HO203 := n1_
    have BK189 := n2_
    have BK190 := n3_
    have BK205 := n4_
    have HB := n5_
    clear n0_ n1_ n2_ n3_ n4_ n5_
    (try clear hb)
    (try clear hb2)
    (try clear hk)
    (try clear hi)
    (try clear ho0)
    refine hK.out _ _ ⟨(blk_cell BK189.out 0).trans rfl, (blk_cell BK189.out 1).trans rfl, (blk_cell BK189.out 2).trans rfl, (blk_cell BK189.out 3).trans rfl, (blk_cell BK190.out 0).trans rfl, (blk_cell BK190.out 1).trans rfl⟩ (fun hHeld => ?_)
    clear hK K
    refine norm_ (a' := ?_) ?_ ?_
    rotate_left
    ·show Act.put _ (some 29) _ = _
     simp only [Act.put, List.setIfInBounds_toArray, List.set_cons_zero, List.set_cons_succ, i64_w, i32_w]
     rfl
    refine pure_ (i := 6) (N := some 23) (v := ?_) (a' := ?_) #[true, true, true, true, true, true, true, false, false, true, false, false] rfl rfl (any_of HT_.out (by kernel_rfl)) (fun _ _ _ h => h) (Or.inl ⟨by rfl, ?_⟩) ?_ ?_
    rotate_left
    ·intro w'
     go_simp
     with_reducible rfl
    rotate_left
    ·simp only [Act.put, List.setIfInBounds_toArray, List.set_cons_zero, List.set_cons_succ, i64_w, i32_w]
     rfl
    refine pure_ (i := 7) (N := some 30) (v := ?_) (a' := ?_) #[true, true, true, true, true, true, true, true, false, true, false, false] rfl rfl (any_of HT_.out (by kernel_rfl)) (fun _ _ _ h => h) (Or.inl ⟨by rfl, ?_⟩) ?_ ?_
    rotate_left
    ·intro w'
     go_simp
     with_reducible rfl
    rotate_left
    ·simp only [Act.put, List.setIfInBounds_toArray, List.set_cons_zero, List.set_cons_succ, i64_w, i32_w]
     rfl
    refine pure_ (i := 8) (N := some 31) (v := ?_) (a' := ?_) #[true, true, true, true, true, true, true, true, true, true, false, false] rfl rfl (any_of HT_.out (by kernel_rfl)) (fun _ _ _ h => h) (Or.inl ⟨by rfl, ?_⟩) ?_ ?_
    rotate_left
    ·intro w'
     go_simp
     with_reducible rfl
    rotate_left
    ·simp only [Act.put, List.setIfInBounds_toArray, List.set_cons_zero, List.set_cons_succ, i64_w, i32_w]
     rfl
    exact norm_ (by simp only [putAll, Act.put, List.setIfInBounds_toArray, List.set_cons_zero, List.set_cons_succ]) (hCont (.slice Ao27 t197.length co27, v202, gb205) _ ⟨hHeld, (by (with_reducible repeat (first | apply Kd.R_alloc | apply Kd.R_drewN | apply Kd.R_drew)); exact Kd.R_mono HO199.out (fun _ hk => hk.2)), (by (with_reducible repeat (first | apply Kd.R_alloc | apply Kd.R_drewN | apply Kd.R_drew)); exact Kd.R_mono HO203.out (fun _ hk => hk.2)), (bq BK189.out), (bq BK190.out), (bq BK205.out), GW205.out, GE205.out, NB189_205.out, NB205_189.out, NB190_205.out, NB205_190.out, (lq HB.out)⟩)
  rintro ⟨v198, v202, gb205⟩ w29 ⟨hS_, h0_, h1_, h2_, h3_, h4_, h5_, h6_, h7_, h8_, h9_, h10_, h11_⟩
  have n0_ : Aside0 (Kd.R (Kd.int .u32) 46 w29 w.heap.size (fun k_ => some k_ ≠ (v202 : Value).ownBlock) v198 t197) := ⟨h0_⟩
  have n1_ : Aside0 (Kd.R (Kd.int .u32) 46 w29 w.heap.size (fun k_ => some k_ ≠ (v198 : Value).ownBlock) v202 t201) := ⟨h1_⟩
  have n2_ : Aside0 (w29.heap[gb189]? = some (.cells #[.int .i64 a0_0, .int .i64 a0_1, .int .i64 a0_2, .int .i64 a0_3] 23 (0, 0))) := ⟨h2_⟩
  have n3_ : Aside0 (w29.heap[gb190]? = some (.cells #[.int .i64 a1_0, .slice A1_1 l1_1.length c1_1] 36 (0, 0))) := ⟨h3_⟩
  have n4_ : Aside0 (w29.heap[gb205]? = some (.cells #[.int .i64 0, .slice none 0 0] 39 (0, 0))) := ⟨h4_⟩
  have n5_ : Aside0 (w.heap.size ≤ gb205) := ⟨h5_⟩
  have n6_ : Aside0 (w.heap.size ≤ gb205) := ⟨h6_⟩
  have n7_ : Aside0 (gb189 ≠ gb205) := ⟨h7_⟩
  have n8_ : Aside0 (gb205 ≠ gb189) := ⟨h8_⟩
  have n9_ : Aside0 (gb190 ≠ gb205) := ⟨h9_⟩
  have n10_ : Aside0 (gb205 ≠ gb190) := ⟨h10_⟩
  have n11_ : Aside0 (Below w.heap.size w w29) := ⟨h11_⟩
  clear BK189
  clear BK190
  clear HB
  clear h0_ h1_ h2_ h3_ h4_ h5_ h6_ h7_ h8_ h9_ h10_ h11_
  have HO199 := n0_
  have HO203 := n1_
  have BK189 := n2_
  have BK190 := n3_
  have BK205 := n4_
  have GW205 := n5_
  have GE205 := n6_
  have NB189_205 := n7_
  have NB205_189 := n8_
  have NB190_205 := n9_
  have NB205_190 := n10_
  have HB := n11_
  clear n0_ n1_ n2_ n3_ n4_ n5_ n6_ n7_ n8_ n9_ n10_ n11_
  have hHeld : w29.cell? ⟨gb189, 0, none⟩ = some (.int .i64 a0_0) ∧ w29.cell? ⟨gb189, 1, none⟩ = some (.int .i64 a0_1) ∧ w29.cell? ⟨gb189, 2, none⟩ = some (.int .i64 a0_2) ∧ w29.cell? ⟨gb189, 3, none⟩ = some (.int .i64 a0_3) ∧ w29.cell? ⟨gb190, 0, none⟩ = some (.int .i64 a1_0) ∧ w29.cell? ⟨gb190, 1, none⟩ = some (.slice A1_1 l1_1.length c1_1) := hS_
  obtain ⟨Ao31, co31, eo31⟩ := Kd.R_slice HO203.out
  (first | subst eo31 | (injection eo31 with f1_ f2_ f3_; have f4_ := f1_.symm; have f5_ := f3_.symm; clear f1_ f2_ f3_; subst f4_; subst f5_))
  refine norm_ (a' := ?_) ?_ ?_
  rotate_left
  ·simp only [putAll, Act.put, List.setIfInBounds_toArray, List.set_cons_zero, List.set_cons_succ]
   rfl
  refine one_ (i := 10) (N := none) #[true, true, true, true, true, true, true, true, true, true, true, false] rfl rfl (one_of HT_.out (by kernel_rfl)) (by decide) (fun K hK => ?_)
  have hs30 : w29.cell? ⟨gb205, 0, none⟩ = some (.int .i64 0) := (blk_cell BK205.out 0).trans rfl
  have hfs30 := blk_frozen BK205.out 0
  have hns30_0 := NB189_205.out
  have hns30_1 := NB190_205.out
  have hms30_0 := NB205_189.out
  have hms30_1 := NB205_190.out
  have hs32 : w29.cell? ⟨gb205, 1, none⟩ = some (.slice none 0 0) := (blk_cell BK205.out 1).trans rfl
  have hfs32 := blk_frozen BK205.out 1
  have hns32_0 := NB189_205.out
  have hns32_1 := NB190_205.out
  have hms32_0 := NB205_189.out
  have hms32_1 := NB205_190.out
  refine skip_ (w1 := ?_) (by rfl) rfl ?_ ?_
  rotate_left
  ·go_simp
   rfl
  refine hK.out _ _ ⟨((cell_far (p := ⟨gb205, _, none⟩) NB189_205.out _).trans (((cell_far (p := ⟨gb205, _, none⟩) NB189_205.out _).trans (hHeld.1)))), ((cell_far (p := ⟨gb205, _, none⟩) NB189_205.out _).trans (((cell_far (p := ⟨gb205, _, none⟩) NB189_205.out _).trans (hHeld.2.1)))), ((cell_far (p := ⟨gb205, _, none⟩) NB189_205.out _).trans (((cell_far (p := ⟨gb205, _, none⟩) NB189_205.out _).trans (hHeld.2.2.1)))), ((cell_far (p := ⟨gb205, _, none⟩) NB189_205.out _).trans (((cell_far (p := ⟨gb205, _, none⟩) NB189_205.out _).trans (hHeld.2.2.2.1)))), ((cell_far (p := ⟨gb205, _, none⟩) NB190_205.out _).trans (((cell_far (p := ⟨gb205, _, none⟩) NB190_205.out _).trans (hHeld.2.2.2.2.1)))), ((cell_far (p := ⟨gb205, _, none⟩) NB190_205.out _).trans (((cell_far (p := ⟨gb205, _, none⟩) NB190_205.out _).trans (hHeld.2.2.2.2.2))))⟩ (fun hHeld => ?_)
  clear hK K
  refine pure_ (i := 11) (N := some 9) (v := ?_) (a' := ?_) #[true, true, true, true, true, true, true, true, true, true, true, true] rfl rfl (any_of HT_.out (by kernel_rfl)) (fun _ _ _ h => h) (Or.inl ⟨by rfl, ?_⟩) ?_ ?_
  rotate_left
  ·intro w'
   go_simp
   with_reducible rfl
  rotate_left
  ·simp only [Act.put, List.setIfInBounds_toArray, List.set_cons_zero, List.set_cons_succ, i64_w, i32_w]
   rfl
  refine done_ (done_of HT_.out (by kernel_rfl)) ?_
  have hnb33 := NB190_205.out
  have hnc33 := NB205_190.out
  have hcz34_0 : w29.cell? ⟨gb190, 0, none⟩ = some (.int .i64 a1_0) := (blk_cell BK190.out 0).trans rfl
  have hcz34_1 : w29.cell? ⟨gb190, 1, none⟩ = some (.slice A1_1 l1_1.length c1_1) := (blk_cell BK190.out 1).trans rfl
  have hfz34_0 := blk_frozen BK190.out 0
  have hfz34_1 := blk_frozen BK190.out 1
  try go_wp2_with (first | ((with_reducible refine gate_callee (f := 22) rfl ?_); refine goesL_ (some 33) rfl rfl Try.func22 (by kernel_rfl) rfl #[.agg #[.int .i64 a1_0, .slice A1_1 l1_1.length c1_1]] rfl (by (try simp only [List.map_toArray, List.map_cons, List.map_nil]); first | done | rfl | (simp only [List.length_drop, List.length_take]; rfl)) ?_; (with_reducible refine (laws_toOutEnd.calls k a1_0 _ _ l1_1 t206 t207 _ ?side1 ?side2 A14.out).mono ?_); (case side1 => exact Kd.C_below HR1_1.out (by repeat (first | (with_reducible first | exact HB.out | apply below_alloc | apply pw_below_drewN | apply below_drew1 | refine below_set ?_ GE205.out) | exact HB.out))); (case side2 => exact HC1_1.out); rintro e w35 ⟨v208, rfl, ho0, hb⟩; refine ⟨_, rfl, ?_⟩; have n0_ := Aside0.mk (Kd.R_elder' (rq (Kd.R_mono (Kd.R_far (p := ⟨gb205, 1, none⟩) (Kd.R_far (p := ⟨gb205, 0, none⟩) (Kd.R_types HO199.out BK205.out (by decide)) (fun _ hk => hk.2) (.int .i64 t200)) (fun _ hk => hk.2) (.slice Ao31 t201.length co31)) (fun _ h_ => h_.1))) (Kd.R_base ho0) hb); have n1_ := Aside0.mk (Kd.R_elder' (rq (Kd.R_mono (Kd.R_far (p := ⟨gb205, 1, none⟩) (Kd.R_far (p := ⟨gb205, 0, none⟩) (Kd.R_types HO203.out BK205.out (by decide)) (fun _ hk => hk.2) (.int .i64 t200)) (fun _ hk => hk.2) (.slice Ao31 t201.length co31)) (fun _ h_ => h_.1))) (Kd.R_base ho0) hb); have n2_ := Aside0.mk (Kd.R_lower (Kd.R_new' (Kd.R_new' ho0 (Kd.R_lt (rq (Kd.R_mono (Kd.R_far (p := ⟨gb205, 1, none⟩) (Kd.R_far (p := ⟨gb205, 0, none⟩) (Kd.R_types HO199.out BK205.out (by decide)) (fun _ hk => hk.2) (.int .i64 t200)) (fun _ hk => hk.2) (.slice Ao31 t201.length co31)) (fun _ h_ => h_.1))))) (Kd.R_lt (rq (Kd.R_mono (Kd.R_far (p := ⟨gb205, 1, none⟩) (Kd.R_far (p := ⟨gb205, 0, none⟩) (Kd.R_types HO203.out BK205.out (by decide)) (fun _ hk => hk.2) (.int .i64 t200)) (fun _ hk => hk.2) (.slice Ao31 t201.length co31)) (fun _ h_ => h_.1))))) (below_size (by repeat (first | (with_reducible first | exact HB.out | apply below_alloc | apply pw_below_drewN | apply below_drew1 | refine below_set ?_ GE205.out) | exact HB.out)))); have n3_ := Aside0.mk (blk_below (g := gb189) (o := .cells #[.int .i64 a0_0, .int .i64 a0_1, .int .i64 a0_2, .int .i64 a0_3] 23 (0, 0)) (by (with_reducible repeat (first | refine blk_drewN ?_ _ | refine blk_drew ?_ | refine blk_alloc ?_ _)); refine blk_far ?_ NB189_205.out _; (with_reducible repeat (first | refine blk_drewN ?_ _ | refine blk_drew ?_ | refine blk_alloc ?_ _)); refine blk_far ?_ NB189_205.out _; (with_reducible repeat (first | refine blk_drewN ?_ _ | refine blk_drew ?_ | refine blk_alloc ?_ _)); exact BK189.out) hb); have n4_ := Aside0.mk (blk_below (g := gb190) (o := .cells #[.int .i64 a1_0, .slice A1_1 l1_1.length c1_1] 36 (0, 0)) (by (with_reducible repeat (first | refine blk_drewN ?_ _ | refine blk_drew ?_ | refine blk_alloc ?_ _)); refine blk_far ?_ NB190_205.out _; (with_reducible repeat (first | refine blk_drewN ?_ _ | refine blk_drew ?_ | refine blk_alloc ?_ _)); refine blk_far ?_ NB190_205.out _; (with_reducible repeat (first | refine blk_drewN ?_ _ | refine blk_drew ?_ | refine blk_alloc ?_ _)); exact BK190.out) hb); have n5_ := Aside0.mk (blk_below (g := gb205) (o := .cells #[.int .i64 t200, .slice Ao31 t201.length co31] 39 (0, 0)) (by (with_reducible repeat (first | refine blk_drewN ?_ _ | refine blk_drew ?_ | refine blk_alloc ?_ _)); refine blk_put (cs := #[.int .i64 t200, .slice none 0 0]) ?_ 1 _ rfl; (with_reducible repeat (first | refine blk_drewN ?_ _ | refine blk_drew ?_ | refine blk_alloc ?_ _)); refine blk_put (cs := #[.int .i64 0, .slice none 0 0]) ?_ 0 _ rfl; (with_reducible repeat (first | refine blk_drewN ?_ _ | refine blk_drew ?_ | refine blk_alloc ?_ _)); exact BK205.out) hb); have n6_ := Aside0.mk (below_step (by repeat (first | (with_reducible first | exact HB.out | apply below_alloc | apply pw_below_drewN | apply below_drew1 | refine below_set ?_ GE205.out) | exact HB.out)) hb); clear HO199; clear HO203; clear BK189; clear BK190; clear BK205; clear HB; have HO199 := n0_; have HO203 := n1_; have HO209 := n2_; have BK189 := n3_; have BK190 := n4_; have BK205 := n5_; have HB := n6_; clear n0_ n1_ n2_ n3_ n4_ n5_ n6_; (try clear hb); (try clear hb2); (try clear hk); (try clear hi); (try clear ho0)) | ((with_reducible refine gate_dst (N := 10) rfl ?_); refine box_event ?hg (N := 10) ?hd (cs := #[.int .i64 0, .slice none 0 0]) (t := 39) ?hr ?_; (case hd => rfl); (case hg => rfl); (case hr => first | (go_simp; done) | (go_simp; rfl)); intro gb210 hg w36 hbox hb; have n0_ := Aside0.mk (Kd.R_below (rq HO199.out) hb); have n1_ := Aside0.mk (Kd.R_below (rq HO203.out) hb); have n2_ := Aside0.mk (Kd.R_below (rq HO209.out) hb); have n3_ := Aside0.mk (blk_below (bq BK189.out) hb); have n4_ := Aside0.mk (blk_below (bq BK190.out) hb); have n5_ := Aside0.mk (blk_below (bq BK205.out) hb); have n6_ := Aside0.mk (below_step (lq HB.out) hb); have n7_ := Aside0.mk (hbox); have n8_ := Aside0.mk ((ge_new hg (lq HB.out) : w.heap.size ≤ gb210)); have n9_ := Aside0.mk ((ge_new hg (lq HB.out) : w.heap.size ≤ gb210)); have n10_ := Aside0.mk ((ne_new hg (bq BK189.out) : gb189 ≠ gb210)); have n11_ := Aside0.mk ((new_ne hg (bq BK189.out) : gb210 ≠ gb189)); have n12_ := Aside0.mk ((ne_new hg (bq BK190.out) : gb190 ≠ gb210)); have n13_ := Aside0.mk ((new_ne hg (bq BK190.out) : gb210 ≠ gb190)); have n14_ := Aside0.mk ((ne_new hg (bq BK205.out) : gb205 ≠ gb210)); have n15_ := Aside0.mk ((new_ne hg (bq BK205.out) : gb210 ≠ gb205)); clear HO199; clear HO203; clear HO209; clear BK189; clear BK190; clear BK205; clear HB; have HO199 := n0_; have HO203 := n1_; have HO209 := n2_; have BK189 := n3_; have BK190 := n4_; have BK205 := n5_; have HB := n6_; have BK210 := n7_; have GW210 := n8_; have GE210 := n9_; have NB189_210 := n10_; have NB210_189 := n11_; have NB190_210 := n12_; have NB210_190 := n13_; have NB205_210 := n14_; have NB210_205 := n15_; clear n0_ n1_ n2_ n3_ n4_ n5_ n6_ n7_ n8_ n9_ n10_ n11_ n12_ n13_ n14_ n15_; clear hb hbox hg; have hnb37 := NB210_189.out; have hnc37 := NB189_210.out; have hnb38 := NB210_190.out; have hnc38 := NB190_210.out; have hnb39 := NB210_205.out; have hnc39 := NB205_210.out; have hcz40_0 : w36.cell? ⟨gb210, 0, none⟩ = some (.int .i64 0) := (blk_cell BK210.out 0).trans rfl; have hcz40_1 : w36.cell? ⟨gb210, 1, none⟩ = some (.slice none 0 0) := (blk_cell BK210.out 1).trans rfl; have hfz40_0 := blk_frozen BK210.out 0; have hfz40_1 := blk_frozen BK210.out 1; obtain ⟨Ao41, co41, eo41⟩ := Kd.R_slice HO209.out; subst eo41))
  have n0_ : Aside0 (Kd.R (Kd.int .u32) 46 ((w36.setCell ⟨gb210, 0, none⟩ (.int .i64 t206)).setCell ⟨gb210, 1, none⟩ (.slice Ao41 t207.length co41)) w.heap.size (fun k_ => some k_ ≠ (.slice Ao31 t201.length co31 : Value).ownBlock ∧ some k_ ≠ (.slice Ao41 t207.length co41 : Value).ownBlock) v198 t197) := ⟨by (with_reducible repeat (first | apply Kd.R_alloc | apply Kd.R_drewN | apply Kd.R_drew)); exact Kd.R_mono (Kd.R_far (p := ⟨gb210, 1, none⟩) (Kd.R_far (p := ⟨gb210, 0, none⟩) (Kd.R_types HO199.out BK210.out (by decide)) (fun _ hk => hk.2) (.int .i64 t206)) (fun _ hk => hk.2) (.slice Ao41 t207.length co41)) (fun _ hk => ⟨hk.1.1, hk.1.2⟩)⟩
  have n1_ : Aside0 (Kd.R (Kd.int .u32) 46 ((w36.setCell ⟨gb210, 0, none⟩ (.int .i64 t206)).setCell ⟨gb210, 1, none⟩ (.slice Ao41 t207.length co41)) w.heap.size (fun k_ => some k_ ≠ (v198 : Value).ownBlock ∧ some k_ ≠ (.slice Ao41 t207.length co41 : Value).ownBlock) (.slice Ao31 t201.length co31) t201) := ⟨by (with_reducible repeat (first | apply Kd.R_alloc | apply Kd.R_drewN | apply Kd.R_drew)); exact Kd.R_mono (Kd.R_far (p := ⟨gb210, 1, none⟩) (Kd.R_far (p := ⟨gb210, 0, none⟩) (Kd.R_types HO203.out BK210.out (by decide)) (fun _ hk => hk.2) (.int .i64 t206)) (fun _ hk => hk.2) (.slice Ao41 t207.length co41)) (fun _ hk => ⟨hk.1.1, hk.1.2⟩)⟩
  have n2_ : Aside0 (Kd.R (Kd.int .u32) 46 ((w36.setCell ⟨gb210, 0, none⟩ (.int .i64 t206)).setCell ⟨gb210, 1, none⟩ (.slice Ao41 t207.length co41)) w.heap.size (fun k_ => some k_ ≠ (v198 : Value).ownBlock ∧ some k_ ≠ (.slice Ao31 t201.length co31 : Value).ownBlock) (.slice Ao41 t207.length co41) t207) := ⟨by (with_reducible repeat (first | apply Kd.R_alloc | apply Kd.R_drewN | apply Kd.R_drew)); exact Kd.R_mono (Kd.R_far (p := ⟨gb210, 1, none⟩) (Kd.R_far (p := ⟨gb210, 0, none⟩) (Kd.R_types HO209.out BK210.out (by decide)) (fun _ hk => hk.2) (.int .i64 t206)) (fun _ hk => hk.2) (.slice Ao41 t207.length co41)) (fun _ hk => ⟨hk.1.1.2, hk.1.2⟩)⟩
  have n3_ : Aside0 (((w36.setCell ⟨gb210, 0, none⟩ (.int .i64 t206)).setCell ⟨gb210, 1, none⟩ (.slice Ao41 t207.length co41)).heap[gb189]? = some (.cells #[.int .i64 a0_0, .int .i64 a0_1, .int .i64 a0_2, .int .i64 a0_3] 23 (0, 0))) := ⟨by (with_reducible repeat (first | refine blk_drewN ?_ _ | refine blk_drew ?_ | refine blk_alloc ?_ _)); refine blk_far ?_ NB189_210.out _; (with_reducible repeat (first | refine blk_drewN ?_ _ | refine blk_drew ?_ | refine blk_alloc ?_ _)); refine blk_far ?_ NB189_210.out _; (with_reducible repeat (first | refine blk_drewN ?_ _ | refine blk_drew ?_ | refine blk_alloc ?_ _)); exact BK189.out⟩
  have n4_ : Aside0 (((w36.setCell ⟨gb210, 0, none⟩ (.int .i64 t206)).setCell ⟨gb210, 1, none⟩ (.slice Ao41 t207.length co41)).heap[gb190]? = some (.cells #[.int .i64 a1_0, .slice A1_1 l1_1.length c1_1] 36 (0, 0))) := ⟨by (with_reducible repeat (first | refine blk_drewN ?_ _ | refine blk_drew ?_ | refine blk_alloc ?_ _)); refine blk_far ?_ NB190_210.out _; (with_reducible repeat (first | refine blk_drewN ?_ _ | refine blk_drew ?_ | refine blk_alloc ?_ _)); refine blk_far ?_ NB190_210.out _; (with_reducible repeat (first | refine blk_drewN ?_ _ | refine blk_drew ?_ | refine blk_alloc ?_ _)); exact BK190.out⟩
  have n5_ : Aside0 (((w36.setCell ⟨gb210, 0, none⟩ (.int .i64 t206)).setCell ⟨gb210, 1, none⟩ (.slice Ao41 t207.length co41)).heap[gb205]? = some (.cells #[.int .i64 t200, .slice Ao31 t201.length co31] 39 (0, 0))) := ⟨by (with_reducible repeat (first | refine blk_drewN ?_ _ | refine blk_drew ?_ | refine blk_alloc ?_ _)); refine blk_far ?_ NB205_210.out _; (with_reducible repeat (first | refine blk_drewN ?_ _ | refine blk_drew ?_ | refine blk_alloc ?_ _)); refine blk_far ?_ NB205_210.out _; (with_reducible repeat (first | refine blk_drewN ?_ _ | refine blk_drew ?_ | refine blk_alloc ?_ _)); exact BK205.out⟩
  have n6_ : Aside0 (((w36.setCell ⟨gb210, 0, none⟩ (.int .i64 t206)).setCell ⟨gb210, 1, none⟩ (.slice Ao41 t207.length co41)).heap[gb210]? = some (.cells #[.int .i64 t206, .slice Ao41 t207.length co41] 39 (0, 0))) := ⟨by (with_reducible repeat (first | refine blk_drewN ?_ _ | refine blk_drew ?_ | refine blk_alloc ?_ _)); refine blk_put (cs := #[.int .i64 t206, .slice none 0 0]) ?_ 1 _ rfl; (with_reducible repeat (first | refine blk_drewN ?_ _ | refine blk_drew ?_ | refine blk_alloc ?_ _)); refine blk_put (cs := #[.int .i64 0, .slice none 0 0]) ?_ 0 _ rfl; (with_reducible repeat (first | refine blk_drewN ?_ _ | refine blk_drew ?_ | refine blk_alloc ?_ _)); exact BK210.out⟩
  have n7_ : Aside0 (Below w.heap.size w ((w36.setCell ⟨gb210, 0, none⟩ (.int .i64 t206)).setCell ⟨gb210, 1, none⟩ (.slice Ao41 t207.length co41))) := ⟨by repeat (first | (with_reducible first | exact HB.out | apply below_alloc | apply pw_below_drewN | apply below_drew1 | refine below_set ?_ GE210.out) | exact HB.out)⟩
  (try clear HO199)
  (try clear HO203)
  (try clear HO209)
  (try clear BK189)
  (try clear BK190)
  (try clear BK205)
  (try clear BK210)
  (try clear HB)
  generalize ((w36.setCell ⟨gb210, 0, none⟩ (.int .i64 t206)).setCell ⟨gb210, 1, none⟩ (.slice Ao41 t207.length co41)) = w42 at n0_ n1_ n2_ n3_ n4_ n5_ n6_ n7_ ⊢
  have HO199 := n0_
  have HO203 := n1_
  have HO209 := n2_
  have BK189 := n3_
  have BK190 := n4_
  have BK205 := n5_
  have BK210 := n6_
  have HB := n7_
  clear n0_ n1_ n2_ n3_ n4_ n5_ n6_ n7_
  have n0_ := Aside0.mk (Kd.R_drew HO199.out)
  have n1_ := Aside0.mk (Kd.R_drew HO203.out)
  have n2_ := Aside0.mk (Kd.R_drew HO209.out)
  have n3_ := Aside0.mk (blk_drew BK189.out)
  have n4_ := Aside0.mk (blk_drew BK190.out)
  have n5_ := Aside0.mk (blk_drew BK205.out)
  have n6_ := Aside0.mk (blk_drew BK210.out)
  have n7_ := Aside0.mk (below_drew1 HB.out)
  clear HO199
  clear HO203
  clear HO209
  clear BK189
  clear BK190
  clear BK205
  clear BK210
  clear HB
  have HO199 := n0_
  have HO203 := n1_
  have HO209 := n2_
  have BK189 := n3_
  have BK190 := n4_
  have BK205 := n5_
  have BK210 := n6_
  have HB := n7_
  clear n0_ n1_ n2_ n3_ n4_ n5_ n6_ n7_
  refine start_ (n := 11) (S := fun w' => w'.cell? ⟨gb189, 0, none⟩ = some (.int .i64 a0_0) ∧ w'.cell? ⟨gb189, 1, none⟩ = some (.int .i64 a0_1) ∧ w'.cell? ⟨gb189, 2, none⟩ = some (.int .i64 a0_2) ∧ w'.cell? ⟨gb189, 3, none⟩ = some (.int .i64 a0_3) ∧ w'.cell? ⟨gb210, 0, none⟩ = some (.int .i64 t206) ∧ w'.cell? ⟨gb210, 1, none⟩ = some (.slice Ao41 t207.length co41)) (ds := []) #[false, false, false, false, false, false, false, false, false, false, false] (by kernel_rfl) rfl rfl ⟨(blk_cell BK189.out 0).trans rfl, (blk_cell BK189.out 1).trans rfl, (blk_cell BK189.out 2).trans rfl, (blk_cell BK189.out 3).trans rfl, (blk_cell BK210.out 0).trans rfl, (blk_cell BK210.out 1).trans rfl⟩ (fun hHeld => ?_); refine with_tabW laws_FnExactSendOn.tab7 laws_FnExactSendOn.bits7 (fun HT_ HW_ => ?_)
  generalize w42.drew = w43 at HO199 HO203 HO209 BK189 BK190 BK205 BK210 HB hHeld ⊢
  refine pure_ (i := 3) (N := some 38) (v := ?_) (a' := ?_) #[false, false, false, true, false, false, false, false, false, false, false] rfl rfl (any_of HT_.out (by kernel_rfl)) (fun _ _ _ h => h) (Or.inl ⟨by rfl, ?_⟩) ?_ ?_
  rotate_left
  ·intro w'
   go_simp
   with_reducible rfl
  rotate_left
  ·simp only [Act.put, List.setIfInBounds_toArray, List.set_cons_zero, List.set_cons_succ, i64_w, i32_w]
   rfl
  refine take_ (i := 0) (N := some 35) (v := ?_) (a' := ?_) #[true, false, false, true, false, false, false, false, false, false, false] rfl rfl (take_ofW HT_.out HW_.out (by kernel_rfl)) (fun _ _ _ h => h) (Or.inl ⟨by rfl, ?_⟩) hHeld ?_ ?_
  rotate_left
  ·rintro w' ⟨s0, s1, s2, s3, s4, s5⟩
   go_simp
   with_reducible rfl
  rotate_left
  ·simp only [Act.put, List.setIfInBounds_toArray, List.set_cons_zero, List.set_cons_succ, i64_w, i32_w]
   rfl
  refine take_ (i := 2) (N := some 37) (v := ?_) (a' := ?_) #[true, false, true, true, false, false, false, false, false, false, false] rfl rfl (take_ofW HT_.out HW_.out (by kernel_rfl)) (fun _ _ _ h => h) (Or.inl ⟨by rfl, ?_⟩) hHeld ?_ ?_
  rotate_left
  ·rintro w' ⟨s0, s1, s2, s3, s4, s5⟩
   go_simp
   with_reducible rfl
  rotate_left
  ·simp only [Act.put, List.setIfInBounds_toArray, List.set_cons_zero, List.set_cons_succ, i64_w, i32_w]
   rfl
  refine join_ (σ := Value × Nat) 2 #[true, true, true, true, true, true, true, true, true, false, false] (fun s_ => [(36, .agg #[.int .i64 t211, .int .i64 t212, .int .i64 t213, .int .i64 t214]), (39, .tuple #[.agg #[.int .i64 t215, s_.1], .int .i64 t219]), (11, .pointer (some ⟨s_.2, 0, none⟩)), (34, .tuple #[.agg #[.int .i64 t215, s_.1], .int .i64 t219]), (40, .agg #[.int .i64 t215, s_.1]), (41, .int .i64 t219)]) (fun s_ w' => (w'.cell? ⟨gb189, 0, none⟩ = some (.int .i64 a0_0) ∧ w'.cell? ⟨gb189, 1, none⟩ = some (.int .i64 a0_1) ∧ w'.cell? ⟨gb189, 2, none⟩ = some (.int .i64 a0_2) ∧ w'.cell? ⟨gb189, 3, none⟩ = some (.int .i64 a0_3) ∧ w'.cell? ⟨gb210, 0, none⟩ = some (.int .i64 t206) ∧ w'.cell? ⟨gb210, 1, none⟩ = some (.slice Ao41 t207.length co41)) ∧ (Kd.R (Kd.int .u32) 46 w' w.heap.size (fun k_ => some k_ ≠ (.slice Ao31 t201.length co31 : Value).ownBlock ∧ some k_ ≠ (.slice Ao41 t207.length co41 : Value).ownBlock ∧ some k_ ≠ (s_.1 : Value).ownBlock) v198 t197) ∧ (Kd.R (Kd.int .u32) 46 w' w.heap.size (fun k_ => some k_ ≠ (v198 : Value).ownBlock ∧ some k_ ≠ (.slice Ao41 t207.length co41 : Value).ownBlock ∧ some k_ ≠ (s_.1 : Value).ownBlock) (.slice Ao31 t201.length co31) t201) ∧ (Kd.R (Kd.int .u32) 46 w' w.heap.size (fun k_ => some k_ ≠ (v198 : Value).ownBlock ∧ some k_ ≠ (.slice Ao31 t201.length co31 : Value).ownBlock ∧ some k_ ≠ (s_.1 : Value).ownBlock) (.slice Ao41 t207.length co41) t207) ∧ (Kd.R (Kd.int .u32) 46 w' w.heap.size (fun k_ => some k_ ≠ (v198 : Value).ownBlock ∧ some k_ ≠ (.slice Ao31 t201.length co31 : Value).ownBlock ∧ some k_ ≠ (.slice Ao41 t207.length co41 : Value).ownBlock) s_.1 t216) ∧ (w'.heap[gb189]? = some (.cells #[.int .i64 a0_0, .int .i64 a0_1, .int .i64 a0_2, .int .i64 a0_3] 23 (0, 0))) ∧ (w'.heap[gb190]? = some (.cells #[.int .i64 a1_0, .slice A1_1 l1_1.length c1_1] 36 (0, 0))) ∧ (w'.heap[gb205]? = some (.cells #[.int .i64 t200, .slice Ao31 t201.length co31] 39 (0, 0))) ∧ (w'.heap[gb210]? = some (.cells #[.int .i64 t206, .slice Ao41 t207.length co41] 39 (0, 0))) ∧ (w'.heap[s_.2]? = some (.cells #[.int .i64 0, .slice none 0 0] 39 (0, 0))) ∧ (w.heap.size ≤ s_.2) ∧ (w.heap.size ≤ s_.2) ∧ (gb189 ≠ s_.2) ∧ (s_.2 ≠ gb189) ∧ (gb190 ≠ s_.2) ∧ (s_.2 ≠ gb190) ∧ (gb205 ≠ s_.2) ∧ (s_.2 ≠ gb205) ∧ (gb210 ≠ s_.2) ∧ (s_.2 ≠ gb210) ∧ (Below w.heap.size w w')) ?_ ?_
  rotate_left
  ·intro hCont
   refine two_ (i := 1) (j := 8) (Ni := some 36) (Nj := some 11) #[true, true, true, true, false, false, false, false, false, false, false] #[true, false, true, true, false, false, false, false, true, false, false] rfl rfl rfl rfl (two_of HT_.out (by kernel_rfl)) (by decide) (by decide) (fun K hK => ?_) (fun K hK => ?_)
   ·skip
    refine goes_ Try.func16 (by kernel_rfl) rfl #[.agg #[.int .i64 a0_0, .int .i64 a0_1, .int .i64 a0_2, .int .i64 a0_3]] (by rfl) rfl rfl (by (try simp only [List.map_toArray, List.map_cons, List.map_nil]); first | done | rfl | (simp only [List.length_drop, List.length_take]; rfl)) ?_
    with_reducible refine (laws_toChanRow.calls a0_0 a0_1 a0_2 a0_3 t211 t212 t213 t214 _ A15.out).mono ?_
    rintro e w44 ⟨rfl, hb⟩
    refine ⟨_, rfl, ?_⟩
    have n0_ := Aside0.mk (Kd.R_below (rq HO199.out) hb)
    have n1_ := Aside0.mk (Kd.R_below (rq HO203.out) hb)
    have n2_ := Aside0.mk (Kd.R_below (rq HO209.out) hb)
    have n3_ := Aside0.mk (blk_below (bq BK189.out) hb)
    have n4_ := Aside0.mk (blk_below (bq BK190.out) hb)
    have n5_ := Aside0.mk (blk_below (bq BK205.out) hb)
    have n6_ := Aside0.mk (blk_below (bq BK210.out) hb)
    have n7_ := Aside0.mk (below_step (lq HB.out) hb)
    clear HO199
    clear HO203
    clear HO209
    clear BK189
    clear BK190
    clear BK205
    clear BK210
    clear HB
    have HO199 := n0_
    have HO203 := n1_
    have HO209 := n2_
    have BK189 := n3_
    have BK190 := n4_
    have BK205 := n5_
    have BK210 := n6_
    have HB := n7_
    clear n0_ n1_ n2_ n3_ n4_ n5_ n6_ n7_
    (try clear hb)
    (try clear hb2)
    (try clear hk)
    (try clear hi)
    refine hK.out _ _ ⟨(blk_cell BK189.out 0).trans rfl, (blk_cell BK189.out 1).trans rfl, (blk_cell BK189.out 2).trans rfl, (blk_cell BK189.out 3).trans rfl, (blk_cell BK210.out 0).trans rfl, (blk_cell BK210.out 1).trans rfl⟩ (fun hHeld => ?_)
    clear hK K
    refine norm_ (a' := ?_) ?_ ?_
    rotate_left
    ·show Act.put _ (some 36) _ = _
     simp only [Act.put, List.setIfInBounds_toArray, List.set_cons_zero, List.set_cons_succ, i64_w, i32_w]
     rfl
    refine two_ (i := 4) (j := 8) (Ni := some 39) (Nj := some 11) #[true, true, true, true, true, false, false, false, false, false, false] #[true, true, true, true, false, false, false, false, true, false, false] rfl rfl rfl rfl (two_of HT_.out (by kernel_rfl)) (by decide) (by decide) (fun K hK => ?_) (fun K hK => ?_)
    ·skip
     refine goes_ Try.func36 (by kernel_rfl) rfl #[.agg #[.int .i64 t211, .int .i64 t212, .int .i64 t213, .int .i64 t214], .agg #[.int .i64 t206, .slice Ao41 t207.length co41], .int .u32 a2] (by rfl) rfl rfl (by (try simp only [List.map_toArray, List.map_cons, List.map_nil]); first | done | rfl | (simp only [List.length_drop, List.length_take]; rfl)) ?_
     with_reducible refine (impl_SendOn.calls t211 t212 t213 t214 t206 _ _ t207 a2 t215 t216 t219 _ ?side1 ?side2 A16.out).mono ?_
     (case side1 => repeat (first | exact (Kd.R_reads' HO209.out).2.2 | (with_reducible refine Kd.C_alloc ?_ _) | (with_reducible refine Kd.C_drewN ?_ _) | (with_reducible refine Kd.C_drew ?_)))
     (case side2 => exact (Kd.R_reads' HO209.out).2.1)
     rintro e w45 ⟨v217, rfl, ho0, hb⟩
     refine ⟨_, rfl, ?_⟩
     have n0_ := Aside0.mk (Kd.R_elder' (rq HO199.out) (Kd.R_base ho0) hb)
     have n1_ := Aside0.mk (Kd.R_elder' (rq HO203.out) (Kd.R_base ho0) hb)
     have n2_ := Aside0.mk (Kd.R_elder' (rq HO209.out) (Kd.R_base ho0) hb)
     have n3_ := Aside0.mk (Kd.R_lower (Kd.R_new' (Kd.R_new' (Kd.R_new' ho0 (Kd.R_lt (rq HO199.out))) (Kd.R_lt (rq HO203.out))) (Kd.R_lt (rq HO209.out))) (below_size (lq HB.out)))
     have n4_ := Aside0.mk (blk_below (bq BK189.out) hb)
     have n5_ := Aside0.mk (blk_below (bq BK190.out) hb)
     have n6_ := Aside0.mk (blk_below (bq BK205.out) hb)
     have n7_ := Aside0.mk (blk_below (bq BK210.out) hb)
     have n8_ := Aside0.mk (below_step (lq HB.out) hb)
     clear HO199
     clear HO203
     clear HO209
     clear BK189
     clear BK190
     clear BK205
     clear BK210
     clear HB
     have HO199 := n0_
     have HO203 := n1_
     have HO209 := n2_
     have HO218 := n3_
     have BK189 := n4_
     have BK190 := n5_
     have BK205 := n6_
     have BK210 := n7_
     have HB := n8_
     clear n0_ n1_ n2_ n3_ n4_ n5_ n6_ n7_ n8_
     (try clear hb)
     (try clear hb2)
     (try clear hk)
     (try clear hi)
     (try clear ho0)
     refine hK.out _ _ ⟨(blk_cell BK189.out 0).trans rfl, (blk_cell BK189.out 1).trans rfl, (blk_cell BK189.out 2).trans rfl, (blk_cell BK189.out 3).trans rfl, (blk_cell BK210.out 0).trans rfl, (blk_cell BK210.out 1).trans rfl⟩ (fun hHeld => ?_)
     clear hK K
     refine norm_ (a' := ?_) ?_ ?_
     rotate_left
     ·show Act.put _ (some 39) _ = _
      simp only [Act.put, List.setIfInBounds_toArray, List.set_cons_zero, List.set_cons_succ, i64_w, i32_w]
      rfl
     refine pure_ (i := 5) (N := some 34) (v := ?_) (a' := ?_) #[true, true, true, true, true, true, false, false, false, false, false] rfl rfl (any_of HT_.out (by kernel_rfl)) (fun _ _ _ h => h) (Or.inl ⟨by rfl, ?_⟩) ?_ ?_
     rotate_left
     ·intro w'
      go_simp
      with_reducible rfl
     rotate_left
     ·simp only [Act.put, List.setIfInBounds_toArray, List.set_cons_zero, List.set_cons_succ, i64_w, i32_w]
      rfl
     refine pure_ (i := 6) (N := some 40) (v := ?_) (a' := ?_) #[true, true, true, true, true, true, true, false, false, false, false] rfl rfl (any_of HT_.out (by kernel_rfl)) (fun _ _ _ h => h) (Or.inl ⟨by rfl, ?_⟩) ?_ ?_
     rotate_left
     ·intro w'
      go_simp
      with_reducible rfl
     rotate_left
     ·simp only [Act.put, List.setIfInBounds_toArray, List.set_cons_zero, List.set_cons_succ, i64_w, i32_w]
      rfl
     refine pure_ (i := 7) (N := some 41) (v := ?_) (a' := ?_) #[true, true, true, true, true, true, true, true, false, false, false] rfl rfl (any_of HT_.out (by kernel_rfl)) (fun _ _ _ h => h) (Or.inl ⟨by rfl, ?_⟩) ?_ ?_
     rotate_left
     ·intro w'
      go_simp
      with_reducible rfl
     rotate_left
     ·simp only [Act.put, List.setIfInBounds_toArray, List.set_cons_zero, List.set_cons_succ, i64_w, i32_w]
      rfl
     refine one_ (i := 8) (N := some 11) #[true, true, true, true, true, true, true, true, true, false, false] rfl rfl (one_of HT_.out (by kernel_rfl)) (by decide) (fun K hK => ?_)
     refine box_step ?hg (N := 11) ?hd (cs := #[.int .i64 0, .slice none 0 0]) (t := 39) ?hr ?_; (case hd => rfl); (case hg => rfl); (case hr => first | (go_simp; done) | (go_simp; rfl))
     intro gb220 hg w46 hbox hb
     have n0_ := Aside0.mk (Kd.R_below (rq HO199.out) hb)
     have n1_ := Aside0.mk (Kd.R_below (rq HO203.out) hb)
     have n2_ := Aside0.mk (Kd.R_below (rq HO209.out) hb)
     have n3_ := Aside0.mk (Kd.R_below (rq HO218.out) hb)
     have n4_ := Aside0.mk (blk_below (bq BK189.out) hb)
     have n5_ := Aside0.mk (blk_below (bq BK190.out) hb)
     have n6_ := Aside0.mk (blk_below (bq BK205.out) hb)
     have n7_ := Aside0.mk (blk_below (bq BK210.out) hb)
     have n8_ := Aside0.mk (below_step (lq HB.out) hb)
     have n9_ := Aside0.mk (hbox)
     have n10_ := Aside0.mk ((ge_new hg (lq HB.out) : w.heap.size ≤ gb220))
     have n11_ := Aside0.mk ((ge_new hg (lq HB.out) : w.heap.size ≤ gb220))
     have n12_ := Aside0.mk ((ne_new hg (bq BK189.out) : gb189 ≠ gb220))
     have n13_ := Aside0.mk ((new_ne hg (bq BK189.out) : gb220 ≠ gb189))
     have n14_ := Aside0.mk ((ne_new hg (bq BK190.out) : gb190 ≠ gb220))
     have n15_ := Aside0.mk ((new_ne hg (bq BK190.out) : gb220 ≠ gb190))
     have n16_ := Aside0.mk ((ne_new hg (bq BK205.out) : gb205 ≠ gb220))
     have n17_ := Aside0.mk ((new_ne hg (bq BK205.out) : gb220 ≠ gb205))
     have n18_ := Aside0.mk ((ne_new hg (bq BK210.out) : gb210 ≠ gb220))
     have n19_ := Aside0.mk ((new_ne hg (bq BK210.out) : gb220 ≠ gb210))
     clear HO199
     clear HO203
     clear HO209
     clear HO218
     clear BK189
     clear BK190
     clear BK205
     clear BK210
     clear HB
     have HO199 := n0_
     have HO203 := n1_
     have HO209 := n2_
     have HO218 := n3_
     have BK189 := n4_
     have BK190 := n5_
     have BK205 := n6_
     have BK210 := n7_
     have HB := n8_
     have BK220 := n9_
     have GW220 := n10_
     have GE220 := n11_
     have NB189_220 := n12_
     have NB220_189 := n13_
     have NB190_220 := n14_
     have NB220_190 := n15_
     have NB205_220 := n16_
     have NB220_205 := n17_
     have NB210_220 := n18_
     have NB220_210 := n19_
     clear n0_ n1_ n2_ n3_ n4_ n5_ n6_ n7_ n8_ n9_ n10_ n11_ n12_ n13_ n14_ n15_ n16_ n17_ n18_ n19_
     clear hb hbox hg
     refine hK.out _ _ ⟨(blk_cell BK189.out 0).trans rfl, (blk_cell BK189.out 1).trans rfl, (blk_cell BK189.out 2).trans rfl, (blk_cell BK189.out 3).trans rfl, (blk_cell BK210.out 0).trans rfl, (blk_cell BK210.out 1).trans rfl⟩ (fun hHeld => ?_)
     clear hK K
     refine norm_ (a' := ?_) ?_ ?_
     rotate_left
     ·show Act.put _ (some 11) _ = _
      simp only [Act.put, List.setIfInBounds_toArray, List.set_cons_zero, List.set_cons_succ, i64_w, i32_w]
      rfl
     exact norm_ (by simp only [putAll, Act.put, List.setIfInBounds_toArray, List.set_cons_zero, List.set_cons_succ]) (hCont (v217, gb220) _ ⟨hHeld, (by (with_reducible repeat (first | apply Kd.R_alloc | apply Kd.R_drewN | apply Kd.R_drew)); exact Kd.R_mono HO199.out (fun _ hk => ⟨hk.1.1, ⟨hk.1.2, hk.2⟩⟩)), (by (with_reducible repeat (first | apply Kd.R_alloc | apply Kd.R_drewN | apply Kd.R_drew)); exact Kd.R_mono HO203.out (fun _ hk => ⟨hk.1.1, ⟨hk.1.2, hk.2⟩⟩)), (by (with_reducible repeat (first | apply Kd.R_alloc | apply Kd.R_drewN | apply Kd.R_drew)); exact Kd.R_mono HO209.out (fun _ hk => ⟨hk.1.1, ⟨hk.1.2, hk.2⟩⟩)), (by (with_reducible repeat (first | apply Kd.R_alloc | apply Kd.R_drewN | apply Kd.R_drew)); exact Kd.R_mono HO218.out (fun _ hk => ⟨hk.1.1.2, ⟨hk.1.2, hk.2⟩⟩)), (bq BK189.out), (bq BK190.out), (bq BK205.out), (bq BK210.out), (bq BK220.out), GW220.out, GE220.out, NB189_220.out, NB220_189.out, NB190_220.out, NB220_190.out, NB205_220.out, NB220_205.out, NB210_220.out, NB220_210.out, (lq HB.out)⟩)
    ·skip
     refine box_step ?hg (N := 11) ?hd (cs := #[.int .i64 0, .slice none 0 0]) (t := 39) ?hr ?_; (case hd => rfl); (case hg => rfl); (case hr => first | (go_simp; done) | (go_simp; rfl))
     intro gb220 hg w45 hbox hb
     have n0_ := Aside0.mk (Kd.R_below (rq HO199.out) hb)
     have n1_ := Aside0.mk (Kd.R_below (rq HO203.out) hb)
     have n2_ := Aside0.mk (Kd.R_below (rq HO209.out) hb)
     have n3_ := Aside0.mk (blk_below (bq BK189.out) hb)
     have n4_ := Aside0.mk (blk_below (bq BK190.out) hb)
     have n5_ := Aside0.mk (blk_below (bq BK205.out) hb)
     have n6_ := Aside0.mk (blk_below (bq BK210.out) hb)
     have n7_ := Aside0.mk (below_step (lq HB.out) hb)
     have n8_ := Aside0.mk (hbox)
     have n9_ := Aside0.mk ((ge_new hg (lq HB.out) : w.heap.size ≤ gb220))
     have n10_ := Aside0.mk ((ge_new hg (lq HB.out) : w.heap.size ≤ gb220))
     have n11_ := Aside0.mk ((ne_new hg (bq BK189.out) : gb189 ≠ gb220))
     have n12_ := Aside0.mk ((new_ne hg (bq BK189.out) : gb220 ≠ gb189))
     have n13_ := Aside0.mk ((ne_new hg (bq BK190.out) : gb190 ≠ gb220))
     have n14_ := Aside0.mk ((new_ne hg (bq BK190.out) : gb220 ≠ gb190))
     have n15_ := Aside0.mk ((ne_new hg (bq BK205.out) : gb205 ≠ gb220))
     have n16_ := Aside0.mk ((new_ne hg (bq BK205.out) : gb220 ≠ gb205))
     have n17_ := Aside0.mk ((ne_new hg (bq BK210.out) : gb210 ≠ gb220))
     have n18_ := Aside0.mk ((new_ne hg (bq BK210.out) : gb220 ≠ gb210))
     clear HO199
     clear HO203
     clear HO209
     clear BK189
     clear BK190
     clear BK205
     clear BK210
     clear HB
     have HO199 := n0_
     have HO203 := n1_
     have HO209 := n2_
     have BK189 := n3_
     have BK190 := n4_
     have BK205 := n5_
     have BK210 := n6_
     have HB := n7_
     have BK220 := n8_
     have GW220 := n9_
     have GE220 := n10_
     have NB189_220 := n11_
     have NB220_189 := n12_
     have NB190_220 := n13_
     have NB220_190 := n14_
     have NB205_220 := n15_
     have NB220_205 := n16_
     have NB210_220 := n17_
     have NB220_210 := n18_
     clear n0_ n1_ n2_ n3_ n4_ n5_ n6_ n7_ n8_ n9_ n10_ n11_ n12_ n13_ n14_ n15_ n16_ n17_ n18_
     clear hb hbox hg
     refine hK.out _ _ ⟨(blk_cell BK189.out 0).trans rfl, (blk_cell BK189.out 1).trans rfl, (blk_cell BK189.out 2).trans rfl, (blk_cell BK189.out 3).trans rfl, (blk_cell BK210.out 0).trans rfl, (blk_cell BK210.out 1).trans rfl⟩ (fun hHeld => ?_)
     clear hK K
     refine norm_ (a' := ?_) ?_ ?_
     rotate_left
     ·show Act.put _ (some 11) _ = _
      simp only [Act.put, List.setIfInBounds_toArray, List.set_cons_zero, List.set_cons_succ, i64_w, i32_w]
      rfl
     refine one_ (i := 4) (N := some 39) #[true, true, true, true, true, false, false, false, true, false, false] rfl rfl (one_of HT_.out (by kernel_rfl)) (by decide) (fun K hK => ?_)
     refine goes_ Try.func36 (by kernel_rfl) rfl #[.agg #[.int .i64 t211, .int .i64 t212, .int .i64 t213, .int .i64 t214], .agg #[.int .i64 t206, .slice Ao41 t207.length co41], .int .u32 a2] (by rfl) rfl rfl (by (try simp only [List.map_toArray, List.map_cons, List.map_nil]); first | done | rfl | (simp only [List.length_drop, List.length_take]; rfl)) ?_
     with_reducible refine (impl_SendOn.calls t211 t212 t213 t214 t206 _ _ t207 a2 t215 t216 t219 _ ?side1 ?side2 A16.out).mono ?_
     (case side1 => repeat (first | exact (Kd.R_reads' HO209.out).2.2 | (with_reducible refine Kd.C_alloc ?_ _) | (with_reducible refine Kd.C_drewN ?_ _) | (with_reducible refine Kd.C_drew ?_)))
     (case side2 => exact (Kd.R_reads' HO209.out).2.1)
     rintro e w46 ⟨v217, rfl, ho0, hb⟩
     refine ⟨_, rfl, ?_⟩
     have n0_ := Aside0.mk (Kd.R_elder' (rq HO199.out) (Kd.R_base ho0) hb)
     have n1_ := Aside0.mk (Kd.R_elder' (rq HO203.out) (Kd.R_base ho0) hb)
     have n2_ := Aside0.mk (Kd.R_elder' (rq HO209.out) (Kd.R_base ho0) hb)
     have n3_ := Aside0.mk (Kd.R_lower (Kd.R_new' (Kd.R_new' (Kd.R_new' ho0 (Kd.R_lt (rq HO199.out))) (Kd.R_lt (rq HO203.out))) (Kd.R_lt (rq HO209.out))) (below_size (lq HB.out)))
     have n4_ := Aside0.mk (blk_below (bq BK189.out) hb)
     have n5_ := Aside0.mk (blk_below (bq BK190.out) hb)
     have n6_ := Aside0.mk (blk_below (bq BK205.out) hb)
     have n7_ := Aside0.mk (blk_below (bq BK210.out) hb)
     have n8_ := Aside0.mk (blk_below (bq BK220.out) hb)
     have n9_ := Aside0.mk (below_step (lq HB.out) hb)
     clear HO199
     clear HO203
     clear HO209
     clear BK189
     clear BK190
     clear BK205
     clear BK210
     clear BK220
     clear HB
     have HO199 := n0_
     have HO203 := n1_
     have HO209 := n2_
     have HO218 := n3_
     have BK189 := n4_
     have BK190 := n5_
     have BK205 := n6_
     have BK210 := n7_
     have BK220 := n8_
     have HB := n9_
     clear n0_ n1_ n2_ n3_ n4_ n5_ n6_ n7_ n8_ n9_
     (try clear hb)
     (try clear hb2)
     (try clear hk)
     (try clear hi)
     (try clear ho0)
     refine hK.out _ _ ⟨(blk_cell BK189.out 0).trans rfl, (blk_cell BK189.out 1).trans rfl, (blk_cell BK189.out 2).trans rfl, (blk_cell BK189.out 3).trans rfl, (blk_cell BK210.out 0).trans rfl, (blk_cell BK210.out 1).trans rfl⟩ (fun hHeld => ?_)
     clear hK K
     refine norm_ (a' := ?_) ?_ ?_
     rotate_left
     ·show Act.put _ (some 39) _ = _
      simp only [Act.put, List.setIfInBounds_toArray, List.set_cons_zero, List.set_cons_succ, i64_w, i32_w]
      rfl
     refine pure_ (i := 5) (N := some 34) (v := ?_) (a' := ?_) #[true, true, true, true, true, true, false, false, true, false, false] rfl rfl (any_of HT_.out (by kernel_rfl)) (fun _ _ _ h => h) (Or.inl ⟨by rfl, ?_⟩) ?_ ?_
     rotate_left
     ·intro w'
      go_simp
      with_reducible rfl
     rotate_left
     ·simp only [Act.put, List.setIfInBounds_toArray, List.set_cons_zero, List.set_cons_succ, i64_w, i32_w]
      rfl
     refine pure_ (i := 6) (N := some 40) (v := ?_) (a' := ?_) #[true, true, true, true, true, true, true, false, true, false, false] rfl rfl (any_of HT_.out (by kernel_rfl)) (fun _ _ _ h => h) (Or.inl ⟨by rfl, ?_⟩) ?_ ?_
     rotate_left
     ·intro w'
      go_simp
      with_reducible rfl
     rotate_left
     ·simp only [Act.put, List.setIfInBounds_toArray, List.set_cons_zero, List.set_cons_succ, i64_w, i32_w]
      rfl
     refine pure_ (i := 7) (N := some 41) (v := ?_) (a' := ?_) #[true, true, true, true, true, true, true, true, true, false, false] rfl rfl (any_of HT_.out (by kernel_rfl)) (fun _ _ _ h => h) (Or.inl ⟨by rfl, ?_⟩) ?_ ?_
     rotate_left
     ·intro w'
      go_simp
      with_reducible rfl
     rotate_left
     ·simp only [Act.put, List.setIfInBounds_toArray, List.set_cons_zero, List.set_cons_succ, i64_w, i32_w]
      rfl
     exact norm_ (by simp only [putAll, Act.put, List.setIfInBounds_toArray, List.set_cons_zero, List.set_cons_succ]) (hCont (v217, gb220) _ ⟨hHeld, (by (with_reducible repeat (first | apply Kd.R_alloc | apply Kd.R_drewN | apply Kd.R_drew)); exact Kd.R_mono HO199.out (fun _ hk => ⟨hk.1.1, ⟨hk.1.2, hk.2⟩⟩)), (by (with_reducible repeat (first | apply Kd.R_alloc | apply Kd.R_drewN | apply Kd.R_drew)); exact Kd.R_mono HO203.out (fun _ hk => ⟨hk.1.1, ⟨hk.1.2, hk.2⟩⟩)), (by (with_reducible repeat (first | apply Kd.R_alloc | apply Kd.R_drewN | apply Kd.R_drew)); exact Kd.R_mono HO209.out (fun _ hk => ⟨hk.1.1, ⟨hk.1.2, hk.2⟩⟩)), (by (with_reducible repeat (first | apply Kd.R_alloc | apply Kd.R_drewN | apply Kd.R_drew)); exact Kd.R_mono HO218.out (fun _ hk => ⟨hk.1.1.2, ⟨hk.1.2, hk.2⟩⟩)), (bq BK189.out), (bq BK190.out), (bq BK205.out), (bq BK210.out), (bq BK220.out), GW220.out, GE220.out, NB189_220.out, NB220_189.out, NB190_220.out, NB220_190.out, NB205_220.out, NB220_205.out, NB210_220.out, NB220_210.out, (lq HB.out)⟩)
   ·skip
    refine box_step ?hg (N := 11) ?hd (cs := #[.int .i64 0, .slice none 0 0]) (t := 39) ?hr ?_; (case hd => rfl); (case hg => rfl); (case hr => first | (go_simp; done) | (go_simp; rfl))
    intro gb220 hg w44 hbox hb
    have n0_ := Aside0.mk (Kd.R_below (rq HO199.out) hb)
    have n1_ := Aside0.mk (Kd.R_below (rq HO203.out) hb)
    have n2_ := Aside0.mk (Kd.R_below (rq HO209.out) hb)
    have n3_ := Aside0.mk (blk_below (bq BK189.out) hb)
    have n4_ := Aside0.mk (blk_below (bq BK190.out) hb)
    have n5_ := Aside0.mk (blk_below (bq BK205.out) hb)
    have n6_ := Aside0.mk (blk_below (bq BK210.out) hb)
    have n7_ := Aside0.mk (below_step (lq HB.out) hb)
    have n8_ := Aside0.mk (hbox)
    have n9_ := Aside0.mk ((ge_new hg (lq HB.out) : w.heap.size ≤ gb220))
    have n10_ := Aside0.mk ((ge_new hg (lq HB.out) : w.heap.size ≤ gb220))
    have n11_ := Aside0.mk ((ne_new hg (bq BK189.out) : gb189 ≠ gb220))
    have n12_ := Aside0.mk ((new_ne hg (bq BK189.out) : gb220 ≠ gb189))
    have n13_ := Aside0.mk ((ne_new hg (bq BK190.out) : gb190 ≠ gb220))
    have n14_ := Aside0.mk ((new_ne hg (bq BK190.out) : gb220 ≠ gb190))
    have n15_ := Aside0.mk ((ne_new hg (bq BK205.out) : gb205 ≠ gb220))
    have n16_ := Aside0.mk ((new_ne hg (bq BK205.out) : gb220 ≠ gb205))
    have n17_ := Aside0.mk ((ne_new hg (bq BK210.out) : gb210 ≠ gb220))
    have n18_ := Aside0.mk ((new_ne hg (bq BK210.out) : gb220 ≠ gb210))
    clear HO199
    clear HO203
    clear HO209
    clear BK189
    clear BK190
    clear BK205
    clear BK210
    clear HB
    have HO199 := n0_
    have HO203 := n1_
    have HO209 := n2_
    have BK189 := n3_
    have BK190 := n4_
    have BK205 := n5_
    have BK210 := n6_
    have HB := n7_
    have BK220 := n8_
    have GW220 := n9_
    have GE220 := n10_
    have NB189_220 := n11_
    have NB220_189 := n12_
    have NB190_220 := n13_
    have NB220_190 := n14_
    have NB205_220 := n15_
    have NB220_205 := n16_
    have NB210_220 := n17_
    have NB220_210 := n18_
    clear n0_ n1_ n2_ n3_ n4_ n5_ n6_ n7_ n8_ n9_ n10_ n11_ n12_ n13_ n14_ n15_ n16_ n17_ n18_
    clear hb hbox hg
    refine hK.out _ _ ⟨(blk_cell BK189.out 0).trans rfl, (blk_cell BK189.out 1).trans rfl, (blk_cell BK189.out 2).trans rfl, (blk_cell BK189.out 3).trans rfl, (blk_cell BK210.out 0).trans rfl, (blk_cell BK210.out 1).trans rfl⟩ (fun hHeld => ?_)
    clear hK K
    refine norm_ (a' := ?_) ?_ ?_
    rotate_left
    ·show Act.put _ (some 11) _ = _
     simp only [Act.put, List.setIfInBounds_toArray, List.set_cons_zero, List.set_cons_succ, i64_w, i32_w]
     rfl
    refine one_ (i := 1) (N := some 36) #[true, true, true, true, false, false, false, false, true, false, false] rfl rfl (one_of HT_.out (by kernel_rfl)) (by decide) (fun K hK => ?_)
    refine goes_ Try.func16 (by kernel_rfl) rfl #[.agg #[.int .i64 a0_0, .int .i64 a0_1, .int .i64 a0_2, .int .i64 a0_3]] (by rfl) rfl rfl (by (try simp only [List.map_toArray, List.map_cons, List.map_nil]); first | done | rfl | (simp only [List.length_drop, List.length_take]; rfl)) ?_
    with_reducible refine (laws_toChanRow.calls a0_0 a0_1 a0_2 a0_3 t211 t212 t213 t214 _ A15.out).mono ?_
    rintro e w45 ⟨rfl, hb⟩
    refine ⟨_, rfl, ?_⟩
    have n0_ := Aside0.mk (Kd.R_below (rq HO199.out) hb)
    have n1_ := Aside0.mk (Kd.R_below (rq HO203.out) hb)
    have n2_ := Aside0.mk (Kd.R_below (rq HO209.out) hb)
    have n3_ := Aside0.mk (blk_below (bq BK189.out) hb)
    have n4_ := Aside0.mk (blk_below (bq BK190.out) hb)
    have n5_ := Aside0.mk (blk_below (bq BK205.out) hb)
    have n6_ := Aside0.mk (blk_below (bq BK210.out) hb)
    have n7_ := Aside0.mk (blk_below (bq BK220.out) hb)
    have n8_ := Aside0.mk (below_step (lq HB.out) hb)
    clear HO199
    clear HO203
    clear HO209
    clear BK189
    clear BK190
    clear BK205
    clear BK210
    clear BK220
    clear HB
    have HO199 := n0_
    have HO203 := n1_
    have HO209 := n2_
    have BK189 := n3_
    have BK190 := n4_
    have BK205 := n5_
    have BK210 := n6_
    have BK220 := n7_
    have HB := n8_
    clear n0_ n1_ n2_ n3_ n4_ n5_ n6_ n7_ n8_
    (try clear hb)
    (try clear hb2)
    (try clear hk)
    (try clear hi)
    refine hK.out _ _ ⟨(blk_cell BK189.out 0).trans rfl, (blk_cell BK189.out 1).trans rfl, (blk_cell BK189.out 2).trans rfl, (blk_cell BK189.out 3).trans rfl, (blk_cell BK210.out 0).trans rfl, (blk_cell BK210.out 1).trans rfl⟩ (fun hHeld => ?_)
    clear hK K
    refine norm_ (a' := ?_) ?_ ?_
    rotate_left
    ·show Act.put _ (some 36) _ = _
     simp only [Act.put, List.setIfInBounds_toArray, List.set_cons_zero, List.set_cons_succ, i64_w, i32_w]
     rfl
    refine one_ (i := 4) (N := some 39) #[true, true, true, true, true, false, false, false, true, false, false] rfl rfl (one_of HT_.out (by kernel_rfl)) (by decide) (fun K hK => ?_)
    refine goes_ Try.func36 (by kernel_rfl) rfl #[.agg #[.int .i64 t211, .int .i64 t212, .int .i64 t213, .int .i64 t214], .agg #[.int .i64 t206, .slice Ao41 t207.length co41], .int .u32 a2] (by rfl) rfl rfl (by (try simp only [List.map_toArray, List.map_cons, List.map_nil]); first | done | rfl | (simp only [List.length_drop, List.length_take]; rfl)) ?_
    with_reducible refine (impl_SendOn.calls t211 t212 t213 t214 t206 _ _ t207 a2 t215 t216 t219 _ ?side1 ?side2 A16.out).mono ?_
    (case side1 => repeat (first | exact (Kd.R_reads' HO209.out).2.2 | (with_reducible refine Kd.C_alloc ?_ _) | (with_reducible refine Kd.C_drewN ?_ _) | (with_reducible refine Kd.C_drew ?_)))
    (case side2 => exact (Kd.R_reads' HO209.out).2.1)
    rintro e w46 ⟨v217, rfl, ho0, hb⟩
    refine ⟨_, rfl, ?_⟩
    have n0_ := Aside0.mk (Kd.R_elder' (rq HO199.out) (Kd.R_base ho0) hb)
    have n1_ := Aside0.mk (Kd.R_elder' (rq HO203.out) (Kd.R_base ho0) hb)
    have n2_ := Aside0.mk (Kd.R_elder' (rq HO209.out) (Kd.R_base ho0) hb)
    have n3_ := Aside0.mk (Kd.R_lower (Kd.R_new' (Kd.R_new' (Kd.R_new' ho0 (Kd.R_lt (rq HO199.out))) (Kd.R_lt (rq HO203.out))) (Kd.R_lt (rq HO209.out))) (below_size (lq HB.out)))
    have n4_ := Aside0.mk (blk_below (bq BK189.out) hb)
    have n5_ := Aside0.mk (blk_below (bq BK190.out) hb)
    have n6_ := Aside0.mk (blk_below (bq BK205.out) hb)
    have n7_ := Aside0.mk (blk_below (bq BK210.out) hb)
    have n8_ := Aside0.mk (blk_below (bq BK220.out) hb)
    have n9_ := Aside0.mk (below_step (lq HB.out) hb)
    clear HO199
    clear HO203
    clear HO209
    clear BK189
    clear BK190
    clear BK205
    clear BK210
    clear BK220
    clear HB
    have HO199 := n0_
    have HO203 := n1_
    have HO209 := n2_
    have HO218 := n3_
    have BK189 := n4_
    have BK190 := n5_
    have BK205 := n6_
    have BK210 := n7_
    have BK220 := n8_
    have HB := n9_
    clear n0_ n1_ n2_ n3_ n4_ n5_ n6_ n7_ n8_ n9_
    (try clear hb)
    (try clear hb2)
    (try clear hk)
    (try clear hi)
    (try clear ho0)
    refine hK.out _ _ ⟨(blk_cell BK189.out 0).trans rfl, (blk_cell BK189.out 1).trans rfl, (blk_cell BK189.out 2).trans rfl, (blk_cell BK189.out 3).trans rfl, (blk_cell BK210.out 0).trans rfl, (blk_cell BK210.out 1).trans rfl⟩ (fun hHeld => ?_)
    clear hK K
    refine norm_ (a' := ?_) ?_ ?_
    rotate_left
    ·show Act.put _ (some 39) _ = _
     simp only [Act.put, List.setIfInBounds_toArray, List.set_cons_zero, List.set_cons_succ, i64_w, i32_w]
     rfl
    refine pure_ (i := 5) (N := some 34) (v := ?_) (a' := ?_) #[true, true, true, true, true, true, false, false, true, false, false] rfl rfl (any_of HT_.out (by kernel_rfl)) (fun _ _ _ h => h) (Or.inl ⟨by rfl, ?_⟩) ?_ ?_
    rotate_left
    ·intro w'
     go_simp
     with_reducible rfl
    rotate_left
    ·simp only [Act.put, List.setIfInBounds_toArray, List.set_cons_zero, List.set_cons_succ, i64_w, i32_w]
     rfl
    refine pure_ (i := 6) (N := some 40) (v := ?_) (a' := ?_) #[true, true, true, true, true, true, true, false, true, false, false] rfl rfl (any_of HT_.out (by kernel_rfl)) (fun _ _ _ h => h) (Or.inl ⟨by rfl, ?_⟩) ?_ ?_
    rotate_left
    ·intro w'
     go_simp
     with_reducible rfl
    rotate_left
    ·simp only [Act.put, List.setIfInBounds_toArray, List.set_cons_zero, List.set_cons_succ, i64_w, i32_w]
     rfl
    refine pure_ (i := 7) (N := some 41) (v := ?_) (a' := ?_) #[true, true, true, true, true, true, true, true, true, false, false] rfl rfl (any_of HT_.out (by kernel_rfl)) (fun _ _ _ h => h) (Or.inl ⟨by rfl, ?_⟩) ?_ ?_
    rotate_left
    ·intro w'
     go_simp
     with_reducible rfl
    rotate_left
    ·simp only [Act.put, List.setIfInBounds_toArray, List.set_cons_zero, List.set_cons_succ, i64_w, i32_w]
     rfl
    exact norm_ (by simp only [putAll, Act.put, List.setIfInBounds_toArray, List.set_cons_zero, List.set_cons_succ]) (hCont (v217, gb220) _ ⟨hHeld, (by (with_reducible repeat (first | apply Kd.R_alloc | apply Kd.R_drewN | apply Kd.R_drew)); exact Kd.R_mono HO199.out (fun _ hk => ⟨hk.1.1, ⟨hk.1.2, hk.2⟩⟩)), (by (with_reducible repeat (first | apply Kd.R_alloc | apply Kd.R_drewN | apply Kd.R_drew)); exact Kd.R_mono HO203.out (fun _ hk => ⟨hk.1.1, ⟨hk.1.2, hk.2⟩⟩)), (by (with_reducible repeat (first | apply Kd.R_alloc | apply Kd.R_drewN | apply Kd.R_drew)); exact Kd.R_mono HO209.out (fun _ hk => ⟨hk.1.1, ⟨hk.1.2, hk.2⟩⟩)), (by (with_reducible repeat (first | apply Kd.R_alloc | apply Kd.R_drewN | apply Kd.R_drew)); exact Kd.R_mono HO218.out (fun _ hk => ⟨hk.1.1.2, ⟨hk.1.2, hk.2⟩⟩)), (bq BK189.out), (bq BK190.out), (bq BK205.out), (bq BK210.out), (bq BK220.out), GW220.out, GE220.out, NB189_220.out, NB220_189.out, NB190_220.out, NB220_190.out, NB205_220.out, NB220_205.out, NB210_220.out, NB220_210.out, (lq HB.out)⟩)
  rintro ⟨v217, gb220⟩ w47 ⟨hS_, h0_, h1_, h2_, h3_, h4_, h5_, h6_, h7_, h8_, h9_, h10_, h11_, h12_, h13_, h14_, h15_, h16_, h17_, h18_, h19_⟩
  have n0_ : Aside0 (Kd.R (Kd.int .u32) 46 w47 w.heap.size (fun k_ => some k_ ≠ (.slice Ao31 t201.length co31 : Value).ownBlock ∧ some k_ ≠ (.slice Ao41 t207.length co41 : Value).ownBlock ∧ some k_ ≠ (v217 : Value).ownBlock) v198 t197) := ⟨h0_⟩
  have n1_ : Aside0 (Kd.R (Kd.int .u32) 46 w47 w.heap.size (fun k_ => some k_ ≠ (v198 : Value).ownBlock ∧ some k_ ≠ (.slice Ao41 t207.length co41 : Value).ownBlock ∧ some k_ ≠ (v217 : Value).ownBlock) (.slice Ao31 t201.length co31) t201) := ⟨h1_⟩
  have n2_ : Aside0 (Kd.R (Kd.int .u32) 46 w47 w.heap.size (fun k_ => some k_ ≠ (v198 : Value).ownBlock ∧ some k_ ≠ (.slice Ao31 t201.length co31 : Value).ownBlock ∧ some k_ ≠ (v217 : Value).ownBlock) (.slice Ao41 t207.length co41) t207) := ⟨h2_⟩
  have n3_ : Aside0 (Kd.R (Kd.int .u32) 46 w47 w.heap.size (fun k_ => some k_ ≠ (v198 : Value).ownBlock ∧ some k_ ≠ (.slice Ao31 t201.length co31 : Value).ownBlock ∧ some k_ ≠ (.slice Ao41 t207.length co41 : Value).ownBlock) v217 t216) := ⟨h3_⟩
  have n4_ : Aside0 (w47.heap[gb189]? = some (.cells #[.int .i64 a0_0, .int .i64 a0_1, .int .i64 a0_2, .int .i64 a0_3] 23 (0, 0))) := ⟨h4_⟩
  have n5_ : Aside0 (w47.heap[gb190]? = some (.cells #[.int .i64 a1_0, .slice A1_1 l1_1.length c1_1] 36 (0, 0))) := ⟨h5_⟩
  have n6_ : Aside0 (w47.heap[gb205]? = some (.cells #[.int .i64 t200, .slice Ao31 t201.length co31] 39 (0, 0))) := ⟨h6_⟩
  have n7_ : Aside0 (w47.heap[gb210]? = some (.cells #[.int .i64 t206, .slice Ao41 t207.length co41] 39 (0, 0))) := ⟨h7_⟩
  have n8_ : Aside0 (w47.heap[gb220]? = some (.cells #[.int .i64 0, .slice none 0 0] 39 (0, 0))) := ⟨h8_⟩
  have n9_ : Aside0 (w.heap.size ≤ gb220) := ⟨h9_⟩
  have n10_ : Aside0 (w.heap.size ≤ gb220) := ⟨h10_⟩
  have n11_ : Aside0 (gb189 ≠ gb220) := ⟨h11_⟩
  have n12_ : Aside0 (gb220 ≠ gb189) := ⟨h12_⟩
  have n13_ : Aside0 (gb190 ≠ gb220) := ⟨h13_⟩
  have n14_ : Aside0 (gb220 ≠ gb190) := ⟨h14_⟩
  have n15_ : Aside0 (gb205 ≠ gb220) := ⟨h15_⟩
  have n16_ : Aside0 (gb220 ≠ gb205) := ⟨h16_⟩
  have n17_ : Aside0 (gb210 ≠ gb220) := ⟨h17_⟩
  have n18_ : Aside0 (gb220 ≠ gb210) := ⟨h18_⟩
  have n19_ : Aside0 (Below w.heap.size w w47) := ⟨h19_⟩
  clear HO199
  clear HO203
  clear HO209
  clear BK189
  clear BK190
  clear BK205
  clear BK210
  clear HB
  clear h0_ h1_ h2_ h3_ h4_ h5_ h6_ h7_ h8_ h9_ h10_ h11_ h12_ h13_ h14_ h15_ h16_ h17_ h18_ h19_
  have HO199 := n0_
  have HO203 := n1_
  have HO209 := n2_
  have HO218 := n3_
  have BK189 := n4_
  have BK190 := n5_
  have BK205 := n6_
  have BK210 := n7_
  have BK220 := n8_
  have GW220 := n9_
  have GE220 := n10_
  have NB189_220 := n11_
  have NB220_189 := n12_
  have NB190_220 := n13_
  have NB220_190 := n14_
  have NB205_220 := n15_
  have NB220_205 := n16_
  have NB210_220 := n17_
  have NB220_210 := n18_
  have HB := n19_
  clear n0_ n1_ n2_ n3_ n4_ n5_ n6_ n7_ n8_ n9_ n10_ n11_ n12_ n13_ n14_ n15_ n16_ n17_ n18_ n19_
  have hHeld : w47.cell? ⟨gb189, 0, none⟩ = some (.int .i64 a0_0) ∧ w47.cell? ⟨gb189, 1, none⟩ = some (.int .i64 a0_1) ∧ w47.cell? ⟨gb189, 2, none⟩ = some (.int .i64 a0_2) ∧ w47.cell? ⟨gb189, 3, none⟩ = some (.int .i64 a0_3) ∧ w47.cell? ⟨gb210, 0, none⟩ = some (.int .i64 t206) ∧ w47.cell? ⟨gb210, 1, none⟩ = some (.slice Ao41 t207.length co41) := hS_
  obtain ⟨Ao49, co49, eo49⟩ := Kd.R_slice HO218.out
  (first | subst eo49 | (injection eo49 with f1_ f2_ f3_; have f4_ := f1_.symm; have f5_ := f3_.symm; clear f1_ f2_ f3_; subst f4_; subst f5_))
  refine norm_ (a' := ?_) ?_ ?_
  rotate_left
  ·simp only [putAll, Act.put, List.setIfInBounds_toArray, List.set_cons_zero, List.set_cons_succ]
   rfl
  refine one_ (i := 9) (N := none) #[true, true, true, true, true, true, true, true, true, true, false] rfl rfl (one_of HT_.out (by kernel_rfl)) (by decide) (fun K hK => ?_)
  have hs48 : w47.cell? ⟨gb220, 0, none⟩ = some (.int .i64 0) := (blk_cell BK220.out 0).trans rfl
  have hfs48 := blk_frozen BK220.out 0
  have hns48_0 := NB189_220.out
  have hns48_1 := NB190_220.out
  have hns48_2 := NB205_220.out
  have hns48_3 := NB210_220.out
  have hms48_0 := NB220_189.out
  have hms48_1 := NB220_190.out
  have hms48_2 := NB220_205.out
  have hms48_3 := NB220_210.out
  have hs50 : w47.cell? ⟨gb220, 1, none⟩ = some (.slice none 0 0) := (blk_cell BK220.out 1).trans rfl
  have hfs50 := blk_frozen BK220.out 1
  have hns50_0 := NB189_220.out
  have hns50_1 := NB190_220.out
  have hns50_2 := NB205_220.out
  have hns50_3 := NB210_220.out
  have hms50_0 := NB220_189.out
  have hms50_1 := NB220_190.out
  have hms50_2 := NB220_205.out
  have hms50_3 := NB220_210.out
  refine skip_ (w1 := ?_) (by rfl) rfl ?_ ?_
  rotate_left
  ·go_simp
   rfl
  refine hK.out _ _ ⟨((cell_far (p := ⟨gb220, _, none⟩) NB189_220.out _).trans (((cell_far (p := ⟨gb220, _, none⟩) NB189_220.out _).trans (hHeld.1)))), ((cell_far (p := ⟨gb220, _, none⟩) NB189_220.out _).trans (((cell_far (p := ⟨gb220, _, none⟩) NB189_220.out _).trans (hHeld.2.1)))), ((cell_far (p := ⟨gb220, _, none⟩) NB189_220.out _).trans (((cell_far (p := ⟨gb220, _, none⟩) NB189_220.out _).trans (hHeld.2.2.1)))), ((cell_far (p := ⟨gb220, _, none⟩) NB189_220.out _).trans (((cell_far (p := ⟨gb220, _, none⟩) NB189_220.out _).trans (hHeld.2.2.2.1)))), ((cell_far (p := ⟨gb220, _, none⟩) NB210_220.out _).trans (((cell_far (p := ⟨gb220, _, none⟩) NB210_220.out _).trans (hHeld.2.2.2.2.1)))), ((cell_far (p := ⟨gb220, _, none⟩) NB210_220.out _).trans (((cell_far (p := ⟨gb220, _, none⟩) NB210_220.out _).trans (hHeld.2.2.2.2.2))))⟩ (fun hHeld => ?_)
  clear hK K
  refine pure_ (i := 10) (N := some 12) (v := ?_) (a' := ?_) #[true, true, true, true, true, true, true, true, true, true, true] rfl rfl (any_of HT_.out (by kernel_rfl)) (fun _ _ _ h => h) (Or.inl ⟨by rfl, ?_⟩) ?_ ?_
  rotate_left
  ·intro w'
   go_simp
   with_reducible rfl
  rotate_left
  ·simp only [Act.put, List.setIfInBounds_toArray, List.set_cons_zero, List.set_cons_succ, i64_w, i32_w]
   rfl
  refine done_ (done_of HT_.out (by kernel_rfl)) ?_
  go_upto_region 8 with (fail)
  go_cut [50] (fun v50 wc => ∃ (kq : Nat) (x50_16 : Bool), v50 = .bool x50_16 ∧ Aside0 (laws_FnExactSendOn.j0 kq a2 t204 t219 x50_16 a0_0 a0_1 a0_2 a0_3 a1_0 l1_1 t200 t201 t206 t207 t215 t216 = some true) ∧ Aside0 (kq ≤ k) ∧ Aside0 (Kd.R (Kd.int .u32) 46 wc w.heap.size (fun k_ => some k_ ≠ ((.slice Ao41 t207.length co41) : Value).ownBlock ∧ some k_ ≠ ((.slice Ao49 t216.length co49) : Value).ownBlock) (.slice Ao31 t201.length co31) t201) ∧ Aside0 (Kd.R (Kd.int .u32) 46 wc w.heap.size (fun k_ => some k_ ≠ ((.slice Ao31 t201.length co31) : Value).ownBlock ∧ some k_ ≠ ((.slice Ao49 t216.length co49) : Value).ownBlock) (.slice Ao41 t207.length co41) t207) ∧ Aside0 (Kd.R (Kd.int .u32) 46 wc w.heap.size (fun k_ => some k_ ≠ ((.slice Ao31 t201.length co31) : Value).ownBlock ∧ some k_ ≠ ((.slice Ao41 t207.length co41) : Value).ownBlock) (.slice Ao49 t216.length co49) t216) ∧ Aside0 (wc.heap[gb189]? = some (.cells #[.int .i64 a0_0, .int .i64 a0_1, .int .i64 a0_2, .int .i64 a0_3] 23 (0, 0))) ∧ Aside0 (wc.heap[gb190]? = some (.cells #[.int .i64 a1_0, (.slice A1_1 l1_1.length c1_1)] 36 (0, 0))) ∧ Aside0 (wc.heap[gb205]? = some (.cells #[.int .i64 t200, (.slice Ao31 t201.length co31)] 39 (0, 0))) ∧ Aside0 (wc.heap[gb210]? = some (.cells #[.int .i64 t206, (.slice Ao41 t207.length co41)] 39 (0, 0))) ∧ Aside0 (wc.heap[gb220]? = some (.cells #[.int .i64 t215, (.slice Ao49 t216.length co49)] 39 (0, 0))) ∧ Aside0 (Below w.heap.size w wc))
  case first =>
   have H := HC17.out
   clear HC17
   replace H := Option.bind_eq_some_iff.mp H
   obtain ⟨t221, A510, H⟩ := H
   (try dsimp only at H)
   have A51 := Aside0.mk A510
   clear A510
   by_cases c52 : t221 = true
   ·subst c52
    rw [if_pos rfl] at H
    have H' := Aside0.mk H
    clear H
    have hnb53 := NB220_189.out
    have hnc53 := NB189_220.out
    have hnb54 := NB220_190.out
    have hnc54 := NB190_220.out
    have hnb55 := NB220_205.out
    have hnc55 := NB205_220.out
    have hnb56 := NB220_210.out
    have hnc56 := NB210_220.out
    have hcz57_0 : w47.cell? ⟨gb220, 0, none⟩ = some (.int .i64 0) := (blk_cell BK220.out 0).trans rfl
    have hcz57_1 : w47.cell? ⟨gb220, 1, none⟩ = some (.slice none 0 0) := (blk_cell BK220.out 1).trans rfl
    have hfz57_0 := blk_frozen BK220.out 0
    have hfz57_1 := blk_frozen BK220.out 1
    have hnb58 := NB205_189.out
    have hnc58 := NB189_205.out
    have hnb59 := NB205_190.out
    have hnc59 := NB190_205.out
    have hnb60 := NB205_210.out
    have hnc60 := NB210_205.out
    have hcz61_0 : w47.cell? ⟨gb205, 0, none⟩ = some (.int .i64 t200) := (blk_cell BK205.out 0).trans rfl
    have hcz61_1 : w47.cell? ⟨gb205, 1, none⟩ = some (.slice Ao31 t201.length co31) := (blk_cell BK205.out 1).trans rfl
    have hfz61_0 := blk_frozen BK205.out 0
    have hfz61_1 := blk_frozen BK205.out 1
    go_wp2_with (first | ((with_reducible refine gate_callee (f := 24) rfl ?_); refine goesL_ (some 44) rfl rfl Try.func24 (by kernel_rfl) rfl #[.agg #[.int .i64 t215, .slice Ao49 t216.length co49], .agg #[.int .i64 t200, .slice Ao31 t201.length co31]] rfl (by (try simp only [List.map_toArray, List.map_cons, List.map_nil]); first | done | rfl | (simp only [List.length_drop, List.length_take]; rfl)) ?_; (with_reducible refine (laws_eqOutEnd.calls k t215 _ _ t216 t200 _ _ t201 true _ ?side1 ?side2 ?side3 ?side4 A51.out).mono ?_); (case side1 => refine (Kd.R_reads' (e := 46) (base := w.heap.size) (ok := fun k_ => (some k_ ≠ (v198 : Value).ownBlock ∧ (some k_ ≠ (.slice Ao31 t201.length co31 : Value).ownBlock ∧ some k_ ≠ (.slice Ao41 t207.length co41 : Value).ownBlock))) (n := t216.length) (c := co49) ?_).2.2; exact (rq (Kd.R_mono (Kd.R_far (p := ⟨gb220, 1, none⟩) (Kd.R_far (p := ⟨gb220, 0, none⟩) (Kd.R_types HO218.out BK220.out (by decide)) (fun _ hk => hk.2) (.int .i64 t215)) (fun _ hk => hk.2) (.slice Ao49 t216.length co49)) (fun _ h_ => h_.1)))); (case side2 => exact (Kd.R_reads' HO218.out).2.1); (case side3 => refine (Kd.R_reads' (e := 46) (base := w.heap.size) (ok := fun k_ => (some k_ ≠ (v198 : Value).ownBlock ∧ (some k_ ≠ (.slice Ao41 t207.length co41 : Value).ownBlock ∧ some k_ ≠ (.slice Ao49 t216.length co49 : Value).ownBlock))) (n := t201.length) (c := co31) ?_).2.2; exact (rq (Kd.R_mono (Kd.R_far (p := ⟨gb220, 1, none⟩) (Kd.R_far (p := ⟨gb220, 0, none⟩) (Kd.R_types HO203.out BK220.out (by decide)) (fun _ hk => hk.2) (.int .i64 t215)) (fun _ hk => hk.2) (.slice Ao49 t216.length co49)) (fun _ h_ => h_.1)))); (case side4 => exact (Kd.R_reads' HO203.out).2.1); rintro e w62 ⟨rfl, hb⟩; refine ⟨_, rfl, ?_⟩; have n0_ := Aside0.mk (Kd.R_below (rq (Kd.R_mono (Kd.R_far (p := ⟨gb220, 1, none⟩) (Kd.R_far (p := ⟨gb220, 0, none⟩) (Kd.R_types HO199.out BK220.out (by decide)) (fun _ hk => hk.2) (.int .i64 t215)) (fun _ hk => hk.2) (.slice Ao49 t216.length co49)) (fun _ h_ => h_.1))) hb); have n1_ := Aside0.mk (Kd.R_below (rq (Kd.R_mono (Kd.R_far (p := ⟨gb220, 1, none⟩) (Kd.R_far (p := ⟨gb220, 0, none⟩) (Kd.R_types HO203.out BK220.out (by decide)) (fun _ hk => hk.2) (.int .i64 t215)) (fun _ hk => hk.2) (.slice Ao49 t216.length co49)) (fun _ h_ => h_.1))) hb); have n2_ := Aside0.mk (Kd.R_below (rq (Kd.R_mono (Kd.R_far (p := ⟨gb220, 1, none⟩) (Kd.R_far (p := ⟨gb220, 0, none⟩) (Kd.R_types HO209.out BK220.out (by decide)) (fun _ hk => hk.2) (.int .i64 t215)) (fun _ hk => hk.2) (.slice Ao49 t216.length co49)) (fun _ h_ => h_.1))) hb); have n3_ := Aside0.mk (Kd.R_below (rq (Kd.R_mono (Kd.R_far (p := ⟨gb220, 1, none⟩) (Kd.R_far (p := ⟨gb220, 0, none⟩) (Kd.R_types HO218.out BK220.out (by decide)) (fun _ hk => hk.2) (.int .i64 t215)) (fun _ hk => hk.2) (.slice Ao49 t216.length co49)) (fun _ h_ => h_.1))) hb); have n4_ := Aside0.mk (blk_below (g := gb189) (o := .cells #[.int .i64 a0_0, .int .i64 a0_1, .int .i64 a0_2, .int .i64 a0_3] 23 (0, 0)) (by (with_reducible repeat (first | refine blk_drewN ?_ _ | refine blk_drew ?_ | refine blk_alloc ?_ _)); refine blk_far ?_ NB189_220.out _; (with_reducible repeat (first | refine blk_drewN ?_ _ | refine blk_drew ?_ | refine blk_alloc ?_ _)); refine blk_far ?_ NB189_220.out _; (with_reducible repeat (first | refine blk_drewN ?_ _ | refine blk_drew ?_ | refine blk_alloc ?_ _)); exact BK189.out) hb); have n5_ := Aside0.mk (blk_below (g := gb190) (o := .cells #[.int .i64 a1_0, .slice A1_1 l1_1.length c1_1] 36 (0, 0)) (by (with_reducible repeat (first | refine blk_drewN ?_ _ | refine blk_drew ?_ | refine blk_alloc ?_ _)); refine blk_far ?_ NB190_220.out _; (with_reducible repeat (first | refine blk_drewN ?_ _ | refine blk_drew ?_ | refine blk_alloc ?_ _)); refine blk_far ?_ NB190_220.out _; (with_reducible repeat (first | refine blk_drewN ?_ _ | refine blk_drew ?_ | refine blk_alloc ?_ _)); exact BK190.out) hb); have n6_ := Aside0.mk (blk_below (g := gb205) (o := .cells #[.int .i64 t200, .slice Ao31 t201.length co31] 39 (0, 0)) (by (with_reducible repeat (first | refine blk_drewN ?_ _ | refine blk_drew ?_ | refine blk_alloc ?_ _)); refine blk_far ?_ NB205_220.out _; (with_reducible repeat (first | refine blk_drewN ?_ _ | refine blk_drew ?_ | refine blk_alloc ?_ _)); refine blk_far ?_ NB205_220.out _; (with_reducible repeat (first | refine blk_drewN ?_ _ | refine blk_drew ?_ | refine blk_alloc ?_ _)); exact BK205.out) hb); have n7_ := Aside0.mk (blk_below (g := gb210) (o := .cells #[.int .i64 t206, .slice Ao41 t207.length co41] 39 (0, 0)) (by (with_reducible repeat (first | refine blk_drewN ?_ _ | refine blk_drew ?_ | refine blk_alloc ?_ _)); refine blk_far ?_ NB210_220.out _; (with_reducible repeat (first | refine blk_drewN ?_ _ | refine blk_drew ?_ | refine blk_alloc ?_ _)); refine blk_far ?_ NB210_220.out _; (with_reducible repeat (first | refine blk_drewN ?_ _ | refine blk_drew ?_ | refine blk_alloc ?_ _)); exact BK210.out) hb); have n8_ := Aside0.mk (blk_below (g := gb220) (o := .cells #[.int .i64 t215, .slice Ao49 t216.length co49] 39 (0, 0)) (by (with_reducible repeat (first | refine blk_drewN ?_ _ | refine blk_drew ?_ | refine blk_alloc ?_ _)); refine blk_put (cs := #[.int .i64 t215, .slice none 0 0]) ?_ 1 _ rfl; (with_reducible repeat (first | refine blk_drewN ?_ _ | refine blk_drew ?_ | refine blk_alloc ?_ _)); refine blk_put (cs := #[.int .i64 0, .slice none 0 0]) ?_ 0 _ rfl; (with_reducible repeat (first | refine blk_drewN ?_ _ | refine blk_drew ?_ | refine blk_alloc ?_ _)); exact BK220.out) hb); have n9_ := Aside0.mk (below_step (by repeat (first | (with_reducible first | exact HB.out | apply below_alloc | apply pw_below_drewN | apply below_drew1 | refine below_set ?_ GE220.out) | exact HB.out)) hb); clear HO199; clear HO203; clear HO209; clear HO218; clear BK189; clear BK190; clear BK205; clear BK210; clear BK220; clear HB; have HO199 := n0_; have HO203 := n1_; have HO209 := n2_; have HO218 := n3_; have BK189 := n4_; have BK190 := n5_; have BK205 := n6_; have BK210 := n7_; have BK220 := n8_; have HB := n9_; clear n0_ n1_ n2_ n3_ n4_ n5_ n6_ n7_ n8_ n9_; (try clear hb); (try clear hb2); (try clear hk); (try clear hi)))
    go_meet
    case rel => exact ⟨_, ((t219 != t204)), (by first | rfl | (simp; done) | (simp [*]; done)), H', ⟨by first | omega | exact Nat.le_refl _⟩, ⟨by (with_reducible repeat (first | apply Kd.R_alloc | apply Kd.R_drewN | apply Kd.R_drew)); exact Kd.R_mono HO203.out (fun _ hk => ⟨hk.2.1, hk.2.2⟩)⟩, ⟨by (with_reducible repeat (first | apply Kd.R_alloc | apply Kd.R_drewN | apply Kd.R_drew)); exact Kd.R_mono HO209.out (fun _ hk => ⟨hk.2.1, hk.2.2⟩)⟩, ⟨by (with_reducible repeat (first | apply Kd.R_alloc | apply Kd.R_drewN | apply Kd.R_drew)); exact Kd.R_mono HO218.out (fun _ hk => ⟨hk.2.1, hk.2.2⟩)⟩, ⟨by (with_reducible repeat (first | refine blk_drewN ?_ _ | refine blk_drew ?_ | refine blk_alloc ?_ _)); exact BK189.out⟩, ⟨by (with_reducible repeat (first | refine blk_drewN ?_ _ | refine blk_drew ?_ | refine blk_alloc ?_ _)); exact BK190.out⟩, ⟨by (with_reducible repeat (first | refine blk_drewN ?_ _ | refine blk_drew ?_ | refine blk_alloc ?_ _)); exact BK205.out⟩, ⟨by (with_reducible repeat (first | refine blk_drewN ?_ _ | refine blk_drew ?_ | refine blk_alloc ?_ _)); exact BK210.out⟩, ⟨by (with_reducible repeat (first | refine blk_drewN ?_ _ | refine blk_drew ?_ | refine blk_alloc ?_ _)); exact BK220.out⟩, ⟨by exact lq HB.out⟩⟩
   ·replace c52 := Bool.eq_false_iff.mpr c52
    subst c52
    rw [if_neg (show ¬ (false = true) by decide)] at H
    have H' := Aside0.mk H
    clear H
    have hnb63 := NB220_189.out
    have hnc63 := NB189_220.out
    have hnb64 := NB220_190.out
    have hnc64 := NB190_220.out
    have hnb65 := NB220_205.out
    have hnc65 := NB205_220.out
    have hnb66 := NB220_210.out
    have hnc66 := NB210_220.out
    have hcz67_0 : w47.cell? ⟨gb220, 0, none⟩ = some (.int .i64 0) := (blk_cell BK220.out 0).trans rfl
    have hcz67_1 : w47.cell? ⟨gb220, 1, none⟩ = some (.slice none 0 0) := (blk_cell BK220.out 1).trans rfl
    have hfz67_0 := blk_frozen BK220.out 0
    have hfz67_1 := blk_frozen BK220.out 1
    have hnb68 := NB205_189.out
    have hnc68 := NB189_205.out
    have hnb69 := NB205_190.out
    have hnc69 := NB190_205.out
    have hnb70 := NB205_210.out
    have hnc70 := NB210_205.out
    have hcz71_0 : w47.cell? ⟨gb205, 0, none⟩ = some (.int .i64 t200) := (blk_cell BK205.out 0).trans rfl
    have hcz71_1 : w47.cell? ⟨gb205, 1, none⟩ = some (.slice Ao31 t201.length co31) := (blk_cell BK205.out 1).trans rfl
    have hfz71_0 := blk_frozen BK205.out 0
    have hfz71_1 := blk_frozen BK205.out 1
    go_wp2_with (first | ((with_reducible refine gate_callee (f := 24) rfl ?_); refine goesL_ (some 44) rfl rfl Try.func24 (by kernel_rfl) rfl #[.agg #[.int .i64 t215, .slice Ao49 t216.length co49], .agg #[.int .i64 t200, .slice Ao31 t201.length co31]] rfl (by (try simp only [List.map_toArray, List.map_cons, List.map_nil]); first | done | rfl | (simp only [List.length_drop, List.length_take]; rfl)) ?_; (with_reducible refine (laws_eqOutEnd.calls k t215 _ _ t216 t200 _ _ t201 false _ ?side1 ?side2 ?side3 ?side4 A51.out).mono ?_); (case side1 => refine (Kd.R_reads' (e := 46) (base := w.heap.size) (ok := fun k_ => (some k_ ≠ (v198 : Value).ownBlock ∧ (some k_ ≠ (.slice Ao31 t201.length co31 : Value).ownBlock ∧ some k_ ≠ (.slice Ao41 t207.length co41 : Value).ownBlock))) (n := t216.length) (c := co49) ?_).2.2; exact (rq (Kd.R_mono (Kd.R_far (p := ⟨gb220, 1, none⟩) (Kd.R_far (p := ⟨gb220, 0, none⟩) (Kd.R_types HO218.out BK220.out (by decide)) (fun _ hk => hk.2) (.int .i64 t215)) (fun _ hk => hk.2) (.slice Ao49 t216.length co49)) (fun _ h_ => h_.1)))); (case side2 => exact (Kd.R_reads' HO218.out).2.1); (case side3 => refine (Kd.R_reads' (e := 46) (base := w.heap.size) (ok := fun k_ => (some k_ ≠ (v198 : Value).ownBlock ∧ (some k_ ≠ (.slice Ao41 t207.length co41 : Value).ownBlock ∧ some k_ ≠ (.slice Ao49 t216.length co49 : Value).ownBlock))) (n := t201.length) (c := co31) ?_).2.2; exact (rq (Kd.R_mono (Kd.R_far (p := ⟨gb220, 1, none⟩) (Kd.R_far (p := ⟨gb220, 0, none⟩) (Kd.R_types HO203.out BK220.out (by decide)) (fun _ hk => hk.2) (.int .i64 t215)) (fun _ hk => hk.2) (.slice Ao49 t216.length co49)) (fun _ h_ => h_.1)))); (case side4 => exact (Kd.R_reads' HO203.out).2.1); rintro e w72 ⟨rfl, hb⟩; refine ⟨_, rfl, ?_⟩; have n0_ := Aside0.mk (Kd.R_below (rq (Kd.R_mono (Kd.R_far (p := ⟨gb220, 1, none⟩) (Kd.R_far (p := ⟨gb220, 0, none⟩) (Kd.R_types HO199.out BK220.out (by decide)) (fun _ hk => hk.2) (.int .i64 t215)) (fun _ hk => hk.2) (.slice Ao49 t216.length co49)) (fun _ h_ => h_.1))) hb); have n1_ := Aside0.mk (Kd.R_below (rq (Kd.R_mono (Kd.R_far (p := ⟨gb220, 1, none⟩) (Kd.R_far (p := ⟨gb220, 0, none⟩) (Kd.R_types HO203.out BK220.out (by decide)) (fun _ hk => hk.2) (.int .i64 t215)) (fun _ hk => hk.2) (.slice Ao49 t216.length co49)) (fun _ h_ => h_.1))) hb); have n2_ := Aside0.mk (Kd.R_below (rq (Kd.R_mono (Kd.R_far (p := ⟨gb220, 1, none⟩) (Kd.R_far (p := ⟨gb220, 0, none⟩) (Kd.R_types HO209.out BK220.out (by decide)) (fun _ hk => hk.2) (.int .i64 t215)) (fun _ hk => hk.2) (.slice Ao49 t216.length co49)) (fun _ h_ => h_.1))) hb); have n3_ := Aside0.mk (Kd.R_below (rq (Kd.R_mono (Kd.R_far (p := ⟨gb220, 1, none⟩) (Kd.R_far (p := ⟨gb220, 0, none⟩) (Kd.R_types HO218.out BK220.out (by decide)) (fun _ hk => hk.2) (.int .i64 t215)) (fun _ hk => hk.2) (.slice Ao49 t216.length co49)) (fun _ h_ => h_.1))) hb); have n4_ := Aside0.mk (blk_below (g := gb189) (o := .cells #[.int .i64 a0_0, .int .i64 a0_1, .int .i64 a0_2, .int .i64 a0_3] 23 (0, 0)) (by (with_reducible repeat (first | refine blk_drewN ?_ _ | refine blk_drew ?_ | refine blk_alloc ?_ _)); refine blk_far ?_ NB189_220.out _; (with_reducible repeat (first | refine blk_drewN ?_ _ | refine blk_drew ?_ | refine blk_alloc ?_ _)); refine blk_far ?_ NB189_220.out _; (with_reducible repeat (first | refine blk_drewN ?_ _ | refine blk_drew ?_ | refine blk_alloc ?_ _)); exact BK189.out) hb); have n5_ := Aside0.mk (blk_below (g := gb190) (o := .cells #[.int .i64 a1_0, .slice A1_1 l1_1.length c1_1] 36 (0, 0)) (by (with_reducible repeat (first | refine blk_drewN ?_ _ | refine blk_drew ?_ | refine blk_alloc ?_ _)); refine blk_far ?_ NB190_220.out _; (with_reducible repeat (first | refine blk_drewN ?_ _ | refine blk_drew ?_ | refine blk_alloc ?_ _)); refine blk_far ?_ NB190_220.out _; (with_reducible repeat (first | refine blk_drewN ?_ _ | refine blk_drew ?_ | refine blk_alloc ?_ _)); exact BK190.out) hb); have n6_ := Aside0.mk (blk_below (g := gb205) (o := .cells #[.int .i64 t200, .slice Ao31 t201.length co31] 39 (0, 0)) (by (with_reducible repeat (first | refine blk_drewN ?_ _ | refine blk_drew ?_ | refine blk_alloc ?_ _)); refine blk_far ?_ NB205_220.out _; (with_reducible repeat (first | refine blk_drewN ?_ _ | refine blk_drew ?_ | refine blk_alloc ?_ _)); refine blk_far ?_ NB205_220.out _; (with_reducible repeat (first | refine blk_drewN ?_ _ | refine blk_drew ?_ | refine blk_alloc ?_ _)); exact BK205.out) hb); have n7_ := Aside0.mk (blk_below (g := gb210) (o := .cells #[.int .i64 t206, .slice Ao41 t207.length co41] 39 (0, 0)) (by (with_reducible repeat (first | refine blk_drewN ?_ _ | refine blk_drew ?_ | refine blk_alloc ?_ _)); refine blk_far ?_ NB210_220.out _; (with_reducible repeat (first | refine blk_drewN ?_ _ | refine blk_drew ?_ | refine blk_alloc ?_ _)); refine blk_far ?_ NB210_220.out _; (with_reducible repeat (first | refine blk_drewN ?_ _ | refine blk_drew ?_ | refine blk_alloc ?_ _)); exact BK210.out) hb); have n8_ := Aside0.mk (blk_below (g := gb220) (o := .cells #[.int .i64 t215, .slice Ao49 t216.length co49] 39 (0, 0)) (by (with_reducible repeat (first | refine blk_drewN ?_ _ | refine blk_drew ?_ | refine blk_alloc ?_ _)); refine blk_put (cs := #[.int .i64 t215, .slice none 0 0]) ?_ 1 _ rfl; (with_reducible repeat (first | refine blk_drewN ?_ _ | refine blk_drew ?_ | refine blk_alloc ?_ _)); refine blk_put (cs := #[.int .i64 0, .slice none 0 0]) ?_ 0 _ rfl; (with_reducible repeat (first | refine blk_drewN ?_ _ | refine blk_drew ?_ | refine blk_alloc ?_ _)); exact BK220.out) hb); have n9_ := Aside0.mk (below_step (by repeat (first | (with_reducible first | exact HB.out | apply below_alloc | apply pw_below_drewN | apply below_drew1 | refine below_set ?_ GE220.out) | exact HB.out)) hb); clear HO199; clear HO203; clear HO209; clear HO218; clear BK189; clear BK190; clear BK205; clear BK210; clear BK220; clear HB; have HO199 := n0_; have HO203 := n1_; have HO209 := n2_; have HO218 := n3_; have BK189 := n4_; have BK190 := n5_; have BK205 := n6_; have BK210 := n7_; have BK220 := n8_; have HB := n9_; clear n0_ n1_ n2_ n3_ n4_ n5_ n6_ n7_ n8_ n9_; (try clear hb); (try clear hb2); (try clear hk); (try clear hi)))
    go_meet
    case rel => exact ⟨_, (true), (by first | rfl | (simp; done) | (simp [*]; done)), H', ⟨by first | omega | exact Nat.le_refl _⟩, ⟨by (with_reducible repeat (first | apply Kd.R_alloc | apply Kd.R_drewN | apply Kd.R_drew)); exact Kd.R_mono HO203.out (fun _ hk => ⟨hk.2.1, hk.2.2⟩)⟩, ⟨by (with_reducible repeat (first | apply Kd.R_alloc | apply Kd.R_drewN | apply Kd.R_drew)); exact Kd.R_mono HO209.out (fun _ hk => ⟨hk.2.1, hk.2.2⟩)⟩, ⟨by (with_reducible repeat (first | apply Kd.R_alloc | apply Kd.R_drewN | apply Kd.R_drew)); exact Kd.R_mono HO218.out (fun _ hk => ⟨hk.2.1, hk.2.2⟩)⟩, ⟨by (with_reducible repeat (first | refine blk_drewN ?_ _ | refine blk_drew ?_ | refine blk_alloc ?_ _)); exact BK189.out⟩, ⟨by (with_reducible repeat (first | refine blk_drewN ?_ _ | refine blk_drew ?_ | refine blk_alloc ?_ _)); exact BK190.out⟩, ⟨by (with_reducible repeat (first | refine blk_drewN ?_ _ | refine blk_drew ?_ | refine blk_alloc ?_ _)); exact BK205.out⟩, ⟨by (with_reducible repeat (first | refine blk_drewN ?_ _ | refine blk_drew ?_ | refine blk_alloc ?_ _)); exact BK210.out⟩, ⟨by (with_reducible repeat (first | refine blk_drewN ?_ _ | refine blk_drew ?_ | refine blk_alloc ?_ _)); exact BK220.out⟩, ⟨by exact lq HB.out⟩⟩
  case rest =>
   clear HC17
   try clear c1
   try clear c2
   try clear p2
   try clear c3
   try clear c5
   try clear c6
   try clear c7
   try clear c16
   try clear c24
   try clear c36
   try clear c52
   try clear c53
   try clear c54
   try clear c55
   try clear c56
   try clear c58
   try clear c59
   try clear c60
   try clear c63
   try clear c64
   try clear c65
   try clear c66
   try clear c68
   try clear c69
   try clear c70
   try clear hcz57_0
   try clear hcz57_1
   try clear hcz61_0
   try clear hcz61_1
   try clear hcz67_0
   try clear hcz67_1
   try clear hcz71_0
   try clear hcz71_1
   try clear hfz57_0
   try clear hfz57_1
   try clear hfz61_0
   try clear hfz61_1
   try clear hfz67_0
   try clear hfz67_1
   try clear hfz71_0
   try clear hfz71_1
   obtain ⟨kq, x50_16, rfl, HA, HJ16, HO_206001, HO_211001, HO_221001, BK189, BK190, BK205, BK210, BK220, HB⟩ := hcut
   cases kq with
   | zero => exact absurd HA.out (by simp [laws_FnExactSendOn.j0])
   | succ kj16 =>
    have H := HA.out
    clear HA
    simp only [laws_FnExactSendOn.j0] at H
    by_cases c73 : x50_16 = true
    ·subst c73
     rw [if_pos rfl] at H
     exact absurd H (by simp)
    ·replace c73 := Bool.eq_false_iff.mpr c73
     subst c73
     rw [if_neg (show ¬ (false = true) by decide)] at H
     replace H := Option.bind_eq_some_iff.mp H
     obtain ⟨⟨t222, t223⟩, A740, H⟩ := H
     (try dsimp only at H)
     have A74 := Aside0.mk A740
     clear A740
     replace H := Option.bind_eq_some_iff.mp H
     obtain ⟨t226, A750, H⟩ := H
     (try dsimp only at H)
     have A75 := Aside0.mk A750
     clear A750
     by_cases c76 : t226 = true
     ·subst c76
      rw [if_pos rfl] at H
      replace H := Option.bind_eq_some_iff.mp H
      obtain ⟨⟨t227, t228⟩, A770, H⟩ := H
      (try dsimp only at H)
      have A77 := Aside0.mk A770
      clear A770
      have HC78 := Aside0.mk H
      clear H
      try go_wp2
      have n0_ := Aside0.mk (Kd.R_drew HO_206001.out)
      have n1_ := Aside0.mk (Kd.R_drew HO_211001.out)
      have n2_ := Aside0.mk (Kd.R_drew HO_221001.out)
      have n3_ := Aside0.mk (blk_drew BK189.out)
      have n4_ := Aside0.mk (blk_drew BK190.out)
      have n5_ := Aside0.mk (blk_drew BK205.out)
      have n6_ := Aside0.mk (blk_drew BK210.out)
      have n7_ := Aside0.mk (blk_drew BK220.out)
      have n8_ := Aside0.mk (below_drew1 HB.out)
      clear HO_206001
      clear HO_211001
      clear HO_221001
      clear BK189
      clear BK190
      clear BK205
      clear BK210
      clear BK220
      clear HB
      have HO_206001 := n0_
      have HO_211001 := n1_
      have HO_221001 := n2_
      have BK189 := n3_
      have BK190 := n4_
      have BK205 := n5_
      have BK210 := n6_
      have BK220 := n7_
      have HB := n8_
      clear n0_ n1_ n2_ n3_ n4_ n5_ n6_ n7_ n8_
      refine start_ (n := 5) (S := fun w' => w'.cell? ⟨gb210, 0, none⟩ = some (.int .i64 t206) ∧ w'.cell? ⟨gb210, 1, none⟩ = some (.slice Ao41 t207.length co41) ∧ w'.cell? ⟨gb190, 0, none⟩ = some (.int .i64 a1_0) ∧ w'.cell? ⟨gb190, 1, none⟩ = some (.slice A1_1 l1_1.length c1_1)) (ds := []) #[false, false, false, false, false] (by kernel_rfl) rfl rfl ⟨(blk_cell BK210.out 0).trans rfl, (blk_cell BK210.out 1).trans rfl, (blk_cell BK190.out 0).trans rfl, (blk_cell BK190.out 1).trans rfl⟩ (fun hHeld => ?_)
      generalize wc.drew = w79 at HO_206001 HO_211001 HO_221001 BK189 BK190 BK205 BK210 BK220 HB hHeld ⊢
      refine take_ (i := 0) (N := some 51) (v := ?_) (a' := ?_) #[true, false, false, false, false] rfl rfl (by kernel_rfl) (fun _ _ _ h => h) (Or.inl ⟨by rfl, ?_⟩) hHeld ?_ ?_
      rotate_left
      ·rintro w' ⟨s0, s1, s2, s3⟩
       go_simp
       with_reducible rfl
      rotate_left
      ·simp only [Act.put, List.setIfInBounds_toArray, List.set_cons_zero, List.set_cons_succ, i64_w, i32_w]
       rfl
      refine take_ (i := 1) (N := some 52) (v := ?_) (a' := ?_) #[true, true, false, false, false] rfl rfl (by kernel_rfl) (fun _ _ _ h => h) (Or.inl ⟨by rfl, ?_⟩) hHeld ?_ ?_
      rotate_left
      ·rintro w' ⟨s0, s1, s2, s3⟩
       go_simp
       with_reducible rfl
      rotate_left
      ·simp only [Act.put, List.setIfInBounds_toArray, List.set_cons_zero, List.set_cons_succ, i64_w, i32_w]
       rfl
      refine one_ (i := 2) (N := some 53) #[true, true, true, false, false] rfl rfl (by kernel_rfl) (by decide) (fun K hK => ?_)
      refine goes_ Try.func22 (by kernel_rfl) rfl #[.agg #[.int .i64 a1_0, .slice A1_1 l1_1.length c1_1]] (by rfl) rfl rfl (by (try simp only [List.map_toArray, List.map_cons, List.map_nil]); first | done | rfl | (simp only [List.length_drop, List.length_take]; rfl)) ?_
      with_reducible refine (laws_toOutEnd.calls kj16 a1_0 _ _ l1_1 t222 t223 _ ?side1 ?side2 A74.out).mono ?_
      (case side1 => repeat (first | exact (Kd.C_below HR1_1.out HB.out) | (with_reducible refine Kd.C_alloc ?_ _) | (with_reducible refine Kd.C_drewN ?_ _) | (with_reducible refine Kd.C_drew ?_)))
      (case side2 => exact HC1_1.out)
      rintro e w80 ⟨v224, rfl, ho0, hb⟩
      refine ⟨_, rfl, ?_⟩
      have n0_ := Aside0.mk (Kd.R_elder' (rq HO_206001.out) (Kd.R_base ho0) hb)
      have n1_ := Aside0.mk (Kd.R_elder' (rq HO_211001.out) (Kd.R_base ho0) hb)
      have n2_ := Aside0.mk (Kd.R_elder' (rq HO_221001.out) (Kd.R_base ho0) hb)
      have n3_ := Aside0.mk (Kd.R_lower (Kd.R_new' (Kd.R_new' (Kd.R_new' ho0 (Kd.R_lt (rq HO_206001.out))) (Kd.R_lt (rq HO_211001.out))) (Kd.R_lt (rq HO_221001.out))) (below_size (lq HB.out)))
      have n4_ := Aside0.mk (blk_below (bq BK189.out) hb)
      have n5_ := Aside0.mk (blk_below (bq BK190.out) hb)
      have n6_ := Aside0.mk (blk_below (bq BK205.out) hb)
      have n7_ := Aside0.mk (blk_below (bq BK210.out) hb)
      have n8_ := Aside0.mk (blk_below (bq BK220.out) hb)
      have n9_ := Aside0.mk (below_step (lq HB.out) hb)
      clear HO_206001
      clear HO_211001
      clear HO_221001
      clear BK189
      clear BK190
      clear BK205
      clear BK210
      clear BK220
      clear HB
      have HO_206001 := n0_
      have HO_211001 := n1_
      have HO_221001 := n2_
      have HO225 := n3_
      have BK189 := n4_
      have BK190 := n5_
      have BK205 := n6_
      have BK210 := n7_
      have BK220 := n8_
      have HB := n9_
      clear n0_ n1_ n2_ n3_ n4_ n5_ n6_ n7_ n8_ n9_
      (try clear hb)
      (try clear hb2)
      (try clear hk)
      (try clear hi)
      (try clear ho0)
      obtain ⟨Ao81, co81, eo81⟩ := Kd.R_slice HO225.out
      (first | subst eo81 | (injection eo81 with f1_ f2_ f3_; have f4_ := f1_.symm; have f5_ := f3_.symm; clear f1_ f2_ f3_; subst f4_; subst f5_))
      refine hK.out _ _ ⟨(blk_cell BK210.out 0).trans rfl, (blk_cell BK210.out 1).trans rfl, (blk_cell BK190.out 0).trans rfl, (blk_cell BK190.out 1).trans rfl⟩ (fun hHeld => ?_)
      clear hK K
      refine norm_ (a' := ?_) ?_ ?_
      rotate_left
      ·show Act.put _ (some 53) _ = _
       simp only [Act.put, List.setIfInBounds_toArray, List.set_cons_zero, List.set_cons_succ, i64_w, i32_w]
       rfl
      refine one_ (i := 3) (N := some 54) #[true, true, true, true, false] rfl rfl (by kernel_rfl) (by decide) (fun K hK => ?_)
      refine goes_ Try.func24 (by kernel_rfl) rfl #[.agg #[.int .i64 t206, .slice Ao41 t207.length co41], .agg #[.int .i64 t222, .slice Ao81 t223.length co81]] (by rfl) rfl rfl (by (try simp only [List.map_toArray, List.map_cons, List.map_nil]); first | done | rfl | (simp only [List.length_drop, List.length_take]; rfl)) ?_
      with_reducible refine (laws_eqOutEnd.calls kj16 t206 _ _ t207 t222 _ _ t223 true _ ?side1 ?side2 ?side3 ?side4 A75.out).mono ?_
      (case side1 => repeat (first | exact (Kd.R_reads' HO_211001.out).2.2 | (with_reducible refine Kd.C_alloc ?_ _) | (with_reducible refine Kd.C_drewN ?_ _) | (with_reducible refine Kd.C_drew ?_)))
      (case side2 => exact (Kd.R_reads' HO_211001.out).2.1)
      (case side3 => repeat (first | exact (Kd.R_reads' HO225.out).2.2 | (with_reducible refine Kd.C_alloc ?_ _) | (with_reducible refine Kd.C_drewN ?_ _) | (with_reducible refine Kd.C_drew ?_)))
      (case side4 => exact (Kd.R_reads' HO225.out).2.1)
      rintro e w82 ⟨rfl, hb⟩
      refine ⟨_, rfl, ?_⟩
      have n0_ := Aside0.mk (Kd.R_below (rq HO_206001.out) hb)
      have n1_ := Aside0.mk (Kd.R_below (rq HO_211001.out) hb)
      have n2_ := Aside0.mk (Kd.R_below (rq HO_221001.out) hb)
      have n3_ := Aside0.mk (Kd.R_below (rq HO225.out) hb)
      have n4_ := Aside0.mk (blk_below (bq BK189.out) hb)
      have n5_ := Aside0.mk (blk_below (bq BK190.out) hb)
      have n6_ := Aside0.mk (blk_below (bq BK205.out) hb)
      have n7_ := Aside0.mk (blk_below (bq BK210.out) hb)
      have n8_ := Aside0.mk (blk_below (bq BK220.out) hb)
      have n9_ := Aside0.mk (below_step (lq HB.out) hb)
      clear HO_206001
      clear HO_211001
      clear HO_221001
      clear HO225
      clear BK189
      clear BK190
      clear BK205
      clear BK210
      clear BK220
      clear HB
      have HO_206001 := n0_
      have HO_211001 := n1_
      have HO_221001 := n2_
      have HO225 := n3_
      have BK189 := n4_
      have BK190 := n5_
      have BK205 := n6_
      have BK210 := n7_
      have BK220 := n8_
      have HB := n9_
      clear n0_ n1_ n2_ n3_ n4_ n5_ n6_ n7_ n8_ n9_
      (try clear hb)
      (try clear hb2)
      (try clear hk)
      (try clear hi)
      refine hK.out _ _ ⟨(blk_cell BK210.out 0).trans rfl, (blk_cell BK210.out 1).trans rfl, (blk_cell BK190.out 0).trans rfl, (blk_cell BK190.out 1).trans rfl⟩ (fun hHeld => ?_)
      clear hK K
      refine norm_ (a' := ?_) ?_ ?_
      rotate_left
      ·show Act.put _ (some 54) _ = _
       simp only [Act.put, List.setIfInBounds_toArray, List.set_cons_zero, List.set_cons_succ, i64_w, i32_w]
       rfl
      refine pure_ (i := 4) (N := some 55) (v := ?_) (a' := ?_) #[true, true, true, true, true] rfl rfl (by kernel_rfl) (fun _ _ _ h => h) (Or.inl ⟨by rfl, ?_⟩) ?_ ?_
      rotate_left
      ·intro w'
       go_simp
       with_reducible rfl
      rotate_left
      ·simp only [Act.put, List.setIfInBounds_toArray, List.set_cons_zero, List.set_cons_succ, i64_w, i32_w]
       rfl
      refine done_ (by kernel_rfl) ?_
      have hnb83 := NB210_189.out
      have hnc83 := NB189_210.out
      have hnb84 := NB210_190.out
      have hnc84 := NB190_210.out
      have hnb85 := NB210_205.out
      have hnc85 := NB205_210.out
      have hnb86 := NB210_220.out
      have hnc86 := NB220_210.out
      have hcz87_0 : w82.cell? ⟨gb210, 0, none⟩ = some (.int .i64 t206) := (blk_cell BK210.out 0).trans rfl
      have hcz87_1 : w82.cell? ⟨gb210, 1, none⟩ = some (.slice Ao41 t207.length co41) := (blk_cell BK210.out 1).trans rfl
      have hfz87_0 := blk_frozen BK210.out 0
      have hfz87_1 := blk_frozen BK210.out 1
      go_upto_region 14 with (first | ((with_reducible refine gate_callee (f := 29) rfl ?_); refine goesL_ (some 58) rfl rfl Try.func29 (by kernel_rfl) rfl #[.agg #[.int .i64 t206, .slice Ao41 t207.length co41], .int .i64 1] rfl (by (try simp only [List.map_toArray, List.map_cons, List.map_nil]); first | done | rfl | (simp only [List.length_drop, List.length_take]; rfl)) ?_; (with_reducible refine (laws_markOutEnd.calls kj16 t206 (fun k_ => some k_ = (.slice Ao41 t207.length co41 : Value).ownBlock) (.slice Ao41 t207.length co41) t207 1 t227 t228 w _ ?side1 ?side2 A77.out).mono ?_); (case side1 => exact lq HB.out); (case side2 => exact Kd.R_tight rfl HO_211001.out); rintro e w88 ⟨rfl, hy0, hb, hkp⟩; refine ⟨_, rfl, ?_⟩; have n0_ := Aside0.mk (Kd.R_mono (ok' := fun k_ => some k_ ≠ (.slice Ao41 t207.length co41 : Value).ownBlock ∧ some k_ ≠ (.slice Ao49 t216.length co49 : Value).ownBlock ∧ some k_ ≠ (.slice Ao81 t223.length co81 : Value).ownBlock) (Kd.R_keptB (HO_206001.out) hkp (fun k_ hk_ hs_ => (hk_.1.1) hs_)) (fun k_ hk_ => ⟨hk_.1.1.1, hk_.1.1.2, hk_.1.2⟩)); have n1_ := Aside0.mk (Kd.R_reok rfl hy0 (fun k_ e_ => HO_211001.out.1 k_ e_)); have n2_ := Aside0.mk (Kd.R_mono (ok' := fun k_ => some k_ ≠ (.slice Ao31 t201.length co31 : Value).ownBlock ∧ some k_ ≠ (.slice Ao41 t207.length co41 : Value).ownBlock ∧ some k_ ≠ (.slice Ao81 t223.length co81 : Value).ownBlock) (Kd.R_keptB (HO_221001.out) hkp (fun k_ hk_ hs_ => (hk_.1.2) hs_)) (fun k_ hk_ => ⟨hk_.1.1.1, hk_.1.1.2, hk_.1.2⟩)); have n3_ := Aside0.mk (blk_kept (bq BK189.out) hkp (fun hs_ => (fun e_ => (Kd.R_ne HO_211001.out BK189.out (by decide)) e_) hs_)); have n4_ := Aside0.mk (blk_kept (bq BK190.out) hkp (fun hs_ => (fun e_ => (Kd.R_ne HO_211001.out BK190.out (by decide)) e_) hs_)); have n5_ := Aside0.mk (blk_kept (bq BK205.out) hkp (fun hs_ => (fun e_ => (Kd.R_ne HO_211001.out BK205.out (by decide)) e_) hs_)); have n6_ := Aside0.mk (blk_kept (bq BK210.out) hkp (fun hs_ => (fun e_ => (Kd.R_ne HO_211001.out BK210.out (by decide)) e_) hs_)); have n7_ := Aside0.mk (blk_kept (bq BK220.out) hkp (fun hs_ => (fun e_ => (Kd.R_ne HO_211001.out BK220.out (by decide)) e_) hs_)); have n8_ := Aside0.mk (Kd.R_mono (ok' := fun k_ => some k_ ≠ (.slice Ao31 t201.length co31 : Value).ownBlock ∧ some k_ ≠ (.slice Ao41 t207.length co41 : Value).ownBlock ∧ some k_ ≠ (.slice Ao49 t216.length co49 : Value).ownBlock) (Kd.R_keptB (HO225.out) hkp (fun k_ hk_ hs_ => (hk_.1.2) hs_)) (fun k_ hk_ => ⟨hk_.1.1.1.2, hk_.1.1.2, hk_.1.2⟩)); have n9_ := Aside0.mk (hb); clear HO_206001; clear HO_211001; clear HO_221001; clear BK189; clear BK190; clear BK205; clear BK210; clear BK220; clear HO225; clear HB; have HO_206001 := n0_; have HO_211001 := n1_; have HO_221001 := n2_; have BK189 := n3_; have BK190 := n4_; have BK205 := n5_; have BK210 := n6_; have BK220 := n7_; have HO225 := n8_; have HB := n9_; clear n0_ n1_ n2_ n3_ n4_ n5_ n6_ n7_ n8_ n9_; (try clear hb); (try clear hkp); (try clear hy0)))
      (try simp only [Act.put, List.setIfInBounds_toArray, List.set_cons_zero, List.set_cons_succ])
      go_cut [71] (fun v71 wc => ∃ (kq : Nat) (x71_77 : Bool), v71 = .bool x71_77 ∧ Aside0 (laws_FnExactSendOn.j1 kq a2 t204 x71_77 a0_0 a0_1 a0_2 a0_3 a1_0 l1_1 t200 t201 t215 t216 = some true) ∧ Aside0 (kq ≤ kj16) ∧ Aside0 (Kd.R (Kd.int .u32) 46 wc w.heap.size (fun k_ => some k_ ≠ ((.slice Ao41 t207.length co41) : Value).ownBlock ∧ some k_ ≠ ((.slice Ao49 t216.length co49) : Value).ownBlock) (.slice Ao31 t201.length co31) t201) ∧ Aside0 (Kd.R (Kd.int .u32) 46 wc w.heap.size (fun k_ => some k_ ≠ ((.slice Ao31 t201.length co31) : Value).ownBlock ∧ some k_ ≠ ((.slice Ao49 t216.length co49) : Value).ownBlock) (.slice Ao41 t207.length co41) t228) ∧ Aside0 (Kd.R (Kd.int .u32) 46 wc w.heap.size (fun k_ => some k_ ≠ ((.slice Ao31 t201.length co31) : Value).ownBlock ∧ some k_ ≠ ((.slice Ao41 t207.length co41) : Value).ownBlock) (.slice Ao49 t216.length co49) t216) ∧ Aside0 (wc.heap[gb189]? = some (.cells #[.int .i64 a0_0, .int .i64 a0_1, .int .i64 a0_2, .int .i64 a0_3] 23 (0, 0))) ∧ Aside0 (wc.heap[gb190]? = some (.cells #[.int .i64 a1_0, (.slice A1_1 l1_1.length c1_1)] 36 (0, 0))) ∧ Aside0 (wc.heap[gb205]? = some (.cells #[.int .i64 t200, (.slice Ao31 t201.length co31)] 39 (0, 0))) ∧ Aside0 (wc.heap[gb210]? = some (.cells #[.int .i64 t206, (.slice Ao41 t207.length co41)] 39 (0, 0))) ∧ Aside0 (wc.heap[gb220]? = some (.cells #[.int .i64 t215, (.slice Ao49 t216.length co49)] 39 (0, 0))) ∧ Aside0 (Below w.heap.size w wc))
      case first =>
       have H := HC78.out
       clear HC78
       by_cases c89 : t227 < 0
       ·rw [if_pos c89] at H
        have c89b0 : decide (t227 < 0) = true := decide_eq_true c89
        clear c89
        (first | rw [c89b0] | (simp only [i64_w, i32_w]; rw [c89b0]) | skip)
        have H' := Aside0.mk H
        clear H
        go_wp2
        go_meet
        case rel => exact ⟨_, (true), (by first | rfl | (simp; done) | (simp [*]; done)), H', ⟨by have := HJ16.out; first | omega | exact Nat.le_refl _⟩, ⟨by (with_reducible repeat (first | apply Kd.R_alloc | apply Kd.R_drewN | apply Kd.R_drew)); exact Kd.R_mono HO_206001.out (fun _ hk => ⟨hk.1, hk.2.1⟩)⟩, ⟨by (with_reducible repeat (first | apply Kd.R_alloc | apply Kd.R_drewN | apply Kd.R_drew)); exact Kd.R_mono HO_211001.out (fun _ hk => ⟨hk.1.1, hk.1.2⟩)⟩, ⟨by (with_reducible repeat (first | apply Kd.R_alloc | apply Kd.R_drewN | apply Kd.R_drew)); exact Kd.R_mono HO_221001.out (fun _ hk => ⟨hk.1, hk.2.1⟩)⟩, ⟨by (with_reducible repeat (first | refine blk_drewN ?_ _ | refine blk_drew ?_ | refine blk_alloc ?_ _)); exact BK189.out⟩, ⟨by (with_reducible repeat (first | refine blk_drewN ?_ _ | refine blk_drew ?_ | refine blk_alloc ?_ _)); exact BK190.out⟩, ⟨by (with_reducible repeat (first | refine blk_drewN ?_ _ | refine blk_drew ?_ | refine blk_alloc ?_ _)); exact BK205.out⟩, ⟨by (with_reducible repeat (first | refine blk_drewN ?_ _ | refine blk_drew ?_ | refine blk_alloc ?_ _)); exact BK210.out⟩, ⟨by (with_reducible repeat (first | refine blk_drewN ?_ _ | refine blk_drew ?_ | refine blk_alloc ?_ _)); exact BK220.out⟩, ⟨by exact lq HB.out⟩⟩
       ·rw [if_neg c89] at H
        have c89b0 : decide (t227 < 0) = false := decide_eq_false c89
        clear c89
        (first | rw [c89b0] | (simp only [i64_w, i32_w]; rw [c89b0]) | skip)
        replace H := Option.bind_eq_some_iff.mp H
        obtain ⟨t229, A900, H⟩ := H
        (try dsimp only at H)
        have A90 := Aside0.mk A900
        clear A900
        by_cases c91 : t229 = true
        ·subst c91
         rw [if_pos rfl] at H
         have H' := Aside0.mk H
         clear H
         have hnb92 := NB220_189.out
         have hnc92 := NB189_220.out
         have hnb93 := NB220_190.out
         have hnc93 := NB190_220.out
         have hnb94 := NB220_205.out
         have hnc94 := NB205_220.out
         have hnb95 := NB220_210.out
         have hnc95 := NB210_220.out
         have hcz96_0 : w88.cell? ⟨gb220, 0, none⟩ = some (.int .i64 t215) := (blk_cell BK220.out 0).trans rfl
         have hcz96_1 : w88.cell? ⟨gb220, 1, none⟩ = some (.slice Ao49 t216.length co49) := (blk_cell BK220.out 1).trans rfl
         have hfz96_0 := blk_frozen BK220.out 0
         have hfz96_1 := blk_frozen BK220.out 1
         have hnb97 := NB205_189.out
         have hnc97 := NB189_205.out
         have hnb98 := NB205_190.out
         have hnc98 := NB190_205.out
         have hnb99 := NB205_210.out
         have hnc99 := NB210_205.out
         have hcz100_0 : w88.cell? ⟨gb205, 0, none⟩ = some (.int .i64 t200) := (blk_cell BK205.out 0).trans rfl
         have hcz100_1 : w88.cell? ⟨gb205, 1, none⟩ = some (.slice Ao31 t201.length co31) := (blk_cell BK205.out 1).trans rfl
         have hfz100_0 := blk_frozen BK205.out 0
         have hfz100_1 := blk_frozen BK205.out 1
         go_wp2_with (first | (go_at_call 24; (with_reducible refine (laws_eqOutEnd.calls kj16 t215 _ _ t216 t200 _ _ t201 true _ ?side1 ?side2 ?side3 ?side4 A90.out).mono ?_); (case side1 => repeat (first | exact (Kd.R_reads' HO_221001.out).2.2 | (with_reducible refine Kd.C_alloc ?_ _) | (with_reducible refine Kd.C_drewN ?_ _) | (with_reducible refine Kd.C_drew ?_))); (case side2 => exact (Kd.R_reads' HO_221001.out).2.1); (case side3 => repeat (first | exact (Kd.R_reads' HO_206001.out).2.2 | (with_reducible refine Kd.C_alloc ?_ _) | (with_reducible refine Kd.C_drewN ?_ _) | (with_reducible refine Kd.C_drew ?_))); (case side4 => exact (Kd.R_reads' HO_206001.out).2.1); rintro e w101 ⟨rfl, hb⟩; have n0_ := Aside0.mk (Kd.R_below (rq HO_206001.out) hb); have n1_ := Aside0.mk (Kd.R_below (rq HO_211001.out) hb); have n2_ := Aside0.mk (Kd.R_below (rq HO_221001.out) hb); have n3_ := Aside0.mk (Kd.R_below (rq HO225.out) hb); have n4_ := Aside0.mk (blk_below (bq BK189.out) hb); have n5_ := Aside0.mk (blk_below (bq BK190.out) hb); have n6_ := Aside0.mk (blk_below (bq BK205.out) hb); have n7_ := Aside0.mk (blk_below (bq BK210.out) hb); have n8_ := Aside0.mk (blk_below (bq BK220.out) hb); have n9_ := Aside0.mk (below_step (lq HB.out) hb); clear HO_206001; clear HO_211001; clear HO_221001; clear HO225; clear BK189; clear BK190; clear BK205; clear BK210; clear BK220; clear HB; have HO_206001 := n0_; have HO_211001 := n1_; have HO_221001 := n2_; have HO225 := n3_; have BK189 := n4_; have BK190 := n5_; have BK205 := n6_; have BK210 := n7_; have BK220 := n8_; have HB := n9_; clear n0_ n1_ n2_ n3_ n4_ n5_ n6_ n7_ n8_ n9_; (try clear hb); (try clear hb2); (try clear hk); (try clear hi)))
         go_meet
         case rel => exact ⟨_, ((t219 != t204)), (by first | rfl | (simp; done) | (simp [*]; done)), H', ⟨by have := HJ16.out; first | omega | exact Nat.le_refl _⟩, ⟨by (with_reducible repeat (first | apply Kd.R_alloc | apply Kd.R_drewN | apply Kd.R_drew)); exact Kd.R_mono HO_206001.out (fun _ hk => ⟨hk.1, hk.2.1⟩)⟩, ⟨by (with_reducible repeat (first | apply Kd.R_alloc | apply Kd.R_drewN | apply Kd.R_drew)); exact Kd.R_mono HO_211001.out (fun _ hk => ⟨hk.1.1, hk.1.2⟩)⟩, ⟨by (with_reducible repeat (first | apply Kd.R_alloc | apply Kd.R_drewN | apply Kd.R_drew)); exact Kd.R_mono HO_221001.out (fun _ hk => ⟨hk.1, hk.2.1⟩)⟩, ⟨by (with_reducible repeat (first | refine blk_drewN ?_ _ | refine blk_drew ?_ | refine blk_alloc ?_ _)); exact BK189.out⟩, ⟨by (with_reducible repeat (first | refine blk_drewN ?_ _ | refine blk_drew ?_ | refine blk_alloc ?_ _)); exact BK190.out⟩, ⟨by (with_reducible repeat (first | refine blk_drewN ?_ _ | refine blk_drew ?_ | refine blk_alloc ?_ _)); exact BK205.out⟩, ⟨by (with_reducible repeat (first | refine blk_drewN ?_ _ | refine blk_drew ?_ | refine blk_alloc ?_ _)); exact BK210.out⟩, ⟨by (with_reducible repeat (first | refine blk_drewN ?_ _ | refine blk_drew ?_ | refine blk_alloc ?_ _)); exact BK220.out⟩, ⟨by exact lq HB.out⟩⟩
        ·replace c91 := Bool.eq_false_iff.mpr c91
         subst c91
         rw [if_neg (show ¬ (false = true) by decide)] at H
         have H' := Aside0.mk H
         clear H
         have hnb102 := NB220_189.out
         have hnc102 := NB189_220.out
         have hnb103 := NB220_190.out
         have hnc103 := NB190_220.out
         have hnb104 := NB220_205.out
         have hnc104 := NB205_220.out
         have hnb105 := NB220_210.out
         have hnc105 := NB210_220.out
         have hcz106_0 : w88.cell? ⟨gb220, 0, none⟩ = some (.int .i64 t215) := (blk_cell BK220.out 0).trans rfl
         have hcz106_1 : w88.cell? ⟨gb220, 1, none⟩ = some (.slice Ao49 t216.length co49) := (blk_cell BK220.out 1).trans rfl
         have hfz106_0 := blk_frozen BK220.out 0
         have hfz106_1 := blk_frozen BK220.out 1
         have hnb107 := NB205_189.out
         have hnc107 := NB189_205.out
         have hnb108 := NB205_190.out
         have hnc108 := NB190_205.out
         have hnb109 := NB205_210.out
         have hnc109 := NB210_205.out
         have hcz110_0 : w88.cell? ⟨gb205, 0, none⟩ = some (.int .i64 t200) := (blk_cell BK205.out 0).trans rfl
         have hcz110_1 : w88.cell? ⟨gb205, 1, none⟩ = some (.slice Ao31 t201.length co31) := (blk_cell BK205.out 1).trans rfl
         have hfz110_0 := blk_frozen BK205.out 0
         have hfz110_1 := blk_frozen BK205.out 1
         go_wp2_with (first | (go_at_call 24; (with_reducible refine (laws_eqOutEnd.calls kj16 t215 _ _ t216 t200 _ _ t201 false _ ?side1 ?side2 ?side3 ?side4 A90.out).mono ?_); (case side1 => repeat (first | exact (Kd.R_reads' HO_221001.out).2.2 | (with_reducible refine Kd.C_alloc ?_ _) | (with_reducible refine Kd.C_drewN ?_ _) | (with_reducible refine Kd.C_drew ?_))); (case side2 => exact (Kd.R_reads' HO_221001.out).2.1); (case side3 => repeat (first | exact (Kd.R_reads' HO_206001.out).2.2 | (with_reducible refine Kd.C_alloc ?_ _) | (with_reducible refine Kd.C_drewN ?_ _) | (with_reducible refine Kd.C_drew ?_))); (case side4 => exact (Kd.R_reads' HO_206001.out).2.1); rintro e w111 ⟨rfl, hb⟩; have n0_ := Aside0.mk (Kd.R_below (rq HO_206001.out) hb); have n1_ := Aside0.mk (Kd.R_below (rq HO_211001.out) hb); have n2_ := Aside0.mk (Kd.R_below (rq HO_221001.out) hb); have n3_ := Aside0.mk (Kd.R_below (rq HO225.out) hb); have n4_ := Aside0.mk (blk_below (bq BK189.out) hb); have n5_ := Aside0.mk (blk_below (bq BK190.out) hb); have n6_ := Aside0.mk (blk_below (bq BK205.out) hb); have n7_ := Aside0.mk (blk_below (bq BK210.out) hb); have n8_ := Aside0.mk (blk_below (bq BK220.out) hb); have n9_ := Aside0.mk (below_step (lq HB.out) hb); clear HO_206001; clear HO_211001; clear HO_221001; clear HO225; clear BK189; clear BK190; clear BK205; clear BK210; clear BK220; clear HB; have HO_206001 := n0_; have HO_211001 := n1_; have HO_221001 := n2_; have HO225 := n3_; have BK189 := n4_; have BK190 := n5_; have BK205 := n6_; have BK210 := n7_; have BK220 := n8_; have HB := n9_; clear n0_ n1_ n2_ n3_ n4_ n5_ n6_ n7_ n8_ n9_; (try clear hb); (try clear hb2); (try clear hk); (try clear hi)))
         go_meet
         case rel => exact ⟨_, (true), (by first | rfl | (simp; done) | (simp [*]; done)), H', ⟨by have := HJ16.out; first | omega | exact Nat.le_refl _⟩, ⟨by (with_reducible repeat (first | apply Kd.R_alloc | apply Kd.R_drewN | apply Kd.R_drew)); exact Kd.R_mono HO_206001.out (fun _ hk => ⟨hk.1, hk.2.1⟩)⟩, ⟨by (with_reducible repeat (first | apply Kd.R_alloc | apply Kd.R_drewN | apply Kd.R_drew)); exact Kd.R_mono HO_211001.out (fun _ hk => ⟨hk.1.1, hk.1.2⟩)⟩, ⟨by (with_reducible repeat (first | apply Kd.R_alloc | apply Kd.R_drewN | apply Kd.R_drew)); exact Kd.R_mono HO_221001.out (fun _ hk => ⟨hk.1, hk.2.1⟩)⟩, ⟨by (with_reducible repeat (first | refine blk_drewN ?_ _ | refine blk_drew ?_ | refine blk_alloc ?_ _)); exact BK189.out⟩, ⟨by (with_reducible repeat (first | refine blk_drewN ?_ _ | refine blk_drew ?_ | refine blk_alloc ?_ _)); exact BK190.out⟩, ⟨by (with_reducible repeat (first | refine blk_drewN ?_ _ | refine blk_drew ?_ | refine blk_alloc ?_ _)); exact BK205.out⟩, ⟨by (with_reducible repeat (first | refine blk_drewN ?_ _ | refine blk_drew ?_ | refine blk_alloc ?_ _)); exact BK210.out⟩, ⟨by (with_reducible repeat (first | refine blk_drewN ?_ _ | refine blk_drew ?_ | refine blk_alloc ?_ _)); exact BK220.out⟩, ⟨by exact lq HB.out⟩⟩
      case rest =>
       clear HC78
       try clear c1
       try clear c2
       try clear p2
       try clear c3
       try clear c5
       try clear c6
       try clear c7
       try clear c8
       try clear c9
       try clear c10
       try clear c16
       try clear c22
       try clear c24
       try clear c29
       try clear c36
       try clear c52
       try clear c53
       try clear c54
       try clear c55
       try clear c56
       try clear c58
       try clear c59
       try clear c60
       try clear c63
       try clear c64
       try clear c65
       try clear c66
       try clear c68
       try clear c69
       try clear c70
       try clear c73
       try clear c76
       try clear c83
       try clear c84
       try clear c85
       try clear c86
       try clear c89
       try clear c89b0
       try clear c91
       try clear c92
       try clear c93
       try clear c94
       try clear c95
       try clear c97
       try clear c98
       try clear c99
       try clear c102
       try clear c103
       try clear c104
       try clear c105
       try clear c107
       try clear c108
       try clear c109
       try clear hcz100_0
       try clear hcz100_1
       try clear hcz106_0
       try clear hcz106_1
       try clear hcz110_0
       try clear hcz110_1
       try clear hcz57_0
       try clear hcz57_1
       try clear hcz61_0
       try clear hcz61_1
       try clear hcz67_0
       try clear hcz67_1
       try clear hcz71_0
       try clear hcz71_1
       try clear hcz87_0
       try clear hcz87_1
       try clear hcz96_0
       try clear hcz96_1
       try clear hfz100_0
       try clear hfz100_1
       try clear hfz106_0
       try clear hfz106_1
       try clear hfz110_0
       try clear hfz110_1
       try clear hfz57_0
       try clear hfz57_1
       try clear hfz61_0
       try clear hfz61_1
       try clear hfz67_0
       try clear hfz67_1
       try clear hfz71_0
       try clear hfz71_1
       try clear hfz87_0
       try clear hfz87_1
       try clear hfz96_0
       try clear hfz96_1
       try clear p2
       obtain ⟨kq, x71_77, rfl, HA, HJ77, HO_206001, HO_211001, HO_221001, BK189, BK190, BK205, BK210, BK220, HB⟩ := hcut
       have hl211001_77 := (Kd.R_reads' HO_211001.out).1
       rw [hl211001_77] at HO_211001
       (try simp only [hl211001_77])
       (try simp only [hl211001_77] at BK189)
       (try simp only [hl211001_77] at BK190)
       (try simp only [hl211001_77] at BK205)
       (try simp only [hl211001_77] at BK210)
       (try simp only [hl211001_77] at BK220)
       (try simp only [hl211001_77] at HO_206001)
       (try simp only [hl211001_77] at HO_221001)
       cases kq with
       | zero => exact absurd HA.out (by simp [laws_FnExactSendOn.j1])
       | succ kj77 =>
        have H := HA.out
        clear HA
        simp only [laws_FnExactSendOn.j1] at H
        by_cases c112 : x71_77 = true
        ·subst c112
         rw [if_pos rfl] at H
         exact absurd H (by simp)
        ·replace c112 := Bool.eq_false_iff.mpr c112
         subst c112
         rw [if_neg (show ¬ (false = true) by decide)] at H
         replace H := Option.bind_eq_some_iff.mp H
         obtain ⟨⟨t230, t231⟩, A1130, H⟩ := H
         (try dsimp only at H)
         have A113 := Aside0.mk A1130
         clear A1130
         replace H := Option.bind_eq_some_iff.mp H
         obtain ⟨t232, A1140, H⟩ := H
         (try dsimp only at H)
         have A114 := Aside0.mk A1140
         clear A1140
         by_cases c115 : t232 < 0
         ·rw [if_pos c115] at H
          have c115b0 : decide (t232 < 0) = true := decide_eq_true c115
          clear c115
          exact absurd H (by simp)
         ·rw [if_neg c115] at H
          have c115b0 : decide (t232 < 0) = false := decide_eq_false c115
          clear c115
          by_cases c116 : t232 = t230
          ·rw [if_pos c116] at H
           have c116b0 : (t232 == t230) = true := beq_iff_eq.mpr c116
           have c116b1 : (t232 != t230) = false := bne_eq_false_iff_eq.mpr c116
           clear c116
           replace H := Option.bind_eq_some_iff.mp H
           obtain ⟨⟨t233, t234, t235, t236⟩, A1170, H⟩ := H
           (try dsimp only at H)
           have A117 := Aside0.mk A1170
           clear A1170
           replace H := Option.bind_eq_some_iff.mp H
           obtain ⟨⟨t237, t238⟩, A1180, H⟩ := H
           (try dsimp only at H)
           have A118 := Aside0.mk A1180
           clear A1180
           replace H := Option.bind_eq_some_iff.mp H
           obtain ⟨⟨t241, t242, t245⟩, A1190, H⟩ := H
           (try dsimp only at H)
           have A119 := Aside0.mk A1190
           clear A1190
           have HC120 := Aside0.mk H
           clear H
           have hnb121 := NB220_189.out
           have hnc121 := NB189_220.out
           have hnb122 := NB220_190.out
           have hnc122 := NB190_220.out
           have hnb123 := NB220_205.out
           have hnc123 := NB205_220.out
           have hnb124 := NB220_210.out
           have hnc124 := NB210_220.out
           have hcz125_0 : wc.cell? ⟨gb220, 0, none⟩ = some (.int .i64 t215) := (blk_cell BK220.out 0).trans rfl
           have hcz125_1 : wc.cell? ⟨gb220, 1, none⟩ = some (.slice Ao49 t216.length co49) := (blk_cell BK220.out 1).trans rfl
           have hfz125_0 := blk_frozen BK220.out 0
           have hfz125_1 := blk_frozen BK220.out 1
           try go_wp2_with (first | ((with_reducible refine gate_callee (f := 29) rfl ?_); refine goesL_ (some 74) rfl rfl Try.func29 (by kernel_rfl) rfl #[.agg #[.int .i64 t215, .slice Ao49 t216.length co49], .int .i64 1] rfl (by (try simp only [List.map_toArray, List.map_cons, List.map_nil]); first | done | rfl | (simp only [List.length_drop, List.length_take]; rfl)) ?_; (with_reducible refine (laws_markOutEnd.calls kj77 t215 (fun k_ => some k_ = (.slice Ao49 t216.length co49 : Value).ownBlock) (.slice Ao49 t216.length co49) t216 1 t230 t231 w _ ?side1 ?side2 A113.out).mono ?_); (case side1 => exact lq HB.out); (case side2 => exact Kd.R_tight rfl HO_221001.out); rintro e w126 ⟨rfl, hy0, hb, hkp⟩; refine ⟨_, rfl, ?_⟩; have n0_ := Aside0.mk (Kd.R_mono (ok' := fun k_ => some k_ ≠ (.slice Ao41 t228.length co41 : Value).ownBlock ∧ some k_ ≠ (.slice Ao49 t216.length co49 : Value).ownBlock) (Kd.R_keptB (HO_206001.out) hkp (fun k_ hk_ hs_ => (hk_.2) hs_)) (fun k_ hk_ => ⟨hk_.1.1, hk_.1.2⟩)); have n1_ := Aside0.mk (Kd.R_mono (ok' := fun k_ => some k_ ≠ (.slice Ao31 t201.length co31 : Value).ownBlock ∧ some k_ ≠ (.slice Ao49 t216.length co49 : Value).ownBlock) (Kd.R_keptB (HO_211001.out) hkp (fun k_ hk_ hs_ => (hk_.2) hs_)) (fun k_ hk_ => ⟨hk_.1.1, hk_.1.2⟩)); have n2_ := Aside0.mk (Kd.R_reok rfl hy0 (fun k_ e_ => HO_221001.out.1 k_ e_)); have n3_ := Aside0.mk (blk_kept (bq BK189.out) hkp (fun hs_ => (fun e_ => (Kd.R_ne HO_221001.out BK189.out (by decide)) e_) hs_)); have n4_ := Aside0.mk (blk_kept (bq BK190.out) hkp (fun hs_ => (fun e_ => (Kd.R_ne HO_221001.out BK190.out (by decide)) e_) hs_)); have n5_ := Aside0.mk (blk_kept (bq BK205.out) hkp (fun hs_ => (fun e_ => (Kd.R_ne HO_221001.out BK205.out (by decide)) e_) hs_)); have n6_ := Aside0.mk (blk_kept (bq BK210.out) hkp (fun hs_ => (fun e_ => (Kd.R_ne HO_221001.out BK210.out (by decide)) e_) hs_)); have n7_ := Aside0.mk (blk_kept (bq BK220.out) hkp (fun hs_ => (fun e_ => (Kd.R_ne HO_221001.out BK220.out (by decide)) e_) hs_)); have n8_ := Aside0.mk (hb); clear HO_206001; clear HO_211001; clear HO_221001; clear BK189; clear BK190; clear BK205; clear BK210; clear BK220; clear HB; have HO_206001 := n0_; have HO_211001 := n1_; have HO_221001 := n2_; have BK189 := n3_; have BK190 := n4_; have BK205 := n5_; have BK210 := n6_; have BK220 := n7_; have HB := n8_; clear n0_ n1_ n2_ n3_ n4_ n5_ n6_ n7_ n8_; (try clear hb); (try clear hkp); (try clear hy0); have hcz127_0 : w126.cell? ⟨gb220, 0, none⟩ = some (.int .i64 t215) := (blk_cell BK220.out 0).trans rfl; have hcz127_1 : w126.cell? ⟨gb220, 1, none⟩ = some (.slice Ao49 t216.length co49) := (blk_cell BK220.out 1).trans rfl; have hfz127_0 := blk_frozen BK220.out 0; have hfz127_1 := blk_frozen BK220.out 1) | ((with_reducible refine gate_callee (f := 30) rfl ?_); refine goesL_ (some 77) rfl rfl Try.func30 (by kernel_rfl) rfl #[.agg #[.int .i64 t215, .slice Ao49 t231.length co49], .int .i64 1] rfl (by (try simp only [List.map_toArray, List.map_cons, List.map_nil]); first | done | (rw [show t231.length = t216.length from (Kd.R_reads' HO_221001.out).1.symm] <;> rfl) | rfl | (simp only [List.length_drop, List.length_take]; rfl)) ?_; (with_reducible refine (laws_heldOutEnd.calls kj77 t215 _ _ t231 1 t232 _ ?side1 ?side2 A114.out).mono ?_); (case side1 => repeat (first | exact (Kd.R_reads' HO_221001.out).2.2 | (with_reducible refine Kd.C_alloc ?_ _) | (with_reducible refine Kd.C_drewN ?_ _) | (with_reducible refine Kd.C_drew ?_))); (case side2 => rw [show t231.length = t216.length from (Kd.R_reads' HO_221001.out).1.symm]; exact (Kd.R_reads' HO_221001.out).2.1); rintro e w128 ⟨rfl, hb⟩; refine ⟨_, rfl, ?_⟩; have n0_ := Aside0.mk (Kd.R_below (rq HO_206001.out) hb); have n1_ := Aside0.mk (Kd.R_below (rq HO_211001.out) hb); have n2_ := Aside0.mk (Kd.R_below (rq HO_221001.out) hb); have n3_ := Aside0.mk (blk_below (bq BK189.out) hb); have n4_ := Aside0.mk (blk_below (bq BK190.out) hb); have n5_ := Aside0.mk (blk_below (bq BK205.out) hb); have n6_ := Aside0.mk (blk_below (bq BK210.out) hb); have n7_ := Aside0.mk (blk_below (bq BK220.out) hb); have n8_ := Aside0.mk (below_step (lq HB.out) hb); clear HO_206001; clear HO_211001; clear HO_221001; clear BK189; clear BK190; clear BK205; clear BK210; clear BK220; clear HB; have HO_206001 := n0_; have HO_211001 := n1_; have HO_221001 := n2_; have BK189 := n3_; have BK190 := n4_; have BK205 := n5_; have BK210 := n6_; have BK220 := n7_; have HB := n8_; clear n0_ n1_ n2_ n3_ n4_ n5_ n6_ n7_ n8_; (try clear hb); (try clear hb2); (try clear hk); (try clear hi)))
           have n0_ := Aside0.mk (Kd.R_drew HO_206001.out)
           have n1_ := Aside0.mk (Kd.R_drew HO_211001.out)
           have n2_ := Aside0.mk (Kd.R_drew HO_221001.out)
           have n3_ := Aside0.mk (blk_drew BK189.out)
           have n4_ := Aside0.mk (blk_drew BK190.out)
           have n5_ := Aside0.mk (blk_drew BK205.out)
           have n6_ := Aside0.mk (blk_drew BK210.out)
           have n7_ := Aside0.mk (blk_drew BK220.out)
           have n8_ := Aside0.mk (below_drew1 HB.out)
           clear HO_206001
           clear HO_211001
           clear HO_221001
           clear BK189
           clear BK190
           clear BK205
           clear BK210
           clear BK220
           clear HB
           have HO_206001 := n0_
           have HO_211001 := n1_
           have HO_221001 := n2_
           have BK189 := n3_
           have BK190 := n4_
           have BK205 := n5_
           have BK210 := n6_
           have BK220 := n7_
           have HB := n8_
           clear n0_ n1_ n2_ n3_ n4_ n5_ n6_ n7_ n8_
           refine start_ (n := 12) (S := fun w' => w'.cell? ⟨gb189, 0, none⟩ = some (.int .i64 a0_0) ∧ w'.cell? ⟨gb189, 1, none⟩ = some (.int .i64 a0_1) ∧ w'.cell? ⟨gb189, 2, none⟩ = some (.int .i64 a0_2) ∧ w'.cell? ⟨gb189, 3, none⟩ = some (.int .i64 a0_3) ∧ w'.cell? ⟨gb190, 0, none⟩ = some (.int .i64 a1_0) ∧ w'.cell? ⟨gb190, 1, none⟩ = some (.slice A1_1 l1_1.length c1_1)) (ds := []) #[false, false, false, false, false, false, false, false, false, false, false, false] (by kernel_rfl) rfl rfl ⟨(blk_cell BK189.out 0).trans rfl, (blk_cell BK189.out 1).trans rfl, (blk_cell BK189.out 2).trans rfl, (blk_cell BK189.out 3).trans rfl, (blk_cell BK190.out 0).trans rfl, (blk_cell BK190.out 1).trans rfl⟩ (fun hHeld => ?_); refine with_tabW laws_FnExactSendOn.tab24 laws_FnExactSendOn.bits24 (fun HT_ HW_ => ?_)
           generalize w128.drew = w129 at HO_206001 HO_211001 HO_221001 BK189 BK190 BK205 BK210 BK220 HB hHeld ⊢
           refine pure_ (i := 4) (N := some 88) (v := ?_) (a' := ?_) #[false, false, false, false, true, false, false, false, false, false, false, false] rfl rfl (any_of HT_.out (by kernel_rfl)) (fun _ _ _ h => h) (Or.inl ⟨by rfl, ?_⟩) ?_ ?_
           rotate_left
           ·intro w'
            go_simp
            with_reducible rfl
           rotate_left
           ·simp only [Act.put, List.setIfInBounds_toArray, List.set_cons_zero, List.set_cons_succ, i64_w, i32_w]
            rfl
           refine take_ (i := 0) (N := some 84) (v := ?_) (a' := ?_) #[true, false, false, false, true, false, false, false, false, false, false, false] rfl rfl (take_ofW HT_.out HW_.out (by kernel_rfl)) (fun _ _ _ h => h) (Or.inl ⟨by rfl, ?_⟩) hHeld ?_ ?_
           rotate_left
           ·rintro w' ⟨s0, s1, s2, s3, s4, s5⟩
            go_simp
            with_reducible rfl
           rotate_left
           ·simp only [Act.put, List.setIfInBounds_toArray, List.set_cons_zero, List.set_cons_succ, i64_w, i32_w]
            rfl
           refine take_ (i := 2) (N := some 86) (v := ?_) (a' := ?_) #[true, false, true, false, true, false, false, false, false, false, false, false] rfl rfl (take_ofW HT_.out HW_.out (by kernel_rfl)) (fun _ _ _ h => h) (Or.inl ⟨by rfl, ?_⟩) hHeld ?_ ?_
           rotate_left
           ·rintro w' ⟨s0, s1, s2, s3, s4, s5⟩
            go_simp
            with_reducible rfl
           rotate_left
           ·simp only [Act.put, List.setIfInBounds_toArray, List.set_cons_zero, List.set_cons_succ, i64_w, i32_w]
            rfl
           refine join_ (σ := Value × Value × Nat) 2 #[true, true, true, true, true, true, true, true, true, true, false, false] (fun s_ => [(85, .agg #[.int .i64 t233, .int .i64 t234, .int .i64 t235, .int .i64 t236]), (87, .agg #[.int .i64 t237, s_.1]), (89, .tuple #[.agg #[.int .i64 t241, s_.2.1], .int .i64 t245]), (16, .pointer (some ⟨s_.2.2, 0, none⟩)), (83, .tuple #[.agg #[.int .i64 t241, s_.2.1], .int .i64 t245]), (90, .agg #[.int .i64 t241, s_.2.1]), (91, .int .i64 t245)]) (fun s_ w' => (w'.cell? ⟨gb189, 0, none⟩ = some (.int .i64 a0_0) ∧ w'.cell? ⟨gb189, 1, none⟩ = some (.int .i64 a0_1) ∧ w'.cell? ⟨gb189, 2, none⟩ = some (.int .i64 a0_2) ∧ w'.cell? ⟨gb189, 3, none⟩ = some (.int .i64 a0_3) ∧ w'.cell? ⟨gb190, 0, none⟩ = some (.int .i64 a1_0) ∧ w'.cell? ⟨gb190, 1, none⟩ = some (.slice A1_1 l1_1.length c1_1)) ∧ (Kd.R (Kd.int .u32) 46 w' w.heap.size (fun k_ => some k_ ≠ (s_.2.1 : Value).ownBlock ∧ some k_ ≠ (.slice Ao31 t201.length co31 : Value).ownBlock ∧ some k_ ≠ (.slice Ao41 t228.length co41 : Value).ownBlock ∧ some k_ ≠ (.slice Ao49 t216.length co49 : Value).ownBlock) s_.1 t238) ∧ (Kd.R (Kd.int .u32) 46 w' w.heap.size (fun k_ => some k_ ≠ (s_.1 : Value).ownBlock ∧ some k_ ≠ (.slice Ao31 t201.length co31 : Value).ownBlock ∧ some k_ ≠ (.slice Ao41 t228.length co41 : Value).ownBlock ∧ some k_ ≠ (.slice Ao49 t216.length co49 : Value).ownBlock) s_.2.1 t242) ∧ (Kd.R (Kd.int .u32) 46 w' w.heap.size (fun k_ => some k_ ≠ (s_.1 : Value).ownBlock ∧ some k_ ≠ (s_.2.1 : Value).ownBlock ∧ some k_ ≠ (.slice Ao41 t228.length co41 : Value).ownBlock ∧ some k_ ≠ (.slice Ao49 t216.length co49 : Value).ownBlock) (.slice Ao31 t201.length co31) t201) ∧ (Kd.R (Kd.int .u32) 46 w' w.heap.size (fun k_ => some k_ ≠ (s_.1 : Value).ownBlock ∧ some k_ ≠ (s_.2.1 : Value).ownBlock ∧ some k_ ≠ (.slice Ao31 t201.length co31 : Value).ownBlock ∧ some k_ ≠ (.slice Ao49 t216.length co49 : Value).ownBlock) (.slice Ao41 t228.length co41) t228) ∧ (Kd.R (Kd.int .u32) 46 w' w.heap.size (fun k_ => some k_ ≠ (s_.1 : Value).ownBlock ∧ some k_ ≠ (s_.2.1 : Value).ownBlock ∧ some k_ ≠ (.slice Ao31 t201.length co31 : Value).ownBlock ∧ some k_ ≠ (.slice Ao41 t228.length co41 : Value).ownBlock) (.slice Ao49 t216.length co49) t231) ∧ (w'.heap[gb189]? = some (.cells #[.int .i64 a0_0, .int .i64 a0_1, .int .i64 a0_2, .int .i64 a0_3] 23 (0, 0))) ∧ (w'.heap[gb190]? = some (.cells #[.int .i64 a1_0, .slice A1_1 l1_1.length c1_1] 36 (0, 0))) ∧ (w'.heap[gb205]? = some (.cells #[.int .i64 t200, .slice Ao31 t201.length co31] 39 (0, 0))) ∧ (w'.heap[gb210]? = some (.cells #[.int .i64 t206, .slice Ao41 t228.length co41] 39 (0, 0))) ∧ (w'.heap[gb220]? = some (.cells #[.int .i64 t215, .slice Ao49 t216.length co49] 39 (0, 0))) ∧ (w'.heap[s_.2.2]? = some (.cells #[.int .i64 0, .slice none 0 0] 39 (0, 0))) ∧ (w.heap.size ≤ s_.2.2) ∧ (w.heap.size ≤ s_.2.2) ∧ (gb189 ≠ s_.2.2) ∧ (s_.2.2 ≠ gb189) ∧ (gb190 ≠ s_.2.2) ∧ (s_.2.2 ≠ gb190) ∧ (gb205 ≠ s_.2.2) ∧ (s_.2.2 ≠ gb205) ∧ (gb210 ≠ s_.2.2) ∧ (s_.2.2 ≠ gb210) ∧ (gb220 ≠ s_.2.2) ∧ (s_.2.2 ≠ gb220) ∧ (Below w.heap.size w w')) ?_ ?_
           rotate_left
           ·intro hCont
            refine two_ (i := 1) (j := 9) (Ni := some 85) (Nj := some 16) #[true, true, true, false, true, false, false, false, false, false, false, false] #[true, false, true, false, true, false, false, false, false, true, false, false] rfl rfl rfl rfl (two_of HT_.out (by kernel_rfl)) (by decide) (by decide) (fun K hK => ?_) (fun K hK => ?_)
            ·skip
             refine goes_ Try.func16 (by kernel_rfl) rfl #[.agg #[.int .i64 a0_0, .int .i64 a0_1, .int .i64 a0_2, .int .i64 a0_3]] (by rfl) rfl rfl (by (try simp only [List.map_toArray, List.map_cons, List.map_nil]); first | done | rfl | (simp only [List.length_drop, List.length_take]; rfl)) ?_
             with_reducible refine (laws_toChanRow.calls a0_0 a0_1 a0_2 a0_3 t233 t234 t235 t236 _ A117.out).mono ?_
             rintro e w130 ⟨rfl, hb⟩
             refine ⟨_, rfl, ?_⟩
             have n0_ := Aside0.mk (Kd.R_below (rq HO_206001.out) hb)
             have n1_ := Aside0.mk (Kd.R_below (rq HO_211001.out) hb)
             have n2_ := Aside0.mk (Kd.R_below (rq HO_221001.out) hb)
             have n3_ := Aside0.mk (blk_below (bq BK189.out) hb)
             have n4_ := Aside0.mk (blk_below (bq BK190.out) hb)
             have n5_ := Aside0.mk (blk_below (bq BK205.out) hb)
             have n6_ := Aside0.mk (blk_below (bq BK210.out) hb)
             have n7_ := Aside0.mk (blk_below (bq BK220.out) hb)
             have n8_ := Aside0.mk (below_step (lq HB.out) hb)
             clear HO_206001
             clear HO_211001
             clear HO_221001
             clear BK189
             clear BK190
             clear BK205
             clear BK210
             clear BK220
             clear HB
             have HO_206001 := n0_
             have HO_211001 := n1_
             have HO_221001 := n2_
             have BK189 := n3_
             have BK190 := n4_
             have BK205 := n5_
             have BK210 := n6_
             have BK220 := n7_
             have HB := n8_
             clear n0_ n1_ n2_ n3_ n4_ n5_ n6_ n7_ n8_
             (try clear hb)
             (try clear hb2)
             (try clear hk)
             (try clear hi)
             refine hK.out _ _ ⟨(blk_cell BK189.out 0).trans rfl, (blk_cell BK189.out 1).trans rfl, (blk_cell BK189.out 2).trans rfl, (blk_cell BK189.out 3).trans rfl, (blk_cell BK190.out 0).trans rfl, (blk_cell BK190.out 1).trans rfl⟩ (fun hHeld => ?_)
             clear hK K
             refine norm_ (a' := ?_) ?_ ?_
             rotate_left
             ·show Act.put _ (some 85) _ = _
              simp only [Act.put, List.setIfInBounds_toArray, List.set_cons_zero, List.set_cons_succ, i64_w, i32_w]
              rfl
             refine two_ (i := 3) (j := 9) (Ni := some 87) (Nj := some 16) #[true, true, true, true, true, false, false, false, false, false, false, false] #[true, true, true, false, true, false, false, false, false, true, false, false] rfl rfl rfl rfl (two_of HT_.out (by kernel_rfl)) (by decide) (by decide) (fun K hK => ?_) (fun K hK => ?_)
             ·skip
              refine goes_ Try.func22 (by kernel_rfl) rfl #[.agg #[.int .i64 a1_0, .slice A1_1 l1_1.length c1_1]] (by rfl) rfl rfl (by (try simp only [List.map_toArray, List.map_cons, List.map_nil]); first | done | rfl | (simp only [List.length_drop, List.length_take]; rfl)) ?_
              with_reducible refine (laws_toOutEnd.calls kj77 a1_0 _ _ l1_1 t237 t238 _ ?side1 ?side2 A118.out).mono ?_
              (case side1 => repeat (first | exact (Kd.C_below HR1_1.out HB.out) | (with_reducible refine Kd.C_alloc ?_ _) | (with_reducible refine Kd.C_drewN ?_ _) | (with_reducible refine Kd.C_drew ?_)))
              (case side2 => exact HC1_1.out)
              rintro e w131 ⟨v239, rfl, ho0, hb⟩
              refine ⟨_, rfl, ?_⟩
              have n0_ := Aside0.mk (Kd.R_elder' (rq HO_206001.out) (Kd.R_base ho0) hb)
              have n1_ := Aside0.mk (Kd.R_elder' (rq HO_211001.out) (Kd.R_base ho0) hb)
              have n2_ := Aside0.mk (Kd.R_elder' (rq HO_221001.out) (Kd.R_base ho0) hb)
              have n3_ := Aside0.mk (Kd.R_lower (Kd.R_new' (Kd.R_new' (Kd.R_new' ho0 (Kd.R_lt (rq HO_206001.out))) (Kd.R_lt (rq HO_211001.out))) (Kd.R_lt (rq HO_221001.out))) (below_size (lq HB.out)))
              have n4_ := Aside0.mk (blk_below (bq BK189.out) hb)
              have n5_ := Aside0.mk (blk_below (bq BK190.out) hb)
              have n6_ := Aside0.mk (blk_below (bq BK205.out) hb)
              have n7_ := Aside0.mk (blk_below (bq BK210.out) hb)
              have n8_ := Aside0.mk (blk_below (bq BK220.out) hb)
              have n9_ := Aside0.mk (below_step (lq HB.out) hb)
              clear HO_206001
              clear HO_211001
              clear HO_221001
              clear BK189
              clear BK190
              clear BK205
              clear BK210
              clear BK220
              clear HB
              have HO_206001 := n0_
              have HO_211001 := n1_
              have HO_221001 := n2_
              have HO240 := n3_
              have BK189 := n4_
              have BK190 := n5_
              have BK205 := n6_
              have BK210 := n7_
              have BK220 := n8_
              have HB := n9_
              clear n0_ n1_ n2_ n3_ n4_ n5_ n6_ n7_ n8_ n9_
              (try clear hb)
              (try clear hb2)
              (try clear hk)
              (try clear hi)
              (try clear ho0)
              obtain ⟨Ao132, co132, eo132⟩ := Kd.R_slice HO240.out
              (first | subst eo132 | (injection eo132 with f1_ f2_ f3_; have f4_ := f1_.symm; have f5_ := f3_.symm; clear f1_ f2_ f3_; subst f4_; subst f5_))
              refine hK.out _ _ ⟨(blk_cell BK189.out 0).trans rfl, (blk_cell BK189.out 1).trans rfl, (blk_cell BK189.out 2).trans rfl, (blk_cell BK189.out 3).trans rfl, (blk_cell BK190.out 0).trans rfl, (blk_cell BK190.out 1).trans rfl⟩ (fun hHeld => ?_)
              clear hK K
              refine norm_ (a' := ?_) ?_ ?_
              rotate_left
              ·show Act.put _ (some 87) _ = _
               simp only [Act.put, List.setIfInBounds_toArray, List.set_cons_zero, List.set_cons_succ, i64_w, i32_w]
               rfl
              refine two_ (i := 5) (j := 9) (Ni := some 89) (Nj := some 16) #[true, true, true, true, true, true, false, false, false, false, false, false] #[true, true, true, true, true, false, false, false, false, true, false, false] rfl rfl rfl rfl (two_of HT_.out (by kernel_rfl)) (by decide) (by decide) (fun K hK => ?_) (fun K hK => ?_)
              ·skip
               refine goes_ Try.func36 (by kernel_rfl) rfl #[.agg #[.int .i64 t233, .int .i64 t234, .int .i64 t235, .int .i64 t236], .agg #[.int .i64 t237, .slice Ao132 t238.length co132], .int .u32 a2] (by rfl) rfl rfl (by (try simp only [List.map_toArray, List.map_cons, List.map_nil]); first | done | rfl | (simp only [List.length_drop, List.length_take]; rfl)) ?_
               with_reducible refine (impl_SendOn.calls t233 t234 t235 t236 t237 _ _ t238 a2 t241 t242 t245 _ ?side1 ?side2 A119.out).mono ?_
               (case side1 => repeat (first | exact (Kd.R_reads' HO240.out).2.2 | (with_reducible refine Kd.C_alloc ?_ _) | (with_reducible refine Kd.C_drewN ?_ _) | (with_reducible refine Kd.C_drew ?_)))
               (case side2 => exact (Kd.R_reads' HO240.out).2.1)
               rintro e w133 ⟨v243, rfl, ho0, hb⟩
               refine ⟨_, rfl, ?_⟩
               have n0_ := Aside0.mk (Kd.R_elder' (rq HO_206001.out) (Kd.R_base ho0) hb)
               have n1_ := Aside0.mk (Kd.R_elder' (rq HO_211001.out) (Kd.R_base ho0) hb)
               have n2_ := Aside0.mk (Kd.R_elder' (rq HO_221001.out) (Kd.R_base ho0) hb)
               have n3_ := Aside0.mk (Kd.R_elder' (rq HO240.out) (Kd.R_base ho0) hb)
               have n4_ := Aside0.mk (Kd.R_lower (Kd.R_new' (Kd.R_new' (Kd.R_new' (Kd.R_new' ho0 (Kd.R_lt (rq HO_206001.out))) (Kd.R_lt (rq HO_211001.out))) (Kd.R_lt (rq HO_221001.out))) (Kd.R_lt (rq HO240.out))) (below_size (lq HB.out)))
               have n5_ := Aside0.mk (blk_below (bq BK189.out) hb)
               have n6_ := Aside0.mk (blk_below (bq BK190.out) hb)
               have n7_ := Aside0.mk (blk_below (bq BK205.out) hb)
               have n8_ := Aside0.mk (blk_below (bq BK210.out) hb)
               have n9_ := Aside0.mk (blk_below (bq BK220.out) hb)
               have n10_ := Aside0.mk (below_step (lq HB.out) hb)
               clear HO_206001
               clear HO_211001
               clear HO_221001
               clear HO240
               clear BK189
               clear BK190
               clear BK205
               clear BK210
               clear BK220
               clear HB
               have HO_206001 := n0_
               have HO_211001 := n1_
               have HO_221001 := n2_
               have HO240 := n3_
               have HO244 := n4_
               have BK189 := n5_
               have BK190 := n6_
               have BK205 := n7_
               have BK210 := n8_
               have BK220 := n9_
               have HB := n10_
               clear n0_ n1_ n2_ n3_ n4_ n5_ n6_ n7_ n8_ n9_ n10_
               (try clear hb)
               (try clear hb2)
               (try clear hk)
               (try clear hi)
               (try clear ho0)
               refine hK.out _ _ ⟨(blk_cell BK189.out 0).trans rfl, (blk_cell BK189.out 1).trans rfl, (blk_cell BK189.out 2).trans rfl, (blk_cell BK189.out 3).trans rfl, (blk_cell BK190.out 0).trans rfl, (blk_cell BK190.out 1).trans rfl⟩ (fun hHeld => ?_)
               clear hK K
               refine norm_ (a' := ?_) ?_ ?_
               rotate_left
               ·show Act.put _ (some 89) _ = _
                simp only [Act.put, List.setIfInBounds_toArray, List.set_cons_zero, List.set_cons_succ, i64_w, i32_w]
                rfl
               refine pure_ (i := 6) (N := some 83) (v := ?_) (a' := ?_) #[true, true, true, true, true, true, true, false, false, false, false, false] rfl rfl (any_of HT_.out (by kernel_rfl)) (fun _ _ _ h => h) (Or.inl ⟨by rfl, ?_⟩) ?_ ?_
               rotate_left
               ·intro w'
                go_simp
                with_reducible rfl
               rotate_left
               ·simp only [Act.put, List.setIfInBounds_toArray, List.set_cons_zero, List.set_cons_succ, i64_w, i32_w]
                rfl
               refine pure_ (i := 7) (N := some 90) (v := ?_) (a' := ?_) #[true, true, true, true, true, true, true, true, false, false, false, false] rfl rfl (any_of HT_.out (by kernel_rfl)) (fun _ _ _ h => h) (Or.inl ⟨by rfl, ?_⟩) ?_ ?_
               rotate_left
               ·intro w'
                go_simp
                with_reducible rfl
               rotate_left
               ·simp only [Act.put, List.setIfInBounds_toArray, List.set_cons_zero, List.set_cons_succ, i64_w, i32_w]
                rfl
               refine pure_ (i := 8) (N := some 91) (v := ?_) (a' := ?_) #[true, true, true, true, true, true, true, true, true, false, false, false] rfl rfl (any_of HT_.out (by kernel_rfl)) (fun _ _ _ h => h) (Or.inl ⟨by rfl, ?_⟩) ?_ ?_
               rotate_left
               ·intro w'
                go_simp
                with_reducible rfl
               rotate_left
               ·simp only [Act.put, List.setIfInBounds_toArray, List.set_cons_zero, List.set_cons_succ, i64_w, i32_w]
                rfl
               refine one_ (i := 9) (N := some 16) #[true, true, true, true, true, true, true, true, true, true, false, false] rfl rfl (one_of HT_.out (by kernel_rfl)) (by decide) (fun K hK => ?_)
               refine box_step ?hg (N := 16) ?hd (cs := #[.int .i64 0, .slice none 0 0]) (t := 39) ?hr ?_; (case hd => rfl); (case hg => rfl); (case hr => first | (go_simp; done) | (go_simp; rfl))
               intro gb246 hg w134 hbox hb
               have n0_ := Aside0.mk (Kd.R_below (rq HO_206001.out) hb)
               have n1_ := Aside0.mk (Kd.R_below (rq HO_211001.out) hb)
               have n2_ := Aside0.mk (Kd.R_below (rq HO_221001.out) hb)
               have n3_ := Aside0.mk (Kd.R_below (rq HO240.out) hb)
               have n4_ := Aside0.mk (Kd.R_below (rq HO244.out) hb)
               have n5_ := Aside0.mk (blk_below (bq BK189.out) hb)
               have n6_ := Aside0.mk (blk_below (bq BK190.out) hb)
               have n7_ := Aside0.mk (blk_below (bq BK205.out) hb)
               have n8_ := Aside0.mk (blk_below (bq BK210.out) hb)
               have n9_ := Aside0.mk (blk_below (bq BK220.out) hb)
               have n10_ := Aside0.mk (below_step (lq HB.out) hb)
               have n11_ := Aside0.mk (hbox)
               have n12_ := Aside0.mk ((ge_new hg (lq HB.out) : w.heap.size ≤ gb246))
               have n13_ := Aside0.mk ((ge_new hg (lq HB.out) : w.heap.size ≤ gb246))
               have n14_ := Aside0.mk ((ne_new hg (bq BK189.out) : gb189 ≠ gb246))
               have n15_ := Aside0.mk ((new_ne hg (bq BK189.out) : gb246 ≠ gb189))
               have n16_ := Aside0.mk ((ne_new hg (bq BK190.out) : gb190 ≠ gb246))
               have n17_ := Aside0.mk ((new_ne hg (bq BK190.out) : gb246 ≠ gb190))
               have n18_ := Aside0.mk ((ne_new hg (bq BK205.out) : gb205 ≠ gb246))
               have n19_ := Aside0.mk ((new_ne hg (bq BK205.out) : gb246 ≠ gb205))
               have n20_ := Aside0.mk ((ne_new hg (bq BK210.out) : gb210 ≠ gb246))
               have n21_ := Aside0.mk ((new_ne hg (bq BK210.out) : gb246 ≠ gb210))
               have n22_ := Aside0.mk ((ne_new hg (bq BK220.out) : gb220 ≠ gb246))
               have n23_ := Aside0.mk ((new_ne hg (bq BK220.out) : gb246 ≠ gb220))
               clear HO_206001
               clear HO_211001
               clear HO_221001
               clear HO240
               clear HO244
               clear BK189
               clear BK190
               clear BK205
               clear BK210
               clear BK220
               clear HB
               have HO_206001 := n0_
               have HO_211001 := n1_
               have HO_221001 := n2_
               have HO240 := n3_
               have HO244 := n4_
               have BK189 := n5_
               have BK190 := n6_
               have BK205 := n7_
               have BK210 := n8_
               have BK220 := n9_
               have HB := n10_
               have BK246 := n11_
               have GW246 := n12_
               have GE246 := n13_
               have NB189_246 := n14_
               have NB246_189 := n15_
               have NB190_246 := n16_
               have NB246_190 := n17_
               have NB205_246 := n18_
               have NB246_205 := n19_
               have NB210_246 := n20_
               have NB246_210 := n21_
               have NB220_246 := n22_
               have NB246_220 := n23_
               clear n0_ n1_ n2_ n3_ n4_ n5_ n6_ n7_ n8_ n9_ n10_ n11_ n12_ n13_ n14_ n15_ n16_ n17_ n18_ n19_ n20_ n21_ n22_ n23_
               clear hb hbox hg
               refine hK.out _ _ ⟨(blk_cell BK189.out 0).trans rfl, (blk_cell BK189.out 1).trans rfl, (blk_cell BK189.out 2).trans rfl, (blk_cell BK189.out 3).trans rfl, (blk_cell BK190.out 0).trans rfl, (blk_cell BK190.out 1).trans rfl⟩ (fun hHeld => ?_)
               clear hK K
               refine norm_ (a' := ?_) ?_ ?_
               rotate_left
               ·show Act.put _ (some 16) _ = _
                simp only [Act.put, List.setIfInBounds_toArray, List.set_cons_zero, List.set_cons_succ, i64_w, i32_w]
                rfl
               exact norm_ (by simp only [putAll, Act.put, List.setIfInBounds_toArray, List.set_cons_zero, List.set_cons_succ]) (hCont (.slice Ao132 t238.length co132, v243, gb246) _ ⟨hHeld, (by (with_reducible repeat (first | apply Kd.R_alloc | apply Kd.R_drewN | apply Kd.R_drew)); exact Kd.R_mono HO240.out (fun _ hk => ⟨hk.2, ⟨hk.1.1.1.2, ⟨hk.1.1.2, hk.1.2⟩⟩⟩)), (by (with_reducible repeat (first | apply Kd.R_alloc | apply Kd.R_drewN | apply Kd.R_drew)); exact Kd.R_mono HO244.out (fun _ hk => ⟨hk.2, ⟨hk.1.1.1.2, ⟨hk.1.1.2, hk.1.2⟩⟩⟩)), (by (with_reducible repeat (first | apply Kd.R_alloc | apply Kd.R_drewN | apply Kd.R_drew)); exact Kd.R_mono HO_206001.out (fun _ hk => ⟨hk.1.2, ⟨hk.2, ⟨hk.1.1.1, hk.1.1.2⟩⟩⟩)), (by (with_reducible repeat (first | apply Kd.R_alloc | apply Kd.R_drewN | apply Kd.R_drew)); exact Kd.R_mono HO_211001.out (fun _ hk => ⟨hk.1.2, ⟨hk.2, ⟨hk.1.1.1, hk.1.1.2⟩⟩⟩)), (by (with_reducible repeat (first | apply Kd.R_alloc | apply Kd.R_drewN | apply Kd.R_drew)); exact Kd.R_mono HO_221001.out (fun _ hk => ⟨hk.1.2, ⟨hk.2, ⟨hk.1.1.1, hk.1.1.2⟩⟩⟩)), (bq BK189.out), (bq BK190.out), (bq BK205.out), (bq BK210.out), (bq BK220.out), (bq BK246.out), GW246.out, GE246.out, NB189_246.out, NB246_189.out, NB190_246.out, NB246_190.out, NB205_246.out, NB246_205.out, NB210_246.out, NB246_210.out, NB220_246.out, NB246_220.out, (lq HB.out)⟩)
              ·skip
               refine box_step ?hg (N := 16) ?hd (cs := #[.int .i64 0, .slice none 0 0]) (t := 39) ?hr ?_; (case hd => rfl); (case hg => rfl); (case hr => first | (go_simp; done) | (go_simp; rfl))
               intro gb246 hg w132 hbox hb
               have n0_ := Aside0.mk (Kd.R_below (rq HO_206001.out) hb)
               have n1_ := Aside0.mk (Kd.R_below (rq HO_211001.out) hb)
               have n2_ := Aside0.mk (Kd.R_below (rq HO_221001.out) hb)
               have n3_ := Aside0.mk (Kd.R_below (rq HO240.out) hb)
               have n4_ := Aside0.mk (blk_below (bq BK189.out) hb)
               have n5_ := Aside0.mk (blk_below (bq BK190.out) hb)
               have n6_ := Aside0.mk (blk_below (bq BK205.out) hb)
               have n7_ := Aside0.mk (blk_below (bq BK210.out) hb)
               have n8_ := Aside0.mk (blk_below (bq BK220.out) hb)
               have n9_ := Aside0.mk (below_step (lq HB.out) hb)
               have n10_ := Aside0.mk (hbox)
               have n11_ := Aside0.mk ((ge_new hg (lq HB.out) : w.heap.size ≤ gb246))
               have n12_ := Aside0.mk ((ge_new hg (lq HB.out) : w.heap.size ≤ gb246))
               have n13_ := Aside0.mk ((ne_new hg (bq BK189.out) : gb189 ≠ gb246))
               have n14_ := Aside0.mk ((new_ne hg (bq BK189.out) : gb246 ≠ gb189))
               have n15_ := Aside0.mk ((ne_new hg (bq BK190.out) : gb190 ≠ gb246))
               have n16_ := Aside0.mk ((new_ne hg (bq BK190.out) : gb246 ≠ gb190))
               have n17_ := Aside0.mk ((ne_new hg (bq BK205.out) : gb205 ≠ gb246))
               have n18_ := Aside0.mk ((new_ne hg (bq BK205.out) : gb246 ≠ gb205))
               have n19_ := Aside0.mk ((ne_new hg (bq BK210.out) : gb210 ≠ gb246))
               have n20_ := Aside0.mk ((new_ne hg (bq BK210.out) : gb246 ≠ gb210))
               have n21_ := Aside0.mk ((ne_new hg (bq BK220.out) : gb220 ≠ gb246))
               have n22_ := Aside0.mk ((new_ne hg (bq BK220.out) : gb246 ≠ gb220))
               clear HO_206001
               clear HO_211001
               clear HO_221001
               clear HO240
               clear BK189
               clear BK190
               clear BK205
               clear BK210
               clear BK220
               clear HB
               have HO_206001 := n0_
               have HO_211001 := n1_
               have HO_221001 := n2_
               have HO240 := n3_
               have BK189 := n4_
               have BK190 := n5_
               have BK205 := n6_
               have BK210 := n7_
               have BK220 := n8_
               have HB := n9_
               have BK246 := n10_
               have GW246 := n11_
               have GE246 := n12_
               have NB189_246 := n13_
               have NB246_189 := n14_
               have NB190_246 := n15_
               have NB246_190 := n16_
               have NB205_246 := n17_
               have NB246_205 := n18_
               have NB210_246 := n19_
               have NB246_210 := n20_
               have NB220_246 := n21_
               have NB246_220 := n22_
               clear n0_ n1_ n2_ n3_ n4_ n5_ n6_ n7_ n8_ n9_ n10_ n11_ n12_ n13_ n14_ n15_ n16_ n17_ n18_ n19_ n20_ n21_ n22_
               clear hb hbox hg
               obtain ⟨Ao133, co133, eo133⟩ := Kd.R_slice HO240.out
               (first | subst eo133 | (injection eo133 with f1_ f2_ f3_; have f4_ := f1_.symm; have f5_ := f3_.symm; clear f1_ f2_ f3_; subst f4_; subst f5_))
               refine hK.out _ _ ⟨(blk_cell BK189.out 0).trans rfl, (blk_cell BK189.out 1).trans rfl, (blk_cell BK189.out 2).trans rfl, (blk_cell BK189.out 3).trans rfl, (blk_cell BK190.out 0).trans rfl, (blk_cell BK190.out 1).trans rfl⟩ (fun hHeld => ?_)
               clear hK K
               refine norm_ (a' := ?_) ?_ ?_
               rotate_left
               ·show Act.put _ (some 16) _ = _
                simp only [Act.put, List.setIfInBounds_toArray, List.set_cons_zero, List.set_cons_succ, i64_w, i32_w]
                rfl
               refine one_ (i := 5) (N := some 89) #[true, true, true, true, true, true, false, false, false, true, false, false] rfl rfl (one_of HT_.out (by kernel_rfl)) (by decide) (fun K hK => ?_)
               refine goes_ Try.func36 (by kernel_rfl) rfl #[.agg #[.int .i64 t233, .int .i64 t234, .int .i64 t235, .int .i64 t236], .agg #[.int .i64 t237, .slice Ao133 t238.length co133], .int .u32 a2] (by rfl) rfl rfl (by (try simp only [List.map_toArray, List.map_cons, List.map_nil]); first | done | rfl | (simp only [List.length_drop, List.length_take]; rfl)) ?_
               with_reducible refine (impl_SendOn.calls t233 t234 t235 t236 t237 _ _ t238 a2 t241 t242 t245 _ ?side1 ?side2 A119.out).mono ?_
               (case side1 => repeat (first | exact (Kd.R_reads' HO240.out).2.2 | (with_reducible refine Kd.C_alloc ?_ _) | (with_reducible refine Kd.C_drewN ?_ _) | (with_reducible refine Kd.C_drew ?_)))
               (case side2 => exact (Kd.R_reads' HO240.out).2.1)
               rintro e w134 ⟨v243, rfl, ho0, hb⟩
               refine ⟨_, rfl, ?_⟩
               have n0_ := Aside0.mk (Kd.R_elder' (rq HO_206001.out) (Kd.R_base ho0) hb)
               have n1_ := Aside0.mk (Kd.R_elder' (rq HO_211001.out) (Kd.R_base ho0) hb)
               have n2_ := Aside0.mk (Kd.R_elder' (rq HO_221001.out) (Kd.R_base ho0) hb)
               have n3_ := Aside0.mk (Kd.R_elder' (rq HO240.out) (Kd.R_base ho0) hb)
               have n4_ := Aside0.mk (Kd.R_lower (Kd.R_new' (Kd.R_new' (Kd.R_new' (Kd.R_new' ho0 (Kd.R_lt (rq HO_206001.out))) (Kd.R_lt (rq HO_211001.out))) (Kd.R_lt (rq HO_221001.out))) (Kd.R_lt (rq HO240.out))) (below_size (lq HB.out)))
               have n5_ := Aside0.mk (blk_below (bq BK189.out) hb)
               have n6_ := Aside0.mk (blk_below (bq BK190.out) hb)
               have n7_ := Aside0.mk (blk_below (bq BK205.out) hb)
               have n8_ := Aside0.mk (blk_below (bq BK210.out) hb)
               have n9_ := Aside0.mk (blk_below (bq BK220.out) hb)
               have n10_ := Aside0.mk (blk_below (bq BK246.out) hb)
               have n11_ := Aside0.mk (below_step (lq HB.out) hb)
               clear HO_206001
               clear HO_211001
               clear HO_221001
               clear HO240
               clear BK189
               clear BK190
               clear BK205
               clear BK210
               clear BK220
               clear BK246
               clear HB
               have HO_206001 := n0_
               have HO_211001 := n1_
               have HO_221001 := n2_
               have HO240 := n3_
               have HO244 := n4_
               have BK189 := n5_
               have BK190 := n6_
               have BK205 := n7_
               have BK210 := n8_
               have BK220 := n9_
               have BK246 := n10_
               have HB := n11_
               clear n0_ n1_ n2_ n3_ n4_ n5_ n6_ n7_ n8_ n9_ n10_ n11_
               (try clear hb)
               (try clear hb2)
               (try clear hk)
               (try clear hi)
               (try clear ho0)
               refine hK.out _ _ ⟨(blk_cell BK189.out 0).trans rfl, (blk_cell BK189.out 1).trans rfl, (blk_cell BK189.out 2).trans rfl, (blk_cell BK189.out 3).trans rfl, (blk_cell BK190.out 0).trans rfl, (blk_cell BK190.out 1).trans rfl⟩ (fun hHeld => ?_)
               clear hK K
               refine norm_ (a' := ?_) ?_ ?_
               rotate_left
               ·show Act.put _ (some 89) _ = _
                simp only [Act.put, List.setIfInBounds_toArray, List.set_cons_zero, List.set_cons_succ, i64_w, i32_w]
                rfl
               refine pure_ (i := 6) (N := some 83) (v := ?_) (a' := ?_) #[true, true, true, true, true, true, true, false, false, true, false, false] rfl rfl (any_of HT_.out (by kernel_rfl)) (fun _ _ _ h => h) (Or.inl ⟨by rfl, ?_⟩) ?_ ?_
               rotate_left
               ·intro w'
                go_simp
                with_reducible rfl
               rotate_left
               ·simp only [Act.put, List.setIfInBounds_toArray, List.set_cons_zero, List.set_cons_succ, i64_w, i32_w]
                rfl
               refine pure_ (i := 7) (N := some 90) (v := ?_) (a' := ?_) #[true, true, true, true, true, true, true, true, false, true, false, false] rfl rfl (any_of HT_.out (by kernel_rfl)) (fun _ _ _ h => h) (Or.inl ⟨by rfl, ?_⟩) ?_ ?_
               rotate_left
               ·intro w'
                go_simp
                with_reducible rfl
               rotate_left
               ·simp only [Act.put, List.setIfInBounds_toArray, List.set_cons_zero, List.set_cons_succ, i64_w, i32_w]
                rfl
               refine pure_ (i := 8) (N := some 91) (v := ?_) (a' := ?_) #[true, true, true, true, true, true, true, true, true, true, false, false] rfl rfl (any_of HT_.out (by kernel_rfl)) (fun _ _ _ h => h) (Or.inl ⟨by rfl, ?_⟩) ?_ ?_
               rotate_left
               ·intro w'
                go_simp
                with_reducible rfl
               rotate_left
               ·simp only [Act.put, List.setIfInBounds_toArray, List.set_cons_zero, List.set_cons_succ, i64_w, i32_w]
                rfl
               exact norm_ (by simp only [putAll, Act.put, List.setIfInBounds_toArray, List.set_cons_zero, List.set_cons_succ]) (hCont (.slice Ao133 t238.length co133, v243, gb246) _ ⟨hHeld, (by (with_reducible repeat (first | apply Kd.R_alloc | apply Kd.R_drewN | apply Kd.R_drew)); exact Kd.R_mono HO240.out (fun _ hk => ⟨hk.2, ⟨hk.1.1.1.2, ⟨hk.1.1.2, hk.1.2⟩⟩⟩)), (by (with_reducible repeat (first | apply Kd.R_alloc | apply Kd.R_drewN | apply Kd.R_drew)); exact Kd.R_mono HO244.out (fun _ hk => ⟨hk.2, ⟨hk.1.1.1.2, ⟨hk.1.1.2, hk.1.2⟩⟩⟩)), (by (with_reducible repeat (first | apply Kd.R_alloc | apply Kd.R_drewN | apply Kd.R_drew)); exact Kd.R_mono HO_206001.out (fun _ hk => ⟨hk.1.2, ⟨hk.2, ⟨hk.1.1.1, hk.1.1.2⟩⟩⟩)), (by (with_reducible repeat (first | apply Kd.R_alloc | apply Kd.R_drewN | apply Kd.R_drew)); exact Kd.R_mono HO_211001.out (fun _ hk => ⟨hk.1.2, ⟨hk.2, ⟨hk.1.1.1, hk.1.1.2⟩⟩⟩)), (by (with_reducible repeat (first | apply Kd.R_alloc | apply Kd.R_drewN | apply Kd.R_drew)); exact Kd.R_mono HO_221001.out (fun _ hk => ⟨hk.1.2, ⟨hk.2, ⟨hk.1.1.1, hk.1.1.2⟩⟩⟩)), (bq BK189.out), (bq BK190.out), (bq BK205.out), (bq BK210.out), (bq BK220.out), (bq BK246.out), GW246.out, GE246.out, NB189_246.out, NB246_189.out, NB190_246.out, NB246_190.out, NB205_246.out, NB246_205.out, NB210_246.out, NB246_210.out, NB220_246.out, NB246_220.out, (lq HB.out)⟩)
             ·skip
              refine box_step ?hg (N := 16) ?hd (cs := #[.int .i64 0, .slice none 0 0]) (t := 39) ?hr ?_; (case hd => rfl); (case hg => rfl); (case hr => first | (go_simp; done) | (go_simp; rfl))
              intro gb246 hg w131 hbox hb
              have n0_ := Aside0.mk (Kd.R_below (rq HO_206001.out) hb)
              have n1_ := Aside0.mk (Kd.R_below (rq HO_211001.out) hb)
              have n2_ := Aside0.mk (Kd.R_below (rq HO_221001.out) hb)
              have n3_ := Aside0.mk (blk_below (bq BK189.out) hb)
              have n4_ := Aside0.mk (blk_below (bq BK190.out) hb)
              have n5_ := Aside0.mk (blk_below (bq BK205.out) hb)
              have n6_ := Aside0.mk (blk_below (bq BK210.out) hb)
              have n7_ := Aside0.mk (blk_below (bq BK220.out) hb)
              have n8_ := Aside0.mk (below_step (lq HB.out) hb)
              have n9_ := Aside0.mk (hbox)
              have n10_ := Aside0.mk ((ge_new hg (lq HB.out) : w.heap.size ≤ gb246))
              have n11_ := Aside0.mk ((ge_new hg (lq HB.out) : w.heap.size ≤ gb246))
              have n12_ := Aside0.mk ((ne_new hg (bq BK189.out) : gb189 ≠ gb246))
              have n13_ := Aside0.mk ((new_ne hg (bq BK189.out) : gb246 ≠ gb189))
              have n14_ := Aside0.mk ((ne_new hg (bq BK190.out) : gb190 ≠ gb246))
              have n15_ := Aside0.mk ((new_ne hg (bq BK190.out) : gb246 ≠ gb190))
              have n16_ := Aside0.mk ((ne_new hg (bq BK205.out) : gb205 ≠ gb246))
              have n17_ := Aside0.mk ((new_ne hg (bq BK205.out) : gb246 ≠ gb205))
              have n18_ := Aside0.mk ((ne_new hg (bq BK210.out) : gb210 ≠ gb246))
              have n19_ := Aside0.mk ((new_ne hg (bq BK210.out) : gb246 ≠ gb210))
              have n20_ := Aside0.mk ((ne_new hg (bq BK220.out) : gb220 ≠ gb246))
              have n21_ := Aside0.mk ((new_ne hg (bq BK220.out) : gb246 ≠ gb220))
              clear HO_206001
              clear HO_211001
              clear HO_221001
              clear BK189
              clear BK190
              clear BK205
              clear BK210
              clear BK220
              clear HB
              have HO_206001 := n0_
              have HO_211001 := n1_
              have HO_221001 := n2_
              have BK189 := n3_
              have BK190 := n4_
              have BK205 := n5_
              have BK210 := n6_
              have BK220 := n7_
              have HB := n8_
              have BK246 := n9_
              have GW246 := n10_
              have GE246 := n11_
              have NB189_246 := n12_
              have NB246_189 := n13_
              have NB190_246 := n14_
              have NB246_190 := n15_
              have NB205_246 := n16_
              have NB246_205 := n17_
              have NB210_246 := n18_
              have NB246_210 := n19_
              have NB220_246 := n20_
              have NB246_220 := n21_
              clear n0_ n1_ n2_ n3_ n4_ n5_ n6_ n7_ n8_ n9_ n10_ n11_ n12_ n13_ n14_ n15_ n16_ n17_ n18_ n19_ n20_ n21_
              clear hb hbox hg
              refine hK.out _ _ ⟨(blk_cell BK189.out 0).trans rfl, (blk_cell BK189.out 1).trans rfl, (blk_cell BK189.out 2).trans rfl, (blk_cell BK189.out 3).trans rfl, (blk_cell BK190.out 0).trans rfl, (blk_cell BK190.out 1).trans rfl⟩ (fun hHeld => ?_)
              clear hK K
              refine norm_ (a' := ?_) ?_ ?_
              rotate_left
              ·show Act.put _ (some 16) _ = _
               simp only [Act.put, List.setIfInBounds_toArray, List.set_cons_zero, List.set_cons_succ, i64_w, i32_w]
               rfl
              refine one_ (i := 3) (N := some 87) #[true, true, true, true, true, false, false, false, false, true, false, false] rfl rfl (one_of HT_.out (by kernel_rfl)) (by decide) (fun K hK => ?_)
              refine goes_ Try.func22 (by kernel_rfl) rfl #[.agg #[.int .i64 a1_0, .slice A1_1 l1_1.length c1_1]] (by rfl) rfl rfl (by (try simp only [List.map_toArray, List.map_cons, List.map_nil]); first | done | rfl | (simp only [List.length_drop, List.length_take]; rfl)) ?_
              with_reducible refine (laws_toOutEnd.calls kj77 a1_0 _ _ l1_1 t237 t238 _ ?side1 ?side2 A118.out).mono ?_
              (case side1 => repeat (first | exact (Kd.C_below HR1_1.out HB.out) | (with_reducible refine Kd.C_alloc ?_ _) | (with_reducible refine Kd.C_drewN ?_ _) | (with_reducible refine Kd.C_drew ?_)))
              (case side2 => exact HC1_1.out)
              rintro e w132 ⟨v239, rfl, ho0, hb⟩
              refine ⟨_, rfl, ?_⟩
              have n0_ := Aside0.mk (Kd.R_elder' (rq HO_206001.out) (Kd.R_base ho0) hb)
              have n1_ := Aside0.mk (Kd.R_elder' (rq HO_211001.out) (Kd.R_base ho0) hb)
              have n2_ := Aside0.mk (Kd.R_elder' (rq HO_221001.out) (Kd.R_base ho0) hb)
              have n3_ := Aside0.mk (Kd.R_lower (Kd.R_new' (Kd.R_new' (Kd.R_new' ho0 (Kd.R_lt (rq HO_206001.out))) (Kd.R_lt (rq HO_211001.out))) (Kd.R_lt (rq HO_221001.out))) (below_size (lq HB.out)))
              have n4_ := Aside0.mk (blk_below (bq BK189.out) hb)
              have n5_ := Aside0.mk (blk_below (bq BK190.out) hb)
              have n6_ := Aside0.mk (blk_below (bq BK205.out) hb)
              have n7_ := Aside0.mk (blk_below (bq BK210.out) hb)
              have n8_ := Aside0.mk (blk_below (bq BK220.out) hb)
              have n9_ := Aside0.mk (blk_below (bq BK246.out) hb)
              have n10_ := Aside0.mk (below_step (lq HB.out) hb)
              clear HO_206001
              clear HO_211001
              clear HO_221001
              clear BK189
              clear BK190
              clear BK205
              clear BK210
              clear BK220
              clear BK246
              clear HB
              have HO_206001 := n0_
              have HO_211001 := n1_
              have HO_221001 := n2_
              have HO240 := n3_
              have BK189 := n4_
              have BK190 := n5_
              have BK205 := n6_
              have BK210 := n7_
              have BK220 := n8_
              have BK246 := n9_
              have HB := n10_
              clear n0_ n1_ n2_ n3_ n4_ n5_ n6_ n7_ n8_ n9_ n10_
              (try clear hb)
              (try clear hb2)
              (try clear hk)
              (try clear hi)
              (try clear ho0)
              obtain ⟨Ao133, co133, eo133⟩ := Kd.R_slice HO240.out
              (first | subst eo133 | (injection eo133 with f1_ f2_ f3_; have f4_ := f1_.symm; have f5_ := f3_.symm; clear f1_ f2_ f3_; subst f4_; subst f5_))
              refine hK.out _ _ ⟨(blk_cell BK189.out 0).trans rfl, (blk_cell BK189.out 1).trans rfl, (blk_cell BK189.out 2).trans rfl, (blk_cell BK189.out 3).trans rfl, (blk_cell BK190.out 0).trans rfl, (blk_cell BK190.out 1).trans rfl⟩ (fun hHeld => ?_)
              clear hK K
              refine norm_ (a' := ?_) ?_ ?_
              rotate_left
              ·show Act.put _ (some 87) _ = _
               simp only [Act.put, List.setIfInBounds_toArray, List.set_cons_zero, List.set_cons_succ, i64_w, i32_w]
               rfl
              refine one_ (i := 5) (N := some 89) #[true, true, true, true, true, true, false, false, false, true, false, false] rfl rfl (one_of HT_.out (by kernel_rfl)) (by decide) (fun K hK => ?_)
              refine goes_ Try.func36 (by kernel_rfl) rfl #[.agg #[.int .i64 t233, .int .i64 t234, .int .i64 t235, .int .i64 t236], .agg #[.int .i64 t237, .slice Ao133 t238.length co133], .int .u32 a2] (by rfl) rfl rfl (by (try simp only [List.map_toArray, List.map_cons, List.map_nil]); first | done | rfl | (simp only [List.length_drop, List.length_take]; rfl)) ?_
              with_reducible refine (impl_SendOn.calls t233 t234 t235 t236 t237 _ _ t238 a2 t241 t242 t245 _ ?side1 ?side2 A119.out).mono ?_
              (case side1 => repeat (first | exact (Kd.R_reads' HO240.out).2.2 | (with_reducible refine Kd.C_alloc ?_ _) | (with_reducible refine Kd.C_drewN ?_ _) | (with_reducible refine Kd.C_drew ?_)))
              (case side2 => exact (Kd.R_reads' HO240.out).2.1)
              rintro e w134 ⟨v243, rfl, ho0, hb⟩
              refine ⟨_, rfl, ?_⟩
              have n0_ := Aside0.mk (Kd.R_elder' (rq HO_206001.out) (Kd.R_base ho0) hb)
              have n1_ := Aside0.mk (Kd.R_elder' (rq HO_211001.out) (Kd.R_base ho0) hb)
              have n2_ := Aside0.mk (Kd.R_elder' (rq HO_221001.out) (Kd.R_base ho0) hb)
              have n3_ := Aside0.mk (Kd.R_elder' (rq HO240.out) (Kd.R_base ho0) hb)
              have n4_ := Aside0.mk (Kd.R_lower (Kd.R_new' (Kd.R_new' (Kd.R_new' (Kd.R_new' ho0 (Kd.R_lt (rq HO_206001.out))) (Kd.R_lt (rq HO_211001.out))) (Kd.R_lt (rq HO_221001.out))) (Kd.R_lt (rq HO240.out))) (below_size (lq HB.out)))
              have n5_ := Aside0.mk (blk_below (bq BK189.out) hb)
              have n6_ := Aside0.mk (blk_below (bq BK190.out) hb)
              have n7_ := Aside0.mk (blk_below (bq BK205.out) hb)
              have n8_ := Aside0.mk (blk_below (bq BK210.out) hb)
              have n9_ := Aside0.mk (blk_below (bq BK220.out) hb)
              have n10_ := Aside0.mk (blk_below (bq BK246.out) hb)
              have n11_ := Aside0.mk (below_step (lq HB.out) hb)
              clear HO_206001
              clear HO_211001
              clear HO_221001
              clear HO240
              clear BK189
              clear BK190
              clear BK205
              clear BK210
              clear BK220
              clear BK246
              clear HB
              have HO_206001 := n0_
              have HO_211001 := n1_
              have HO_221001 := n2_
              have HO240 := n3_
              have HO244 := n4_
              have BK189 := n5_
              have BK190 := n6_
              have BK205 := n7_
              have BK210 := n8_
              have BK220 := n9_
              have BK246 := n10_
              have HB := n11_
              clear n0_ n1_ n2_ n3_ n4_ n5_ n6_ n7_ n8_ n9_ n10_ n11_
              (try clear hb)
              (try clear hb2)
              (try clear hk)
              (try clear hi)
              (try clear ho0)
              refine hK.out _ _ ⟨(blk_cell BK189.out 0).trans rfl, (blk_cell BK189.out 1).trans rfl, (blk_cell BK189.out 2).trans rfl, (blk_cell BK189.out 3).trans rfl, (blk_cell BK190.out 0).trans rfl, (blk_cell BK190.out 1).trans rfl⟩ (fun hHeld => ?_)
              clear hK K
              refine norm_ (a' := ?_) ?_ ?_
              rotate_left
              ·show Act.put _ (some 89) _ = _
               simp only [Act.put, List.setIfInBounds_toArray, List.set_cons_zero, List.set_cons_succ, i64_w, i32_w]
               rfl
              refine pure_ (i := 6) (N := some 83) (v := ?_) (a' := ?_) #[true, true, true, true, true, true, true, false, false, true, false, false] rfl rfl (any_of HT_.out (by kernel_rfl)) (fun _ _ _ h => h) (Or.inl ⟨by rfl, ?_⟩) ?_ ?_
              rotate_left
              ·intro w'
               go_simp
               with_reducible rfl
              rotate_left
              ·simp only [Act.put, List.setIfInBounds_toArray, List.set_cons_zero, List.set_cons_succ, i64_w, i32_w]
               rfl
              refine pure_ (i := 7) (N := some 90) (v := ?_) (a' := ?_) #[true, true, true, true, true, true, true, true, false, true, false, false] rfl rfl (any_of HT_.out (by kernel_rfl)) (fun _ _ _ h => h) (Or.inl ⟨by rfl, ?_⟩) ?_ ?_
              rotate_left
              ·intro w'
               go_simp
               with_reducible rfl
              rotate_left
              ·simp only [Act.put, List.setIfInBounds_toArray, List.set_cons_zero, List.set_cons_succ, i64_w, i32_w]
               rfl
              refine pure_ (i := 8) (N := some 91) (v := ?_) (a' := ?_) #[true, true, true, true, true, true, true, true, true, true, false, false] rfl rfl (any_of HT_.out (by kernel_rfl)) (fun _ _ _ h => h) (Or.inl ⟨by rfl, ?_⟩) ?_ ?_
              rotate_left
              ·intro w'
               go_simp
               with_reducible rfl
              rotate_left
              ·simp only [Act.put, List.setIfInBounds_toArray, List.set_cons_zero, List.set_cons_succ, i64_w, i32_w]
               rfl
              exact norm_ (by simp only [putAll, Act.put, List.setIfInBounds_toArray, List.set_cons_zero, List.set_cons_succ]) (hCont (.slice Ao133 t238.length co133, v243, gb246) _ ⟨hHeld, (by (with_reducible repeat (first | apply Kd.R_alloc | apply Kd.R_drewN | apply Kd.R_drew)); exact Kd.R_mono HO240.out (fun _ hk => ⟨hk.2, ⟨hk.1.1.1.2, ⟨hk.1.1.2, hk.1.2⟩⟩⟩)), (by (with_reducible repeat (first | apply Kd.R_alloc | apply Kd.R_drewN | apply Kd.R_drew)); exact Kd.R_mono HO244.out (fun _ hk => ⟨hk.2, ⟨hk.1.1.1.2, ⟨hk.1.1.2, hk.1.2⟩⟩⟩)), (by (with_reducible repeat (first | apply Kd.R_alloc | apply Kd.R_drewN | apply Kd.R_drew)); exact Kd.R_mono HO_206001.out (fun _ hk => ⟨hk.1.2, ⟨hk.2, ⟨hk.1.1.1, hk.1.1.2⟩⟩⟩)), (by (with_reducible repeat (first | apply Kd.R_alloc | apply Kd.R_drewN | apply Kd.R_drew)); exact Kd.R_mono HO_211001.out (fun _ hk => ⟨hk.1.2, ⟨hk.2, ⟨hk.1.1.1, hk.1.1.2⟩⟩⟩)), (by (with_reducible repeat (first | apply Kd.R_alloc | apply Kd.R_drewN | apply Kd.R_drew)); exact Kd.R_mono HO_221001.out (fun _ hk => ⟨hk.1.2, ⟨hk.2, ⟨hk.1.1.1, hk.1.1.2⟩⟩⟩)), (bq BK189.out), (bq BK190.out), (bq BK205.out), (bq BK210.out), (bq BK220.out), (bq BK246.out), GW246.out, GE246.out, NB189_246.out, NB246_189.out, NB190_246.out, NB246_190.out, NB205_246.out, NB246_205.out, NB210_246.out, NB246_210.out, NB220_246.out, NB246_220.out, (lq HB.out)⟩)
            ·skip
             refine box_step ?hg (N := 16) ?hd (cs := #[.int .i64 0, .slice none 0 0]) (t := 39) ?hr ?_; (case hd => rfl); (case hg => rfl); (case hr => first | (go_simp; done) | (go_simp; rfl))
             intro gb246 hg w130 hbox hb
             have n0_ := Aside0.mk (Kd.R_below (rq HO_206001.out) hb)
             have n1_ := Aside0.mk (Kd.R_below (rq HO_211001.out) hb)
             have n2_ := Aside0.mk (Kd.R_below (rq HO_221001.out) hb)
             have n3_ := Aside0.mk (blk_below (bq BK189.out) hb)
             have n4_ := Aside0.mk (blk_below (bq BK190.out) hb)
             have n5_ := Aside0.mk (blk_below (bq BK205.out) hb)
             have n6_ := Aside0.mk (blk_below (bq BK210.out) hb)
             have n7_ := Aside0.mk (blk_below (bq BK220.out) hb)
             have n8_ := Aside0.mk (below_step (lq HB.out) hb)
             have n9_ := Aside0.mk (hbox)
             have n10_ := Aside0.mk ((ge_new hg (lq HB.out) : w.heap.size ≤ gb246))
             have n11_ := Aside0.mk ((ge_new hg (lq HB.out) : w.heap.size ≤ gb246))
             have n12_ := Aside0.mk ((ne_new hg (bq BK189.out) : gb189 ≠ gb246))
             have n13_ := Aside0.mk ((new_ne hg (bq BK189.out) : gb246 ≠ gb189))
             have n14_ := Aside0.mk ((ne_new hg (bq BK190.out) : gb190 ≠ gb246))
             have n15_ := Aside0.mk ((new_ne hg (bq BK190.out) : gb246 ≠ gb190))
             have n16_ := Aside0.mk ((ne_new hg (bq BK205.out) : gb205 ≠ gb246))
             have n17_ := Aside0.mk ((new_ne hg (bq BK205.out) : gb246 ≠ gb205))
             have n18_ := Aside0.mk ((ne_new hg (bq BK210.out) : gb210 ≠ gb246))
             have n19_ := Aside0.mk ((new_ne hg (bq BK210.out) : gb246 ≠ gb210))
             have n20_ := Aside0.mk ((ne_new hg (bq BK220.out) : gb220 ≠ gb246))
             have n21_ := Aside0.mk ((new_ne hg (bq BK220.out) : gb246 ≠ gb220))
             clear HO_206001
             clear HO_211001
             clear HO_221001
             clear BK189
             clear BK190
             clear BK205
             clear BK210
             clear BK220
             clear HB
             have HO_206001 := n0_
             have HO_211001 := n1_
             have HO_221001 := n2_
             have BK189 := n3_
             have BK190 := n4_
             have BK205 := n5_
             have BK210 := n6_
             have BK220 := n7_
             have HB := n8_
             have BK246 := n9_
             have GW246 := n10_
             have GE246 := n11_
             have NB189_246 := n12_
             have NB246_189 := n13_
             have NB190_246 := n14_
             have NB246_190 := n15_
             have NB205_246 := n16_
             have NB246_205 := n17_
             have NB210_246 := n18_
             have NB246_210 := n19_
             have NB220_246 := n20_
             have NB246_220 := n21_
             clear n0_ n1_ n2_ n3_ n4_ n5_ n6_ n7_ n8_ n9_ n10_ n11_ n12_ n13_ n14_ n15_ n16_ n17_ n18_ n19_ n20_ n21_
             clear hb hbox hg
             refine hK.out _ _ ⟨(blk_cell BK189.out 0).trans rfl, (blk_cell BK189.out 1).trans rfl, (blk_cell BK189.out 2).trans rfl, (blk_cell BK189.out 3).trans rfl, (blk_cell BK190.out 0).trans rfl, (blk_cell BK190.out 1).trans rfl⟩ (fun hHeld => ?_)
             clear hK K
             refine norm_ (a' := ?_) ?_ ?_
             rotate_left
             ·show Act.put _ (some 16) _ = _
              simp only [Act.put, List.setIfInBounds_toArray, List.set_cons_zero, List.set_cons_succ, i64_w, i32_w]
              rfl
             refine one_ (i := 1) (N := some 85) #[true, true, true, false, true, false, false, false, false, true, false, false] rfl rfl (one_of HT_.out (by kernel_rfl)) (by decide) (fun K hK => ?_)
             refine goes_ Try.func16 (by kernel_rfl) rfl #[.agg #[.int .i64 a0_0, .int .i64 a0_1, .int .i64 a0_2, .int .i64 a0_3]] (by rfl) rfl rfl (by (try simp only [List.map_toArray, List.map_cons, List.map_nil]); first | done | rfl | (simp only [List.length_drop, List.length_take]; rfl)) ?_
             with_reducible refine (laws_toChanRow.calls a0_0 a0_1 a0_2 a0_3 t233 t234 t235 t236 _ A117.out).mono ?_
             rintro e w131 ⟨rfl, hb⟩
             refine ⟨_, rfl, ?_⟩
             have n0_ := Aside0.mk (Kd.R_below (rq HO_206001.out) hb)
             have n1_ := Aside0.mk (Kd.R_below (rq HO_211001.out) hb)
             have n2_ := Aside0.mk (Kd.R_below (rq HO_221001.out) hb)
             have n3_ := Aside0.mk (blk_below (bq BK189.out) hb)
             have n4_ := Aside0.mk (blk_below (bq BK190.out) hb)
             have n5_ := Aside0.mk (blk_below (bq BK205.out) hb)
             have n6_ := Aside0.mk (blk_below (bq BK210.out) hb)
             have n7_ := Aside0.mk (blk_below (bq BK220.out) hb)
             have n8_ := Aside0.mk (blk_below (bq BK246.out) hb)
             have n9_ := Aside0.mk (below_step (lq HB.out) hb)
             clear HO_206001
             clear HO_211001
             clear HO_221001
             clear BK189
             clear BK190
             clear BK205
             clear BK210
             clear BK220
             clear BK246
             clear HB
             have HO_206001 := n0_
             have HO_211001 := n1_
             have HO_221001 := n2_
             have BK189 := n3_
             have BK190 := n4_
             have BK205 := n5_
             have BK210 := n6_
             have BK220 := n7_
             have BK246 := n8_
             have HB := n9_
             clear n0_ n1_ n2_ n3_ n4_ n5_ n6_ n7_ n8_ n9_
             (try clear hb)
             (try clear hb2)
             (try clear hk)
             (try clear hi)
             refine hK.out _ _ ⟨(blk_cell BK189.out 0).trans rfl, (blk_cell BK189.out 1).trans rfl, (blk_cell BK189.out 2).trans rfl, (blk_cell BK189.out 3).trans rfl, (blk_cell BK190.out 0).trans rfl, (blk_cell BK190.out 1).trans rfl⟩ (fun hHeld => ?_)
             clear hK K
             refine norm_ (a' := ?_) ?_ ?_
             rotate_left
             ·show Act.put _ (some 85) _ = _
              simp only [Act.put, List.setIfInBounds_toArray, List.set_cons_zero, List.set_cons_succ, i64_w, i32_w]
              rfl
             refine one_ (i := 3) (N := some 87) #[true, true, true, true, true, false, false, false, false, true, false, false] rfl rfl (one_of HT_.out (by kernel_rfl)) (by decide) (fun K hK => ?_)
             refine goes_ Try.func22 (by kernel_rfl) rfl #[.agg #[.int .i64 a1_0, .slice A1_1 l1_1.length c1_1]] (by rfl) rfl rfl (by (try simp only [List.map_toArray, List.map_cons, List.map_nil]); first | done | rfl | (simp only [List.length_drop, List.length_take]; rfl)) ?_
             with_reducible refine (laws_toOutEnd.calls kj77 a1_0 _ _ l1_1 t237 t238 _ ?side1 ?side2 A118.out).mono ?_
             (case side1 => repeat (first | exact (Kd.C_below HR1_1.out HB.out) | (with_reducible refine Kd.C_alloc ?_ _) | (with_reducible refine Kd.C_drewN ?_ _) | (with_reducible refine Kd.C_drew ?_)))
             (case side2 => exact HC1_1.out)
             rintro e w132 ⟨v239, rfl, ho0, hb⟩
             refine ⟨_, rfl, ?_⟩
             have n0_ := Aside0.mk (Kd.R_elder' (rq HO_206001.out) (Kd.R_base ho0) hb)
             have n1_ := Aside0.mk (Kd.R_elder' (rq HO_211001.out) (Kd.R_base ho0) hb)
             have n2_ := Aside0.mk (Kd.R_elder' (rq HO_221001.out) (Kd.R_base ho0) hb)
             have n3_ := Aside0.mk (Kd.R_lower (Kd.R_new' (Kd.R_new' (Kd.R_new' ho0 (Kd.R_lt (rq HO_206001.out))) (Kd.R_lt (rq HO_211001.out))) (Kd.R_lt (rq HO_221001.out))) (below_size (lq HB.out)))
             have n4_ := Aside0.mk (blk_below (bq BK189.out) hb)
             have n5_ := Aside0.mk (blk_below (bq BK190.out) hb)
             have n6_ := Aside0.mk (blk_below (bq BK205.out) hb)
             have n7_ := Aside0.mk (blk_below (bq BK210.out) hb)
             have n8_ := Aside0.mk (blk_below (bq BK220.out) hb)
             have n9_ := Aside0.mk (blk_below (bq BK246.out) hb)
             have n10_ := Aside0.mk (below_step (lq HB.out) hb)
             clear HO_206001
             clear HO_211001
             clear HO_221001
             clear BK189
             clear BK190
             clear BK205
             clear BK210
             clear BK220
             clear BK246
             clear HB
             have HO_206001 := n0_
             have HO_211001 := n1_
             have HO_221001 := n2_
             have HO240 := n3_
             have BK189 := n4_
             have BK190 := n5_
             have BK205 := n6_
             have BK210 := n7_
             have BK220 := n8_
             have BK246 := n9_
             have HB := n10_
             clear n0_ n1_ n2_ n3_ n4_ n5_ n6_ n7_ n8_ n9_ n10_
             (try clear hb)
             (try clear hb2)
             (try clear hk)
             (try clear hi)
             (try clear ho0)
             obtain ⟨Ao133, co133, eo133⟩ := Kd.R_slice HO240.out
             (first | subst eo133 | (injection eo133 with f1_ f2_ f3_; have f4_ := f1_.symm; have f5_ := f3_.symm; clear f1_ f2_ f3_; subst f4_; subst f5_))
             refine hK.out _ _ ⟨(blk_cell BK189.out 0).trans rfl, (blk_cell BK189.out 1).trans rfl, (blk_cell BK189.out 2).trans rfl, (blk_cell BK189.out 3).trans rfl, (blk_cell BK190.out 0).trans rfl, (blk_cell BK190.out 1).trans rfl⟩ (fun hHeld => ?_)
             clear hK K
             refine norm_ (a' := ?_) ?_ ?_
             rotate_left
             ·show Act.put _ (some 87) _ = _
              simp only [Act.put, List.setIfInBounds_toArray, List.set_cons_zero, List.set_cons_succ, i64_w, i32_w]
              rfl
             refine one_ (i := 5) (N := some 89) #[true, true, true, true, true, true, false, false, false, true, false, false] rfl rfl (one_of HT_.out (by kernel_rfl)) (by decide) (fun K hK => ?_)
             refine goes_ Try.func36 (by kernel_rfl) rfl #[.agg #[.int .i64 t233, .int .i64 t234, .int .i64 t235, .int .i64 t236], .agg #[.int .i64 t237, .slice Ao133 t238.length co133], .int .u32 a2] (by rfl) rfl rfl (by (try simp only [List.map_toArray, List.map_cons, List.map_nil]); first | done | rfl | (simp only [List.length_drop, List.length_take]; rfl)) ?_
             with_reducible refine (impl_SendOn.calls t233 t234 t235 t236 t237 _ _ t238 a2 t241 t242 t245 _ ?side1 ?side2 A119.out).mono ?_
             (case side1 => repeat (first | exact (Kd.R_reads' HO240.out).2.2 | (with_reducible refine Kd.C_alloc ?_ _) | (with_reducible refine Kd.C_drewN ?_ _) | (with_reducible refine Kd.C_drew ?_)))
             (case side2 => exact (Kd.R_reads' HO240.out).2.1)
             rintro e w134 ⟨v243, rfl, ho0, hb⟩
             refine ⟨_, rfl, ?_⟩
             have n0_ := Aside0.mk (Kd.R_elder' (rq HO_206001.out) (Kd.R_base ho0) hb)
             have n1_ := Aside0.mk (Kd.R_elder' (rq HO_211001.out) (Kd.R_base ho0) hb)
             have n2_ := Aside0.mk (Kd.R_elder' (rq HO_221001.out) (Kd.R_base ho0) hb)
             have n3_ := Aside0.mk (Kd.R_elder' (rq HO240.out) (Kd.R_base ho0) hb)
             have n4_ := Aside0.mk (Kd.R_lower (Kd.R_new' (Kd.R_new' (Kd.R_new' (Kd.R_new' ho0 (Kd.R_lt (rq HO_206001.out))) (Kd.R_lt (rq HO_211001.out))) (Kd.R_lt (rq HO_221001.out))) (Kd.R_lt (rq HO240.out))) (below_size (lq HB.out)))
             have n5_ := Aside0.mk (blk_below (bq BK189.out) hb)
             have n6_ := Aside0.mk (blk_below (bq BK190.out) hb)
             have n7_ := Aside0.mk (blk_below (bq BK205.out) hb)
             have n8_ := Aside0.mk (blk_below (bq BK210.out) hb)
             have n9_ := Aside0.mk (blk_below (bq BK220.out) hb)
             have n10_ := Aside0.mk (blk_below (bq BK246.out) hb)
             have n11_ := Aside0.mk (below_step (lq HB.out) hb)
             clear HO_206001
             clear HO_211001
             clear HO_221001
             clear HO240
             clear BK189
             clear BK190
             clear BK205
             clear BK210
             clear BK220
             clear BK246
             clear HB
             have HO_206001 := n0_
             have HO_211001 := n1_
             have HO_221001 := n2_
             have HO240 := n3_
             have HO244 := n4_
             have BK189 := n5_
             have BK190 := n6_
             have BK205 := n7_
             have BK210 := n8_
             have BK220 := n9_
             have BK246 := n10_
             have HB := n11_
             clear n0_ n1_ n2_ n3_ n4_ n5_ n6_ n7_ n8_ n9_ n10_ n11_
             (try clear hb)
             (try clear hb2)
             (try clear hk)
             (try clear hi)
             (try clear ho0)
             refine hK.out _ _ ⟨(blk_cell BK189.out 0).trans rfl, (blk_cell BK189.out 1).trans rfl, (blk_cell BK189.out 2).trans rfl, (blk_cell BK189.out 3).trans rfl, (blk_cell BK190.out 0).trans rfl, (blk_cell BK190.out 1).trans rfl⟩ (fun hHeld => ?_)
             clear hK K
             refine norm_ (a' := ?_) ?_ ?_
             rotate_left
             ·show Act.put _ (some 89) _ = _
              simp only [Act.put, List.setIfInBounds_toArray, List.set_cons_zero, List.set_cons_succ, i64_w, i32_w]
              rfl
             refine pure_ (i := 6) (N := some 83) (v := ?_) (a' := ?_) #[true, true, true, true, true, true, true, false, false, true, false, false] rfl rfl (any_of HT_.out (by kernel_rfl)) (fun _ _ _ h => h) (Or.inl ⟨by rfl, ?_⟩) ?_ ?_
             rotate_left
             ·intro w'
              go_simp
              with_reducible rfl
             rotate_left
             ·simp only [Act.put, List.setIfInBounds_toArray, List.set_cons_zero, List.set_cons_succ, i64_w, i32_w]
              rfl
             refine pure_ (i := 7) (N := some 90) (v := ?_) (a' := ?_) #[true, true, true, true, true, true, true, true, false, true, false, false] rfl rfl (any_of HT_.out (by kernel_rfl)) (fun _ _ _ h => h) (Or.inl ⟨by rfl, ?_⟩) ?_ ?_
             rotate_left
             ·intro w'
              go_simp
              with_reducible rfl
             rotate_left
             ·simp only [Act.put, List.setIfInBounds_toArray, List.set_cons_zero, List.set_cons_succ, i64_w, i32_w]
              rfl
             refine pure_ (i := 8) (N := some 91) (v := ?_) (a' := ?_) #[true, true, true, true, true, true, true, true, true, true, false, false] rfl rfl (any_of HT_.out (by kernel_rfl)) (fun _ _ _ h => h) (Or.inl ⟨by rfl, ?_⟩) ?_ ?_
             rotate_left
             ·intro w'
              go_simp
              with_reducible rfl
             rotate_left
             ·simp only [Act.put, List.setIfInBounds_toArray, List.set_cons_zero, List.set_cons_succ, i64_w, i32_w]
              rfl
             exact norm_ (by simp only [putAll, Act.put, List.setIfInBounds_toArray, List.set_cons_zero, List.set_cons_succ]) (hCont (.slice Ao133 t238.length co133, v243, gb246) _ ⟨hHeld, (by (with_reducible repeat (first | apply Kd.R_alloc | apply Kd.R_drewN | apply Kd.R_drew)); exact Kd.R_mono HO240.out (fun _ hk => ⟨hk.2, ⟨hk.1.1.1.2, ⟨hk.1.1.2, hk.1.2⟩⟩⟩)), (by (with_reducible repeat (first | apply Kd.R_alloc | apply Kd.R_drewN | apply Kd.R_drew)); exact Kd.R_mono HO244.out (fun _ hk => ⟨hk.2, ⟨hk.1.1.1.2, ⟨hk.1.1.2, hk.1.2⟩⟩⟩)), (by (with_reducible repeat (first | apply Kd.R_alloc | apply Kd.R_drewN | apply Kd.R_drew)); exact Kd.R_mono HO_206001.out (fun _ hk => ⟨hk.1.2, ⟨hk.2, ⟨hk.1.1.1, hk.1.1.2⟩⟩⟩)), (by (with_reducible repeat (first | apply Kd.R_alloc | apply Kd.R_drewN | apply Kd.R_drew)); exact Kd.R_mono HO_211001.out (fun _ hk => ⟨hk.1.2, ⟨hk.2, ⟨hk.1.1.1, hk.1.1.2⟩⟩⟩)), (by (with_reducible repeat (first | apply Kd.R_alloc | apply Kd.R_drewN | apply Kd.R_drew)); exact Kd.R_mono HO_221001.out (fun _ hk => ⟨hk.1.2, ⟨hk.2, ⟨hk.1.1.1, hk.1.1.2⟩⟩⟩)), (bq BK189.out), (bq BK190.out), (bq BK205.out), (bq BK210.out), (bq BK220.out), (bq BK246.out), GW246.out, GE246.out, NB189_246.out, NB246_189.out, NB190_246.out, NB246_190.out, NB205_246.out, NB246_205.out, NB210_246.out, NB246_210.out, NB220_246.out, NB246_220.out, (lq HB.out)⟩)
           rintro ⟨v239, v243, gb246⟩ w135 ⟨hS_, h0_, h1_, h2_, h3_, h4_, h5_, h6_, h7_, h8_, h9_, h10_, h11_, h12_, h13_, h14_, h15_, h16_, h17_, h18_, h19_, h20_, h21_, h22_, h23_⟩
           have n0_ : Aside0 (Kd.R (Kd.int .u32) 46 w135 w.heap.size (fun k_ => some k_ ≠ (v243 : Value).ownBlock ∧ some k_ ≠ (.slice Ao31 t201.length co31 : Value).ownBlock ∧ some k_ ≠ (.slice Ao41 t228.length co41 : Value).ownBlock ∧ some k_ ≠ (.slice Ao49 t216.length co49 : Value).ownBlock) v239 t238) := ⟨h0_⟩
           have n1_ : Aside0 (Kd.R (Kd.int .u32) 46 w135 w.heap.size (fun k_ => some k_ ≠ (v239 : Value).ownBlock ∧ some k_ ≠ (.slice Ao31 t201.length co31 : Value).ownBlock ∧ some k_ ≠ (.slice Ao41 t228.length co41 : Value).ownBlock ∧ some k_ ≠ (.slice Ao49 t216.length co49 : Value).ownBlock) v243 t242) := ⟨h1_⟩
           have n2_ : Aside0 (Kd.R (Kd.int .u32) 46 w135 w.heap.size (fun k_ => some k_ ≠ (v239 : Value).ownBlock ∧ some k_ ≠ (v243 : Value).ownBlock ∧ some k_ ≠ (.slice Ao41 t228.length co41 : Value).ownBlock ∧ some k_ ≠ (.slice Ao49 t216.length co49 : Value).ownBlock) (.slice Ao31 t201.length co31) t201) := ⟨h2_⟩
           have n3_ : Aside0 (Kd.R (Kd.int .u32) 46 w135 w.heap.size (fun k_ => some k_ ≠ (v239 : Value).ownBlock ∧ some k_ ≠ (v243 : Value).ownBlock ∧ some k_ ≠ (.slice Ao31 t201.length co31 : Value).ownBlock ∧ some k_ ≠ (.slice Ao49 t216.length co49 : Value).ownBlock) (.slice Ao41 t228.length co41) t228) := ⟨h3_⟩
           have n4_ : Aside0 (Kd.R (Kd.int .u32) 46 w135 w.heap.size (fun k_ => some k_ ≠ (v239 : Value).ownBlock ∧ some k_ ≠ (v243 : Value).ownBlock ∧ some k_ ≠ (.slice Ao31 t201.length co31 : Value).ownBlock ∧ some k_ ≠ (.slice Ao41 t228.length co41 : Value).ownBlock) (.slice Ao49 t216.length co49) t231) := ⟨h4_⟩
           have n5_ : Aside0 (w135.heap[gb189]? = some (.cells #[.int .i64 a0_0, .int .i64 a0_1, .int .i64 a0_2, .int .i64 a0_3] 23 (0, 0))) := ⟨h5_⟩
           have n6_ : Aside0 (w135.heap[gb190]? = some (.cells #[.int .i64 a1_0, .slice A1_1 l1_1.length c1_1] 36 (0, 0))) := ⟨h6_⟩
           have n7_ : Aside0 (w135.heap[gb205]? = some (.cells #[.int .i64 t200, .slice Ao31 t201.length co31] 39 (0, 0))) := ⟨h7_⟩
           have n8_ : Aside0 (w135.heap[gb210]? = some (.cells #[.int .i64 t206, .slice Ao41 t228.length co41] 39 (0, 0))) := ⟨h8_⟩
           have n9_ : Aside0 (w135.heap[gb220]? = some (.cells #[.int .i64 t215, .slice Ao49 t216.length co49] 39 (0, 0))) := ⟨h9_⟩
           have n10_ : Aside0 (w135.heap[gb246]? = some (.cells #[.int .i64 0, .slice none 0 0] 39 (0, 0))) := ⟨h10_⟩
           have n11_ : Aside0 (w.heap.size ≤ gb246) := ⟨h11_⟩
           have n12_ : Aside0 (w.heap.size ≤ gb246) := ⟨h12_⟩
           have n13_ : Aside0 (gb189 ≠ gb246) := ⟨h13_⟩
           have n14_ : Aside0 (gb246 ≠ gb189) := ⟨h14_⟩
           have n15_ : Aside0 (gb190 ≠ gb246) := ⟨h15_⟩
           have n16_ : Aside0 (gb246 ≠ gb190) := ⟨h16_⟩
           have n17_ : Aside0 (gb205 ≠ gb246) := ⟨h17_⟩
           have n18_ : Aside0 (gb246 ≠ gb205) := ⟨h18_⟩
           have n19_ : Aside0 (gb210 ≠ gb246) := ⟨h19_⟩
           have n20_ : Aside0 (gb246 ≠ gb210) := ⟨h20_⟩
           have n21_ : Aside0 (gb220 ≠ gb246) := ⟨h21_⟩
           have n22_ : Aside0 (gb246 ≠ gb220) := ⟨h22_⟩
           have n23_ : Aside0 (Below w.heap.size w w135) := ⟨h23_⟩
           clear HO_206001
           clear HO_211001
           clear HO_221001
           clear BK189
           clear BK190
           clear BK205
           clear BK210
           clear BK220
           clear HB
           clear h0_ h1_ h2_ h3_ h4_ h5_ h6_ h7_ h8_ h9_ h10_ h11_ h12_ h13_ h14_ h15_ h16_ h17_ h18_ h19_ h20_ h21_ h22_ h23_
           have HO240 := n0_
           have HO244 := n1_
           have HO_206001 := n2_
           have HO_211001 := n3_
           have HO_221001 := n4_
           have BK189 := n5_
           have BK190 := n6_
           have BK205 := n7_
           have BK210 := n8_
           have BK220 := n9_
           have BK246 := n10_
           have GW246 := n11_
           have GE246 := n12_
           have NB189_246 := n13_
           have NB246_189 := n14_
           have NB190_246 := n15_
           have NB246_190 := n16_
           have NB205_246 := n17_
           have NB246_205 := n18_
           have NB210_246 := n19_
           have NB246_210 := n20_
           have NB220_246 := n21_
           have NB246_220 := n22_
           have HB := n23_
           clear n0_ n1_ n2_ n3_ n4_ n5_ n6_ n7_ n8_ n9_ n10_ n11_ n12_ n13_ n14_ n15_ n16_ n17_ n18_ n19_ n20_ n21_ n22_ n23_
           have hHeld : w135.cell? ⟨gb189, 0, none⟩ = some (.int .i64 a0_0) ∧ w135.cell? ⟨gb189, 1, none⟩ = some (.int .i64 a0_1) ∧ w135.cell? ⟨gb189, 2, none⟩ = some (.int .i64 a0_2) ∧ w135.cell? ⟨gb189, 3, none⟩ = some (.int .i64 a0_3) ∧ w135.cell? ⟨gb190, 0, none⟩ = some (.int .i64 a1_0) ∧ w135.cell? ⟨gb190, 1, none⟩ = some (.slice A1_1 l1_1.length c1_1) := hS_
           obtain ⟨Ao137, co137, eo137⟩ := Kd.R_slice HO244.out
           (first | subst eo137 | (injection eo137 with f1_ f2_ f3_; have f4_ := f1_.symm; have f5_ := f3_.symm; clear f1_ f2_ f3_; subst f4_; subst f5_))
           refine norm_ (a' := ?_) ?_ ?_
           rotate_left
           ·simp only [putAll, Act.put, List.setIfInBounds_toArray, List.set_cons_zero, List.set_cons_succ]
            rfl
           refine one_ (i := 10) (N := none) #[true, true, true, true, true, true, true, true, true, true, true, false] rfl rfl (one_of HT_.out (by kernel_rfl)) (by decide) (fun K hK => ?_)
           have hs136 : w135.cell? ⟨gb246, 0, none⟩ = some (.int .i64 0) := (blk_cell BK246.out 0).trans rfl
           have hfs136 := blk_frozen BK246.out 0
           have hns136_0 := NB189_246.out
           have hns136_1 := NB190_246.out
           have hns136_2 := NB205_246.out
           have hns136_3 := NB210_246.out
           have hns136_4 := NB220_246.out
           have hms136_0 := NB246_189.out
           have hms136_1 := NB246_190.out
           have hms136_2 := NB246_205.out
           have hms136_3 := NB246_210.out
           have hms136_4 := NB246_220.out
           have hs138 : w135.cell? ⟨gb246, 1, none⟩ = some (.slice none 0 0) := (blk_cell BK246.out 1).trans rfl
           have hfs138 := blk_frozen BK246.out 1
           have hns138_0 := NB189_246.out
           have hns138_1 := NB190_246.out
           have hns138_2 := NB205_246.out
           have hns138_3 := NB210_246.out
           have hns138_4 := NB220_246.out
           have hms138_0 := NB246_189.out
           have hms138_1 := NB246_190.out
           have hms138_2 := NB246_205.out
           have hms138_3 := NB246_210.out
           have hms138_4 := NB246_220.out
           refine skip_ (w1 := ?_) (by rfl) rfl ?_ ?_
           rotate_left
           ·go_simp
            rfl
           refine hK.out _ _ ⟨((cell_far (p := ⟨gb246, _, none⟩) NB189_246.out _).trans (((cell_far (p := ⟨gb246, _, none⟩) NB189_246.out _).trans (hHeld.1)))), ((cell_far (p := ⟨gb246, _, none⟩) NB189_246.out _).trans (((cell_far (p := ⟨gb246, _, none⟩) NB189_246.out _).trans (hHeld.2.1)))), ((cell_far (p := ⟨gb246, _, none⟩) NB189_246.out _).trans (((cell_far (p := ⟨gb246, _, none⟩) NB189_246.out _).trans (hHeld.2.2.1)))), ((cell_far (p := ⟨gb246, _, none⟩) NB189_246.out _).trans (((cell_far (p := ⟨gb246, _, none⟩) NB189_246.out _).trans (hHeld.2.2.2.1)))), ((cell_far (p := ⟨gb246, _, none⟩) NB190_246.out _).trans (((cell_far (p := ⟨gb246, _, none⟩) NB190_246.out _).trans (hHeld.2.2.2.2.1)))), ((cell_far (p := ⟨gb246, _, none⟩) NB190_246.out _).trans (((cell_far (p := ⟨gb246, _, none⟩) NB190_246.out _).trans (hHeld.2.2.2.2.2))))⟩ (fun hHeld => ?_)
           clear hK K
           refine pure_ (i := 11) (N := some 17) (v := ?_) (a' := ?_) #[true, true, true, true, true, true, true, true, true, true, true, true] rfl rfl (any_of HT_.out (by kernel_rfl)) (fun _ _ _ h => h) (Or.inl ⟨by rfl, ?_⟩) ?_ ?_
           rotate_left
           ·intro w'
            go_simp
            with_reducible rfl
           rotate_left
           ·simp only [Act.put, List.setIfInBounds_toArray, List.set_cons_zero, List.set_cons_succ, i64_w, i32_w]
            rfl
           refine done_ (done_of HT_.out (by kernel_rfl)) ?_
           go_upto_region 25 with (fail)
           go_cut [100] (fun v100 wc => ∃ (kq : Nat) (x100_119 : Bool), v100 = .bool x100_119 ∧ Aside0 (laws_FnExactSendOn.j2 kq t230 x100_119 t215 t231 = some true) ∧ Aside0 (kq ≤ kj77) ∧ Aside0 (Kd.R (Kd.int .u32) 46 wc w.heap.size (fun k_ => some k_ ≠ ((.slice Ao41 t228.length co41) : Value).ownBlock ∧ some k_ ≠ ((.slice Ao49 t216.length co49) : Value).ownBlock ∧ some k_ ≠ ((.slice Ao137 t242.length co137) : Value).ownBlock) (.slice Ao31 t201.length co31) t201) ∧ Aside0 (Kd.R (Kd.int .u32) 46 wc w.heap.size (fun k_ => some k_ ≠ ((.slice Ao31 t201.length co31) : Value).ownBlock ∧ some k_ ≠ ((.slice Ao49 t216.length co49) : Value).ownBlock ∧ some k_ ≠ ((.slice Ao137 t242.length co137) : Value).ownBlock) (.slice Ao41 t228.length co41) t228) ∧ Aside0 (Kd.R (Kd.int .u32) 46 wc w.heap.size (fun k_ => some k_ ≠ ((.slice Ao31 t201.length co31) : Value).ownBlock ∧ some k_ ≠ ((.slice Ao41 t228.length co41) : Value).ownBlock ∧ some k_ ≠ ((.slice Ao137 t242.length co137) : Value).ownBlock) (.slice Ao49 t216.length co49) t231) ∧ Aside0 (Kd.R (Kd.int .u32) 46 wc w.heap.size (fun k_ => some k_ ≠ ((.slice Ao31 t201.length co31) : Value).ownBlock ∧ some k_ ≠ ((.slice Ao41 t228.length co41) : Value).ownBlock ∧ some k_ ≠ ((.slice Ao49 t216.length co49) : Value).ownBlock) (.slice Ao137 t242.length co137) t242) ∧ Aside0 (wc.heap[gb189]? = some (.cells #[.int .i64 a0_0, .int .i64 a0_1, .int .i64 a0_2, .int .i64 a0_3] 23 (0, 0))) ∧ Aside0 (wc.heap[gb190]? = some (.cells #[.int .i64 a1_0, (.slice A1_1 l1_1.length c1_1)] 36 (0, 0))) ∧ Aside0 (wc.heap[gb205]? = some (.cells #[.int .i64 t200, (.slice Ao31 t201.length co31)] 39 (0, 0))) ∧ Aside0 (wc.heap[gb210]? = some (.cells #[.int .i64 t206, (.slice Ao41 t228.length co41)] 39 (0, 0))) ∧ Aside0 (wc.heap[gb220]? = some (.cells #[.int .i64 t215, (.slice Ao49 t216.length co49)] 39 (0, 0))) ∧ Aside0 (wc.heap[gb246]? = some (.cells #[.int .i64 t241, (.slice Ao137 t242.length co137)] 39 (0, 0))) ∧ Aside0 (Below w.heap.size w wc))
           case first =>
            have H := HC120.out
            clear HC120
            replace H := Option.bind_eq_some_iff.mp H
            obtain ⟨t247, A1390, H⟩ := H
            (try dsimp only at H)
            have A139 := Aside0.mk A1390
            clear A1390
            by_cases c140 : t247 = true
            ·subst c140
             rw [if_pos rfl] at H
             have H' := Aside0.mk H
             clear H
             have hnb141 := NB246_189.out
             have hnc141 := NB189_246.out
             have hnb142 := NB246_190.out
             have hnc142 := NB190_246.out
             have hnb143 := NB246_205.out
             have hnc143 := NB205_246.out
             have hnb144 := NB246_210.out
             have hnc144 := NB210_246.out
             have hnb145 := NB246_220.out
             have hnc145 := NB220_246.out
             have hcz146_0 : w135.cell? ⟨gb246, 0, none⟩ = some (.int .i64 0) := (blk_cell BK246.out 0).trans rfl
             have hcz146_1 : w135.cell? ⟨gb246, 1, none⟩ = some (.slice none 0 0) := (blk_cell BK246.out 1).trans rfl
             have hfz146_0 := blk_frozen BK246.out 0
             have hfz146_1 := blk_frozen BK246.out 1
             have hnb147 := NB205_189.out
             have hnc147 := NB189_205.out
             have hnb148 := NB205_190.out
             have hnc148 := NB190_205.out
             have hnb149 := NB205_210.out
             have hnc149 := NB210_205.out
             have hnb150 := NB205_220.out
             have hnc150 := NB220_205.out
             have hcz151_0 : w135.cell? ⟨gb205, 0, none⟩ = some (.int .i64 t200) := (blk_cell BK205.out 0).trans rfl
             have hcz151_1 : w135.cell? ⟨gb205, 1, none⟩ = some (.slice Ao31 t201.length co31) := (blk_cell BK205.out 1).trans rfl
             have hfz151_0 := blk_frozen BK205.out 0
             have hfz151_1 := blk_frozen BK205.out 1
             go_wp2_with (first | ((with_reducible refine gate_callee (f := 24) rfl ?_); refine goesL_ (some 94) rfl rfl Try.func24 (by kernel_rfl) rfl #[.agg #[.int .i64 t241, .slice Ao137 t242.length co137], .agg #[.int .i64 t200, .slice Ao31 t201.length co31]] rfl (by (try simp only [List.map_toArray, List.map_cons, List.map_nil]); first | done | rfl | (simp only [List.length_drop, List.length_take]; rfl)) ?_; (with_reducible refine (laws_eqOutEnd.calls kj77 t241 _ _ t242 t200 _ _ t201 true _ ?side1 ?side2 ?side3 ?side4 A139.out).mono ?_); (case side1 => refine (Kd.R_reads' (e := 46) (base := w.heap.size) (ok := fun k_ => (some k_ ≠ (v239 : Value).ownBlock ∧ (some k_ ≠ (.slice Ao31 t201.length co31 : Value).ownBlock ∧ (some k_ ≠ (.slice Ao41 t228.length co41 : Value).ownBlock ∧ some k_ ≠ (.slice Ao49 t216.length co49 : Value).ownBlock)))) (n := t242.length) (c := co137) ?_).2.2; exact (rq (Kd.R_mono (Kd.R_far (p := ⟨gb246, 1, none⟩) (Kd.R_far (p := ⟨gb246, 0, none⟩) (Kd.R_types HO244.out BK246.out (by decide)) (fun _ hk => hk.2) (.int .i64 t241)) (fun _ hk => hk.2) (.slice Ao137 t242.length co137)) (fun _ h_ => h_.1)))); (case side2 => exact (Kd.R_reads' HO244.out).2.1); (case side3 => refine (Kd.R_reads' (e := 46) (base := w.heap.size) (ok := fun k_ => (some k_ ≠ (v239 : Value).ownBlock ∧ (some k_ ≠ (.slice Ao137 t242.length co137 : Value).ownBlock ∧ (some k_ ≠ (.slice Ao41 t228.length co41 : Value).ownBlock ∧ some k_ ≠ (.slice Ao49 t216.length co49 : Value).ownBlock)))) (n := t201.length) (c := co31) ?_).2.2; exact (rq (Kd.R_mono (Kd.R_far (p := ⟨gb246, 1, none⟩) (Kd.R_far (p := ⟨gb246, 0, none⟩) (Kd.R_types HO_206001.out BK246.out (by decide)) (fun _ hk => hk.2) (.int .i64 t241)) (fun _ hk => hk.2) (.slice Ao137 t242.length co137)) (fun _ h_ => h_.1)))); (case side4 => exact (Kd.R_reads' HO_206001.out).2.1); rintro e w152 ⟨rfl, hb⟩; refine ⟨_, rfl, ?_⟩; have n0_ := Aside0.mk (Kd.R_below (rq (Kd.R_mono (Kd.R_far (p := ⟨gb246, 1, none⟩) (Kd.R_far (p := ⟨gb246, 0, none⟩) (Kd.R_types HO_206001.out BK246.out (by decide)) (fun _ hk => hk.2) (.int .i64 t241)) (fun _ hk => hk.2) (.slice Ao137 t242.length co137)) (fun _ h_ => h_.1))) hb); have n1_ := Aside0.mk (Kd.R_below (rq (Kd.R_mono (Kd.R_far (p := ⟨gb246, 1, none⟩) (Kd.R_far (p := ⟨gb246, 0, none⟩) (Kd.R_types HO_211001.out BK246.out (by decide)) (fun _ hk => hk.2) (.int .i64 t241)) (fun _ hk => hk.2) (.slice Ao137 t242.length co137)) (fun _ h_ => h_.1))) hb); have n2_ := Aside0.mk (Kd.R_below (rq (Kd.R_mono (Kd.R_far (p := ⟨gb246, 1, none⟩) (Kd.R_far (p := ⟨gb246, 0, none⟩) (Kd.R_types HO_221001.out BK246.out (by decide)) (fun _ hk => hk.2) (.int .i64 t241)) (fun _ hk => hk.2) (.slice Ao137 t242.length co137)) (fun _ h_ => h_.1))) hb); have n3_ := Aside0.mk (Kd.R_below (rq (Kd.R_mono (Kd.R_far (p := ⟨gb246, 1, none⟩) (Kd.R_far (p := ⟨gb246, 0, none⟩) (Kd.R_types HO240.out BK246.out (by decide)) (fun _ hk => hk.2) (.int .i64 t241)) (fun _ hk => hk.2) (.slice Ao137 t242.length co137)) (fun _ h_ => h_.1))) hb); have n4_ := Aside0.mk (Kd.R_below (rq (Kd.R_mono (Kd.R_far (p := ⟨gb246, 1, none⟩) (Kd.R_far (p := ⟨gb246, 0, none⟩) (Kd.R_types HO244.out BK246.out (by decide)) (fun _ hk => hk.2) (.int .i64 t241)) (fun _ hk => hk.2) (.slice Ao137 t242.length co137)) (fun _ h_ => h_.1))) hb); have n5_ := Aside0.mk (blk_below (g := gb189) (o := .cells #[.int .i64 a0_0, .int .i64 a0_1, .int .i64 a0_2, .int .i64 a0_3] 23 (0, 0)) (by (with_reducible repeat (first | refine blk_drewN ?_ _ | refine blk_drew ?_ | refine blk_alloc ?_ _)); refine blk_far ?_ NB189_246.out _; (with_reducible repeat (first | refine blk_drewN ?_ _ | refine blk_drew ?_ | refine blk_alloc ?_ _)); refine blk_far ?_ NB189_246.out _; (with_reducible repeat (first | refine blk_drewN ?_ _ | refine blk_drew ?_ | refine blk_alloc ?_ _)); exact BK189.out) hb); have n6_ := Aside0.mk (blk_below (g := gb190) (o := .cells #[.int .i64 a1_0, .slice A1_1 l1_1.length c1_1] 36 (0, 0)) (by (with_reducible repeat (first | refine blk_drewN ?_ _ | refine blk_drew ?_ | refine blk_alloc ?_ _)); refine blk_far ?_ NB190_246.out _; (with_reducible repeat (first | refine blk_drewN ?_ _ | refine blk_drew ?_ | refine blk_alloc ?_ _)); refine blk_far ?_ NB190_246.out _; (with_reducible repeat (first | refine blk_drewN ?_ _ | refine blk_drew ?_ | refine blk_alloc ?_ _)); exact BK190.out) hb); have n7_ := Aside0.mk (blk_below (g := gb205) (o := .cells #[.int .i64 t200, .slice Ao31 t201.length co31] 39 (0, 0)) (by (with_reducible repeat (first | refine blk_drewN ?_ _ | refine blk_drew ?_ | refine blk_alloc ?_ _)); refine blk_far ?_ NB205_246.out _; (with_reducible repeat (first | refine blk_drewN ?_ _ | refine blk_drew ?_ | refine blk_alloc ?_ _)); refine blk_far ?_ NB205_246.out _; (with_reducible repeat (first | refine blk_drewN ?_ _ | refine blk_drew ?_ | refine blk_alloc ?_ _)); exact BK205.out) hb); have n8_ := Aside0.mk (blk_below (g := gb210) (o := .cells #[.int .i64 t206, .slice Ao41 t228.length co41] 39 (0, 0)) (by (with_reducible repeat (first | refine blk_drewN ?_ _ | refine blk_drew ?_ | refine blk_alloc ?_ _)); refine blk_far ?_ NB210_246.out _; (with_reducible repeat (first | refine blk_drewN ?_ _ | refine blk_drew ?_ | refine blk_alloc ?_ _)); refine blk_far ?_ NB210_246.out _; (with_reducible repeat (first | refine blk_drewN ?_ _ | refine blk_drew ?_ | refine blk_alloc ?_ _)); exact BK210.out) hb); have n9_ := Aside0.mk (blk_below (g := gb220) (o := .cells #[.int .i64 t215, .slice Ao49 t216.length co49] 39 (0, 0)) (by (with_reducible repeat (first | refine blk_drewN ?_ _ | refine blk_drew ?_ | refine blk_alloc ?_ _)); refine blk_far ?_ NB220_246.out _; (with_reducible repeat (first | refine blk_drewN ?_ _ | refine blk_drew ?_ | refine blk_alloc ?_ _)); refine blk_far ?_ NB220_246.out _; (with_reducible repeat (first | refine blk_drewN ?_ _ | refine blk_drew ?_ | refine blk_alloc ?_ _)); exact BK220.out) hb); have n10_ := Aside0.mk (blk_below (g := gb246) (o := .cells #[.int .i64 t241, .slice Ao137 t242.length co137] 39 (0, 0)) (by (with_reducible repeat (first | refine blk_drewN ?_ _ | refine blk_drew ?_ | refine blk_alloc ?_ _)); refine blk_put (cs := #[.int .i64 t241, .slice none 0 0]) ?_ 1 _ rfl; (with_reducible repeat (first | refine blk_drewN ?_ _ | refine blk_drew ?_ | refine blk_alloc ?_ _)); refine blk_put (cs := #[.int .i64 0, .slice none 0 0]) ?_ 0 _ rfl; (with_reducible repeat (first | refine blk_drewN ?_ _ | refine blk_drew ?_ | refine blk_alloc ?_ _)); exact BK246.out) hb); have n11_ := Aside0.mk (below_step (by repeat (first | (with_reducible first | exact HB.out | apply below_alloc | apply pw_below_drewN | apply below_drew1 | refine below_set ?_ GE246.out) | exact HB.out)) hb); clear HO_206001; clear HO_211001; clear HO_221001; clear HO240; clear HO244; clear BK189; clear BK190; clear BK205; clear BK210; clear BK220; clear BK246; clear HB; have HO_206001 := n0_; have HO_211001 := n1_; have HO_221001 := n2_; have HO240 := n3_; have HO244 := n4_; have BK189 := n5_; have BK190 := n6_; have BK205 := n7_; have BK210 := n8_; have BK220 := n9_; have BK246 := n10_; have HB := n11_; clear n0_ n1_ n2_ n3_ n4_ n5_ n6_ n7_ n8_ n9_ n10_ n11_; (try clear hb); (try clear hb2); (try clear hk); (try clear hi)))
             go_meet
             case rel => exact ⟨_, ((t245 != t204)), (by first | rfl | (simp; done) | (simp [*]; done)), H', ⟨by have := HJ16.out; have := HJ77.out; first | omega | exact Nat.le_refl _⟩, ⟨by (try simp only [hl211001_77]); (with_reducible repeat (first | apply Kd.R_alloc | apply Kd.R_drewN | apply Kd.R_drew)); exact Kd.R_mono HO_206001.out (fun _ hk => ⟨hk.2.2.1, ⟨hk.2.2.2, hk.2.1⟩⟩)⟩, ⟨by (try simp only [hl211001_77]); (with_reducible repeat (first | apply Kd.R_alloc | apply Kd.R_drewN | apply Kd.R_drew)); exact Kd.R_mono HO_211001.out (fun _ hk => ⟨hk.2.2.1, ⟨hk.2.2.2, hk.2.1⟩⟩)⟩, ⟨by (try simp only [hl211001_77]); (with_reducible repeat (first | apply Kd.R_alloc | apply Kd.R_drewN | apply Kd.R_drew)); exact Kd.R_mono HO_221001.out (fun _ hk => ⟨hk.2.2.1, ⟨hk.2.2.2, hk.2.1⟩⟩)⟩, ⟨by (try simp only [hl211001_77]); (with_reducible repeat (first | apply Kd.R_alloc | apply Kd.R_drewN | apply Kd.R_drew)); exact Kd.R_mono HO244.out (fun _ hk => ⟨hk.2.1, ⟨hk.2.2.1, hk.2.2.2⟩⟩)⟩, ⟨by (try simp only [hl211001_77]); (with_reducible repeat (first | refine blk_drewN ?_ _ | refine blk_drew ?_ | refine blk_alloc ?_ _)); exact BK189.out⟩, ⟨by (try simp only [hl211001_77]); (with_reducible repeat (first | refine blk_drewN ?_ _ | refine blk_drew ?_ | refine blk_alloc ?_ _)); exact BK190.out⟩, ⟨by (try simp only [hl211001_77]); (with_reducible repeat (first | refine blk_drewN ?_ _ | refine blk_drew ?_ | refine blk_alloc ?_ _)); exact BK205.out⟩, ⟨by (try simp only [hl211001_77]); (with_reducible repeat (first | refine blk_drewN ?_ _ | refine blk_drew ?_ | refine blk_alloc ?_ _)); exact BK210.out⟩, ⟨by (try simp only [hl211001_77]); (with_reducible repeat (first | refine blk_drewN ?_ _ | refine blk_drew ?_ | refine blk_alloc ?_ _)); exact BK220.out⟩, ⟨by (try simp only [hl211001_77]); (with_reducible repeat (first | refine blk_drewN ?_ _ | refine blk_drew ?_ | refine blk_alloc ?_ _)); exact BK246.out⟩, ⟨by exact lq HB.out⟩⟩
            ·replace c140 := Bool.eq_false_iff.mpr c140
             subst c140
             rw [if_neg (show ¬ (false = true) by decide)] at H
             have H' := Aside0.mk H
             clear H
             have hnb153 := NB246_189.out
             have hnc153 := NB189_246.out
             have hnb154 := NB246_190.out
             have hnc154 := NB190_246.out
             have hnb155 := NB246_205.out
             have hnc155 := NB205_246.out
             have hnb156 := NB246_210.out
             have hnc156 := NB210_246.out
             have hnb157 := NB246_220.out
             have hnc157 := NB220_246.out
             have hcz158_0 : w135.cell? ⟨gb246, 0, none⟩ = some (.int .i64 0) := (blk_cell BK246.out 0).trans rfl
             have hcz158_1 : w135.cell? ⟨gb246, 1, none⟩ = some (.slice none 0 0) := (blk_cell BK246.out 1).trans rfl
             have hfz158_0 := blk_frozen BK246.out 0
             have hfz158_1 := blk_frozen BK246.out 1
             have hnb159 := NB205_189.out
             have hnc159 := NB189_205.out
             have hnb160 := NB205_190.out
             have hnc160 := NB190_205.out
             have hnb161 := NB205_210.out
             have hnc161 := NB210_205.out
             have hnb162 := NB205_220.out
             have hnc162 := NB220_205.out
             have hcz163_0 : w135.cell? ⟨gb205, 0, none⟩ = some (.int .i64 t200) := (blk_cell BK205.out 0).trans rfl
             have hcz163_1 : w135.cell? ⟨gb205, 1, none⟩ = some (.slice Ao31 t201.length co31) := (blk_cell BK205.out 1).trans rfl
             have hfz163_0 := blk_frozen BK205.out 0
             have hfz163_1 := blk_frozen BK205.out 1
             go_wp2_with (first | ((with_reducible refine gate_callee (f := 24) rfl ?_); refine goesL_ (some 94) rfl rfl Try.func24 (by kernel_rfl) rfl #[.agg #[.int .i64 t241, .slice Ao137 t242.length co137], .agg #[.int .i64 t200, .slice Ao31 t201.length co31]] rfl (by (try simp only [List.map_toArray, List.map_cons, List.map_nil]); first | done | rfl | (simp only [List.length_drop, List.length_take]; rfl)) ?_; (with_reducible refine (laws_eqOutEnd.calls kj77 t241 _ _ t242 t200 _ _ t201 false _ ?side1 ?side2 ?side3 ?side4 A139.out).mono ?_); (case side1 => refine (Kd.R_reads' (e := 46) (base := w.heap.size) (ok := fun k_ => (some k_ ≠ (v239 : Value).ownBlock ∧ (some k_ ≠ (.slice Ao31 t201.length co31 : Value).ownBlock ∧ (some k_ ≠ (.slice Ao41 t228.length co41 : Value).ownBlock ∧ some k_ ≠ (.slice Ao49 t216.length co49 : Value).ownBlock)))) (n := t242.length) (c := co137) ?_).2.2; exact (rq (Kd.R_mono (Kd.R_far (p := ⟨gb246, 1, none⟩) (Kd.R_far (p := ⟨gb246, 0, none⟩) (Kd.R_types HO244.out BK246.out (by decide)) (fun _ hk => hk.2) (.int .i64 t241)) (fun _ hk => hk.2) (.slice Ao137 t242.length co137)) (fun _ h_ => h_.1)))); (case side2 => exact (Kd.R_reads' HO244.out).2.1); (case side3 => refine (Kd.R_reads' (e := 46) (base := w.heap.size) (ok := fun k_ => (some k_ ≠ (v239 : Value).ownBlock ∧ (some k_ ≠ (.slice Ao137 t242.length co137 : Value).ownBlock ∧ (some k_ ≠ (.slice Ao41 t228.length co41 : Value).ownBlock ∧ some k_ ≠ (.slice Ao49 t216.length co49 : Value).ownBlock)))) (n := t201.length) (c := co31) ?_).2.2; exact (rq (Kd.R_mono (Kd.R_far (p := ⟨gb246, 1, none⟩) (Kd.R_far (p := ⟨gb246, 0, none⟩) (Kd.R_types HO_206001.out BK246.out (by decide)) (fun _ hk => hk.2) (.int .i64 t241)) (fun _ hk => hk.2) (.slice Ao137 t242.length co137)) (fun _ h_ => h_.1)))); (case side4 => exact (Kd.R_reads' HO_206001.out).2.1); rintro e w164 ⟨rfl, hb⟩; refine ⟨_, rfl, ?_⟩; have n0_ := Aside0.mk (Kd.R_below (rq (Kd.R_mono (Kd.R_far (p := ⟨gb246, 1, none⟩) (Kd.R_far (p := ⟨gb246, 0, none⟩) (Kd.R_types HO_206001.out BK246.out (by decide)) (fun _ hk => hk.2) (.int .i64 t241)) (fun _ hk => hk.2) (.slice Ao137 t242.length co137)) (fun _ h_ => h_.1))) hb); have n1_ := Aside0.mk (Kd.R_below (rq (Kd.R_mono (Kd.R_far (p := ⟨gb246, 1, none⟩) (Kd.R_far (p := ⟨gb246, 0, none⟩) (Kd.R_types HO_211001.out BK246.out (by decide)) (fun _ hk => hk.2) (.int .i64 t241)) (fun _ hk => hk.2) (.slice Ao137 t242.length co137)) (fun _ h_ => h_.1))) hb); have n2_ := Aside0.mk (Kd.R_below (rq (Kd.R_mono (Kd.R_far (p := ⟨gb246, 1, none⟩) (Kd.R_far (p := ⟨gb246, 0, none⟩) (Kd.R_types HO_221001.out BK246.out (by decide)) (fun _ hk => hk.2) (.int .i64 t241)) (fun _ hk => hk.2) (.slice Ao137 t242.length co137)) (fun _ h_ => h_.1))) hb); have n3_ := Aside0.mk (Kd.R_below (rq (Kd.R_mono (Kd.R_far (p := ⟨gb246, 1, none⟩) (Kd.R_far (p := ⟨gb246, 0, none⟩) (Kd.R_types HO240.out BK246.out (by decide)) (fun _ hk => hk.2) (.int .i64 t241)) (fun _ hk => hk.2) (.slice Ao137 t242.length co137)) (fun _ h_ => h_.1))) hb); have n4_ := Aside0.mk (Kd.R_below (rq (Kd.R_mono (Kd.R_far (p := ⟨gb246, 1, none⟩) (Kd.R_far (p := ⟨gb246, 0, none⟩) (Kd.R_types HO244.out BK246.out (by decide)) (fun _ hk => hk.2) (.int .i64 t241)) (fun _ hk => hk.2) (.slice Ao137 t242.length co137)) (fun _ h_ => h_.1))) hb); have n5_ := Aside0.mk (blk_below (g := gb189) (o := .cells #[.int .i64 a0_0, .int .i64 a0_1, .int .i64 a0_2, .int .i64 a0_3] 23 (0, 0)) (by (with_reducible repeat (first | refine blk_drewN ?_ _ | refine blk_drew ?_ | refine blk_alloc ?_ _)); refine blk_far ?_ NB189_246.out _; (with_reducible repeat (first | refine blk_drewN ?_ _ | refine blk_drew ?_ | refine blk_alloc ?_ _)); refine blk_far ?_ NB189_246.out _; (with_reducible repeat (first | refine blk_drewN ?_ _ | refine blk_drew ?_ | refine blk_alloc ?_ _)); exact BK189.out) hb); have n6_ := Aside0.mk (blk_below (g := gb190) (o := .cells #[.int .i64 a1_0, .slice A1_1 l1_1.length c1_1] 36 (0, 0)) (by (with_reducible repeat (first | refine blk_drewN ?_ _ | refine blk_drew ?_ | refine blk_alloc ?_ _)); refine blk_far ?_ NB190_246.out _; (with_reducible repeat (first | refine blk_drewN ?_ _ | refine blk_drew ?_ | refine blk_alloc ?_ _)); refine blk_far ?_ NB190_246.out _; (with_reducible repeat (first | refine blk_drewN ?_ _ | refine blk_drew ?_ | refine blk_alloc ?_ _)); exact BK190.out) hb); have n7_ := Aside0.mk (blk_below (g := gb205) (o := .cells #[.int .i64 t200, .slice Ao31 t201.length co31] 39 (0, 0)) (by (with_reducible repeat (first | refine blk_drewN ?_ _ | refine blk_drew ?_ | refine blk_alloc ?_ _)); refine blk_far ?_ NB205_246.out _; (with_reducible repeat (first | refine blk_drewN ?_ _ | refine blk_drew ?_ | refine blk_alloc ?_ _)); refine blk_far ?_ NB205_246.out _; (with_reducible repeat (first | refine blk_drewN ?_ _ | refine blk_drew ?_ | refine blk_alloc ?_ _)); exact BK205.out) hb); have n8_ := Aside0.mk (blk_below (g := gb210) (o := .cells #[.int .i64 t206, .slice Ao41 t228.length co41] 39 (0, 0)) (by (with_reducible repeat (first | refine blk_drewN ?_ _ | refine blk_drew ?_ | refine blk_alloc ?_ _)); refine blk_far ?_ NB210_246.out _; (with_reducible repeat (first | refine blk_drewN ?_ _ | refine blk_drew ?_ | refine blk_alloc ?_ _)); refine blk_far ?_ NB210_246.out _; (with_reducible repeat (first | refine blk_drewN ?_ _ | refine blk_drew ?_ | refine blk_alloc ?_ _)); exact BK210.out) hb); have n9_ := Aside0.mk (blk_below (g := gb220) (o := .cells #[.int .i64 t215, .slice Ao49 t216.length co49] 39 (0, 0)) (by (with_reducible repeat (first | refine blk_drewN ?_ _ | refine blk_drew ?_ | refine blk_alloc ?_ _)); refine blk_far ?_ NB220_246.out _; (with_reducible repeat (first | refine blk_drewN ?_ _ | refine blk_drew ?_ | refine blk_alloc ?_ _)); refine blk_far ?_ NB220_246.out _; (with_reducible repeat (first | refine blk_drewN ?_ _ | refine blk_drew ?_ | refine blk_alloc ?_ _)); exact BK220.out) hb); have n10_ := Aside0.mk (blk_below (g := gb246) (o := .cells #[.int .i64 t241, .slice Ao137 t242.length co137] 39 (0, 0)) (by (with_reducible repeat (first | refine blk_drewN ?_ _ | refine blk_drew ?_ | refine blk_alloc ?_ _)); refine blk_put (cs := #[.int .i64 t241, .slice none 0 0]) ?_ 1 _ rfl; (with_reducible repeat (first | refine blk_drewN ?_ _ | refine blk_drew ?_ | refine blk_alloc ?_ _)); refine blk_put (cs := #[.int .i64 0, .slice none 0 0]) ?_ 0 _ rfl; (with_reducible repeat (first | refine blk_drewN ?_ _ | refine blk_drew ?_ | refine blk_alloc ?_ _)); exact BK246.out) hb); have n11_ := Aside0.mk (below_step (by repeat (first | (with_reducible first | exact HB.out | apply below_alloc | apply pw_below_drewN | apply below_drew1 | refine below_set ?_ GE246.out) | exact HB.out)) hb); clear HO_206001; clear HO_211001; clear HO_221001; clear HO240; clear HO244; clear BK189; clear BK190; clear BK205; clear BK210; clear BK220; clear BK246; clear HB; have HO_206001 := n0_; have HO_211001 := n1_; have HO_221001 := n2_; have HO240 := n3_; have HO244 := n4_; have BK189 := n5_; have BK190 := n6_; have BK205 := n7_; have BK210 := n8_; have BK220 := n9_; have BK246 := n10_; have HB := n11_; clear n0_ n1_ n2_ n3_ n4_ n5_ n6_ n7_ n8_ n9_ n10_ n11_; (try clear hb); (try clear hb2); (try clear hk); (try clear hi)))
             go_meet
             case rel => exact ⟨_, (true), (by first | rfl | (simp; done) | (simp [*]; done)), H', ⟨by have := HJ16.out; have := HJ77.out; first | omega | exact Nat.le_refl _⟩, ⟨by (try simp only [hl211001_77]); (with_reducible repeat (first | apply Kd.R_alloc | apply Kd.R_drewN | apply Kd.R_drew)); exact Kd.R_mono HO_206001.out (fun _ hk => ⟨hk.2.2.1, ⟨hk.2.2.2, hk.2.1⟩⟩)⟩, ⟨by (try simp only [hl211001_77]); (with_reducible repeat (first | apply Kd.R_alloc | apply Kd.R_drewN | apply Kd.R_drew)); exact Kd.R_mono HO_211001.out (fun _ hk => ⟨hk.2.2.1, ⟨hk.2.2.2, hk.2.1⟩⟩)⟩, ⟨by (try simp only [hl211001_77]); (with_reducible repeat (first | apply Kd.R_alloc | apply Kd.R_drewN | apply Kd.R_drew)); exact Kd.R_mono HO_221001.out (fun _ hk => ⟨hk.2.2.1, ⟨hk.2.2.2, hk.2.1⟩⟩)⟩, ⟨by (try simp only [hl211001_77]); (with_reducible repeat (first | apply Kd.R_alloc | apply Kd.R_drewN | apply Kd.R_drew)); exact Kd.R_mono HO244.out (fun _ hk => ⟨hk.2.1, ⟨hk.2.2.1, hk.2.2.2⟩⟩)⟩, ⟨by (try simp only [hl211001_77]); (with_reducible repeat (first | refine blk_drewN ?_ _ | refine blk_drew ?_ | refine blk_alloc ?_ _)); exact BK189.out⟩, ⟨by (try simp only [hl211001_77]); (with_reducible repeat (first | refine blk_drewN ?_ _ | refine blk_drew ?_ | refine blk_alloc ?_ _)); exact BK190.out⟩, ⟨by (try simp only [hl211001_77]); (with_reducible repeat (first | refine blk_drewN ?_ _ | refine blk_drew ?_ | refine blk_alloc ?_ _)); exact BK205.out⟩, ⟨by (try simp only [hl211001_77]); (with_reducible repeat (first | refine blk_drewN ?_ _ | refine blk_drew ?_ | refine blk_alloc ?_ _)); exact BK210.out⟩, ⟨by (try simp only [hl211001_77]); (with_reducible repeat (first | refine blk_drewN ?_ _ | refine blk_drew ?_ | refine blk_alloc ?_ _)); exact BK220.out⟩, ⟨by (try simp only [hl211001_77]); (with_reducible repeat (first | refine blk_drewN ?_ _ | refine blk_drew ?_ | refine blk_alloc ?_ _)); exact BK246.out⟩, ⟨by exact lq HB.out⟩⟩
           case rest =>
            clear HC120
            try clear c1
            try clear c2
            try clear p2
            try clear c3
            try clear c14
            try clear c15
            try clear c16
            try clear c22
            try clear c24
            try clear c36
            try clear c140
            try clear c141
            try clear c142
            try clear c143
            try clear c144
            try clear c145
            try clear c147
            try clear c148
            try clear c149
            try clear c150
            try clear c153
            try clear c154
            try clear c155
            try clear c156
            try clear c157
            try clear c159
            try clear c160
            try clear c161
            try clear c162
            try clear hcz146_0
            try clear hcz146_1
            try clear hcz151_0
            try clear hcz151_1
            try clear hcz158_0
            try clear hcz158_1
            try clear hcz163_0
            try clear hcz163_1
            try clear hfz146_0
            try clear hfz146_1
            try clear hfz151_0
            try clear hfz151_1
            try clear hfz158_0
            try clear hfz158_1
            try clear hfz163_0
            try clear hfz163_1
            obtain ⟨kq, x100_119, rfl, HA, HJ119, HO_206001, HO_211001, HO_221001, HO_247001, BK189, BK190, BK205, BK210, BK220, BK246, HB⟩ := hcut
            have hl221001_119 := (Kd.R_reads' HO_221001.out).1
            rw [hl221001_119] at HO_221001
            (try simp only [hl221001_119])
            (try simp only [hl221001_119] at BK189)
            (try simp only [hl221001_119] at BK190)
            (try simp only [hl221001_119] at BK205)
            (try simp only [hl221001_119] at BK210)
            (try simp only [hl221001_119] at BK220)
            (try simp only [hl221001_119] at BK246)
            (try simp only [hl221001_119] at HO_206001)
            (try simp only [hl221001_119] at HO_211001)
            (try simp only [hl221001_119] at HO_247001)
            cases kq with
            | zero => exact absurd HA.out (by simp [laws_FnExactSendOn.j2])
            | succ kj119 =>
             have H := HA.out
             clear HA
             simp only [laws_FnExactSendOn.j2] at H
             by_cases c165 : x100_119 = true
             ·subst c165
              rw [if_pos rfl] at H
              exact absurd H (by simp)
             ·replace c165 := Bool.eq_false_iff.mpr c165
              subst c165
              rw [if_neg (show ¬ (false = true) by decide)] at H
              replace H := Option.bind_eq_some_iff.mp H
              obtain ⟨t248, A1660, H⟩ := H
              (try dsimp only at H)
              have A166 := Aside0.mk A1660
              clear A1660
              by_cases c167 : t248 < 0
              ·rw [if_pos c167] at H
               have c167b0 : decide (t248 < 0) = true := decide_eq_true c167
               clear c167
               exact absurd H (by simp)
              ·rw [if_neg c167] at H
               have c167b0 : decide (t248 < 0) = false := decide_eq_false c167
               clear c167
               by_cases c168 : t248 = t230
               ·rw [if_pos c168] at H
                have c168b0 : (t248 == t230) = true := beq_iff_eq.mpr c168
                have c168b1 : (t248 != t230) = false := bne_eq_false_iff_eq.mpr c168
                clear c168
                clear H
                have hnb169 := NB220_189.out
                have hnc169 := NB189_220.out
                have hnb170 := NB220_190.out
                have hnc170 := NB190_220.out
                have hnb171 := NB220_205.out
                have hnc171 := NB205_220.out
                have hnb172 := NB220_210.out
                have hnc172 := NB210_220.out
                have hnb173 := NB220_246.out
                have hnc173 := NB246_220.out
                have hcz174_0 : wc.cell? ⟨gb220, 0, none⟩ = some (.int .i64 t215) := (blk_cell BK220.out 0).trans rfl
                have hcz174_1 : wc.cell? ⟨gb220, 1, none⟩ = some (.slice Ao49 t231.length co49) := (blk_cell BK220.out 1).trans rfl
                have hfz174_0 := blk_frozen BK220.out 0
                have hfz174_1 := blk_frozen BK220.out 1
                go_wp2_with (first | ((with_reducible refine gate_callee (f := 30) rfl ?_); refine goesL_ (some 103) rfl rfl Try.func30 (by kernel_rfl) rfl #[.agg #[.int .i64 t215, .slice Ao49 t231.length co49], .int .i64 1] rfl (by (try simp only [List.map_toArray, List.map_cons, List.map_nil]); first | done | rfl | (simp only [List.length_drop, List.length_take]; rfl)) ?_; (with_reducible refine (laws_heldOutEnd.calls kj119 t215 _ _ t231 1 t248 _ ?side1 ?side2 A166.out).mono ?_); (case side1 => repeat (first | exact (Kd.R_reads' HO_221001.out).2.2 | (with_reducible refine Kd.C_alloc ?_ _) | (with_reducible refine Kd.C_drewN ?_ _) | (with_reducible refine Kd.C_drew ?_))); (case side2 => exact (Kd.R_reads' HO_221001.out).2.1); rintro e w175 ⟨rfl, hb⟩; refine ⟨_, rfl, ?_⟩; have n0_ := Aside0.mk (Kd.R_below (rq HO_206001.out) hb); have n1_ := Aside0.mk (Kd.R_below (rq HO_211001.out) hb); have n2_ := Aside0.mk (Kd.R_below (rq HO_221001.out) hb); have n3_ := Aside0.mk (Kd.R_below (rq HO_247001.out) hb); have n4_ := Aside0.mk (blk_below (bq BK189.out) hb); have n5_ := Aside0.mk (blk_below (bq BK190.out) hb); have n6_ := Aside0.mk (blk_below (bq BK205.out) hb); have n7_ := Aside0.mk (blk_below (bq BK210.out) hb); have n8_ := Aside0.mk (blk_below (bq BK220.out) hb); have n9_ := Aside0.mk (blk_below (bq BK246.out) hb); have n10_ := Aside0.mk (below_step (lq HB.out) hb); clear HO_206001; clear HO_211001; clear HO_221001; clear HO_247001; clear BK189; clear BK190; clear BK205; clear BK210; clear BK220; clear BK246; clear HB; have HO_206001 := n0_; have HO_211001 := n1_; have HO_221001 := n2_; have HO_247001 := n3_; have BK189 := n4_; have BK190 := n5_; have BK205 := n6_; have BK210 := n7_; have BK220 := n8_; have BK246 := n9_; have HB := n10_; clear n0_ n1_ n2_ n3_ n4_ n5_ n6_ n7_ n8_ n9_ n10_; (try clear hb); (try clear hb2); (try clear hk); (try clear hi)))
                go_ret
                exact ⟨by first | rfl | (simp [errW_none, errW_some] <;> rfl) | (simp [*, errW_none, errW_some] <;> rfl), by exact lq HB.out⟩
               ·rw [if_neg c168] at H
                have c168b0 : (t248 == t230) = false := beq_eq_false_iff_ne.mpr c168
                have c168b1 : (t248 != t230) = true := bne_iff_ne.mpr c168
                exact absurd H (by simp)
          ·rw [if_neg c116] at H
           have c116b0 : (t232 == t230) = false := beq_eq_false_iff_ne.mpr c116
           have c116b1 : (t232 != t230) = true := bne_iff_ne.mpr c116
           exact absurd H (by simp)
     ·replace c76 := Bool.eq_false_iff.mpr c76
      subst c76
      rw [if_neg (show ¬ (false = true) by decide)] at H
      exact absurd H (by simp)

end Go.Proofs.Ytioifcanipijhaa.GC
