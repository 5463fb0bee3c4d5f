/- Told by a program of this session, out of the translation: each function of the group as a plain Lean function, and that Go's call comes to just its answer. Lean checks it. -/
import Derived.Test.YtpdfihapnnnglaaGBx0
import Derived.Test.YtpdfihapnnnglaaGBx6
import Derived.Test.YtpdfihapnnnglaaGBx7
import Derived.Test.YtpdfihapnnnglaaGBx9
import Derived.Test.YtpdfihapnnnglaaGBx10
import Derived.Test.YtpdfihapnnnglaaGBx11
namespace Go.Proofs.Ytpdfihapnnnglaa.GB
open Go.RowKit Go.Proofs.YtpdfihapnnnglaaW.PrintWords Go.Proofs.YtpdfihapnnnglaaW.PrintLast Go.Proofs.YtpdfihapnnnglaaW.PrintMore Go.Proofs.Ytpdfihapnnnglaa.Q
attribute [local go_sem] max2_int min2_int max_two min_two max_three min_three max_four min_four   -- for this text's walks alone
set_option linter.unusedVariables false
set_option linter.unusedSimpArgs false

/-! ### laws_FnExactHealthRun: function 8 -/
mutual
def laws_FnExactHealthRun.j0 : Nat → List Int → List Int → List Int → List Int → Bool → Int → Int → Int → Int → Int → Bool → Int → Int → Int → Bool → Option (Bool)
 | 0, _, _, _, _, _, _, _, _, _, _, _, _, _, _, _ => none
 | k + 1, x1, x6, x7, x9, x44, x305000, x305001, x318000, x318001, x318002, x318003, x331000, x331001, x331002, x331003 => if x44 = true then (some false) else ((laws_toIntS.f k x1).bind fun t333 => ((laws_eqIntS.f k x7 t333).bind fun t336 => (if t336 = true then ((laws_markIntS.f k x7 1).bind fun bt337 => (if bt337.1 < 0 then (laws_FnExactHealthRun.j1 k x1 x6 x9 true x305000 x305001 x318000 x318001 x318002 x318003) else ((laws_eqHealth.f x331000 x331001 x331002 x331003 x318000 x318001 x318002 x318003).bind fun t339 => (if t339 = true then ((laws_eqIntS.f k x9 x6).bind fun t340 => (laws_FnExactHealthRun.j1 k x1 x6 x9 (!t340) x305000 x305001 x318000 x318001 x318002 x318003)) else (laws_FnExactHealthRun.j1 k x1 x6 x9 true x305000 x305001 x318000 x318001 x318002 x318003))))) else (some false))))
def laws_FnExactHealthRun.j1 : Nat → List Int → List Int → List Int → Bool → Int → Int → Int → Int → Int → Bool → Option (Bool)
 | 0, _, _, _, _, _, _, _, _, _, _ => none
 | k + 1, x1, x6, x9, x66, x305000, x305001, x318000, x318001, x318002, x318003 => if x66 = true then (some false) else ((laws_markIntS.f k x9 1).bind fun bt341 => ((laws_heldIntS.f k bt341.2 1).bind fun t343 => (if t343 < 0 then (some false) else (if t343 = bt341.1 then ((laws_toPolicy.f x305000 x305001).bind fun bt344 => ((laws_toIntS.f k x1).bind fun t346 => ((impl_HealthRun.f k bt344.1 bt344.2 t346).bind fun bt349 => ((laws_eqHealth.f bt349.1 bt349.2.1 bt349.2.2.1 bt349.2.2.2.1 x318000 x318001 x318002 x318003).bind fun t357 => (if t357 = true then ((laws_eqIntS.f k bt349.2.2.2.2 x6).bind fun t358 => (laws_FnExactHealthRun.j2 k bt341.2 bt341.1 (!t358))) else (laws_FnExactHealthRun.j2 k bt341.2 bt341.1 true)))))) else (some false)))))
def laws_FnExactHealthRun.j2 : Nat → List Int → Int → Bool → Option (Bool)
 | 0, _, _, _ => none
 | k + 1, x9, x11, x95 => if x95 = true then (some false) else ((laws_heldIntS.f k x9 1).bind fun t359 => (if t359 < 0 then (some false) else (if t359 = x11 then (some true) else (some false))))
end
def laws_FnExactHealthRun.f (k : Nat) (a0_0 : Int) (a0_1 : Int) (l1 : List Int) : Option (Bool) := if (l1.length : Int) > 1048576 then (some true) else ((laws_toPolicy.f a0_0 a0_1).bind fun bt305 => ((laws_toIntS.f k l1).bind fun t307 => ((spec_HealthRun.f k bt305.1 bt305.2 t307).bind fun bt310 => ((laws_toIntS.f k l1).bind fun t318 => ((laws_toPolicy.f a0_0 a0_1).bind fun bt321 => ((impl_HealthRun.f k bt321.1 bt321.2 t318).bind fun bt323 => ((laws_eqHealth.f bt323.1 bt323.2.1 bt323.2.2.1 bt323.2.2.2.1 bt310.1 bt310.2.1 bt310.2.2.1 bt310.2.2.2.1).bind fun t331 => (if t331 = true then ((laws_eqIntS.f k bt323.2.2.2.2 bt310.2.2.2.2).bind fun t332 => (laws_FnExactHealthRun.j0 k l1 bt310.2.2.2.2 t318 bt323.2.2.2.2 (!t332) a0_0 a0_1 bt310.1 bt310.2.1 bt310.2.2.1 bt310.2.2.2.1 bt323.1 bt323.2.1 bt323.2.2.1 bt323.2.2.2.1)) else (laws_FnExactHealthRun.j0 k l1 bt310.2.2.2.2 t318 bt323.2.2.2.2 true a0_0 a0_1 bt310.1 bt310.2.1 bt310.2.2.1 bt310.2.2.2.1 bt323.1 bt323.2.1 bt323.2.2.1 bt323.2.2.2.1)))))))))
theorem laws_FnExactHealthRun.mono_l : ∀ k, (∀ y0 y1 y2 y3 y4 y5 y6 y7 y8 y9 y10 y11 y12 y13 y14, LeO (laws_FnExactHealthRun.j0 k y0 y1 y2 y3 y4 y5 y6 y7 y8 y9 y10 y11 y12 y13 y14) (laws_FnExactHealthRun.j0 (k + 1) y0 y1 y2 y3 y4 y5 y6 y7 y8 y9 y10 y11 y12 y13 y14)) ∧ (∀ y0 y1 y2 y3 y4 y5 y6 y7 y8 y9, LeO (laws_FnExactHealthRun.j1 k y0 y1 y2 y3 y4 y5 y6 y7 y8 y9) (laws_FnExactHealthRun.j1 (k + 1) y0 y1 y2 y3 y4 y5 y6 y7 y8 y9)) ∧ (∀ y0 y1 y2, LeO (laws_FnExactHealthRun.j2 k y0 y1 y2) (laws_FnExactHealthRun.j2 (k + 1) y0 y1 y2))
 | 0 => ⟨fun _ _ _ _ _ _ _ _ _ _ _ _ _ _ _ r h => by simp [laws_FnExactHealthRun.j0] at h, fun _ _ _ _ _ _ _ _ _ _ r h => by simp [laws_FnExactHealthRun.j1] at h, fun _ _ _ r h => by simp [laws_FnExactHealthRun.j2] at h⟩
 | k + 1 => by
  obtain ⟨ih0, ih1, ih2⟩ := laws_FnExactHealthRun.mono_l k
  refine ⟨?_, ?_, ?_⟩
  ·intro y0 y1 y2 y3 y4 y5 y6 y7 y8 y9 y10 y11 y12 y13 y14
   unfold laws_FnExactHealthRun.j0
   repeat' first
   | (with_reducible exact ih0 _ _ _ _ _ _ _ _ _ _ _ _ _ _ _)
   | (with_reducible exact ih1 _ _ _ _ _ _ _ _ _ _)
   | (with_reducible exact ih2 _ _ _)
   | (with_reducible exact impl_HealthRun.mono _ _ _ _)
   | (with_reducible exact laws_eqIntS.mono _ _ _)
   | (with_reducible exact laws_heldIntS.mono _ _ _)
   | (with_reducible exact laws_markIntS.mono _ _ _)
   | (with_reducible exact laws_toIntS.mono _ _)
   | (with_reducible exact spec_HealthRun.mono _ _ _ _)
   | (with_reducible exact LeO.refl _)
   | (with_reducible exact LeO.none _)
   | (with_reducible refine LeO.ite ?_ ?_)
   | (with_reducible refine LeO.bind ?_ (fun _ => ?_))
   | exact ih0 _ _ _ _ _ _ _ _ _ _ _ _ _ _ _
   | exact ih1 _ _ _ _ _ _ _ _ _ _
   | exact ih2 _ _ _
   | exact impl_HealthRun.mono _ _ _ _
   | exact laws_eqIntS.mono _ _ _
   | exact laws_heldIntS.mono _ _ _
   | exact laws_markIntS.mono _ _ _
   | exact laws_toIntS.mono _ _
   | exact spec_HealthRun.mono _ _ _ _
   | exact LeO.none _
   | refine LeO.ite ?_ ?_
   | refine LeO.bind ?_ (fun _ => ?_)
  ·intro y0 y1 y2 y3 y4 y5 y6 y7 y8 y9
   unfold laws_FnExactHealthRun.j1
   repeat' first
   | (with_reducible exact ih0 _ _ _ _ _ _ _ _ _ _ _ _ _ _ _)
   | (with_reducible exact ih1 _ _ _ _ _ _ _ _ _ _)
   | (with_reducible exact ih2 _ _ _)
   | (with_reducible exact impl_HealthRun.mono _ _ _ _)
   | (with_reducible exact laws_eqIntS.mono _ _ _)
   | (with_reducible exact laws_heldIntS.mono _ _ _)
   | (with_reducible exact laws_markIntS.mono _ _ _)
   | (with_reducible exact laws_toIntS.mono _ _)
   | (with_reducible exact spec_HealthRun.mono _ _ _ _)
   | (with_reducible exact LeO.refl _)
   | (with_reducible exact LeO.none _)
   | (with_reducible refine LeO.ite ?_ ?_)
   | (with_reducible refine LeO.bind ?_ (fun _ => ?_))
   | exact ih0 _ _ _ _ _ _ _ _ _ _ _ _ _ _ _
   | exact ih1 _ _ _ _ _ _ _ _ _ _
   | exact ih2 _ _ _
   | exact impl_HealthRun.mono _ _ _ _
   | exact laws_eqIntS.mono _ _ _
   | exact laws_heldIntS.mono _ _ _
   | exact laws_markIntS.mono _ _ _
   | exact laws_toIntS.mono _ _
   | exact spec_HealthRun.mono _ _ _ _
   | exact LeO.none _
   | refine LeO.ite ?_ ?_
   | refine LeO.bind ?_ (fun _ => ?_)
  ·intro y0 y1 y2
   unfold laws_FnExactHealthRun.j2
   repeat' first
   | (with_reducible exact ih0 _ _ _ _ _ _ _ _ _ _ _ _ _ _ _)
   | (with_reducible exact ih1 _ _ _ _ _ _ _ _ _ _)
   | (with_reducible exact ih2 _ _ _)
   | (with_reducible exact impl_HealthRun.mono _ _ _ _)
   | (with_reducible exact laws_eqIntS.mono _ _ _)
   | (with_reducible exact laws_heldIntS.mono _ _ _)
   | (with_reducible exact laws_markIntS.mono _ _ _)
   | (with_reducible exact laws_toIntS.mono _ _)
   | (with_reducible exact spec_HealthRun.mono _ _ _ _)
   | (with_reducible exact LeO.refl _)
   | (with_reducible exact LeO.none _)
   | (with_reducible refine LeO.ite ?_ ?_)
   | (with_reducible refine LeO.bind ?_ (fun _ => ?_))
   | exact ih0 _ _ _ _ _ _ _ _ _ _ _ _ _ _ _
   | exact ih1 _ _ _ _ _ _ _ _ _ _
   | exact ih2 _ _ _
   | exact impl_HealthRun.mono _ _ _ _
   | exact laws_eqIntS.mono _ _ _
   | exact laws_heldIntS.mono _ _ _
   | exact laws_markIntS.mono _ _ _
   | exact laws_toIntS.mono _ _
   | exact spec_HealthRun.mono _ _ _ _
   | exact LeO.none _
   | refine LeO.ite ?_ ?_
   | refine LeO.bind ?_ (fun _ => ?_)
theorem laws_FnExactHealthRun.mono : ∀ a0 a1 a2 k, LeO (laws_FnExactHealthRun.f k a0 a1 a2) (laws_FnExactHealthRun.f (k + 1) a0 a1 a2) := by
 intro a0 a1 a2 k
 obtain ⟨ih0, ih1, ih2⟩ := laws_FnExactHealthRun.mono_l k
 unfold laws_FnExactHealthRun.f
 repeat' first
   | (with_reducible exact ih0 _ _ _ _ _ _ _ _ _ _ _ _ _ _ _)
   | (with_reducible exact ih1 _ _ _ _ _ _ _ _ _ _)
   | (with_reducible exact ih2 _ _ _)
   | (with_reducible exact impl_HealthRun.mono _ _ _ _)
   | (with_reducible exact laws_eqIntS.mono _ _ _)
   | (with_reducible exact laws_heldIntS.mono _ _ _)
   | (with_reducible exact laws_markIntS.mono _ _ _)
   | (with_reducible exact laws_toIntS.mono _ _)
   | (with_reducible exact spec_HealthRun.mono _ _ _ _)
   | (with_reducible exact LeO.refl _)
   | (with_reducible exact LeO.none _)
   | (with_reducible refine LeO.ite ?_ ?_)
   | (with_reducible refine LeO.bind ?_ (fun _ => ?_))
   | exact ih0 _ _ _ _ _ _ _ _ _ _ _ _ _ _ _
   | exact ih1 _ _ _ _ _ _ _ _ _ _
   | exact ih2 _ _ _
   | exact impl_HealthRun.mono _ _ _ _
   | exact laws_eqIntS.mono _ _ _
   | exact laws_heldIntS.mono _ _ _
   | exact laws_markIntS.mono _ _ _
   | exact laws_toIntS.mono _ _
   | exact spec_HealthRun.mono _ _ _ _
   | exact LeO.none _
   | refine LeO.ite ?_ ?_
   | refine LeO.bind ?_ (fun _ => ?_)
set_option maxHeartbeats 8000000 in
set_option maxRecDepth 100000 in
theorem laws_FnExactHealthRun.calls (k : Nat) (a0_0 : Int) (a0_1 : Int) (A1 : Option Addr) (c1 : Nat) (l1 : List Int) (w : World) (hr1 : Kd.C (Kd.int .i64) w A1 l1.length l1) (hc1 : l1.length ≤ c1) (h : laws_FnExactHealthRun.f k a0_0 a0_1 l1 = some true) :
  Calls Try.prog 8 #[.agg #[.int .i64 a0_0, .int .i64 a0_1], .slice A1 l1.length c1] w fun e w' => e = .returned (.bool true) ∧ Below w.heap.size w w' := by
 have hu35 := Try.underlying35
 have hu38 := Try.underlying38
 have HR1 := Aside0.mk hr1
 have HC1 := Aside0.mk hc1
 clear hr1 hc1
 have HB := Aside0.mk (Below.refl w.heap.size w)
 have H : (if (l1.length : Int) > 1048576 then (some true) else ((laws_toPolicy.f a0_0 a0_1).bind fun bt305 => ((laws_toIntS.f k l1).bind fun t307 => ((spec_HealthRun.f k bt305.1 bt305.2 t307).bind fun bt310 => ((laws_toIntS.f k l1).bind fun t318 => ((laws_toPolicy.f a0_0 a0_1).bind fun bt321 => ((impl_HealthRun.f k bt321.1 bt321.2 t318).bind fun bt323 => ((laws_eqHealth.f bt323.1 bt323.2.1 bt323.2.2.1 bt323.2.2.2.1 bt310.1 bt310.2.1 bt310.2.2.1 bt310.2.2.2.1).bind fun t331 => (if t331 = true then ((laws_eqIntS.f k bt323.2.2.2.2 bt310.2.2.2.2).bind fun t332 => (laws_FnExactHealthRun.j0 k l1 bt310.2.2.2.2 t318 bt323.2.2.2.2 (!t332) a0_0 a0_1 bt310.1 bt310.2.1 bt310.2.2.1 bt310.2.2.2.1 bt323.1 bt323.2.1 bt323.2.2.1 bt323.2.2.2.1)) else (laws_FnExactHealthRun.j0 k l1 bt310.2.2.2.2 t318 bt323.2.2.2.2 true a0_0 a0_1 bt310.1 bt310.2.1 bt310.2.2.1 bt310.2.2.2.1 bt323.1 bt323.2.1 bt323.2.2.1 bt323.2.2.2.1)))))))))) = some true := h
 clear h
 by_cases c3 : (l1.length : Int) > 1048576
 ·rw [if_pos c3] at H
  have c3b0 : decide (1048576 < (l1.length : Int)) = true := decide_eq_true c3
  have c3b1 : decide (1048576 < l1.length) = true := decide_eq_true (by omega)
  clear c3
  clear H
  go_enter Try.func8, Try.ntmps8
  go_wp2_with (first | ((with_reducible refine gate_dst (N := 2) rfl ?_); refine box_event ?hg (N := 2) ?hd (cs := #[.int .i64 a0_0, .int .i64 a0_1]) (t := 35) ?hr ?_; (case hd => rfl); (case hg => rfl); (case hr => first | (go_simp; done) | (go_simp; rfl)); intro gb304 hg w4 hbox hb; have n0_ := Aside0.mk (below_step (lq HB.out) hb); have n1_ := Aside0.mk (hbox); have n2_ := Aside0.mk ((ge_new hg (lq HB.out) : w.heap.size ≤ gb304)); have n3_ := Aside0.mk ((ge_new hg (lq HB.out) : w.heap.size ≤ gb304)); clear HB; have HB := n0_; have BK304 := n1_; have GW304 := n2_; have GE304 := n3_; clear n0_ n1_ n2_ n3_; clear hb hbox hg))
  go_ret
  exact ⟨by first | rfl | (simp [errW_none, errW_some] <;> rfl) | (simp [*, errW_none, errW_some] <;> rfl), by exact lq HB.out⟩
 ·rw [if_neg c3] at H
  have c3b0 : decide (1048576 < (l1.length : Int)) = false := decide_eq_false c3
  have c3b1 : decide (1048576 < l1.length) = false := decide_eq_false (by omega)
  clear c3
  replace H := Option.bind_eq_some_iff.mp H
  obtain ⟨⟨t305, t306⟩, A50, H⟩ := H
  (try dsimp only at H)
  have A5 := Aside0.mk A50
  clear A50
  replace H := Option.bind_eq_some_iff.mp H
  obtain ⟨t307, A60, H⟩ := H
  (try dsimp only at H)
  have A6 := Aside0.mk A60
  clear A60
  replace H := Option.bind_eq_some_iff.mp H
  obtain ⟨⟨t310, t311, t312, t313, t314⟩, A70, H⟩ := H
  (try dsimp only at H)
  have A7 := Aside0.mk A70
  clear A70
  replace H := Option.bind_eq_some_iff.mp H
  obtain ⟨t318, A80, H⟩ := H
  (try dsimp only at H)
  have A8 := Aside0.mk A80
  clear A80
  replace H := Option.bind_eq_some_iff.mp H
  obtain ⟨⟨t321, t322⟩, A90, H⟩ := H
  (try dsimp only at H)
  have A9 := Aside0.mk A90
  clear A90
  replace H := Option.bind_eq_some_iff.mp H
  obtain ⟨⟨t323, t324, t325, t326, t327⟩, A100, H⟩ := H
  (try dsimp only at H)
  have A10 := Aside0.mk A100
  clear A100
  have HC11 := Aside0.mk H
  clear H
  go_enter Try.func8, Try.ntmps8
  go_upto_region 6 with (first | ((with_reducible refine gate_dst (N := 2) rfl ?_); refine box_event ?hg (N := 2) ?hd (cs := #[.int .i64 a0_0, .int .i64 a0_1]) (t := 35) ?hr ?_; (case hd => rfl); (case hg => rfl); (case hr => first | (go_simp; done) | (go_simp; rfl)); intro gb304 hg w12 hbox hb; have n0_ := Aside0.mk (below_step (lq HB.out) hb); have n1_ := Aside0.mk (hbox); have n2_ := Aside0.mk ((ge_new hg (lq HB.out) : w.heap.size ≤ gb304)); have n3_ := Aside0.mk ((ge_new hg (lq HB.out) : w.heap.size ≤ gb304)); clear HB; have HB := n0_; have BK304 := n1_; have GW304 := n2_; have GE304 := n3_; clear n0_ n1_ n2_ n3_; clear hb hbox hg; have hcz13_0 : w12.cell? ⟨gb304, 0, none⟩ = some (.int .i64 a0_0) := (blk_cell BK304.out 0).trans rfl; have hcz13_1 : w12.cell? ⟨gb304, 1, none⟩ = some (.int .i64 a0_1) := (blk_cell BK304.out 1).trans rfl; have hfz13_0 := blk_frozen BK304.out 0; have hfz13_1 := blk_frozen BK304.out 1) | ((with_reducible refine gate_callee (f := 17) rfl ?_); refine goesL_ (some 20) rfl rfl Try.func17 (by kernel_rfl) rfl #[.agg #[.int .i64 a0_0, .int .i64 a0_1]] rfl (by (try simp only [List.map_toArray, List.map_cons, List.map_nil]); first | done | rfl | (simp only [List.length_drop, List.length_take]; rfl)) ?_; (with_reducible refine (laws_toPolicy.calls a0_0 a0_1 t305 t306 _ A5.out).mono ?_); rintro e w14 ⟨rfl, hb⟩; refine ⟨_, rfl, ?_⟩; have n0_ := Aside0.mk (blk_below (bq BK304.out) hb); have n1_ := Aside0.mk (below_step (lq HB.out) hb); clear BK304; clear HB; have BK304 := n0_; have HB := n1_; clear n0_ n1_; (try clear hb); (try clear hb2); (try clear hk); (try clear hi)) | ((with_reducible refine gate_callee (f := 28) rfl ?_); refine goesL_ (some 22) rfl rfl Try.func28 (by kernel_rfl) rfl #[.slice A1 l1.length c1] rfl (by (try simp only [List.map_toArray, List.map_cons, List.map_nil]); first | done | rfl | (simp only [List.length_drop, List.length_take]; rfl)) ?_; (with_reducible refine (laws_toIntS.calls k _ _ l1 t307 _ ?side1 ?side2 A6.out).mono ?_); (case side1 => repeat (first | exact (Kd.C_below HR1.out HB.out) | (with_reducible refine Kd.C_alloc ?_ _) | (with_reducible refine Kd.C_drewN ?_ _) | (with_reducible refine Kd.C_drew ?_))); (case side2 => exact HC1.out); rintro e w15 ⟨v308, rfl, ho0, hb⟩; refine ⟨_, rfl, ?_⟩; have n0_ := Aside0.mk (Kd.R_lower ho0 (below_size (lq HB.out))); have n1_ := Aside0.mk (blk_below (bq BK304.out) hb); have n2_ := Aside0.mk (below_step (lq HB.out) hb); clear BK304; clear HB; have HO309 := n0_; have BK304 := n1_; have HB := n2_; clear n0_ n1_ n2_; (try clear hb); (try clear hb2); (try clear hk); (try clear hi); (try clear ho0); obtain ⟨Ao16, co16, eo16⟩ := Kd.R_slice HO309.out; subst eo16) | ((with_reducible refine gate_callee (f := 27) rfl ?_); refine goesL_ (some 23) rfl rfl Try.func27 (by kernel_rfl) rfl #[.agg #[.int .i64 t305, .int .i64 t306], .slice Ao16 t307.length co16] rfl (by (try simp only [List.map_toArray, List.map_cons, List.map_nil]); first | done | rfl | (simp only [List.length_drop, List.length_take]; rfl)) ?_; (with_reducible refine (spec_HealthRun.calls k t305 t306 _ _ t307 t310 t311 t312 t313 t314 _ ?side1 ?side2 A7.out).mono ?_); (case side1 => repeat (first | exact (Kd.R_reads' HO309.out).2.2 | (with_reducible refine Kd.C_alloc ?_ _) | (with_reducible refine Kd.C_drewN ?_ _) | (with_reducible refine Kd.C_drew ?_))); (case side2 => exact (Kd.R_reads' HO309.out).2.1); rintro e w17 ⟨v315, rfl, ho0, hb⟩; refine ⟨_, rfl, ?_⟩; have n0_ := Aside0.mk (Kd.R_elder' (rq HO309.out) (Kd.R_base ho0) hb); have n1_ := Aside0.mk (Kd.R_lower (Kd.R_new' ho0 (Kd.R_lt (rq HO309.out))) (below_size (lq HB.out))); have n2_ := Aside0.mk (blk_below (bq BK304.out) hb); have n3_ := Aside0.mk (below_step (lq HB.out) hb); clear HO309; clear BK304; clear HB; have HO309 := n0_; have HO316 := n1_; have BK304 := n2_; have HB := n3_; clear n0_ n1_ n2_ n3_; (try clear hb); (try clear hb2); (try clear hk); (try clear hi); (try clear ho0)) | ((with_reducible refine gate_dst (N := 5) rfl ?_); refine box_event ?hg (N := 5) ?hd (cs := #[.int .i64 0, .int .i64 0, .int .i64 0, .bool false]) (t := 38) ?hr ?_; (case hd => rfl); (case hg => rfl); (case hr => first | (go_simp; done) | (go_simp; rfl)); intro gb317 hg w18 hbox hb; have n0_ := Aside0.mk (Kd.R_below (rq HO309.out) hb); have n1_ := Aside0.mk (Kd.R_below (rq HO316.out) hb); have n2_ := Aside0.mk (blk_below (bq BK304.out) hb); have n3_ := Aside0.mk (below_step (lq HB.out) hb); have n4_ := Aside0.mk (hbox); have n5_ := Aside0.mk ((ge_new hg (lq HB.out) : w.heap.size ≤ gb317)); have n6_ := Aside0.mk ((ge_new hg (lq HB.out) : w.heap.size ≤ gb317)); have n7_ := Aside0.mk ((ne_new hg (bq BK304.out) : gb304 ≠ gb317)); have n8_ := Aside0.mk ((new_ne hg (bq BK304.out) : gb317 ≠ gb304)); clear HO309; clear HO316; clear BK304; clear HB; have HO309 := n0_; have HO316 := n1_; have BK304 := n2_; have HB := n3_; have BK317 := n4_; have GW317 := n5_; have GE317 := n6_; have NB304_317 := n7_; have NB317_304 := n8_; clear n0_ n1_ n2_ n3_ n4_ n5_ n6_ n7_ n8_; clear hb hbox hg; have hnb19 := NB317_304.out; have hnc19 := NB304_317.out; have hcz20_0 : w18.cell? ⟨gb317, 0, none⟩ = some (.int .i64 0) := (blk_cell BK317.out 0).trans rfl; have hcz20_1 : w18.cell? ⟨gb317, 1, none⟩ = some (.int .i64 0) := (blk_cell BK317.out 1).trans rfl; have hcz20_2 : w18.cell? ⟨gb317, 2, none⟩ = some (.int .i64 0) := (blk_cell BK317.out 2).trans rfl; have hcz20_3 : w18.cell? ⟨gb317, 3, none⟩ = some (.bool false) := (blk_cell BK317.out 3).trans rfl; have hfz20_0 := blk_frozen BK317.out 0; have hfz20_1 := blk_frozen BK317.out 1; have hfz20_2 := blk_frozen BK317.out 2; have hfz20_3 := blk_frozen BK317.out 3) | ((with_reducible refine gate_callee (f := 28) rfl ?_); refine goesL_ (some 27) rfl rfl Try.func28 (by kernel_rfl) rfl #[.slice A1 l1.length c1] rfl (by (try simp only [List.map_toArray, List.map_cons, List.map_nil]); first | done | rfl | (simp only [List.length_drop, List.length_take]; rfl)) ?_; (with_reducible refine (laws_toIntS.calls k _ _ l1 t318 _ ?side1 ?side2 A8.out).mono ?_); (case side1 => exact Kd.C_below HR1.out (by repeat (first | (with_reducible first | exact HB.out | apply below_alloc | apply pw_below_drewN | apply below_drew1 | refine below_set ?_ GE317.out) | exact HB.out))); (case side2 => exact HC1.out); rintro e w21 ⟨v319, rfl, ho0, hb⟩; refine ⟨_, rfl, ?_⟩; have n0_ := Aside0.mk (Kd.R_elder' (rq (Kd.R_mono (Kd.R_far (p := ⟨gb317, 3, none⟩) (Kd.R_far (p := ⟨gb317, 2, none⟩) (Kd.R_far (p := ⟨gb317, 1, none⟩) (Kd.R_far (p := ⟨gb317, 0, none⟩) (Kd.R_types HO309.out BK317.out (by decide)) (fun _ hk => hk.2) (.int .i64 t310)) (fun _ hk => hk.2) (.int .i64 t311)) (fun _ hk => hk.2) (.int .i64 t312)) (fun _ hk => hk.2) (.bool t313)) (fun _ h_ => h_.1))) (Kd.R_base ho0) hb); have n1_ := Aside0.mk (Kd.R_elder' (rq (Kd.R_mono (Kd.R_far (p := ⟨gb317, 3, none⟩) (Kd.R_far (p := ⟨gb317, 2, none⟩) (Kd.R_far (p := ⟨gb317, 1, none⟩) (Kd.R_far (p := ⟨gb317, 0, none⟩) (Kd.R_types HO316.out BK317.out (by decide)) (fun _ hk => hk.2) (.int .i64 t310)) (fun _ hk => hk.2) (.int .i64 t311)) (fun _ hk => hk.2) (.int .i64 t312)) (fun _ hk => hk.2) (.bool t313)) (fun _ h_ => h_.1))) (Kd.R_base ho0) hb); have n2_ := Aside0.mk (Kd.R_lower (Kd.R_new' (Kd.R_new' ho0 (Kd.R_lt (rq (Kd.R_mono (Kd.R_far (p := ⟨gb317, 3, none⟩) (Kd.R_far (p := ⟨gb317, 2, none⟩) (Kd.R_far (p := ⟨gb317, 1, none⟩) (Kd.R_far (p := ⟨gb317, 0, none⟩) (Kd.R_types HO309.out BK317.out (by decide)) (fun _ hk => hk.2) (.int .i64 t310)) (fun _ hk => hk.2) (.int .i64 t311)) (fun _ hk => hk.2) (.int .i64 t312)) (fun _ hk => hk.2) (.bool t313)) (fun _ h_ => h_.1))))) (Kd.R_lt (rq (Kd.R_mono (Kd.R_far (p := ⟨gb317, 3, none⟩) (Kd.R_far (p := ⟨gb317, 2, none⟩) (Kd.R_far (p := ⟨gb317, 1, none⟩) (Kd.R_far (p := ⟨gb317, 0, none⟩) (Kd.R_types HO316.out BK317.out (by decide)) (fun _ hk => hk.2) (.int .i64 t310)) (fun _ hk => hk.2) (.int .i64 t311)) (fun _ hk => hk.2) (.int .i64 t312)) (fun _ hk => hk.2) (.bool t313)) (fun _ h_ => h_.1))))) (below_size (by repeat (first | (with_reducible first | exact HB.out | apply below_alloc | apply pw_below_drewN | apply below_drew1 | refine below_set ?_ GE317.out) | exact HB.out)))); have n3_ := Aside0.mk (blk_below (g := gb304) (o := .cells #[.int .i64 a0_0, .int .i64 a0_1] 35 (0, 0)) (by (with_reducible repeat (first | refine blk_drewN ?_ _ | refine blk_drew ?_ | refine blk_alloc ?_ _)); refine blk_far ?_ NB304_317.out _; (with_reducible repeat (first | refine blk_drewN ?_ _ | refine blk_drew ?_ | refine blk_alloc ?_ _)); refine blk_far ?_ NB304_317.out _; (with_reducible repeat (first | refine blk_drewN ?_ _ | refine blk_drew ?_ | refine blk_alloc ?_ _)); refine blk_far ?_ NB304_317.out _; (with_reducible repeat (first | refine blk_drewN ?_ _ | refine blk_drew ?_ | refine blk_alloc ?_ _)); refine blk_far ?_ NB304_317.out _; (with_reducible repeat (first | refine blk_drewN ?_ _ | refine blk_drew ?_ | refine blk_alloc ?_ _)); exact BK304.out) hb); have n4_ := Aside0.mk (blk_below (g := gb317) (o := .cells #[.int .i64 t310, .int .i64 t311, .int .i64 t312, .bool t313] 38 (0, 0)) (by (with_reducible repeat (first | refine blk_drewN ?_ _ | refine blk_drew ?_ | refine blk_alloc ?_ _)); refine blk_put (cs := #[.int .i64 t310, .int .i64 t311, .int .i64 t312, .bool false]) ?_ 3 _ rfl; (with_reducible repeat (first | refine blk_drewN ?_ _ | refine blk_drew ?_ | refine blk_alloc ?_ _)); refine blk_put (cs := #[.int .i64 t310, .int .i64 t311, .int .i64 0, .bool false]) ?_ 2 _ rfl; (with_reducible repeat (first | refine blk_drewN ?_ _ | refine blk_drew ?_ | refine blk_alloc ?_ _)); refine blk_put (cs := #[.int .i64 t310, .int .i64 0, .int .i64 0, .bool false]) ?_ 1 _ rfl; (with_reducible repeat (first | refine blk_drewN ?_ _ | refine blk_drew ?_ | refine blk_alloc ?_ _)); refine blk_put (cs := #[.int .i64 0, .int .i64 0, .int .i64 0, .bool false]) ?_ 0 _ rfl; (with_reducible repeat (first | refine blk_drewN ?_ _ | refine blk_drew ?_ | refine blk_alloc ?_ _)); exact BK317.out) hb); have n5_ := Aside0.mk (below_step (by repeat (first | (with_reducible first | exact HB.out | apply below_alloc | apply pw_below_drewN | apply below_drew1 | refine below_set ?_ GE317.out) | exact HB.out)) hb); clear HO309; clear HO316; clear BK304; clear BK317; clear HB; have HO309 := n0_; have HO316 := n1_; have HO320 := n2_; have BK304 := n3_; have BK317 := n4_; have HB := n5_; clear n0_ n1_ n2_ n3_ n4_ n5_; (try clear hb); (try clear hb2); (try clear hk); (try clear hi); (try clear ho0); have hcz22_0 : w21.cell? ⟨gb304, 0, none⟩ = some (.int .i64 a0_0) := (blk_cell BK304.out 0).trans rfl; have hcz22_1 : w21.cell? ⟨gb304, 1, none⟩ = some (.int .i64 a0_1) := (blk_cell BK304.out 1).trans rfl; have hfz22_0 := blk_frozen BK304.out 0; have hfz22_1 := blk_frozen BK304.out 1) | ((with_reducible refine gate_callee (f := 17) rfl ?_); refine goesL_ (some 30) rfl rfl Try.func17 (by kernel_rfl) rfl #[.agg #[.int .i64 a0_0, .int .i64 a0_1]] rfl (by (try simp only [List.map_toArray, List.map_cons, List.map_nil]); first | done | rfl | (simp only [List.length_drop, List.length_take]; rfl)) ?_; (with_reducible refine (laws_toPolicy.calls a0_0 a0_1 t321 t322 _ A9.out).mono ?_); rintro e w23 ⟨rfl, hb⟩; refine ⟨_, rfl, ?_⟩; have n0_ := Aside0.mk (Kd.R_below (rq HO309.out) hb); have n1_ := Aside0.mk (Kd.R_below (rq HO316.out) hb); have n2_ := Aside0.mk (Kd.R_below (rq HO320.out) hb); have n3_ := Aside0.mk (blk_below (bq BK304.out) hb); have n4_ := Aside0.mk (blk_below (bq BK317.out) hb); have n5_ := Aside0.mk (below_step (lq HB.out) hb); clear HO309; clear HO316; clear HO320; clear BK304; clear BK317; clear HB; have HO309 := n0_; have HO316 := n1_; have HO320 := n2_; have BK304 := n3_; have BK317 := n4_; have HB := n5_; clear n0_ n1_ n2_ n3_ n4_ n5_; (try clear hb); (try clear hb2); (try clear hk); (try clear hi); obtain ⟨Ao24, co24, eo24⟩ := Kd.R_slice HO320.out; subst eo24) | ((with_reducible refine gate_callee (f := 29) rfl ?_); refine goesL_ (some 32) rfl rfl Try.func29 (by kernel_rfl) rfl #[.agg #[.int .i64 t321, .int .i64 t322], .slice Ao24 t318.length co24] rfl (by (try simp only [List.map_toArray, List.map_cons, List.map_nil]); first | done | rfl | (simp only [List.length_drop, List.length_take]; rfl)) ?_; (with_reducible refine (impl_HealthRun.calls k t321 t322 _ _ t318 t323 t324 t325 t326 t327 _ ?side1 ?side2 A10.out).mono ?_); (case side1 => repeat (first | exact (Kd.R_reads' HO320.out).2.2 | (with_reducible refine Kd.C_alloc ?_ _) | (with_reducible refine Kd.C_drewN ?_ _) | (with_reducible refine Kd.C_drew ?_))); (case side2 => exact (Kd.R_reads' HO320.out).2.1); rintro e w25 ⟨v328, rfl, ho0, hb⟩; refine ⟨_, rfl, ?_⟩; have n0_ := Aside0.mk (Kd.R_elder' (rq HO309.out) (Kd.R_base ho0) hb); have n1_ := Aside0.mk (Kd.R_elder' (rq HO316.out) (Kd.R_base ho0) hb); have n2_ := Aside0.mk (Kd.R_elder' (rq HO320.out) (Kd.R_base ho0) hb); have n3_ := Aside0.mk (Kd.R_lower (Kd.R_new' (Kd.R_new' (Kd.R_new' ho0 (Kd.R_lt (rq HO309.out))) (Kd.R_lt (rq HO316.out))) (Kd.R_lt (rq HO320.out))) (below_size (lq HB.out))); have n4_ := Aside0.mk (blk_below (bq BK304.out) hb); have n5_ := Aside0.mk (blk_below (bq BK317.out) hb); have n6_ := Aside0.mk (below_step (lq HB.out) hb); clear HO309; clear HO316; clear HO320; clear BK304; clear BK317; clear HB; have HO309 := n0_; have HO316 := n1_; have HO320 := n2_; have HO329 := n3_; have BK304 := n4_; have BK317 := n5_; have HB := n6_; clear n0_ n1_ n2_ n3_ n4_ n5_ n6_; (try clear hb); (try clear hb2); (try clear hk); (try clear hi); (try clear ho0)) | ((with_reducible refine gate_dst (N := 8) rfl ?_); refine box_event ?hg (N := 8) ?hd (cs := #[.int .i64 0, .int .i64 0, .int .i64 0, .bool false]) (t := 38) ?hr ?_; (case hd => rfl); (case hg => rfl); (case hr => first | (go_simp; done) | (go_simp; rfl)); intro gb330 hg w26 hbox hb; have n0_ := Aside0.mk (Kd.R_below (rq HO309.out) hb); have n1_ := Aside0.mk (Kd.R_below (rq HO316.out) hb); have n2_ := Aside0.mk (Kd.R_below (rq HO320.out) hb); have n3_ := Aside0.mk (Kd.R_below (rq HO329.out) hb); have n4_ := Aside0.mk (blk_below (bq BK304.out) hb); have n5_ := Aside0.mk (blk_below (bq BK317.out) hb); have n6_ := Aside0.mk (below_step (lq HB.out) hb); have n7_ := Aside0.mk (hbox); have n8_ := Aside0.mk ((ge_new hg (lq HB.out) : w.heap.size ≤ gb330)); have n9_ := Aside0.mk ((ge_new hg (lq HB.out) : w.heap.size ≤ gb330)); have n10_ := Aside0.mk ((ne_new hg (bq BK304.out) : gb304 ≠ gb330)); have n11_ := Aside0.mk ((new_ne hg (bq BK304.out) : gb330 ≠ gb304)); have n12_ := Aside0.mk ((ne_new hg (bq BK317.out) : gb317 ≠ gb330)); have n13_ := Aside0.mk ((new_ne hg (bq BK317.out) : gb330 ≠ gb317)); clear HO309; clear HO316; clear HO320; clear HO329; clear BK304; clear BK317; clear HB; have HO309 := n0_; have HO316 := n1_; have HO320 := n2_; have HO329 := n3_; have BK304 := n4_; have BK317 := n5_; have HB := n6_; have BK330 := n7_; have GW330 := n8_; have GE330 := n9_; have NB304_330 := n10_; have NB330_304 := n11_; have NB317_330 := n12_; have NB330_317 := n13_; clear n0_ n1_ n2_ n3_ n4_ n5_ n6_ n7_ n8_ n9_ n10_ n11_ n12_ n13_; clear hb hbox hg; have hnb27 := NB330_304.out; have hnc27 := NB304_330.out; have hnb28 := NB330_317.out; have hnc28 := NB317_330.out; have hcz29_0 : w26.cell? ⟨gb330, 0, none⟩ = some (.int .i64 0) := (blk_cell BK330.out 0).trans rfl; have hcz29_1 : w26.cell? ⟨gb330, 1, none⟩ = some (.int .i64 0) := (blk_cell BK330.out 1).trans rfl; have hcz29_2 : w26.cell? ⟨gb330, 2, none⟩ = some (.int .i64 0) := (blk_cell BK330.out 2).trans rfl; have hcz29_3 : w26.cell? ⟨gb330, 3, none⟩ = some (.bool false) := (blk_cell BK330.out 3).trans rfl; have hfz29_0 := blk_frozen BK330.out 0; have hfz29_1 := blk_frozen BK330.out 1; have hfz29_2 := blk_frozen BK330.out 2; have hfz29_3 := blk_frozen BK330.out 3))
  (try simp only [Act.put, List.setIfInBounds_toArray, List.set_cons_zero, List.set_cons_succ])
  go_cut [44] (fun v44 wc => ∃ (kq : Nat) (x44_10 : Bool), v44 = .bool x44_10 ∧ Aside0 (laws_FnExactHealthRun.j0 kq l1 t314 t318 t327 x44_10 a0_0 a0_1 t310 t311 t312 t313 t323 t324 t325 t326 = some true) ∧ Aside0 (kq ≤ k) ∧ Aside0 (Kd.R (Kd.int .i64) 3 wc w.heap.size (fun k_ => some k_ ≠ ((.slice Ao24 t318.length co24) : Value).ownBlock ∧ some k_ ≠ (v328 : Value).ownBlock) v315 t314) ∧ Aside0 (Kd.R (Kd.int .i64) 3 wc w.heap.size (fun k_ => some k_ ≠ (v315 : Value).ownBlock ∧ some k_ ≠ (v328 : Value).ownBlock) (.slice Ao24 t318.length co24) t318) ∧ Aside0 (Kd.R (Kd.int .i64) 3 wc w.heap.size (fun k_ => some k_ ≠ (v315 : Value).ownBlock ∧ some k_ ≠ ((.slice Ao24 t318.length co24) : Value).ownBlock) v328 t327) ∧ Aside0 (wc.heap[gb304]? = some (.cells #[.int .i64 a0_0, .int .i64 a0_1] 35 (0, 0))) ∧ Aside0 (wc.heap[gb317]? = some (.cells #[.int .i64 t310, .int .i64 t311, .int .i64 t312, .bool t313] 38 (0, 0))) ∧ Aside0 (wc.heap[gb330]? = some (.cells #[.int .i64 t323, .int .i64 t324, .int .i64 t325, .bool t326] 38 (0, 0))) ∧ Aside0 (Below w.heap.size w wc))
  case first =>
   have H := HC11.out
   clear HC11
   replace H := Option.bind_eq_some_iff.mp H
   obtain ⟨t331, A300, H⟩ := H
   (try dsimp only at H)
   have A30 := Aside0.mk A300
   clear A300
   by_cases c31 : t331 = true
   ·subst c31
    rw [if_pos rfl] at H
    replace H := Option.bind_eq_some_iff.mp H
    obtain ⟨t332, A320, H⟩ := H
    (try dsimp only at H)
    have A32 := Aside0.mk A320
    clear A320
    have H' := Aside0.mk H
    clear H
    have hnb33 := NB330_304.out
    have hnc33 := NB304_330.out
    have hnb34 := NB330_317.out
    have hnc34 := NB317_330.out
    have hcz35_0 : w26.cell? ⟨gb330, 0, none⟩ = some (.int .i64 0) := (blk_cell BK330.out 0).trans rfl
    have hcz35_1 : w26.cell? ⟨gb330, 1, none⟩ = some (.int .i64 0) := (blk_cell BK330.out 1).trans rfl
    have hcz35_2 : w26.cell? ⟨gb330, 2, none⟩ = some (.int .i64 0) := (blk_cell BK330.out 2).trans rfl
    have hcz35_3 : w26.cell? ⟨gb330, 3, none⟩ = some (.bool false) := (blk_cell BK330.out 3).trans rfl
    have hfz35_0 := blk_frozen BK330.out 0
    have hfz35_1 := blk_frozen BK330.out 1
    have hfz35_2 := blk_frozen BK330.out 2
    have hfz35_3 := blk_frozen BK330.out 3
    have hnb36 := NB317_304.out
    have hnc36 := NB304_317.out
    have hcz37_0 : w26.cell? ⟨gb317, 0, none⟩ = some (.int .i64 t310) := (blk_cell BK317.out 0).trans rfl
    have hcz37_1 : w26.cell? ⟨gb317, 1, none⟩ = some (.int .i64 t311) := (blk_cell BK317.out 1).trans rfl
    have hcz37_2 : w26.cell? ⟨gb317, 2, none⟩ = some (.int .i64 t312) := (blk_cell BK317.out 2).trans rfl
    have hcz37_3 : w26.cell? ⟨gb317, 3, none⟩ = some (.bool t313) := (blk_cell BK317.out 3).trans rfl
    have hfz37_0 := blk_frozen BK317.out 0
    have hfz37_1 := blk_frozen BK317.out 1
    have hfz37_2 := blk_frozen BK317.out 2
    have hfz37_3 := blk_frozen BK317.out 3
    go_wp2_with (first | ((with_reducible refine gate_callee (f := 20) rfl ?_); refine goesL_ (some 37) rfl rfl Try.func20 (by kernel_rfl) rfl #[.agg #[.int .i64 t323, .int .i64 t324, .int .i64 t325, .bool t326], .agg #[.int .i64 t310, .int .i64 t311, .int .i64 t312, .bool t313]] rfl (by (try simp only [List.map_toArray, List.map_cons, List.map_nil]); first | done | rfl | (simp only [List.length_drop, List.length_take]; rfl)) ?_; (with_reducible refine (laws_eqHealth.calls t323 t324 t325 t326 t310 t311 t312 t313 true _ A30.out).mono ?_); rintro e w38 ⟨rfl, hb⟩; refine ⟨_, rfl, ?_⟩; have n0_ := Aside0.mk (Kd.R_below (rq (Kd.R_mono (Kd.R_far (p := ⟨gb330, 3, none⟩) (Kd.R_far (p := ⟨gb330, 2, none⟩) (Kd.R_far (p := ⟨gb330, 1, none⟩) (Kd.R_far (p := ⟨gb330, 0, none⟩) (Kd.R_types HO309.out BK330.out (by decide)) (fun _ hk => hk.2) (.int .i64 t323)) (fun _ hk => hk.2) (.int .i64 t324)) (fun _ hk => hk.2) (.int .i64 t325)) (fun _ hk => hk.2) (.bool t326)) (fun _ h_ => h_.1))) hb); have n1_ := Aside0.mk (Kd.R_below (rq (Kd.R_mono (Kd.R_far (p := ⟨gb330, 3, none⟩) (Kd.R_far (p := ⟨gb330, 2, none⟩) (Kd.R_far (p := ⟨gb330, 1, none⟩) (Kd.R_far (p := ⟨gb330, 0, none⟩) (Kd.R_types HO316.out BK330.out (by decide)) (fun _ hk => hk.2) (.int .i64 t323)) (fun _ hk => hk.2) (.int .i64 t324)) (fun _ hk => hk.2) (.int .i64 t325)) (fun _ hk => hk.2) (.bool t326)) (fun _ h_ => h_.1))) hb); have n2_ := Aside0.mk (Kd.R_below (rq (Kd.R_mono (Kd.R_far (p := ⟨gb330, 3, none⟩) (Kd.R_far (p := ⟨gb330, 2, none⟩) (Kd.R_far (p := ⟨gb330, 1, none⟩) (Kd.R_far (p := ⟨gb330, 0, none⟩) (Kd.R_types HO320.out BK330.out (by decide)) (fun _ hk => hk.2) (.int .i64 t323)) (fun _ hk => hk.2) (.int .i64 t324)) (fun _ hk => hk.2) (.int .i64 t325)) (fun _ hk => hk.2) (.bool t326)) (fun _ h_ => h_.1))) hb); have n3_ := Aside0.mk (Kd.R_below (rq (Kd.R_mono (Kd.R_far (p := ⟨gb330, 3, none⟩) (Kd.R_far (p := ⟨gb330, 2, none⟩) (Kd.R_far (p := ⟨gb330, 1, none⟩) (Kd.R_far (p := ⟨gb330, 0, none⟩) (Kd.R_types HO329.out BK330.out (by decide)) (fun _ hk => hk.2) (.int .i64 t323)) (fun _ hk => hk.2) (.int .i64 t324)) (fun _ hk => hk.2) (.int .i64 t325)) (fun _ hk => hk.2) (.bool t326)) (fun _ h_ => h_.1))) hb); have n4_ := Aside0.mk (blk_below (g := gb304) (o := .cells #[.int .i64 a0_0, .int .i64 a0_1] 35 (0, 0)) (by (with_reducible repeat (first | refine blk_drewN ?_ _ | refine blk_drew ?_ | refine blk_alloc ?_ _)); refine blk_far ?_ NB304_330.out _; (with_reducible repeat (first | refine blk_drewN ?_ _ | refine blk_drew ?_ | refine blk_alloc ?_ _)); refine blk_far ?_ NB304_330.out _; (with_reducible repeat (first | refine blk_drewN ?_ _ | refine blk_drew ?_ | refine blk_alloc ?_ _)); refine blk_far ?_ NB304_330.out _; (with_reducible repeat (first | refine blk_drewN ?_ _ | refine blk_drew ?_ | refine blk_alloc ?_ _)); refine blk_far ?_ NB304_330.out _; (with_reducible repeat (first | refine blk_drewN ?_ _ | refine blk_drew ?_ | refine blk_alloc ?_ _)); exact BK304.out) hb); have n5_ := Aside0.mk (blk_below (g := gb317) (o := .cells #[.int .i64 t310, .int .i64 t311, .int .i64 t312, .bool t313] 38 (0, 0)) (by (with_reducible repeat (first | refine blk_drewN ?_ _ | refine blk_drew ?_ | refine blk_alloc ?_ _)); refine blk_far ?_ NB317_330.out _; (with_reducible repeat (first | refine blk_drewN ?_ _ | refine blk_drew ?_ | refine blk_alloc ?_ _)); refine blk_far ?_ NB317_330.out _; (with_reducible repeat (first | refine blk_drewN ?_ _ | refine blk_drew ?_ | refine blk_alloc ?_ _)); refine blk_far ?_ NB317_330.out _; (with_reducible repeat (first | refine blk_drewN ?_ _ | refine blk_drew ?_ | refine blk_alloc ?_ _)); refine blk_far ?_ NB317_330.out _; (with_reducible repeat (first | refine blk_drewN ?_ _ | refine blk_drew ?_ | refine blk_alloc ?_ _)); exact BK317.out) hb); have n6_ := Aside0.mk (blk_below (g := gb330) (o := .cells #[.int .i64 t323, .int .i64 t324, .int .i64 t325, .bool t326] 38 (0, 0)) (by (with_reducible repeat (first | refine blk_drewN ?_ _ | refine blk_drew ?_ | refine blk_alloc ?_ _)); refine blk_put (cs := #[.int .i64 t323, .int .i64 t324, .int .i64 t325, .bool false]) ?_ 3 _ rfl; (with_reducible repeat (first | refine blk_drewN ?_ _ | refine blk_drew ?_ | refine blk_alloc ?_ _)); refine blk_put (cs := #[.int .i64 t323, .int .i64 t324, .int .i64 0, .bool false]) ?_ 2 _ rfl; (with_reducible repeat (first | refine blk_drewN ?_ _ | refine blk_drew ?_ | refine blk_alloc ?_ _)); refine blk_put (cs := #[.int .i64 t323, .int .i64 0, .int .i64 0, .bool false]) ?_ 1 _ rfl; (with_reducible repeat (first | refine blk_drewN ?_ _ | refine blk_drew ?_ | refine blk_alloc ?_ _)); refine blk_put (cs := #[.int .i64 0, .int .i64 0, .int .i64 0, .bool false]) ?_ 0 _ rfl; (with_reducible repeat (first | refine blk_drewN ?_ _ | refine blk_drew ?_ | refine blk_alloc ?_ _)); exact BK330.out) hb); have n7_ := Aside0.mk (below_step (by repeat (first | (with_reducible first | exact HB.out | apply below_alloc | apply pw_below_drewN | apply below_drew1 | refine below_set ?_ GE330.out) | exact HB.out)) hb); clear HO309; clear HO316; clear HO320; clear HO329; clear BK304; clear BK317; clear BK330; clear HB; have HO309 := n0_; have HO316 := n1_; have HO320 := n2_; have HO329 := n3_; have BK304 := n4_; have BK317 := n5_; have BK330 := n6_; have HB := n7_; clear n0_ n1_ n2_ n3_ n4_ n5_ n6_ n7_; (try clear hb); (try clear hb2); (try clear hk); (try clear hi); obtain ⟨Ao39, co39, eo39⟩ := Kd.R_slice HO329.out; subst eo39; obtain ⟨Ao40, co40, eo40⟩ := Kd.R_slice HO316.out; subst eo40) | (go_at_call 30; (with_reducible refine (laws_eqIntS.calls k _ _ t327 _ _ t314 t332 _ ?side1 ?side2 ?side3 ?side4 A32.out).mono ?_); (case side1 => repeat (first | exact (Kd.R_reads' HO329.out).2.2 | (with_reducible refine Kd.C_alloc ?_ _) | (with_reducible refine Kd.C_drewN ?_ _) | (with_reducible refine Kd.C_drew ?_))); (case side2 => exact (Kd.R_reads' HO329.out).2.1); (case side3 => repeat (first | exact (Kd.R_reads' HO316.out).2.2 | (with_reducible refine Kd.C_alloc ?_ _) | (with_reducible refine Kd.C_drewN ?_ _) | (with_reducible refine Kd.C_drew ?_))); (case side4 => exact (Kd.R_reads' HO316.out).2.1); rintro e w' ⟨rfl, ⟨nd, rfl⟩⟩))
    go_meet
    case rel => exact ⟨_, (!t332), (by first | rfl | (simp; done) | (simp [*]; done)), H', ⟨by first | omega | exact Nat.le_refl _⟩, ⟨by (with_reducible repeat (first | apply Kd.R_alloc | apply Kd.R_drewN | apply Kd.R_drew)); exact Kd.R_mono HO316.out (fun _ hk => ⟨hk.1.2, hk.2⟩)⟩, ⟨by (with_reducible repeat (first | apply Kd.R_alloc | apply Kd.R_drewN | apply Kd.R_drew)); exact Kd.R_mono HO320.out (fun _ hk => ⟨hk.1.2, hk.2⟩)⟩, ⟨by (with_reducible repeat (first | apply Kd.R_alloc | apply Kd.R_drewN | apply Kd.R_drew)); exact Kd.R_mono HO329.out (fun _ hk => ⟨hk.1.2, hk.2⟩)⟩, ⟨by (with_reducible repeat (first | refine blk_drewN ?_ _ | refine blk_drew ?_ | refine blk_alloc ?_ _)); exact BK304.out⟩, ⟨by (with_reducible repeat (first | refine blk_drewN ?_ _ | refine blk_drew ?_ | refine blk_alloc ?_ _)); exact BK317.out⟩, ⟨by (with_reducible repeat (first | refine blk_drewN ?_ _ | refine blk_drew ?_ | refine blk_alloc ?_ _)); exact BK330.out⟩, ⟨by exact lq HB.out⟩⟩
   ·replace c31 := Bool.eq_false_iff.mpr c31
    subst c31
    rw [if_neg (show ¬ (false = true) by decide)] at H
    have H' := Aside0.mk H
    clear H
    have hnb41 := NB330_304.out
    have hnc41 := NB304_330.out
    have hnb42 := NB330_317.out
    have hnc42 := NB317_330.out
    have hcz43_0 : w26.cell? ⟨gb330, 0, none⟩ = some (.int .i64 0) := (blk_cell BK330.out 0).trans rfl
    have hcz43_1 : w26.cell? ⟨gb330, 1, none⟩ = some (.int .i64 0) := (blk_cell BK330.out 1).trans rfl
    have hcz43_2 : w26.cell? ⟨gb330, 2, none⟩ = some (.int .i64 0) := (blk_cell BK330.out 2).trans rfl
    have hcz43_3 : w26.cell? ⟨gb330, 3, none⟩ = some (.bool false) := (blk_cell BK330.out 3).trans rfl
    have hfz43_0 := blk_frozen BK330.out 0
    have hfz43_1 := blk_frozen BK330.out 1
    have hfz43_2 := blk_frozen BK330.out 2
    have hfz43_3 := blk_frozen BK330.out 3
    have hnb44 := NB317_304.out
    have hnc44 := NB304_317.out
    have hcz45_0 : w26.cell? ⟨gb317, 0, none⟩ = some (.int .i64 t310) := (blk_cell BK317.out 0).trans rfl
    have hcz45_1 : w26.cell? ⟨gb317, 1, none⟩ = some (.int .i64 t311) := (blk_cell BK317.out 1).trans rfl
    have hcz45_2 : w26.cell? ⟨gb317, 2, none⟩ = some (.int .i64 t312) := (blk_cell BK317.out 2).trans rfl
    have hcz45_3 : w26.cell? ⟨gb317, 3, none⟩ = some (.bool t313) := (blk_cell BK317.out 3).trans rfl
    have hfz45_0 := blk_frozen BK317.out 0
    have hfz45_1 := blk_frozen BK317.out 1
    have hfz45_2 := blk_frozen BK317.out 2
    have hfz45_3 := blk_frozen BK317.out 3
    go_wp2_with (first | ((with_reducible refine gate_callee (f := 20) rfl ?_); refine goesL_ (some 37) rfl rfl Try.func20 (by kernel_rfl) rfl #[.agg #[.int .i64 t323, .int .i64 t324, .int .i64 t325, .bool t326], .agg #[.int .i64 t310, .int .i64 t311, .int .i64 t312, .bool t313]] rfl (by (try simp only [List.map_toArray, List.map_cons, List.map_nil]); first | done | rfl | (simp only [List.length_drop, List.length_take]; rfl)) ?_; (with_reducible refine (laws_eqHealth.calls t323 t324 t325 t326 t310 t311 t312 t313 false _ A30.out).mono ?_); rintro e w46 ⟨rfl, hb⟩; refine ⟨_, rfl, ?_⟩; have n0_ := Aside0.mk (Kd.R_below (rq (Kd.R_mono (Kd.R_far (p := ⟨gb330, 3, none⟩) (Kd.R_far (p := ⟨gb330, 2, none⟩) (Kd.R_far (p := ⟨gb330, 1, none⟩) (Kd.R_far (p := ⟨gb330, 0, none⟩) (Kd.R_types HO309.out BK330.out (by decide)) (fun _ hk => hk.2) (.int .i64 t323)) (fun _ hk => hk.2) (.int .i64 t324)) (fun _ hk => hk.2) (.int .i64 t325)) (fun _ hk => hk.2) (.bool t326)) (fun _ h_ => h_.1))) hb); have n1_ := Aside0.mk (Kd.R_below (rq (Kd.R_mono (Kd.R_far (p := ⟨gb330, 3, none⟩) (Kd.R_far (p := ⟨gb330, 2, none⟩) (Kd.R_far (p := ⟨gb330, 1, none⟩) (Kd.R_far (p := ⟨gb330, 0, none⟩) (Kd.R_types HO316.out BK330.out (by decide)) (fun _ hk => hk.2) (.int .i64 t323)) (fun _ hk => hk.2) (.int .i64 t324)) (fun _ hk => hk.2) (.int .i64 t325)) (fun _ hk => hk.2) (.bool t326)) (fun _ h_ => h_.1))) hb); have n2_ := Aside0.mk (Kd.R_below (rq (Kd.R_mono (Kd.R_far (p := ⟨gb330, 3, none⟩) (Kd.R_far (p := ⟨gb330, 2, none⟩) (Kd.R_far (p := ⟨gb330, 1, none⟩) (Kd.R_far (p := ⟨gb330, 0, none⟩) (Kd.R_types HO320.out BK330.out (by decide)) (fun _ hk => hk.2) (.int .i64 t323)) (fun _ hk => hk.2) (.int .i64 t324)) (fun _ hk => hk.2) (.int .i64 t325)) (fun _ hk => hk.2) (.bool t326)) (fun _ h_ => h_.1))) hb); have n3_ := Aside0.mk (Kd.R_below (rq (Kd.R_mono (Kd.R_far (p := ⟨gb330, 3, none⟩) (Kd.R_far (p := ⟨gb330, 2, none⟩) (Kd.R_far (p := ⟨gb330, 1, none⟩) (Kd.R_far (p := ⟨gb330, 0, none⟩) (Kd.R_types HO329.out BK330.out (by decide)) (fun _ hk => hk.2) (.int .i64 t323)) (fun _ hk => hk.2) (.int .i64 t324)) (fun _ hk => hk.2) (.int .i64 t325)) (fun _ hk => hk.2) (.bool t326)) (fun _ h_ => h_.1))) hb); have n4_ := Aside0.mk (blk_below (g := gb304) (o := .cells #[.int .i64 a0_0, .int .i64 a0_1] 35 (0, 0)) (by (with_reducible repeat (first | refine blk_drewN ?_ _ | refine blk_drew ?_ | refine blk_alloc ?_ _)); refine blk_far ?_ NB304_330.out _; (with_reducible repeat (first | refine blk_drewN ?_ _ | refine blk_drew ?_ | refine blk_alloc ?_ _)); refine blk_far ?_ NB304_330.out _; (with_reducible repeat (first | refine blk_drewN ?_ _ | refine blk_drew ?_ | refine blk_alloc ?_ _)); refine blk_far ?_ NB304_330.out _; (with_reducible repeat (first | refine blk_drewN ?_ _ | refine blk_drew ?_ | refine blk_alloc ?_ _)); refine blk_far ?_ NB304_330.out _; (with_reducible repeat (first | refine blk_drewN ?_ _ | refine blk_drew ?_ | refine blk_alloc ?_ _)); exact BK304.out) hb); have n5_ := Aside0.mk (blk_below (g := gb317) (o := .cells #[.int .i64 t310, .int .i64 t311, .int .i64 t312, .bool t313] 38 (0, 0)) (by (with_reducible repeat (first | refine blk_drewN ?_ _ | refine blk_drew ?_ | refine blk_alloc ?_ _)); refine blk_far ?_ NB317_330.out _; (with_reducible repeat (first | refine blk_drewN ?_ _ | refine blk_drew ?_ | refine blk_alloc ?_ _)); refine blk_far ?_ NB317_330.out _; (with_reducible repeat (first | refine blk_drewN ?_ _ | refine blk_drew ?_ | refine blk_alloc ?_ _)); refine blk_far ?_ NB317_330.out _; (with_reducible repeat (first | refine blk_drewN ?_ _ | refine blk_drew ?_ | refine blk_alloc ?_ _)); refine blk_far ?_ NB317_330.out _; (with_reducible repeat (first | refine blk_drewN ?_ _ | refine blk_drew ?_ | refine blk_alloc ?_ _)); exact BK317.out) hb); have n6_ := Aside0.mk (blk_below (g := gb330) (o := .cells #[.int .i64 t323, .int .i64 t324, .int .i64 t325, .bool t326] 38 (0, 0)) (by (with_reducible repeat (first | refine blk_drewN ?_ _ | refine blk_drew ?_ | refine blk_alloc ?_ _)); refine blk_put (cs := #[.int .i64 t323, .int .i64 t324, .int .i64 t325, .bool false]) ?_ 3 _ rfl; (with_reducible repeat (first | refine blk_drewN ?_ _ | refine blk_drew ?_ | refine blk_alloc ?_ _)); refine blk_put (cs := #[.int .i64 t323, .int .i64 t324, .int .i64 0, .bool false]) ?_ 2 _ rfl; (with_reducible repeat (first | refine blk_drewN ?_ _ | refine blk_drew ?_ | refine blk_alloc ?_ _)); refine blk_put (cs := #[.int .i64 t323, .int .i64 0, .int .i64 0, .bool false]) ?_ 1 _ rfl; (with_reducible repeat (first | refine blk_drewN ?_ _ | refine blk_drew ?_ | refine blk_alloc ?_ _)); refine blk_put (cs := #[.int .i64 0, .int .i64 0, .int .i64 0, .bool false]) ?_ 0 _ rfl; (with_reducible repeat (first | refine blk_drewN ?_ _ | refine blk_drew ?_ | refine blk_alloc ?_ _)); exact BK330.out) hb); have n7_ := Aside0.mk (below_step (by repeat (first | (with_reducible first | exact HB.out | apply below_alloc | apply pw_below_drewN | apply below_drew1 | refine below_set ?_ GE330.out) | exact HB.out)) hb); clear HO309; clear HO316; clear HO320; clear HO329; clear BK304; clear BK317; clear BK330; clear HB; have HO309 := n0_; have HO316 := n1_; have HO320 := n2_; have HO329 := n3_; have BK304 := n4_; have BK317 := n5_; have BK330 := n6_; have HB := n7_; clear n0_ n1_ n2_ n3_ n4_ n5_ n6_ n7_; (try clear hb); (try clear hb2); (try clear hk); (try clear hi)))
    go_meet
    case rel => exact ⟨_, (true), (by first | rfl | (simp; done) | (simp [*]; done)), H', ⟨by first | omega | exact Nat.le_refl _⟩, ⟨by (with_reducible repeat (first | apply Kd.R_alloc | apply Kd.R_drewN | apply Kd.R_drew)); exact Kd.R_mono HO316.out (fun _ hk => ⟨hk.1.2, hk.2⟩)⟩, ⟨by (with_reducible repeat (first | apply Kd.R_alloc | apply Kd.R_drewN | apply Kd.R_drew)); exact Kd.R_mono HO320.out (fun _ hk => ⟨hk.1.2, hk.2⟩)⟩, ⟨by (with_reducible repeat (first | apply Kd.R_alloc | apply Kd.R_drewN | apply Kd.R_drew)); exact Kd.R_mono HO329.out (fun _ hk => ⟨hk.1.2, hk.2⟩)⟩, ⟨by (with_reducible repeat (first | refine blk_drewN ?_ _ | refine blk_drew ?_ | refine blk_alloc ?_ _)); exact BK304.out⟩, ⟨by (with_reducible repeat (first | refine blk_drewN ?_ _ | refine blk_drew ?_ | refine blk_alloc ?_ _)); exact BK317.out⟩, ⟨by (with_reducible repeat (first | refine blk_drewN ?_ _ | refine blk_drew ?_ | refine blk_alloc ?_ _)); exact BK330.out⟩, ⟨by exact lq HB.out⟩⟩
  case rest =>
   clear HC11
   try clear c1
   try clear c2
   try clear p2
   try clear c3
   try clear c3b0
   try clear c3b1
   try clear c4
   try clear c8
   try clear c17
   try clear c19
   try clear c20
   try clear c27
   try clear c28
   try clear c29
   try clear c31
   try clear c33
   try clear c34
   try clear c36
   try clear c41
   try clear c42
   try clear c44
   try clear hcz13_0
   try clear hcz13_1
   try clear hcz20_0
   try clear hcz20_1
   try clear hcz20_2
   try clear hcz20_3
   try clear hcz22_0
   try clear hcz22_1
   try clear hcz29_0
   try clear hcz29_1
   try clear hcz29_2
   try clear hcz29_3
   try clear hcz35_0
   try clear hcz35_1
   try clear hcz35_2
   try clear hcz35_3
   try clear hcz37_0
   try clear hcz37_1
   try clear hcz37_2
   try clear hcz37_3
   try clear hcz43_0
   try clear hcz43_1
   try clear hcz43_2
   try clear hcz43_3
   try clear hcz45_0
   try clear hcz45_1
   try clear hcz45_2
   try clear hcz45_3
   try clear hfz13_0
   try clear hfz13_1
   try clear hfz20_0
   try clear hfz20_1
   try clear hfz20_2
   try clear hfz20_3
   try clear hfz22_0
   try clear hfz22_1
   try clear hfz29_0
   try clear hfz29_1
   try clear hfz29_2
   try clear hfz29_3
   try clear hfz35_0
   try clear hfz35_1
   try clear hfz35_2
   try clear hfz35_3
   try clear hfz37_0
   try clear hfz37_1
   try clear hfz37_2
   try clear hfz37_3
   try clear hfz43_0
   try clear hfz43_1
   try clear hfz43_2
   try clear hfz43_3
   try clear hfz45_0
   try clear hfz45_1
   try clear hfz45_2
   try clear hfz45_3
   obtain ⟨kq, x44_10, rfl, HA, HJ10, HO_6, HO_7, HO_9, BK304, BK317, BK330, HB⟩ := hcut
   cases kq with
   | zero => exact absurd HA.out (by simp [laws_FnExactHealthRun.j0])
   | succ kj10 =>
    have H := HA.out
    clear HA
    simp only [laws_FnExactHealthRun.j0] at H
    by_cases c47 : x44_10 = true
    ·subst c47
     rw [if_pos rfl] at H
     exact absurd H (by simp)
    ·replace c47 := Bool.eq_false_iff.mpr c47
     subst c47
     rw [if_neg (show ¬ (false = true) by decide)] at H
     replace H := Option.bind_eq_some_iff.mp H
     obtain ⟨t333, A480, H⟩ := H
     (try dsimp only at H)
     have A48 := Aside0.mk A480
     clear A480
     replace H := Option.bind_eq_some_iff.mp H
     obtain ⟨t336, A490, H⟩ := H
     (try dsimp only at H)
     have A49 := Aside0.mk A490
     clear A490
     by_cases c50 : t336 = true
     ·subst c50
      rw [if_pos rfl] at H
      replace H := Option.bind_eq_some_iff.mp H
      obtain ⟨⟨t337, t338⟩, A510, H⟩ := H
      (try dsimp only at H)
      have A51 := Aside0.mk A510
      clear A510
      have HC52 := Aside0.mk H
      clear H
      go_upto_region 12 with (first | ((with_reducible refine gate_callee (f := 28) rfl ?_); refine goesL_ (some 47) rfl rfl Try.func28 (by kernel_rfl) rfl #[.slice A1 l1.length c1] rfl (by (try simp only [List.map_toArray, List.map_cons, List.map_nil]); first | done | rfl | (simp only [List.length_drop, List.length_take]; rfl)) ?_; (with_reducible refine (laws_toIntS.calls kj10 _ _ l1 t333 _ ?side1 ?side2 A48.out).mono ?_); (case side1 => repeat (first | exact (Kd.C_below HR1.out HB.out) | (with_reducible refine Kd.C_alloc ?_ _) | (with_reducible refine Kd.C_drewN ?_ _) | (with_reducible refine Kd.C_drew ?_))); (case side2 => exact HC1.out); rintro e w53 ⟨v334, rfl, ho0, hb⟩; refine ⟨_, rfl, ?_⟩; have n0_ := Aside0.mk (Kd.R_elder' (rq HO_6.out) (Kd.R_base ho0) hb); have n1_ := Aside0.mk (Kd.R_elder' (rq HO_7.out) (Kd.R_base ho0) hb); have n2_ := Aside0.mk (Kd.R_elder' (rq HO_9.out) (Kd.R_base ho0) hb); have n3_ := Aside0.mk (Kd.R_lower (Kd.R_new' (Kd.R_new' (Kd.R_new' ho0 (Kd.R_lt (rq HO_6.out))) (Kd.R_lt (rq HO_7.out))) (Kd.R_lt (rq HO_9.out))) (below_size (lq HB.out))); have n4_ := Aside0.mk (blk_below (bq BK304.out) hb); have n5_ := Aside0.mk (blk_below (bq BK317.out) hb); have n6_ := Aside0.mk (blk_below (bq BK330.out) hb); have n7_ := Aside0.mk (below_step (lq HB.out) hb); clear HO_6; clear HO_7; clear HO_9; clear BK304; clear BK317; clear BK330; clear HB; have HO_6 := n0_; have HO_7 := n1_; have HO_9 := n2_; have HO335 := n3_; have BK304 := n4_; have BK317 := n5_; have BK330 := n6_; have HB := n7_; clear n0_ n1_ n2_ n3_ n4_ n5_ n6_ n7_; (try clear hb); (try clear hb2); (try clear hk); (try clear hi); (try clear ho0); obtain ⟨Ao54, co54, eo54⟩ := Kd.R_slice HO335.out; subst eo54) | ((with_reducible refine gate_callee (f := 30) rfl ?_); refine goesL_ (some 48) rfl rfl Try.func30 (by kernel_rfl) rfl #[.slice Ao24 t318.length co24, .slice Ao54 t333.length co54] rfl (by (try simp only [List.map_toArray, List.map_cons, List.map_nil]); first | done | rfl | (simp only [List.length_drop, List.length_take]; rfl)) ?_; (with_reducible refine (laws_eqIntS.calls kj10 _ _ t318 _ _ t333 true _ ?side1 ?side2 ?side3 ?side4 A49.out).mono ?_); (case side1 => repeat (first | exact (Kd.R_reads' HO_7.out).2.2 | (with_reducible refine Kd.C_alloc ?_ _) | (with_reducible refine Kd.C_drewN ?_ _) | (with_reducible refine Kd.C_drew ?_))); (case side2 => exact (Kd.R_reads' HO_7.out).2.1); (case side3 => repeat (first | exact (Kd.R_reads' HO335.out).2.2 | (with_reducible refine Kd.C_alloc ?_ _) | (with_reducible refine Kd.C_drewN ?_ _) | (with_reducible refine Kd.C_drew ?_))); (case side4 => exact (Kd.R_reads' HO335.out).2.1); rintro e w' ⟨rfl, ⟨nd, rfl⟩⟩; refine ⟨_, rfl, ?_⟩) | ((with_reducible refine gate_callee (f := 31) rfl ?_); refine goesL_ (some 52) rfl rfl Try.func31 (by kernel_rfl) rfl #[.slice Ao24 t318.length co24, .int .i64 1] rfl (by (try simp only [List.map_toArray, List.map_cons, List.map_nil]); first | done | rfl | (simp only [List.length_drop, List.length_take]; rfl)) ?_; (with_reducible refine (laws_markIntS.calls kj10 (fun k_ => some k_ = (.slice Ao24 t318.length co24 : Value).ownBlock) (.slice Ao24 t318.length co24) t318 1 t337 t338 w _ ?side1 ?side2 A51.out).mono ?_); (case side1 => exact lq HB.out); (case side2 => exact Kd.R_tight rfl HO_7.out); rintro e w55 ⟨rfl, hy0, hb, hkp⟩; refine ⟨_, rfl, ?_⟩; have n0_ := Aside0.mk (Kd.R_mono (ok' := fun k_ => some k_ ≠ (.slice Ao24 t318.length co24 : Value).ownBlock ∧ some k_ ≠ (v328 : Value).ownBlock ∧ some k_ ≠ (.slice Ao54 t333.length co54 : Value).ownBlock) (Kd.R_keptB (HO_6.out) hkp (fun k_ hk_ hs_ => (hk_.1.1) hs_)) (fun k_ hk_ => ⟨hk_.1.1.1, hk_.1.1.2, hk_.1.2⟩)); have n1_ := Aside0.mk (Kd.R_reok rfl hy0 (fun k_ e_ => HO_7.out.1 k_ e_)); have n2_ := Aside0.mk (Kd.R_mono (ok' := fun k_ => some k_ ≠ (v315 : Value).ownBlock ∧ some k_ ≠ (.slice Ao24 t318.length co24 : Value).ownBlock ∧ some k_ ≠ (.slice Ao54 t333.length co54 : Value).ownBlock) (Kd.R_keptB (HO_9.out) hkp (fun k_ hk_ hs_ => (hk_.1.2) hs_)) (fun k_ hk_ => ⟨hk_.1.1.1, hk_.1.1.2, hk_.1.2⟩)); have n3_ := Aside0.mk (blk_kept (bq BK304.out) hkp (fun hs_ => (fun e_ => (Kd.R_ne HO_7.out BK304.out (by decide)) e_) hs_)); have n4_ := Aside0.mk (blk_kept (bq BK317.out) hkp (fun hs_ => (fun e_ => (Kd.R_ne HO_7.out BK317.out (by decide)) e_) hs_)); have n5_ := Aside0.mk (blk_kept (bq BK330.out) hkp (fun hs_ => (fun e_ => (Kd.R_ne HO_7.out BK330.out (by decide)) e_) hs_)); have n6_ := Aside0.mk (Kd.R_mono (ok' := fun k_ => some k_ ≠ (v315 : Value).ownBlock ∧ some k_ ≠ (.slice Ao24 t318.length co24 : Value).ownBlock ∧ some k_ ≠ (v328 : Value).ownBlock) (Kd.R_keptB (HO335.out) hkp (fun k_ hk_ hs_ => (hk_.1.2) hs_)) (fun k_ hk_ => ⟨hk_.1.1.1.2, hk_.1.1.2, hk_.1.2⟩)); have n7_ := Aside0.mk (hb); clear HO_6; clear HO_7; clear HO_9; clear BK304; clear BK317; clear BK330; clear HO335; clear HB; have HO_6 := n0_; have HO_7 := n1_; have HO_9 := n2_; have BK304 := n3_; have BK317 := n4_; have BK330 := n5_; have HO335 := n6_; have HB := n7_; clear n0_ n1_ n2_ n3_ n4_ n5_ n6_ n7_; (try clear hb); (try clear hkp); (try clear hy0)))
      (try simp only [Act.put, List.setIfInBounds_toArray, List.set_cons_zero, List.set_cons_succ])
      go_cut [66] (fun v66 wc => ∃ (kq : Nat) (x66_51 : Bool), v66 = .bool x66_51 ∧ Aside0 (laws_FnExactHealthRun.j1 kq l1 t314 t327 x66_51 a0_0 a0_1 t310 t311 t312 t313 = some true) ∧ Aside0 (kq ≤ kj10) ∧ Aside0 (Kd.R (Kd.int .i64) 3 wc w.heap.size (fun k_ => some k_ ≠ (v328 : Value).ownBlock) v315 t314) ∧ Aside0 (Kd.R (Kd.int .i64) 3 wc w.heap.size (fun k_ => some k_ ≠ (v315 : Value).ownBlock) v328 t327) ∧ Aside0 (wc.heap[gb304]? = some (.cells #[.int .i64 a0_0, .int .i64 a0_1] 35 (0, 0))) ∧ Aside0 (wc.heap[gb317]? = some (.cells #[.int .i64 t310, .int .i64 t311, .int .i64 t312, .bool t313] 38 (0, 0))) ∧ Aside0 (wc.heap[gb330]? = some (.cells #[.int .i64 t323, .int .i64 t324, .int .i64 t325, .bool t326] 38 (0, 0))) ∧ Aside0 (Below w.heap.size w wc))
      case first =>
       have H := HC52.out
       clear HC52
       by_cases c56 : t337 < 0
       ·rw [if_pos c56] at H
        have c56b0 : decide (t337 < 0) = true := decide_eq_true c56
        clear c56
        (first | rw [c56b0] | (simp only [i64_w, i32_w]; rw [c56b0]) | skip)
        have H' := Aside0.mk H
        clear H
        go_wp2
        go_meet
        case rel => exact ⟨_, (true), (by first | rfl | (simp; done) | (simp [*]; done)), H', ⟨by have := HJ10.out; first | omega | exact Nat.le_refl _⟩, ⟨by (with_reducible repeat (first | apply Kd.R_alloc | apply Kd.R_drewN | apply Kd.R_drew)); exact Kd.R_mono HO_6.out (fun _ hk => hk.2.1)⟩, ⟨by (with_reducible repeat (first | apply Kd.R_alloc | apply Kd.R_drewN | apply Kd.R_drew)); exact Kd.R_mono HO_9.out (fun _ hk => hk.1)⟩, ⟨by (with_reducible repeat (first | refine blk_drewN ?_ _ | refine blk_drew ?_ | refine blk_alloc ?_ _)); exact BK304.out⟩, ⟨by (with_reducible repeat (first | refine blk_drewN ?_ _ | refine blk_drew ?_ | refine blk_alloc ?_ _)); exact BK317.out⟩, ⟨by (with_reducible repeat (first | refine blk_drewN ?_ _ | refine blk_drew ?_ | refine blk_alloc ?_ _)); exact BK330.out⟩, ⟨by exact lq HB.out⟩⟩
       ·rw [if_neg c56] at H
        have c56b0 : decide (t337 < 0) = false := decide_eq_false c56
        clear c56
        (first | rw [c56b0] | (simp only [i64_w, i32_w]; rw [c56b0]) | skip)
        replace H := Option.bind_eq_some_iff.mp H
        obtain ⟨t339, A570, H⟩ := H
        (try dsimp only at H)
        have A57 := Aside0.mk A570
        clear A570
        by_cases c58 : t339 = true
        ·subst c58
         rw [if_pos rfl] at H
         replace H := Option.bind_eq_some_iff.mp H
         obtain ⟨t340, A590, H⟩ := H
         (try dsimp only at H)
         have A59 := Aside0.mk A590
         clear A590
         have H' := Aside0.mk H
         clear H
         have hnb60 := NB330_304.out
         have hnc60 := NB304_330.out
         have hnb61 := NB330_317.out
         have hnc61 := NB317_330.out
         have hcz62_0 : w55.cell? ⟨gb330, 0, none⟩ = some (.int .i64 t323) := (blk_cell BK330.out 0).trans rfl
         have hcz62_1 : w55.cell? ⟨gb330, 1, none⟩ = some (.int .i64 t324) := (blk_cell BK330.out 1).trans rfl
         have hcz62_2 : w55.cell? ⟨gb330, 2, none⟩ = some (.int .i64 t325) := (blk_cell BK330.out 2).trans rfl
         have hcz62_3 : w55.cell? ⟨gb330, 3, none⟩ = some (.bool t326) := (blk_cell BK330.out 3).trans rfl
         have hfz62_0 := blk_frozen BK330.out 0
         have hfz62_1 := blk_frozen BK330.out 1
         have hfz62_2 := blk_frozen BK330.out 2
         have hfz62_3 := blk_frozen BK330.out 3
         have hnb63 := NB317_304.out
         have hnc63 := NB304_317.out
         have hcz64_0 : w55.cell? ⟨gb317, 0, none⟩ = some (.int .i64 t310) := (blk_cell BK317.out 0).trans rfl
         have hcz64_1 : w55.cell? ⟨gb317, 1, none⟩ = some (.int .i64 t311) := (blk_cell BK317.out 1).trans rfl
         have hcz64_2 : w55.cell? ⟨gb317, 2, none⟩ = some (.int .i64 t312) := (blk_cell BK317.out 2).trans rfl
         have hcz64_3 : w55.cell? ⟨gb317, 3, none⟩ = some (.bool t313) := (blk_cell BK317.out 3).trans rfl
         have hfz64_0 := blk_frozen BK317.out 0
         have hfz64_1 := blk_frozen BK317.out 1
         have hfz64_2 := blk_frozen BK317.out 2
         have hfz64_3 := blk_frozen BK317.out 3
         go_wp2_with (first | (go_at_call 20; (with_reducible refine (laws_eqHealth.calls t323 t324 t325 t326 t310 t311 t312 t313 true _ A57.out).mono ?_); rintro e w65 ⟨rfl, hb⟩; have n0_ := Aside0.mk (Kd.R_below (rq HO_6.out) hb); have n1_ := Aside0.mk (Kd.R_below (rq HO_7.out) hb); have n2_ := Aside0.mk (Kd.R_below (rq HO_9.out) hb); have n3_ := Aside0.mk (Kd.R_below (rq HO335.out) hb); have n4_ := Aside0.mk (blk_below (bq BK304.out) hb); have n5_ := Aside0.mk (blk_below (bq BK317.out) hb); have n6_ := Aside0.mk (blk_below (bq BK330.out) hb); have n7_ := Aside0.mk (below_step (lq HB.out) hb); clear HO_6; clear HO_7; clear HO_9; clear HO335; clear BK304; clear BK317; clear BK330; clear HB; have HO_6 := n0_; have HO_7 := n1_; have HO_9 := n2_; have HO335 := n3_; have BK304 := n4_; have BK317 := n5_; have BK330 := n6_; have HB := n7_; clear n0_ n1_ n2_ n3_ n4_ n5_ n6_ n7_; (try clear hb); (try clear hb2); (try clear hk); (try clear hi); obtain ⟨Ao66, co66, eo66⟩ := Kd.R_slice HO_9.out; subst eo66; obtain ⟨Ao67, co67, eo67⟩ := Kd.R_slice HO_6.out; subst eo67) | (go_at_call 30; (with_reducible refine (laws_eqIntS.calls kj10 _ _ t327 _ _ t314 t340 _ ?side1 ?side2 ?side3 ?side4 A59.out).mono ?_); (case side1 => repeat (first | exact (Kd.R_reads' HO_9.out).2.2 | (with_reducible refine Kd.C_alloc ?_ _) | (with_reducible refine Kd.C_drewN ?_ _) | (with_reducible refine Kd.C_drew ?_))); (case side2 => exact (Kd.R_reads' HO_9.out).2.1); (case side3 => repeat (first | exact (Kd.R_reads' HO_6.out).2.2 | (with_reducible refine Kd.C_alloc ?_ _) | (with_reducible refine Kd.C_drewN ?_ _) | (with_reducible refine Kd.C_drew ?_))); (case side4 => exact (Kd.R_reads' HO_6.out).2.1); rintro e w' ⟨rfl, ⟨nd, rfl⟩⟩))
         go_meet
         case rel => exact ⟨_, (!t340), (by first | rfl | (simp; done) | (simp [*]; done)), H', ⟨by have := HJ10.out; first | omega | exact Nat.le_refl _⟩, ⟨by (with_reducible repeat (first | apply Kd.R_alloc | apply Kd.R_drewN | apply Kd.R_drew)); exact Kd.R_mono HO_6.out (fun _ hk => hk.2.1)⟩, ⟨by (with_reducible repeat (first | apply Kd.R_alloc | apply Kd.R_drewN | apply Kd.R_drew)); exact Kd.R_mono HO_9.out (fun _ hk => hk.1)⟩, ⟨by (with_reducible repeat (first | refine blk_drewN ?_ _ | refine blk_drew ?_ | refine blk_alloc ?_ _)); exact BK304.out⟩, ⟨by (with_reducible repeat (first | refine blk_drewN ?_ _ | refine blk_drew ?_ | refine blk_alloc ?_ _)); exact BK317.out⟩, ⟨by (with_reducible repeat (first | refine blk_drewN ?_ _ | refine blk_drew ?_ | refine blk_alloc ?_ _)); exact BK330.out⟩, ⟨by exact lq HB.out⟩⟩
        ·replace c58 := Bool.eq_false_iff.mpr c58
         subst c58
         rw [if_neg (show ¬ (false = true) by decide)] at H
         have H' := Aside0.mk H
         clear H
         have hnb68 := NB330_304.out
         have hnc68 := NB304_330.out
         have hnb69 := NB330_317.out
         have hnc69 := NB317_330.out
         have hcz70_0 : w55.cell? ⟨gb330, 0, none⟩ = some (.int .i64 t323) := (blk_cell BK330.out 0).trans rfl
         have hcz70_1 : w55.cell? ⟨gb330, 1, none⟩ = some (.int .i64 t324) := (blk_cell BK330.out 1).trans rfl
         have hcz70_2 : w55.cell? ⟨gb330, 2, none⟩ = some (.int .i64 t325) := (blk_cell BK330.out 2).trans rfl
         have hcz70_3 : w55.cell? ⟨gb330, 3, none⟩ = some (.bool t326) := (blk_cell BK330.out 3).trans rfl
         have hfz70_0 := blk_frozen BK330.out 0
         have hfz70_1 := blk_frozen BK330.out 1
         have hfz70_2 := blk_frozen BK330.out 2
         have hfz70_3 := blk_frozen BK330.out 3
         have hnb71 := NB317_304.out
         have hnc71 := NB304_317.out
         have hcz72_0 : w55.cell? ⟨gb317, 0, none⟩ = some (.int .i64 t310) := (blk_cell BK317.out 0).trans rfl
         have hcz72_1 : w55.cell? ⟨gb317, 1, none⟩ = some (.int .i64 t311) := (blk_cell BK317.out 1).trans rfl
         have hcz72_2 : w55.cell? ⟨gb317, 2, none⟩ = some (.int .i64 t312) := (blk_cell BK317.out 2).trans rfl
         have hcz72_3 : w55.cell? ⟨gb317, 3, none⟩ = some (.bool t313) := (blk_cell BK317.out 3).trans rfl
         have hfz72_0 := blk_frozen BK317.out 0
         have hfz72_1 := blk_frozen BK317.out 1
         have hfz72_2 := blk_frozen BK317.out 2
         have hfz72_3 := blk_frozen BK317.out 3
         go_wp2_with (first | (go_at_call 20; (with_reducible refine (laws_eqHealth.calls t323 t324 t325 t326 t310 t311 t312 t313 false _ A57.out).mono ?_); rintro e w73 ⟨rfl, hb⟩; have n0_ := Aside0.mk (Kd.R_below (rq HO_6.out) hb); have n1_ := Aside0.mk (Kd.R_below (rq HO_7.out) hb); have n2_ := Aside0.mk (Kd.R_below (rq HO_9.out) hb); have n3_ := Aside0.mk (Kd.R_below (rq HO335.out) hb); have n4_ := Aside0.mk (blk_below (bq BK304.out) hb); have n5_ := Aside0.mk (blk_below (bq BK317.out) hb); have n6_ := Aside0.mk (blk_below (bq BK330.out) hb); have n7_ := Aside0.mk (below_step (lq HB.out) hb); clear HO_6; clear HO_7; clear HO_9; clear HO335; clear BK304; clear BK317; clear BK330; clear HB; have HO_6 := n0_; have HO_7 := n1_; have HO_9 := n2_; have HO335 := n3_; have BK304 := n4_; have BK317 := n5_; have BK330 := n6_; have HB := n7_; clear n0_ n1_ n2_ n3_ n4_ n5_ n6_ n7_; (try clear hb); (try clear hb2); (try clear hk); (try clear hi)))
         go_meet
         case rel => exact ⟨_, (true), (by first | rfl | (simp; done) | (simp [*]; done)), H', ⟨by have := HJ10.out; first | omega | exact Nat.le_refl _⟩, ⟨by (with_reducible repeat (first | apply Kd.R_alloc | apply Kd.R_drewN | apply Kd.R_drew)); exact Kd.R_mono HO_6.out (fun _ hk => hk.2.1)⟩, ⟨by (with_reducible repeat (first | apply Kd.R_alloc | apply Kd.R_drewN | apply Kd.R_drew)); exact Kd.R_mono HO_9.out (fun _ hk => hk.1)⟩, ⟨by (with_reducible repeat (first | refine blk_drewN ?_ _ | refine blk_drew ?_ | refine blk_alloc ?_ _)); exact BK304.out⟩, ⟨by (with_reducible repeat (first | refine blk_drewN ?_ _ | refine blk_drew ?_ | refine blk_alloc ?_ _)); exact BK317.out⟩, ⟨by (with_reducible repeat (first | refine blk_drewN ?_ _ | refine blk_drew ?_ | refine blk_alloc ?_ _)); exact BK330.out⟩, ⟨by exact lq HB.out⟩⟩
      case rest =>
       clear HC52
       try clear c1
       try clear c2
       try clear p2
       try clear c3
       try clear c3b0
       try clear c3b1
       try clear c4
       try clear c5
       try clear c6
       try clear c7
       try clear c8
       try clear c17
       try clear c19
       try clear c20
       try clear c27
       try clear c28
       try clear c29
       try clear c30
       try clear c31
       try clear c33
       try clear c34
       try clear c36
       try clear c41
       try clear c42
       try clear c44
       try clear c47
       try clear c50
       try clear c56
       try clear c56b0
       try clear c58
       try clear c60
       try clear c61
       try clear c63
       try clear c68
       try clear c69
       try clear c71
       try clear hcz13_0
       try clear hcz13_1
       try clear hcz20_0
       try clear hcz20_1
       try clear hcz20_2
       try clear hcz20_3
       try clear hcz22_0
       try clear hcz22_1
       try clear hcz29_0
       try clear hcz29_1
       try clear hcz29_2
       try clear hcz29_3
       try clear hcz35_0
       try clear hcz35_1
       try clear hcz35_2
       try clear hcz35_3
       try clear hcz37_0
       try clear hcz37_1
       try clear hcz37_2
       try clear hcz37_3
       try clear hcz43_0
       try clear hcz43_1
       try clear hcz43_2
       try clear hcz43_3
       try clear hcz45_0
       try clear hcz45_1
       try clear hcz45_2
       try clear hcz45_3
       try clear hcz62_0
       try clear hcz62_1
       try clear hcz62_2
       try clear hcz62_3
       try clear hcz64_0
       try clear hcz64_1
       try clear hcz64_2
       try clear hcz64_3
       try clear hcz70_0
       try clear hcz70_1
       try clear hcz70_2
       try clear hcz70_3
       try clear hcz72_0
       try clear hcz72_1
       try clear hcz72_2
       try clear hcz72_3
       try clear hfz13_0
       try clear hfz13_1
       try clear hfz20_0
       try clear hfz20_1
       try clear hfz20_2
       try clear hfz20_3
       try clear hfz22_0
       try clear hfz22_1
       try clear hfz29_0
       try clear hfz29_1
       try clear hfz29_2
       try clear hfz29_3
       try clear hfz35_0
       try clear hfz35_1
       try clear hfz35_2
       try clear hfz35_3
       try clear hfz37_0
       try clear hfz37_1
       try clear hfz37_2
       try clear hfz37_3
       try clear hfz43_0
       try clear hfz43_1
       try clear hfz43_2
       try clear hfz43_3
       try clear hfz45_0
       try clear hfz45_1
       try clear hfz45_2
       try clear hfz45_3
       try clear hfz62_0
       try clear hfz62_1
       try clear hfz62_2
       try clear hfz62_3
       try clear hfz64_0
       try clear hfz64_1
       try clear hfz64_2
       try clear hfz64_3
       try clear hfz70_0
       try clear hfz70_1
       try clear hfz70_2
       try clear hfz70_3
       try clear hfz72_0
       try clear hfz72_1
       try clear hfz72_2
       try clear hfz72_3
       try clear p2
       obtain ⟨kq, x66_51, rfl, HA, HJ51, HO_6, HO_9, BK304, BK317, BK330, HB⟩ := hcut
       cases kq with
       | zero => exact absurd HA.out (by simp [laws_FnExactHealthRun.j1])
       | succ kj51 =>
        have H := HA.out
        clear HA
        simp only [laws_FnExactHealthRun.j1] at H
        by_cases c74 : x66_51 = true
        ·subst c74
         rw [if_pos rfl] at H
         exact absurd H (by simp)
        ·replace c74 := Bool.eq_false_iff.mpr c74
         subst c74
         rw [if_neg (show ¬ (false = true) by decide)] at H
         replace H := Option.bind_eq_some_iff.mp H
         obtain ⟨⟨t341, t342⟩, A750, H⟩ := H
         (try dsimp only at H)
         have A75 := Aside0.mk A750
         clear A750
         replace H := Option.bind_eq_some_iff.mp H
         obtain ⟨t343, A760, H⟩ := H
         (try dsimp only at H)
         have A76 := Aside0.mk A760
         clear A760
         by_cases c77 : t343 < 0
         ·rw [if_pos c77] at H
          have c77b0 : decide (t343 < 0) = true := decide_eq_true c77
          clear c77
          exact absurd H (by simp)
         ·rw [if_neg c77] at H
          have c77b0 : decide (t343 < 0) = false := decide_eq_false c77
          clear c77
          by_cases c78 : t343 = t341
          ·rw [if_pos c78] at H
           have c78b0 : (t343 == t341) = true := beq_iff_eq.mpr c78
           have c78b1 : (t343 != t341) = false := bne_eq_false_iff_eq.mpr c78
           clear c78
           replace H := Option.bind_eq_some_iff.mp H
           obtain ⟨⟨t344, t345⟩, A790, H⟩ := H
           (try dsimp only at H)
           have A79 := Aside0.mk A790
           clear A790
           replace H := Option.bind_eq_some_iff.mp H
           obtain ⟨t346, A800, H⟩ := H
           (try dsimp only at H)
           have A80 := Aside0.mk A800
           clear A800
           replace H := Option.bind_eq_some_iff.mp H
           obtain ⟨⟨t349, t350, t351, t352, t353⟩, A810, H⟩ := H
           (try dsimp only at H)
           have A81 := Aside0.mk A810
           clear A810
           have HC82 := Aside0.mk H
           clear H
           obtain ⟨Ao83, co83, eo83⟩ := Kd.R_slice HO_9.out
           subst eo83
           go_upto_region 23 with (first | ((with_reducible refine gate_callee (f := 31) rfl ?_); refine goesL_ (some 69) rfl rfl Try.func31 (by kernel_rfl) rfl #[.slice Ao83 t327.length co83, .int .i64 1] rfl (by (try simp only [List.map_toArray, List.map_cons, List.map_nil]); first | done | rfl | (simp only [List.length_drop, List.length_take]; rfl)) ?_; (with_reducible refine (laws_markIntS.calls kj51 (fun k_ => some k_ = (.slice Ao83 t327.length co83 : Value).ownBlock) (.slice Ao83 t327.length co83) t327 1 t341 t342 w _ ?side1 ?side2 A75.out).mono ?_); (case side1 => exact lq HB.out); (case side2 => exact Kd.R_tight rfl HO_9.out); rintro e w84 ⟨rfl, hy0, hb, hkp⟩; refine ⟨_, rfl, ?_⟩; have n0_ := Aside0.mk (Kd.R_mono (ok' := fun k_ => some k_ ≠ (.slice Ao83 t327.length co83 : Value).ownBlock) (Kd.R_keptB (HO_6.out) hkp (fun k_ hk_ hs_ => (hk_) hs_)) (fun k_ hk_ => hk_.1)); have n1_ := Aside0.mk (Kd.R_reok rfl hy0 (fun k_ e_ => HO_9.out.1 k_ e_)); have n2_ := Aside0.mk (blk_kept (bq BK304.out) hkp (fun hs_ => (fun e_ => (Kd.R_ne HO_9.out BK304.out (by decide)) e_) hs_)); have n3_ := Aside0.mk (blk_kept (bq BK317.out) hkp (fun hs_ => (fun e_ => (Kd.R_ne HO_9.out BK317.out (by decide)) e_) hs_)); have n4_ := Aside0.mk (blk_kept (bq BK330.out) hkp (fun hs_ => (fun e_ => (Kd.R_ne HO_9.out BK330.out (by decide)) e_) hs_)); have n5_ := Aside0.mk (hb); clear HO_6; clear HO_9; clear BK304; clear BK317; clear BK330; clear HB; have HO_6 := n0_; have HO_9 := n1_; have BK304 := n2_; have BK317 := n3_; have BK330 := n4_; have HB := n5_; clear n0_ n1_ n2_ n3_ n4_ n5_; (try clear hb); (try clear hkp); (try clear hy0)) | ((with_reducible refine gate_callee (f := 32) rfl ?_); refine goesL_ (some 72) rfl rfl Try.func32 (by kernel_rfl) rfl #[.slice Ao83 t342.length co83, .int .i64 1] rfl (by (try simp only [List.map_toArray, List.map_cons, List.map_nil]); first | done | (rw [show t342.length = t327.length from (Kd.R_reads' HO_9.out).1.symm] <;> rfl) | rfl | (simp only [List.length_drop, List.length_take]; rfl)) ?_; (with_reducible refine (laws_heldIntS.calls kj51 _ _ t342 1 t343 _ ?side1 ?side2 A76.out).mono ?_); (case side1 => repeat (first | exact (Kd.R_reads' HO_9.out).2.2 | (with_reducible refine Kd.C_alloc ?_ _) | (with_reducible refine Kd.C_drewN ?_ _) | (with_reducible refine Kd.C_drew ?_))); (case side2 => rw [show t342.length = t327.length from (Kd.R_reads' HO_9.out).1.symm]; exact (Kd.R_reads' HO_9.out).2.1); rintro e w' ⟨rfl, ⟨nd, rfl⟩⟩; refine ⟨_, rfl, ?_⟩; (try (rw [drewN_self w84]; generalize hq_ : World.drewN w84 _ = w84; have n0_ : Aside0 (Kd.R (Kd.int .i64) 3 w84 w.heap.size (fun k_ => some k_ ≠ (.slice Ao83 t327.length co83 : Value).ownBlock) v315 t314) := ⟨by rw [← hq_]; exact (rq HO_6.out)⟩; have n1_ : Aside0 (Kd.R (Kd.int .i64) 3 w84 w.heap.size (fun k_ => some k_ ≠ (v315 : Value).ownBlock) (.slice Ao83 t327.length co83) t342) := ⟨by rw [← hq_]; exact (rq HO_9.out)⟩; have n2_ : Aside0 (w84.heap[gb304]? = some (.cells #[.int .i64 a0_0, .int .i64 a0_1] 35 (0, 0))) := ⟨by rw [← hq_]; exact (bq BK304.out)⟩; have n3_ : Aside0 (w84.heap[gb317]? = some (.cells #[.int .i64 t310, .int .i64 t311, .int .i64 t312, .bool t313] 38 (0, 0))) := ⟨by rw [← hq_]; exact (bq BK317.out)⟩; have n4_ : Aside0 (w84.heap[gb330]? = some (.cells #[.int .i64 t323, .int .i64 t324, .int .i64 t325, .bool t326] 38 (0, 0))) := ⟨by rw [← hq_]; exact (bq BK330.out)⟩; have n5_ : Aside0 (Below w.heap.size w w84) := ⟨by rw [← hq_]; exact (lq HB.out)⟩; clear HO_6 HO_9 BK304 BK317 BK330 HB hq_; have HO_6 := n0_; have HO_9 := n1_; have BK304 := n2_; have BK317 := n3_; have BK330 := n4_; have HB := n5_; clear n0_ n1_ n2_ n3_ n4_ n5_)); have hnb85 := NB304_317.out; have hnc85 := NB317_304.out; have hnb86 := NB304_330.out; have hnc86 := NB330_304.out; have hcz87_0 : w84.cell? ⟨gb304, 0, none⟩ = some (.int .i64 a0_0) := (blk_cell BK304.out 0).trans rfl; have hcz87_1 : w84.cell? ⟨gb304, 1, none⟩ = some (.int .i64 a0_1) := (blk_cell BK304.out 1).trans rfl; have hfz87_0 := blk_frozen BK304.out 0; have hfz87_1 := blk_frozen BK304.out 1) | ((with_reducible refine gate_callee (f := 17) rfl ?_); refine goesL_ (some 80) rfl rfl Try.func17 (by kernel_rfl) rfl #[.agg #[.int .i64 a0_0, .int .i64 a0_1]] rfl (by (try simp only [List.map_toArray, List.map_cons, List.map_nil]); first | done | rfl | (simp only [List.length_drop, List.length_take]; rfl)) ?_; (with_reducible refine (laws_toPolicy.calls a0_0 a0_1 t344 t345 _ A79.out).mono ?_); rintro e w88 ⟨rfl, hb⟩; refine ⟨_, rfl, ?_⟩; have n0_ := Aside0.mk (Kd.R_below (rq HO_6.out) hb); have n1_ := Aside0.mk (Kd.R_below (rq HO_9.out) hb); have n2_ := Aside0.mk (blk_below (bq BK304.out) hb); have n3_ := Aside0.mk (blk_below (bq BK317.out) hb); have n4_ := Aside0.mk (blk_below (bq BK330.out) hb); have n5_ := Aside0.mk (below_step (lq HB.out) hb); clear HO_6; clear HO_9; clear BK304; clear BK317; clear BK330; clear HB; have HO_6 := n0_; have HO_9 := n1_; have BK304 := n2_; have BK317 := n3_; have BK330 := n4_; have HB := n5_; clear n0_ n1_ n2_ n3_ n4_ n5_; (try clear hb); (try clear hb2); (try clear hk); (try clear hi)) | ((with_reducible refine gate_callee (f := 28) rfl ?_); refine goesL_ (some 82) rfl rfl Try.func28 (by kernel_rfl) rfl #[.slice A1 l1.length c1] rfl (by (try simp only [List.map_toArray, List.map_cons, List.map_nil]); first | done | rfl | (simp only [List.length_drop, List.length_take]; rfl)) ?_; (with_reducible refine (laws_toIntS.calls kj51 _ _ l1 t346 _ ?side1 ?side2 A80.out).mono ?_); (case side1 => repeat (first | exact (Kd.C_below HR1.out HB.out) | (with_reducible refine Kd.C_alloc ?_ _) | (with_reducible refine Kd.C_drewN ?_ _) | (with_reducible refine Kd.C_drew ?_))); (case side2 => exact HC1.out); rintro e w89 ⟨v347, rfl, ho0, hb⟩; refine ⟨_, rfl, ?_⟩; have n0_ := Aside0.mk (Kd.R_elder' (rq HO_6.out) (Kd.R_base ho0) hb); have n1_ := Aside0.mk (Kd.R_elder' (rq HO_9.out) (Kd.R_base ho0) hb); have n2_ := Aside0.mk (Kd.R_lower (Kd.R_new' (Kd.R_new' ho0 (Kd.R_lt (rq HO_6.out))) (Kd.R_lt (rq HO_9.out))) (below_size (lq HB.out))); have n3_ := Aside0.mk (blk_below (bq BK304.out) hb); have n4_ := Aside0.mk (blk_below (bq BK317.out) hb); have n5_ := Aside0.mk (blk_below (bq BK330.out) hb); have n6_ := Aside0.mk (below_step (lq HB.out) hb); clear HO_6; clear HO_9; clear BK304; clear BK317; clear BK330; clear HB; have HO_6 := n0_; have HO_9 := n1_; have HO348 := n2_; have BK304 := n3_; have BK317 := n4_; have BK330 := n5_; have HB := n6_; clear n0_ n1_ n2_ n3_ n4_ n5_ n6_; (try clear hb); (try clear hb2); (try clear hk); (try clear hi); (try clear ho0); obtain ⟨Ao90, co90, eo90⟩ := Kd.R_slice HO348.out; subst eo90) | ((with_reducible refine gate_callee (f := 29) rfl ?_); refine goesL_ (some 83) rfl rfl Try.func29 (by kernel_rfl) rfl #[.agg #[.int .i64 t344, .int .i64 t345], .slice Ao90 t346.length co90] rfl (by (try simp only [List.map_toArray, List.map_cons, List.map_nil]); first | done | rfl | (simp only [List.length_drop, List.length_take]; rfl)) ?_; (with_reducible refine (impl_HealthRun.calls kj51 t344 t345 _ _ t346 t349 t350 t351 t352 t353 _ ?side1 ?side2 A81.out).mono ?_); (case side1 => repeat (first | exact (Kd.R_reads' HO348.out).2.2 | (with_reducible refine Kd.C_alloc ?_ _) | (with_reducible refine Kd.C_drewN ?_ _) | (with_reducible refine Kd.C_drew ?_))); (case side2 => exact (Kd.R_reads' HO348.out).2.1); rintro e w91 ⟨v354, rfl, ho0, hb⟩; refine ⟨_, rfl, ?_⟩; have n0_ := Aside0.mk (Kd.R_elder' (rq HO_6.out) (Kd.R_base ho0) hb); have n1_ := Aside0.mk (Kd.R_elder' (rq HO_9.out) (Kd.R_base ho0) hb); have n2_ := Aside0.mk (Kd.R_elder' (rq HO348.out) (Kd.R_base ho0) hb); have n3_ := Aside0.mk (Kd.R_lower (Kd.R_new' (Kd.R_new' (Kd.R_new' ho0 (Kd.R_lt (rq HO_6.out))) (Kd.R_lt (rq HO_9.out))) (Kd.R_lt (rq HO348.out))) (below_size (lq HB.out))); have n4_ := Aside0.mk (blk_below (bq BK304.out) hb); have n5_ := Aside0.mk (blk_below (bq BK317.out) hb); have n6_ := Aside0.mk (blk_below (bq BK330.out) hb); have n7_ := Aside0.mk (below_step (lq HB.out) hb); clear HO_6; clear HO_9; clear HO348; clear BK304; clear BK317; clear BK330; clear HB; have HO_6 := n0_; have HO_9 := n1_; have HO348 := n2_; have HO355 := n3_; have BK304 := n4_; have BK317 := n5_; have BK330 := n6_; have HB := n7_; clear n0_ n1_ n2_ n3_ n4_ n5_ n6_ n7_; (try clear hb); (try clear hb2); (try clear hk); (try clear hi); (try clear ho0)) | ((with_reducible refine gate_dst (N := 13) rfl ?_); refine box_event ?hg (N := 13) ?hd (cs := #[.int .i64 0, .int .i64 0, .int .i64 0, .bool false]) (t := 38) ?hr ?_; (case hd => rfl); (case hg => rfl); (case hr => first | (go_simp; done) | (go_simp; rfl)); intro gb356 hg w92 hbox hb; have n0_ := Aside0.mk (Kd.R_below (rq HO_6.out) hb); have n1_ := Aside0.mk (Kd.R_below (rq HO_9.out) hb); have n2_ := Aside0.mk (Kd.R_below (rq HO348.out) hb); have n3_ := Aside0.mk (Kd.R_below (rq HO355.out) hb); have n4_ := Aside0.mk (blk_below (bq BK304.out) hb); have n5_ := Aside0.mk (blk_below (bq BK317.out) hb); have n6_ := Aside0.mk (blk_below (bq BK330.out) hb); have n7_ := Aside0.mk (below_step (lq HB.out) hb); have n8_ := Aside0.mk (hbox); have n9_ := Aside0.mk ((ge_new hg (lq HB.out) : w.heap.size ≤ gb356)); have n10_ := Aside0.mk ((ge_new hg (lq HB.out) : w.heap.size ≤ gb356)); have n11_ := Aside0.mk ((ne_new hg (bq BK304.out) : gb304 ≠ gb356)); have n12_ := Aside0.mk ((new_ne hg (bq BK304.out) : gb356 ≠ gb304)); have n13_ := Aside0.mk ((ne_new hg (bq BK317.out) : gb317 ≠ gb356)); have n14_ := Aside0.mk ((new_ne hg (bq BK317.out) : gb356 ≠ gb317)); have n15_ := Aside0.mk ((ne_new hg (bq BK330.out) : gb330 ≠ gb356)); have n16_ := Aside0.mk ((new_ne hg (bq BK330.out) : gb356 ≠ gb330)); clear HO_6; clear HO_9; clear HO348; clear HO355; clear BK304; clear BK317; clear BK330; clear HB; have HO_6 := n0_; have HO_9 := n1_; have HO348 := n2_; have HO355 := n3_; have BK304 := n4_; have BK317 := n5_; have BK330 := n6_; have HB := n7_; have BK356 := n8_; have GW356 := n9_; have GE356 := n10_; have NB304_356 := n11_; have NB356_304 := n12_; have NB317_356 := n13_; have NB356_317 := n14_; have NB330_356 := n15_; have NB356_330 := n16_; clear n0_ n1_ n2_ n3_ n4_ n5_ n6_ n7_ n8_ n9_ n10_ n11_ n12_ n13_ n14_ n15_ n16_; clear hb hbox hg; have hnb93 := NB356_304.out; have hnc93 := NB304_356.out; have hnb94 := NB356_317.out; have hnc94 := NB317_356.out; have hnb95 := NB356_330.out; have hnc95 := NB330_356.out; have hcz96_0 : w92.cell? ⟨gb356, 0, none⟩ = some (.int .i64 0) := (blk_cell BK356.out 0).trans rfl; have hcz96_1 : w92.cell? ⟨gb356, 1, none⟩ = some (.int .i64 0) := (blk_cell BK356.out 1).trans rfl; have hcz96_2 : w92.cell? ⟨gb356, 2, none⟩ = some (.int .i64 0) := (blk_cell BK356.out 2).trans rfl; have hcz96_3 : w92.cell? ⟨gb356, 3, none⟩ = some (.bool false) := (blk_cell BK356.out 3).trans rfl; have hfz96_0 := blk_frozen BK356.out 0; have hfz96_1 := blk_frozen BK356.out 1; have hfz96_2 := blk_frozen BK356.out 2; have hfz96_3 := blk_frozen BK356.out 3))
           (try simp only [Act.put, List.setIfInBounds_toArray, List.set_cons_zero, List.set_cons_succ])
           go_cut [95] (fun v95 wc => ∃ (kq : Nat) (x95_81 : Bool), v95 = .bool x95_81 ∧ Aside0 (laws_FnExactHealthRun.j2 kq t342 t341 x95_81 = some true) ∧ Aside0 (kq ≤ kj51) ∧ Aside0 (Kd.R (Kd.int .i64) 3 wc w.heap.size (fun _ => True) (.slice Ao83 t327.length co83) t342) ∧ Aside0 (wc.heap[gb304]? = some (.cells #[.int .i64 a0_0, .int .i64 a0_1] 35 (0, 0))) ∧ Aside0 (wc.heap[gb317]? = some (.cells #[.int .i64 t310, .int .i64 t311, .int .i64 t312, .bool t313] 38 (0, 0))) ∧ Aside0 (wc.heap[gb330]? = some (.cells #[.int .i64 t323, .int .i64 t324, .int .i64 t325, .bool t326] 38 (0, 0))) ∧ Aside0 (wc.heap[gb356]? = some (.cells #[.int .i64 t349, .int .i64 t350, .int .i64 t351, .bool t352] 38 (0, 0))) ∧ Aside0 (Below w.heap.size w wc))
           case first =>
            have H := HC82.out
            clear HC82
            replace H := Option.bind_eq_some_iff.mp H
            obtain ⟨t357, A970, H⟩ := H
            (try dsimp only at H)
            have A97 := Aside0.mk A970
            clear A970
            by_cases c98 : t357 = true
            ·subst c98
             rw [if_pos rfl] at H
             replace H := Option.bind_eq_some_iff.mp H
             obtain ⟨t358, A990, H⟩ := H
             (try dsimp only at H)
             have A99 := Aside0.mk A990
             clear A990
             have H' := Aside0.mk H
             clear H
             have hnb100 := NB356_304.out
             have hnc100 := NB304_356.out
             have hnb101 := NB356_317.out
             have hnc101 := NB317_356.out
             have hnb102 := NB356_330.out
             have hnc102 := NB330_356.out
             have hcz103_0 : w92.cell? ⟨gb356, 0, none⟩ = some (.int .i64 0) := (blk_cell BK356.out 0).trans rfl
             have hcz103_1 : w92.cell? ⟨gb356, 1, none⟩ = some (.int .i64 0) := (blk_cell BK356.out 1).trans rfl
             have hcz103_2 : w92.cell? ⟨gb356, 2, none⟩ = some (.int .i64 0) := (blk_cell BK356.out 2).trans rfl
             have hcz103_3 : w92.cell? ⟨gb356, 3, none⟩ = some (.bool false) := (blk_cell BK356.out 3).trans rfl
             have hfz103_0 := blk_frozen BK356.out 0
             have hfz103_1 := blk_frozen BK356.out 1
             have hfz103_2 := blk_frozen BK356.out 2
             have hfz103_3 := blk_frozen BK356.out 3
             have hnb104 := NB317_304.out
             have hnc104 := NB304_317.out
             have hnb105 := NB317_330.out
             have hnc105 := NB330_317.out
             have hcz106_0 : w92.cell? ⟨gb317, 0, none⟩ = some (.int .i64 t310) := (blk_cell BK317.out 0).trans rfl
             have hcz106_1 : w92.cell? ⟨gb317, 1, none⟩ = some (.int .i64 t311) := (blk_cell BK317.out 1).trans rfl
             have hcz106_2 : w92.cell? ⟨gb317, 2, none⟩ = some (.int .i64 t312) := (blk_cell BK317.out 2).trans rfl
             have hcz106_3 : w92.cell? ⟨gb317, 3, none⟩ = some (.bool t313) := (blk_cell BK317.out 3).trans rfl
             have hfz106_0 := blk_frozen BK317.out 0
             have hfz106_1 := blk_frozen BK317.out 1
             have hfz106_2 := blk_frozen BK317.out 2
             have hfz106_3 := blk_frozen BK317.out 3
             go_wp2_with (first | ((with_reducible refine gate_callee (f := 20) rfl ?_); refine goesL_ (some 88) rfl rfl Try.func20 (by kernel_rfl) rfl #[.agg #[.int .i64 t349, .int .i64 t350, .int .i64 t351, .bool t352], .agg #[.int .i64 t310, .int .i64 t311, .int .i64 t312, .bool t313]] rfl (by (try simp only [List.map_toArray, List.map_cons, List.map_nil]); first | done | rfl | (simp only [List.length_drop, List.length_take]; rfl)) ?_; (with_reducible refine (laws_eqHealth.calls t349 t350 t351 t352 t310 t311 t312 t313 true _ A97.out).mono ?_); rintro e w107 ⟨rfl, hb⟩; refine ⟨_, rfl, ?_⟩; have n0_ := Aside0.mk (Kd.R_below (rq (Kd.R_mono (Kd.R_far (p := ⟨gb356, 3, none⟩) (Kd.R_far (p := ⟨gb356, 2, none⟩) (Kd.R_far (p := ⟨gb356, 1, none⟩) (Kd.R_far (p := ⟨gb356, 0, none⟩) (Kd.R_types HO_6.out BK356.out (by decide)) (fun _ hk => hk.2) (.int .i64 t349)) (fun _ hk => hk.2) (.int .i64 t350)) (fun _ hk => hk.2) (.int .i64 t351)) (fun _ hk => hk.2) (.bool t352)) (fun _ h_ => h_.1))) hb); have n1_ := Aside0.mk (Kd.R_below (rq (Kd.R_mono (Kd.R_far (p := ⟨gb356, 3, none⟩) (Kd.R_far (p := ⟨gb356, 2, none⟩) (Kd.R_far (p := ⟨gb356, 1, none⟩) (Kd.R_far (p := ⟨gb356, 0, none⟩) (Kd.R_types HO_9.out BK356.out (by decide)) (fun _ hk => hk.2) (.int .i64 t349)) (fun _ hk => hk.2) (.int .i64 t350)) (fun _ hk => hk.2) (.int .i64 t351)) (fun _ hk => hk.2) (.bool t352)) (fun _ h_ => h_.1))) hb); have n2_ := Aside0.mk (Kd.R_below (rq (Kd.R_mono (Kd.R_far (p := ⟨gb356, 3, none⟩) (Kd.R_far (p := ⟨gb356, 2, none⟩) (Kd.R_far (p := ⟨gb356, 1, none⟩) (Kd.R_far (p := ⟨gb356, 0, none⟩) (Kd.R_types HO348.out BK356.out (by decide)) (fun _ hk => hk.2) (.int .i64 t349)) (fun _ hk => hk.2) (.int .i64 t350)) (fun _ hk => hk.2) (.int .i64 t351)) (fun _ hk => hk.2) (.bool t352)) (fun _ h_ => h_.1))) hb); have n3_ := Aside0.mk (Kd.R_below (rq (Kd.R_mono (Kd.R_far (p := ⟨gb356, 3, none⟩) (Kd.R_far (p := ⟨gb356, 2, none⟩) (Kd.R_far (p := ⟨gb356, 1, none⟩) (Kd.R_far (p := ⟨gb356, 0, none⟩) (Kd.R_types HO355.out BK356.out (by decide)) (fun _ hk => hk.2) (.int .i64 t349)) (fun _ hk => hk.2) (.int .i64 t350)) (fun _ hk => hk.2) (.int .i64 t351)) (fun _ hk => hk.2) (.bool t352)) (fun _ h_ => h_.1))) hb); have n4_ := Aside0.mk (blk_below (g := gb304) (o := .cells #[.int .i64 a0_0, .int .i64 a0_1] 35 (0, 0)) (by (with_reducible repeat (first | refine blk_drewN ?_ _ | refine blk_drew ?_ | refine blk_alloc ?_ _)); refine blk_far ?_ NB304_356.out _; (with_reducible repeat (first | refine blk_drewN ?_ _ | refine blk_drew ?_ | refine blk_alloc ?_ _)); refine blk_far ?_ NB304_356.out _; (with_reducible repeat (first | refine blk_drewN ?_ _ | refine blk_drew ?_ | refine blk_alloc ?_ _)); refine blk_far ?_ NB304_356.out _; (with_reducible repeat (first | refine blk_drewN ?_ _ | refine blk_drew ?_ | refine blk_alloc ?_ _)); refine blk_far ?_ NB304_356.out _; (with_reducible repeat (first | refine blk_drewN ?_ _ | refine blk_drew ?_ | refine blk_alloc ?_ _)); exact BK304.out) hb); have n5_ := Aside0.mk (blk_below (g := gb317) (o := .cells #[.int .i64 t310, .int .i64 t311, .int .i64 t312, .bool t313] 38 (0, 0)) (by (with_reducible repeat (first | refine blk_drewN ?_ _ | refine blk_drew ?_ | refine blk_alloc ?_ _)); refine blk_far ?_ NB317_356.out _; (with_reducible repeat (first | refine blk_drewN ?_ _ | refine blk_drew ?_ | refine blk_alloc ?_ _)); refine blk_far ?_ NB317_356.out _; (with_reducible repeat (first | refine blk_drewN ?_ _ | refine blk_drew ?_ | refine blk_alloc ?_ _)); refine blk_far ?_ NB317_356.out _; (with_reducible repeat (first | refine blk_drewN ?_ _ | refine blk_drew ?_ | refine blk_alloc ?_ _)); refine blk_far ?_ NB317_356.out _; (with_reducible repeat (first | refine blk_drewN ?_ _ | refine blk_drew ?_ | refine blk_alloc ?_ _)); exact BK317.out) hb); have n6_ := Aside0.mk (blk_below (g := gb330) (o := .cells #[.int .i64 t323, .int .i64 t324, .int .i64 t325, .bool t326] 38 (0, 0)) (by (with_reducible repeat (first | refine blk_drewN ?_ _ | refine blk_drew ?_ | refine blk_alloc ?_ _)); refine blk_far ?_ NB330_356.out _; (with_reducible repeat (first | refine blk_drewN ?_ _ | refine blk_drew ?_ | refine blk_alloc ?_ _)); refine blk_far ?_ NB330_356.out _; (with_reducible repeat (first | refine blk_drewN ?_ _ | refine blk_drew ?_ | refine blk_alloc ?_ _)); refine blk_far ?_ NB330_356.out _; (with_reducible repeat (first | refine blk_drewN ?_ _ | refine blk_drew ?_ | refine blk_alloc ?_ _)); refine blk_far ?_ NB330_356.out _; (with_reducible repeat (first | refine blk_drewN ?_ _ | refine blk_drew ?_ | refine blk_alloc ?_ _)); exact BK330.out) hb); have n7_ := Aside0.mk (blk_below (g := gb356) (o := .cells #[.int .i64 t349, .int .i64 t350, .int .i64 t351, .bool t352] 38 (0, 0)) (by (with_reducible repeat (first | refine blk_drewN ?_ _ | refine blk_drew ?_ | refine blk_alloc ?_ _)); refine blk_put (cs := #[.int .i64 t349, .int .i64 t350, .int .i64 t351, .bool false]) ?_ 3 _ rfl; (with_reducible repeat (first | refine blk_drewN ?_ _ | refine blk_drew ?_ | refine blk_alloc ?_ _)); refine blk_put (cs := #[.int .i64 t349, .int .i64 t350, .int .i64 0, .bool false]) ?_ 2 _ rfl; (with_reducible repeat (first | refine blk_drewN ?_ _ | refine blk_drew ?_ | refine blk_alloc ?_ _)); refine blk_put (cs := #[.int .i64 t349, .int .i64 0, .int .i64 0, .bool false]) ?_ 1 _ rfl; (with_reducible repeat (first | refine blk_drewN ?_ _ | refine blk_drew ?_ | refine blk_alloc ?_ _)); refine blk_put (cs := #[.int .i64 0, .int .i64 0, .int .i64 0, .bool false]) ?_ 0 _ rfl; (with_reducible repeat (first | refine blk_drewN ?_ _ | refine blk_drew ?_ | refine blk_alloc ?_ _)); exact BK356.out) hb); have n8_ := Aside0.mk (below_step (by repeat (first | (with_reducible first | exact HB.out | apply below_alloc | apply pw_below_drewN | apply below_drew1 | refine below_set ?_ GE356.out) | exact HB.out)) hb); clear HO_6; clear HO_9; clear HO348; clear HO355; clear BK304; clear BK317; clear BK330; clear BK356; clear HB; have HO_6 := n0_; have HO_9 := n1_; have HO348 := n2_; have HO355 := n3_; have BK304 := n4_; have BK317 := n5_; have BK330 := n6_; have BK356 := n7_; have HB := n8_; clear n0_ n1_ n2_ n3_ n4_ n5_ n6_ n7_ n8_; (try clear hb); (try clear hb2); (try clear hk); (try clear hi); obtain ⟨Ao108, co108, eo108⟩ := Kd.R_slice HO355.out; subst eo108; obtain ⟨Ao109, co109, eo109⟩ := Kd.R_slice HO_6.out; subst eo109) | (go_at_call 30; (with_reducible refine (laws_eqIntS.calls kj51 _ _ t353 _ _ t314 t358 _ ?side1 ?side2 ?side3 ?side4 A99.out).mono ?_); (case side1 => repeat (first | exact (Kd.R_reads' HO355.out).2.2 | (with_reducible refine Kd.C_alloc ?_ _) | (with_reducible refine Kd.C_drewN ?_ _) | (with_reducible refine Kd.C_drew ?_))); (case side2 => exact (Kd.R_reads' HO355.out).2.1); (case side3 => repeat (first | exact (Kd.R_reads' HO_6.out).2.2 | (with_reducible refine Kd.C_alloc ?_ _) | (with_reducible refine Kd.C_drewN ?_ _) | (with_reducible refine Kd.C_drew ?_))); (case side4 => exact (Kd.R_reads' HO_6.out).2.1); rintro e w' ⟨rfl, ⟨nd, rfl⟩⟩))
             go_meet
             case rel => exact ⟨_, (!t358), (by first | rfl | (simp; done) | (simp [*]; done)), H', ⟨by have := HJ10.out; have := HJ51.out; first | omega | exact Nat.le_refl _⟩, ⟨by (with_reducible repeat (first | apply Kd.R_alloc | apply Kd.R_drewN | apply Kd.R_drew)); exact Kd.R_mono HO_9.out (fun _ hk => trivial)⟩, ⟨by (with_reducible repeat (first | refine blk_drewN ?_ _ | refine blk_drew ?_ | refine blk_alloc ?_ _)); exact BK304.out⟩, ⟨by (with_reducible repeat (first | refine blk_drewN ?_ _ | refine blk_drew ?_ | refine blk_alloc ?_ _)); exact BK317.out⟩, ⟨by (with_reducible repeat (first | refine blk_drewN ?_ _ | refine blk_drew ?_ | refine blk_alloc ?_ _)); exact BK330.out⟩, ⟨by (with_reducible repeat (first | refine blk_drewN ?_ _ | refine blk_drew ?_ | refine blk_alloc ?_ _)); exact BK356.out⟩, ⟨by exact lq HB.out⟩⟩
            ·replace c98 := Bool.eq_false_iff.mpr c98
             subst c98
             rw [if_neg (show ¬ (false = true) by decide)] at H
             have H' := Aside0.mk H
             clear H
             have hnb110 := NB356_304.out
             have hnc110 := NB304_356.out
             have hnb111 := NB356_317.out
             have hnc111 := NB317_356.out
             have hnb112 := NB356_330.out
             have hnc112 := NB330_356.out
             have hcz113_0 : w92.cell? ⟨gb356, 0, none⟩ = some (.int .i64 0) := (blk_cell BK356.out 0).trans rfl
             have hcz113_1 : w92.cell? ⟨gb356, 1, none⟩ = some (.int .i64 0) := (blk_cell BK356.out 1).trans rfl
             have hcz113_2 : w92.cell? ⟨gb356, 2, none⟩ = some (.int .i64 0) := (blk_cell BK356.out 2).trans rfl
             have hcz113_3 : w92.cell? ⟨gb356, 3, none⟩ = some (.bool false) := (blk_cell BK356.out 3).trans rfl
             have hfz113_0 := blk_frozen BK356.out 0
             have hfz113_1 := blk_frozen BK356.out 1
             have hfz113_2 := blk_frozen BK356.out 2
             have hfz113_3 := blk_frozen BK356.out 3
             have hnb114 := NB317_304.out
             have hnc114 := NB304_317.out
             have hnb115 := NB317_330.out
             have hnc115 := NB330_317.out
             have hcz116_0 : w92.cell? ⟨gb317, 0, none⟩ = some (.int .i64 t310) := (blk_cell BK317.out 0).trans rfl
             have hcz116_1 : w92.cell? ⟨gb317, 1, none⟩ = some (.int .i64 t311) := (blk_cell BK317.out 1).trans rfl
             have hcz116_2 : w92.cell? ⟨gb317, 2, none⟩ = some (.int .i64 t312) := (blk_cell BK317.out 2).trans rfl
             have hcz116_3 : w92.cell? ⟨gb317, 3, none⟩ = some (.bool t313) := (blk_cell BK317.out 3).trans rfl
             have hfz116_0 := blk_frozen BK317.out 0
             have hfz116_1 := blk_frozen BK317.out 1
             have hfz116_2 := blk_frozen BK317.out 2
             have hfz116_3 := blk_frozen BK317.out 3
             go_wp2_with (first | ((with_reducible refine gate_callee (f := 20) rfl ?_); refine goesL_ (some 88) rfl rfl Try.func20 (by kernel_rfl) rfl #[.agg #[.int .i64 t349, .int .i64 t350, .int .i64 t351, .bool t352], .agg #[.int .i64 t310, .int .i64 t311, .int .i64 t312, .bool t313]] rfl (by (try simp only [List.map_toArray, List.map_cons, List.map_nil]); first | done | rfl | (simp only [List.length_drop, List.length_take]; rfl)) ?_; (with_reducible refine (laws_eqHealth.calls t349 t350 t351 t352 t310 t311 t312 t313 false _ A97.out).mono ?_); rintro e w117 ⟨rfl, hb⟩; refine ⟨_, rfl, ?_⟩; have n0_ := Aside0.mk (Kd.R_below (rq (Kd.R_mono (Kd.R_far (p := ⟨gb356, 3, none⟩) (Kd.R_far (p := ⟨gb356, 2, none⟩) (Kd.R_far (p := ⟨gb356, 1, none⟩) (Kd.R_far (p := ⟨gb356, 0, none⟩) (Kd.R_types HO_6.out BK356.out (by decide)) (fun _ hk => hk.2) (.int .i64 t349)) (fun _ hk => hk.2) (.int .i64 t350)) (fun _ hk => hk.2) (.int .i64 t351)) (fun _ hk => hk.2) (.bool t352)) (fun _ h_ => h_.1))) hb); have n1_ := Aside0.mk (Kd.R_below (rq (Kd.R_mono (Kd.R_far (p := ⟨gb356, 3, none⟩) (Kd.R_far (p := ⟨gb356, 2, none⟩) (Kd.R_far (p := ⟨gb356, 1, none⟩) (Kd.R_far (p := ⟨gb356, 0, none⟩) (Kd.R_types HO_9.out BK356.out (by decide)) (fun _ hk => hk.2) (.int .i64 t349)) (fun _ hk => hk.2) (.int .i64 t350)) (fun _ hk => hk.2) (.int .i64 t351)) (fun _ hk => hk.2) (.bool t352)) (fun _ h_ => h_.1))) hb); have n2_ := Aside0.mk (Kd.R_below (rq (Kd.R_mono (Kd.R_far (p := ⟨gb356, 3, none⟩) (Kd.R_far (p := ⟨gb356, 2, none⟩) (Kd.R_far (p := ⟨gb356, 1, none⟩) (Kd.R_far (p := ⟨gb356, 0, none⟩) (Kd.R_types HO348.out BK356.out (by decide)) (fun _ hk => hk.2) (.int .i64 t349)) (fun _ hk => hk.2) (.int .i64 t350)) (fun _ hk => hk.2) (.int .i64 t351)) (fun _ hk => hk.2) (.bool t352)) (fun _ h_ => h_.1))) hb); have n3_ := Aside0.mk (Kd.R_below (rq (Kd.R_mono (Kd.R_far (p := ⟨gb356, 3, none⟩) (Kd.R_far (p := ⟨gb356, 2, none⟩) (Kd.R_far (p := ⟨gb356, 1, none⟩) (Kd.R_far (p := ⟨gb356, 0, none⟩) (Kd.R_types HO355.out BK356.out (by decide)) (fun _ hk => hk.2) (.int .i64 t349)) (fun _ hk => hk.2) (.int .i64 t350)) (fun _ hk => hk.2) (.int .i64 t351)) (fun _ hk => hk.2) (.bool t352)) (fun _ h_ => h_.1))) hb); have n4_ := Aside0.mk (blk_below (g := gb304) (o := .cells #[.int .i64 a0_0, .int .i64 a0_1] 35 (0, 0)) (by (with_reducible repeat (first | refine blk_drewN ?_ _ | refine blk_drew ?_ | refine blk_alloc ?_ _)); refine blk_far ?_ NB304_356.out _; (with_reducible repeat (first | refine blk_drewN ?_ _ | refine blk_drew ?_ | refine blk_alloc ?_ _)); refine blk_far ?_ NB304_356.out _; (with_reducible repeat (first | refine blk_drewN ?_ _ | refine blk_drew ?_ | refine blk_alloc ?_ _)); refine blk_far ?_ NB304_356.out _; (with_reducible repeat (first | refine blk_drewN ?_ _ | refine blk_drew ?_ | refine blk_alloc ?_ _)); refine blk_far ?_ NB304_356.out _; (with_reducible repeat (first | refine blk_drewN ?_ _ | refine blk_drew ?_ | refine blk_alloc ?_ _)); exact BK304.out) hb); have n5_ := Aside0.mk (blk_below (g := gb317) (o := .cells #[.int .i64 t310, .int .i64 t311, .int .i64 t312, .bool t313] 38 (0, 0)) (by (with_reducible repeat (first | refine blk_drewN ?_ _ | refine blk_drew ?_ | refine blk_alloc ?_ _)); refine blk_far ?_ NB317_356.out _; (with_reducible repeat (first | refine blk_drewN ?_ _ | refine blk_drew ?_ | refine blk_alloc ?_ _)); refine blk_far ?_ NB317_356.out _; (with_reducible repeat (first | refine blk_drewN ?_ _ | refine blk_drew ?_ | refine blk_alloc ?_ _)); refine blk_far ?_ NB317_356.out _; (with_reducible repeat (first | refine blk_drewN ?_ _ | refine blk_drew ?_ | refine blk_alloc ?_ _)); refine blk_far ?_ NB317_356.out _; (with_reducible repeat (first | refine blk_drewN ?_ _ | refine blk_drew ?_ | refine blk_alloc ?_ _)); exact BK317.out) hb); have n6_ := Aside0.mk (blk_below (g := gb330) (o := .cells #[.int .i64 t323, .int .i64 t324, .int .i64 t325, .bool t326] 38 (0, 0)) (by (with_reducible repeat (first | refine blk_drewN ?_ _ | refine blk_drew ?_ | refine blk_alloc ?_ _)); refine blk_far ?_ NB330_356.out _; (with_reducible repeat (first | refine blk_drewN ?_ _ | refine blk_drew ?_ | refine blk_alloc ?_ _)); refine blk_far ?_ NB330_356.out _; (with_reducible repeat (first | refine blk_drewN ?_ _ | refine blk_drew ?_ | refine blk_alloc ?_ _)); refine blk_far ?_ NB330_356.out _; (with_reducible repeat (first | refine blk_drewN ?_ _ | refine blk_drew ?_ | refine blk_alloc ?_ _)); refine blk_far ?_ NB330_356.out _; (with_reducible repeat (first | refine blk_drewN ?_ _ | refine blk_drew ?_ | refine blk_alloc ?_ _)); exact BK330.out) hb); have n7_ := Aside0.mk (blk_below (g := gb356) (o := .cells #[.int .i64 t349, .int .i64 t350, .int .i64 t351, .bool t352] 38 (0, 0)) (by (with_reducible repeat (first | refine blk_drewN ?_ _ | refine blk_drew ?_ | refine blk_alloc ?_ _)); refine blk_put (cs := #[.int .i64 t349, .int .i64 t350, .int .i64 t351, .bool false]) ?_ 3 _ rfl; (with_reducible repeat (first | refine blk_drewN ?_ _ | refine blk_drew ?_ | refine blk_alloc ?_ _)); refine blk_put (cs := #[.int .i64 t349, .int .i64 t350, .int .i64 0, .bool false]) ?_ 2 _ rfl; (with_reducible repeat (first | refine blk_drewN ?_ _ | refine blk_drew ?_ | refine blk_alloc ?_ _)); refine blk_put (cs := #[.int .i64 t349, .int .i64 0, .int .i64 0, .bool false]) ?_ 1 _ rfl; (with_reducible repeat (first | refine blk_drewN ?_ _ | refine blk_drew ?_ | refine blk_alloc ?_ _)); refine blk_put (cs := #[.int .i64 0, .int .i64 0, .int .i64 0, .bool false]) ?_ 0 _ rfl; (with_reducible repeat (first | refine blk_drewN ?_ _ | refine blk_drew ?_ | refine blk_alloc ?_ _)); exact BK356.out) hb); have n8_ := Aside0.mk (below_step (by repeat (first | (with_reducible first | exact HB.out | apply below_alloc | apply pw_below_drewN | apply below_drew1 | refine below_set ?_ GE356.out) | exact HB.out)) hb); clear HO_6; clear HO_9; clear HO348; clear HO355; clear BK304; clear BK317; clear BK330; clear BK356; clear HB; have HO_6 := n0_; have HO_9 := n1_; have HO348 := n2_; have HO355 := n3_; have BK304 := n4_; have BK317 := n5_; have BK330 := n6_; have BK356 := n7_; have HB := n8_; clear n0_ n1_ n2_ n3_ n4_ n5_ n6_ n7_ n8_; (try clear hb); (try clear hb2); (try clear hk); (try clear hi)))
             go_meet
             case rel => exact ⟨_, (true), (by first | rfl | (simp; done) | (simp [*]; done)), H', ⟨by have := HJ10.out; have := HJ51.out; first | omega | exact Nat.le_refl _⟩, ⟨by (with_reducible repeat (first | apply Kd.R_alloc | apply Kd.R_drewN | apply Kd.R_drew)); exact Kd.R_mono HO_9.out (fun _ hk => trivial)⟩, ⟨by (with_reducible repeat (first | refine blk_drewN ?_ _ | refine blk_drew ?_ | refine blk_alloc ?_ _)); exact BK304.out⟩, ⟨by (with_reducible repeat (first | refine blk_drewN ?_ _ | refine blk_drew ?_ | refine blk_alloc ?_ _)); exact BK317.out⟩, ⟨by (with_reducible repeat (first | refine blk_drewN ?_ _ | refine blk_drew ?_ | refine blk_alloc ?_ _)); exact BK330.out⟩, ⟨by (with_reducible repeat (first | refine blk_drewN ?_ _ | refine blk_drew ?_ | refine blk_alloc ?_ _)); exact BK356.out⟩, ⟨by exact lq HB.out⟩⟩
           case rest =>
            clear HC82
            try clear c1
            try clear c2
            try clear p2
            try clear c3
            try clear c3b0
            try clear c3b1
            try clear c4
            try clear c5
            try clear c6
            try clear c7
            try clear c8
            try clear c9
            try clear c10
            try clear c11
            try clear c17
            try clear c19
            try clear c20
            try clear c27
            try clear c28
            try clear c29
            try clear c30
            try clear c31
            try clear c32
            try clear c33
            try clear c34
            try clear c36
            try clear c41
            try clear c42
            try clear c44
            try clear c47
            try clear c50
            try clear c56
            try clear c56b0
            try clear c58
            try clear c60
            try clear c61
            try clear c63
            try clear c68
            try clear c69
            try clear c71
            try clear c74
            try clear c77
            try clear c77b0
            try clear c78
            try clear c78b0
            try clear c78b1
            try clear c85
            try clear c86
            try clear c93
            try clear c94
            try clear c95
            try clear c98
            try clear c100
            try clear c101
            try clear c102
            try clear c104
            try clear c105
            try clear c110
            try clear c111
            try clear c112
            try clear c114
            try clear c115
            try clear hcz103_0
            try clear hcz103_1
            try clear hcz103_2
            try clear hcz103_3
            try clear hcz106_0
            try clear hcz106_1
            try clear hcz106_2
            try clear hcz106_3
            try clear hcz113_0
            try clear hcz113_1
            try clear hcz113_2
            try clear hcz113_3
            try clear hcz116_0
            try clear hcz116_1
            try clear hcz116_2
            try clear hcz116_3
            try clear hcz13_0
            try clear hcz13_1
            try clear hcz20_0
            try clear hcz20_1
            try clear hcz20_2
            try clear hcz20_3
            try clear hcz22_0
            try clear hcz22_1
            try clear hcz29_0
            try clear hcz29_1
            try clear hcz29_2
            try clear hcz29_3
            try clear hcz35_0
            try clear hcz35_1
            try clear hcz35_2
            try clear hcz35_3
            try clear hcz37_0
            try clear hcz37_1
            try clear hcz37_2
            try clear hcz37_3
            try clear hcz43_0
            try clear hcz43_1
            try clear hcz43_2
            try clear hcz43_3
            try clear hcz45_0
            try clear hcz45_1
            try clear hcz45_2
            try clear hcz45_3
            try clear hcz62_0
            try clear hcz62_1
            try clear hcz62_2
            try clear hcz62_3
            try clear hcz64_0
            try clear hcz64_1
            try clear hcz64_2
            try clear hcz64_3
            try clear hcz70_0
            try clear hcz70_1
            try clear hcz70_2
            try clear hcz70_3
            try clear hcz72_0
            try clear hcz72_1
            try clear hcz72_2
            try clear hcz72_3
            try clear hcz87_0
            try clear hcz87_1
            try clear hcz96_0
            try clear hcz96_1
            try clear hcz96_2
            try clear hcz96_3
            try clear hfz103_0
            try clear hfz103_1
            try clear hfz103_2
            try clear hfz103_3
            try clear hfz106_0
            try clear hfz106_1
            try clear hfz106_2
            try clear hfz106_3
            try clear hfz113_0
            try clear hfz113_1
            try clear hfz113_2
            try clear hfz113_3
            try clear hfz116_0
            try clear hfz116_1
            try clear hfz116_2
            try clear hfz116_3
            try clear hfz13_0
            try clear hfz13_1
            try clear hfz20_0
            try clear hfz20_1
            try clear hfz20_2
            try clear hfz20_3
            try clear hfz22_0
            try clear hfz22_1
            try clear hfz29_0
            try clear hfz29_1
            try clear hfz29_2
            try clear hfz29_3
            try clear hfz35_0
            try clear hfz35_1
            try clear hfz35_2
            try clear hfz35_3
            try clear hfz37_0
            try clear hfz37_1
            try clear hfz37_2
            try clear hfz37_3
            try clear hfz43_0
            try clear hfz43_1
            try clear hfz43_2
            try clear hfz43_3
            try clear hfz45_0
            try clear hfz45_1
            try clear hfz45_2
            try clear hfz45_3
            try clear hfz62_0
            try clear hfz62_1
            try clear hfz62_2
            try clear hfz62_3
            try clear hfz64_0
            try clear hfz64_1
            try clear hfz64_2
            try clear hfz64_3
            try clear hfz70_0
            try clear hfz70_1
            try clear hfz70_2
            try clear hfz70_3
            try clear hfz72_0
            try clear hfz72_1
            try clear hfz72_2
            try clear hfz72_3
            try clear hfz87_0
            try clear hfz87_1
            try clear hfz96_0
            try clear hfz96_1
            try clear hfz96_2
            try clear hfz96_3
            try clear p2
            obtain ⟨kq, x95_81, rfl, HA, HJ81, HO_9, BK304, BK317, BK330, BK356, HB⟩ := hcut
            have hl9_81 := (Kd.R_reads' HO_9.out).1
            rw [hl9_81] at HO_9
            (try simp only [hl9_81])
            (try simp only [hl9_81] at BK304)
            (try simp only [hl9_81] at BK317)
            (try simp only [hl9_81] at BK330)
            (try simp only [hl9_81] at BK356)
            cases kq with
            | zero => exact absurd HA.out (by simp [laws_FnExactHealthRun.j2])
            | succ kj81 =>
             have H := HA.out
             clear HA
             simp only [laws_FnExactHealthRun.j2] at H
             by_cases c118 : x95_81 = true
             ·subst c118
              rw [if_pos rfl] at H
              exact absurd H (by simp)
             ·replace c118 := Bool.eq_false_iff.mpr c118
              subst c118
              rw [if_neg (show ¬ (false = true) by decide)] at H
              replace H := Option.bind_eq_some_iff.mp H
              obtain ⟨t359, A1190, H⟩ := H
              (try dsimp only at H)
              have A119 := Aside0.mk A1190
              clear A1190
              by_cases c120 : t359 < 0
              ·rw [if_pos c120] at H
               have c120b0 : decide (t359 < 0) = true := decide_eq_true c120
               clear c120
               exact absurd H (by simp)
              ·rw [if_neg c120] at H
               have c120b0 : decide (t359 < 0) = false := decide_eq_false c120
               clear c120
               by_cases c121 : t359 = t341
               ·rw [if_pos c121] at H
                have c121b0 : (t359 == t341) = true := beq_iff_eq.mpr c121
                have c121b1 : (t359 != t341) = false := bne_eq_false_iff_eq.mpr c121
                clear c121
                clear H
                go_wp2_with (first | ((with_reducible refine gate_callee (f := 32) rfl ?_); refine goesL_ (some 98) rfl rfl Try.func32 (by kernel_rfl) rfl #[.slice Ao83 t342.length co83, .int .i64 1] rfl (by (try simp only [List.map_toArray, List.map_cons, List.map_nil]); first | done | rfl | (simp only [List.length_drop, List.length_take]; rfl)) ?_; (with_reducible refine (laws_heldIntS.calls kj81 _ _ t342 1 t359 _ ?side1 ?side2 A119.out).mono ?_); (case side1 => repeat (first | exact (Kd.R_reads' HO_9.out).2.2 | (with_reducible refine Kd.C_alloc ?_ _) | (with_reducible refine Kd.C_drewN ?_ _) | (with_reducible refine Kd.C_drew ?_))); (case side2 => exact (Kd.R_reads' HO_9.out).2.1); rintro e w' ⟨rfl, ⟨nd, rfl⟩⟩; refine ⟨_, rfl, ?_⟩))
                go_ret
                exact ⟨by first | rfl | (simp [errW_none, errW_some] <;> rfl) | (simp [*, errW_none, errW_some] <;> rfl), by exact lq HB.out⟩
               ·rw [if_neg c121] at H
                have c121b0 : (t359 == t341) = false := beq_eq_false_iff_ne.mpr c121
                have c121b1 : (t359 != t341) = true := bne_iff_ne.mpr c121
                exact absurd H (by simp)
          ·rw [if_neg c78] at H
           have c78b0 : (t343 == t341) = false := beq_eq_false_iff_ne.mpr c78
           have c78b1 : (t343 != t341) = true := bne_iff_ne.mpr c78
           exact absurd H (by simp)
     ·replace c50 := Bool.eq_false_iff.mpr c50
      subst c50
      rw [if_neg (show ¬ (false = true) by decide)] at H
      exact absurd H (by simp)

end Go.Proofs.Ytpdfihapnnnglaa.GB
