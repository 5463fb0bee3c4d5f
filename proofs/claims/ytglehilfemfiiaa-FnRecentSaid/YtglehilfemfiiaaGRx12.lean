/- Told by a program of this session, out of the translation: each function of the group as a plain Lean function, and that Go's call comes to just its answer. Lean checks it. -/
import Derived.Test.YtglehilfemfiiaaGRx0
import Derived.Test.YtglehilfemfiiaaGRx5
import Derived.Test.YtglehilfemfiiaaGRx8
import Derived.Test.YtglehilfemfiiaaGRx9
import Derived.Test.YtglehilfemfiiaaGRx10
import Derived.Test.YtglehilfemfiiaaGRx11
import Derived.Test.YtglehilfemfiiaaCcrR
namespace Go.Proofs.Ytglehilfemfiiaa.GR
open Go.RowKit Go.Proofs.YtglehilfemfiiaaW.PrintWords Go.Proofs.YtglehilfemfiiaaW.PrintLast Go.Proofs.YtglehilfemfiiaaW.PrintMore Go.Proofs.Ytglehilfemfiiaa.Q
attribute [local go_sem] max2_int min2_int max_two min_two max_three min_three max_four min_four   -- for this text's walks alone
set_option linter.unusedVariables false
set_option linter.unusedSimpArgs false

/-! ### laws_FnExactCacheRun: function 7 -/
def laws_FnExactCacheRun.j0 : Nat → List (S104) → List (S36) → List (S36) → Bool → Int → Int → Int → Option (Bool)
 | 0, _, _, _, _, _, _, _ => none
 | k + 1, x1, x6, x8, x48, x347000, x347001, x347002 => if x48 = true then (some false) else ((laws_markAccessS.f k x8 1).bind fun bt374 => ((laws_heldAccessS.f k bt374.2 1).bind fun t376 => (if t376 < 0 then (some false) else (if t376 = bt374.1 then ((laws_toShape.f x347000 x347001 x347002).bind fun bt377 => ((laws_toUseS.f k x1).bind fun t380 => ((impl_CacheRun.f bt377.1 bt377.2.1 bt377.2.2 t380).bind fun t383 => ((laws_eqAccessS.f k t383 x6).bind fun t386 => (if t386 = true then ((laws_heldAccessS.f k bt374.2 1).bind fun t387 => (if t387 < 0 then (some false) else (if t387 = bt374.1 then (some true) else (some false)))) else (some false)))))) else (some false)))))
def laws_FnExactCacheRun.f (k : Nat) (a0_0 : Int) (a0_1 : Int) (a0_2 : Int) (l1 : List (S104)) : Option (Bool) := (laws_szUseS.f l1 1048576).bind fun t347 => (if t347 < 0 then (some true) else ((laws_toShape.f a0_0 a0_1 a0_2).bind fun bt348 => ((laws_toUseS.f k l1).bind fun t351 => ((spec_CacheRun.f k bt348.1 bt348.2.1 bt348.2.2 t351).bind fun t354 => ((laws_toUseS.f k l1).bind fun t357 => ((laws_toShape.f a0_0 a0_1 a0_2).bind fun bt360 => ((impl_CacheRun.f bt360.1 bt360.2.1 bt360.2.2 t357).bind fun t363 => ((laws_eqAccessS.f k t363 t354).bind fun t366 => (if t366 = true then ((laws_toUseS.f k l1).bind fun t367 => ((laws_eqUseS.f k t357 t367).bind fun t370 => (if t370 = true then ((laws_markUseS.f k t357 1).bind fun bt371 => (if bt371.1 < 0 then (laws_FnExactCacheRun.j0 k l1 t354 t363 true a0_0 a0_1 a0_2) else ((laws_eqAccessS.f k t363 t354).bind fun t373 => (laws_FnExactCacheRun.j0 k l1 t354 t363 (!t373) a0_0 a0_1 a0_2)))) else (some false)))) else (some false))))))))))
theorem laws_FnExactCacheRun.mono_l : ∀ k, (∀ y0 y1 y2 y3 y4 y5 y6, LeO (laws_FnExactCacheRun.j0 k y0 y1 y2 y3 y4 y5 y6) (laws_FnExactCacheRun.j0 (k + 1) y0 y1 y2 y3 y4 y5 y6))
 | 0 => fun _ _ _ _ _ _ _ r h => by simp [laws_FnExactCacheRun.j0] at h
 | k + 1 => by
  have ih0 := laws_FnExactCacheRun.mono_l k
  ·intro y0 y1 y2 y3 y4 y5 y6
   unfold laws_FnExactCacheRun.j0
   repeat' first
   | (with_reducible exact ih0 _ _ _ _ _ _ _)
   | (with_reducible exact laws_eqAccessS.mono _ _ _)
   | (with_reducible exact laws_eqUseS.mono _ _ _)
   | (with_reducible exact laws_heldAccessS.mono _ _ _)
   | (with_reducible exact laws_markAccessS.mono _ _ _)
   | (with_reducible exact laws_markUseS.mono _ _ _)
   | (with_reducible exact laws_toUseS.mono _ _)
   | (with_reducible exact spec_CacheRun.mono _ _ _ _ _)
   | (with_reducible exact LeO.refl _)
   | (with_reducible exact LeO.none _)
   | (with_reducible refine LeO.ite ?_ ?_)
   | (with_reducible refine LeO.bind ?_ (fun _ => ?_))
   | exact ih0 _ _ _ _ _ _ _
   | exact laws_eqAccessS.mono _ _ _
   | exact laws_eqUseS.mono _ _ _
   | exact laws_heldAccessS.mono _ _ _
   | exact laws_markAccessS.mono _ _ _
   | exact laws_markUseS.mono _ _ _
   | exact laws_toUseS.mono _ _
   | exact spec_CacheRun.mono _ _ _ _ _
   | exact LeO.none _
   | refine LeO.ite ?_ ?_
   | refine LeO.bind ?_ (fun _ => ?_)
theorem laws_FnExactCacheRun.mono : ∀ a0 a1 a2 a3 k, LeO (laws_FnExactCacheRun.f k a0 a1 a2 a3) (laws_FnExactCacheRun.f (k + 1) a0 a1 a2 a3) := by
 intro a0 a1 a2 a3 k
 have ih0 := laws_FnExactCacheRun.mono_l k
 unfold laws_FnExactCacheRun.f
 repeat' first
   | (with_reducible exact ih0 _ _ _ _ _ _ _)
   | (with_reducible exact laws_eqAccessS.mono _ _ _)
   | (with_reducible exact laws_eqUseS.mono _ _ _)
   | (with_reducible exact laws_heldAccessS.mono _ _ _)
   | (with_reducible exact laws_markAccessS.mono _ _ _)
   | (with_reducible exact laws_markUseS.mono _ _ _)
   | (with_reducible exact laws_toUseS.mono _ _)
   | (with_reducible exact spec_CacheRun.mono _ _ _ _ _)
   | (with_reducible exact LeO.refl _)
   | (with_reducible exact LeO.none _)
   | (with_reducible refine LeO.ite ?_ ?_)
   | (with_reducible refine LeO.bind ?_ (fun _ => ?_))
   | exact ih0 _ _ _ _ _ _ _
   | exact laws_eqAccessS.mono _ _ _
   | exact laws_eqUseS.mono _ _ _
   | exact laws_heldAccessS.mono _ _ _
   | exact laws_markAccessS.mono _ _ _
   | exact laws_markUseS.mono _ _ _
   | exact laws_toUseS.mono _ _
   | exact spec_CacheRun.mono _ _ _ _ _
   | exact LeO.none _
   | refine LeO.ite ?_ ?_
   | refine LeO.bind ?_ (fun _ => ?_)
set_option maxHeartbeats 8000000 in
set_option maxRecDepth 100000 in
theorem laws_FnExactCacheRun.calls (k : Nat) (a0_0 : Int) (a0_1 : Int) (a0_2 : Int) (A1 : Option Addr) (c1 : Nat) (l1 : List (S104)) (w : World) (hr1 : Kd.C k104 w A1 l1.length l1) (hc1 : l1.length ≤ c1) (h : laws_FnExactCacheRun.f k a0_0 a0_1 a0_2 l1 = some true) :
  Calls Try.prog 7 #[.agg #[.int .i64 a0_0, .int .i64 a0_1, .int .i64 a0_2], .slice A1 l1.length c1] w fun e w' => e = .returned (.bool true) ∧ Below w.heap.size w w' := by
 have hu54 := Try.underlying54
 have HR1 := Aside0.mk hr1
 have HC1 := Aside0.mk hc1
 clear hr1 hc1
 have HB := Aside0.mk (Below.refl w.heap.size w)
 have H : ((laws_szUseS.f l1 1048576).bind fun t347 => (if t347 < 0 then (some true) else ((laws_toShape.f a0_0 a0_1 a0_2).bind fun bt348 => ((laws_toUseS.f k l1).bind fun t351 => ((spec_CacheRun.f k bt348.1 bt348.2.1 bt348.2.2 t351).bind fun t354 => ((laws_toUseS.f k l1).bind fun t357 => ((laws_toShape.f a0_0 a0_1 a0_2).bind fun bt360 => ((impl_CacheRun.f bt360.1 bt360.2.1 bt360.2.2 t357).bind fun t363 => ((laws_eqAccessS.f k t363 t354).bind fun t366 => (if t366 = true then ((laws_toUseS.f k l1).bind fun t367 => ((laws_eqUseS.f k t357 t367).bind fun t370 => (if t370 = true then ((laws_markUseS.f k t357 1).bind fun bt371 => (if bt371.1 < 0 then (laws_FnExactCacheRun.j0 k l1 t354 t363 true a0_0 a0_1 a0_2) else ((laws_eqAccessS.f k t363 t354).bind fun t373 => (laws_FnExactCacheRun.j0 k l1 t354 t363 (!t373) a0_0 a0_1 a0_2)))) else (some false)))) else (some false))))))))))) = some true := h
 clear h
 replace H := Option.bind_eq_some_iff.mp H
 obtain ⟨t347, A30, H⟩ := H
 (try dsimp only at H)
 have A3 := Aside0.mk A30
 clear A30
 by_cases c4 : t347 < 0
 ·rw [if_pos c4] at H
  have c4b0 : decide (t347 < 0) = true := decide_eq_true c4
  clear c4
  clear H
  go_enter Try.func7, Try.ntmps7
  go_wp2_with (first | ((with_reducible refine gate_dst (N := 2) rfl ?_); refine box_event ?hg (N := 2) ?hd (cs := #[.int .i64 a0_0, .int .i64 a0_1, .int .i64 a0_2]) (t := 54) ?hr ?_; (case hd => rfl); (case hg => rfl); (case hr => first | (go_simp; done) | (go_simp; rfl)); intro gb346 hg w5 hbox hb; have n0_ := Aside0.mk (below_step (lq HB.out) hb); have n1_ := Aside0.mk (hbox); have n2_ := Aside0.mk ((ge_new hg (lq HB.out) : w.heap.size ≤ gb346)); have n3_ := Aside0.mk ((ge_new hg (lq HB.out) : w.heap.size ≤ gb346)); clear HB; have HB := n0_; have BK346 := n1_; have GW346 := n2_; have GE346 := n3_; clear n0_ n1_ n2_ n3_; clear hb hbox hg) | ((with_reducible refine gate_callee (f := 28) rfl ?_); refine goesL_ (some 15) rfl rfl Try.func28 (by kernel_rfl) rfl #[.slice A1 l1.length c1, .int .i64 1048576] rfl (by (try simp only [List.map_toArray, List.map_cons, List.map_nil]); first | done | rfl | (simp only [List.length_drop, List.length_take]; rfl)) ?_; (with_reducible refine (laws_szUseS.calls _ _ l1 1048576 t347 _ ?side1 ?side2 A3.out).mono ?_); (case side1 => repeat (first | exact (Kd.C_below HR1.out HB.out) | (with_reducible refine Kd.C_alloc ?_ _) | (with_reducible refine Kd.C_drewN ?_ _) | (with_reducible refine Kd.C_drew ?_))); (case side2 => exact HC1.out); rintro e w' ⟨rfl, ⟨nd, rfl⟩⟩; refine ⟨_, rfl, ?_⟩))
  go_ret
  exact ⟨by first | rfl | (simp [errW_none, errW_some] <;> rfl) | (simp [*, errW_none, errW_some] <;> rfl), by exact lq HB.out⟩
 ·rw [if_neg c4] at H
  have c4b0 : decide (t347 < 0) = false := decide_eq_false c4
  clear c4
  replace H := Option.bind_eq_some_iff.mp H
  obtain ⟨⟨t348, t349, t350⟩, A60, H⟩ := H
  (try dsimp only at H)
  have A6 := Aside0.mk A60
  clear A60
  replace H := Option.bind_eq_some_iff.mp H
  obtain ⟨t351, A70, H⟩ := H
  (try dsimp only at H)
  have A7 := Aside0.mk A70
  clear A70
  replace H := Option.bind_eq_some_iff.mp H
  obtain ⟨t354, A80, H⟩ := H
  (try dsimp only at H)
  have A8 := Aside0.mk A80
  clear A80
  replace H := Option.bind_eq_some_iff.mp H
  obtain ⟨t357, A90, H⟩ := H
  (try dsimp only at H)
  have A9 := Aside0.mk A90
  clear A90
  replace H := Option.bind_eq_some_iff.mp H
  obtain ⟨⟨t360, t361, t362⟩, A100, H⟩ := H
  (try dsimp only at H)
  have A10 := Aside0.mk A100
  clear A100
  replace H := Option.bind_eq_some_iff.mp H
  obtain ⟨t363, A110, H⟩ := H
  (try dsimp only at H)
  have A11 := Aside0.mk A110
  clear A110
  replace H := Option.bind_eq_some_iff.mp H
  obtain ⟨t366, A120, H⟩ := H
  (try dsimp only at H)
  have A12 := Aside0.mk A120
  clear A120
  by_cases c13 : t366 = true
  ·subst c13
   rw [if_pos rfl] at H
   replace H := Option.bind_eq_some_iff.mp H
   obtain ⟨t367, A140, H⟩ := H
   (try dsimp only at H)
   have A14 := Aside0.mk A140
   clear A140
   replace H := Option.bind_eq_some_iff.mp H
   obtain ⟨t370, A150, H⟩ := H
   (try dsimp only at H)
   have A15 := Aside0.mk A150
   clear A150
   by_cases c16 : t370 = true
   ·subst c16
    rw [if_pos rfl] at H
    replace H := Option.bind_eq_some_iff.mp H
    obtain ⟨⟨t371, t372⟩, A170, H⟩ := H
    (try dsimp only at H)
    have A17 := Aside0.mk A170
    clear A170
    have HC18 := Aside0.mk H
    clear H
    go_enter Try.func7, Try.ntmps7
    go_upto_region 14 with (first | ((with_reducible refine gate_dst (N := 2) rfl ?_); refine box_event ?hg (N := 2) ?hd (cs := #[.int .i64 a0_0, .int .i64 a0_1, .int .i64 a0_2]) (t := 54) ?hr ?_; (case hd => rfl); (case hg => rfl); (case hr => first | (go_simp; done) | (go_simp; rfl)); intro gb346 hg w19 hbox hb; have n0_ := Aside0.mk (below_step (lq HB.out) hb); have n1_ := Aside0.mk (hbox); have n2_ := Aside0.mk ((ge_new hg (lq HB.out) : w.heap.size ≤ gb346)); have n3_ := Aside0.mk ((ge_new hg (lq HB.out) : w.heap.size ≤ gb346)); clear HB; have HB := n0_; have BK346 := n1_; have GW346 := n2_; have GE346 := n3_; clear n0_ n1_ n2_ n3_; clear hb hbox hg) | ((with_reducible refine gate_callee (f := 28) rfl ?_); refine goesL_ (some 15) rfl rfl Try.func28 (by kernel_rfl) rfl #[.slice A1 l1.length c1, .int .i64 1048576] rfl (by (try simp only [List.map_toArray, List.map_cons, List.map_nil]); first | done | rfl | (simp only [List.length_drop, List.length_take]; rfl)) ?_; (with_reducible refine (laws_szUseS.calls _ _ l1 1048576 t347 _ ?side1 ?side2 A3.out).mono ?_); (case side1 => repeat (first | exact (Kd.C_below HR1.out HB.out) | (with_reducible refine Kd.C_alloc ?_ _) | (with_reducible refine Kd.C_drewN ?_ _) | (with_reducible refine Kd.C_drew ?_))); (case side2 => exact HC1.out); rintro e w' ⟨rfl, ⟨nd, rfl⟩⟩; refine ⟨_, rfl, ?_⟩; have hcz20_0 : w19.cell? ⟨gb346, 0, none⟩ = some (.int .i64 a0_0) := (blk_cell BK346.out 0).trans rfl; have hcz20_1 : w19.cell? ⟨gb346, 1, none⟩ = some (.int .i64 a0_1) := (blk_cell BK346.out 1).trans rfl; have hcz20_2 : w19.cell? ⟨gb346, 2, none⟩ = some (.int .i64 a0_2) := (blk_cell BK346.out 2).trans rfl; have hfz20_0 := blk_frozen BK346.out 0; have hfz20_1 := blk_frozen BK346.out 1; have hfz20_2 := blk_frozen BK346.out 2) | ((with_reducible refine gate_callee (f := 29) rfl ?_); refine goesL_ (some 19) rfl rfl Try.func29 (by kernel_rfl) rfl #[.agg #[.int .i64 a0_0, .int .i64 a0_1, .int .i64 a0_2]] rfl (by (try simp only [List.map_toArray, List.map_cons, List.map_nil]); first | done | rfl | (simp only [List.length_drop, List.length_take]; rfl)) ?_; (with_reducible refine (laws_toShape.calls a0_0 a0_1 a0_2 t348 t349 t350 _ A6.out).mono ?_); rintro e w21 ⟨rfl, hb⟩; refine ⟨_, rfl, ?_⟩; have n0_ := Aside0.mk (blk_below (bq BK346.out) hb); have n1_ := Aside0.mk (below_step (lq HB.out) hb); clear BK346; clear HB; have BK346 := n0_; have HB := n1_; clear n0_ n1_; (try clear hb); (try clear hb2); (try clear hk); (try clear hi)) | ((with_reducible refine gate_callee (f := 30) rfl ?_); refine goesL_ (some 21) rfl rfl Try.func30 (by kernel_rfl) rfl #[.slice A1 l1.length c1] rfl (by (try simp only [List.map_toArray, List.map_cons, List.map_nil]); first | done | rfl | (simp only [List.length_drop, List.length_take]; rfl)) ?_; (with_reducible refine (laws_toUseS.calls k _ _ l1 t351 _ ?side1 ?side2 A7.out).mono ?_); (case side1 => repeat (first | exact (Kd.C_below HR1.out HB.out) | (with_reducible refine Kd.C_alloc ?_ _) | (with_reducible refine Kd.C_drewN ?_ _) | (with_reducible refine Kd.C_drew ?_))); (case side2 => exact HC1.out); rintro e w22 ⟨v352, rfl, ho0, hb⟩; refine ⟨_, rfl, ?_⟩; have n0_ := Aside0.mk (Kd.R_lower ho0 (below_size (lq HB.out))); have n1_ := Aside0.mk (blk_below (bq BK346.out) hb); have n2_ := Aside0.mk (below_step (lq HB.out) hb); clear BK346; clear HB; have HO353 := n0_; have BK346 := n1_; have HB := n2_; clear n0_ n1_ n2_; (try clear hb); (try clear hb2); (try clear hk); (try clear hi); (try clear ho0); obtain ⟨Ao23, co23, eo23⟩ := Kd.R_slice HO353.out; subst eo23) | ((with_reducible refine gate_callee (f := 13) rfl ?_); refine goesL_ (some 22) rfl rfl Try.func13 (by kernel_rfl) rfl #[.agg #[.int .i64 t348, .int .i64 t349, .int .i64 t350], .slice Ao23 t351.length co23] rfl (by (try simp only [List.map_toArray, List.map_cons, List.map_nil]); first | done | rfl | (simp only [List.length_drop, List.length_take]; rfl)) ?_; (with_reducible refine (spec_CacheRun.calls k t348 t349 t350 _ _ t351 t354 _ ?side1 ?side2 A8.out).mono ?_); (case side1 => repeat (first | exact (Kd.R_reads' HO353.out).2.2 | (with_reducible refine Kd.C_alloc ?_ _) | (with_reducible refine Kd.C_drewN ?_ _) | (with_reducible refine Kd.C_drew ?_))); (case side2 => exact (Kd.R_reads' HO353.out).2.1); rintro e w24 ⟨v355, rfl, ho0, hb⟩; refine ⟨_, rfl, ?_⟩; have n0_ := Aside0.mk (Kd.R_below (rq HO353.out) hb); have n1_ := Aside0.mk (Kd.R_lower ho0 (below_size (lq HB.out))); have n2_ := Aside0.mk (blk_below (bq BK346.out) hb); have n3_ := Aside0.mk (below_step (lq HB.out) hb); clear HO353; clear BK346; clear HB; have HO353 := n0_; have HO356 := n1_; have BK346 := n2_; have HB := n3_; clear n0_ n1_ n2_ n3_; (try clear hb); (try clear hb2); (try clear hk); (try clear hi); (try clear ho0)) | ((with_reducible refine gate_callee (f := 30) rfl ?_); refine goesL_ (some 24) rfl rfl Try.func30 (by kernel_rfl) rfl #[.slice A1 l1.length c1] rfl (by (try simp only [List.map_toArray, List.map_cons, List.map_nil]); first | done | rfl | (simp only [List.length_drop, List.length_take]; rfl)) ?_; (with_reducible refine (laws_toUseS.calls k _ _ l1 t357 _ ?side1 ?side2 A9.out).mono ?_); (case side1 => repeat (first | exact (Kd.C_below HR1.out HB.out) | (with_reducible refine Kd.C_alloc ?_ _) | (with_reducible refine Kd.C_drewN ?_ _) | (with_reducible refine Kd.C_drew ?_))); (case side2 => exact HC1.out); rintro e w25 ⟨v358, rfl, ho0, hb⟩; refine ⟨_, rfl, ?_⟩; have n0_ := Aside0.mk (Kd.R_elder' (rq HO353.out) (Kd.R_base ho0) hb); have n1_ := Aside0.mk (Kd.R_below (rq HO356.out) hb); have n2_ := Aside0.mk (Kd.R_lower (Kd.R_new' ho0 (Kd.R_lt (rq HO353.out))) (below_size (lq HB.out))); have n3_ := Aside0.mk (blk_below (bq BK346.out) hb); have n4_ := Aside0.mk (below_step (lq HB.out) hb); clear HO353; clear HO356; clear BK346; clear HB; have HO353 := n0_; have HO356 := n1_; have HO359 := n2_; have BK346 := n3_; have HB := n4_; clear n0_ n1_ n2_ n3_ n4_; (try clear hb); (try clear hb2); (try clear hk); (try clear hi); (try clear ho0); have hcz26_0 : w25.cell? ⟨gb346, 0, none⟩ = some (.int .i64 a0_0) := (blk_cell BK346.out 0).trans rfl; have hcz26_1 : w25.cell? ⟨gb346, 1, none⟩ = some (.int .i64 a0_1) := (blk_cell BK346.out 1).trans rfl; have hcz26_2 : w25.cell? ⟨gb346, 2, none⟩ = some (.int .i64 a0_2) := (blk_cell BK346.out 2).trans rfl; have hfz26_0 := blk_frozen BK346.out 0; have hfz26_1 := blk_frozen BK346.out 1; have hfz26_2 := blk_frozen BK346.out 2) | ((with_reducible refine gate_callee (f := 29) rfl ?_); refine goesL_ (some 26) rfl rfl Try.func29 (by kernel_rfl) rfl #[.agg #[.int .i64 a0_0, .int .i64 a0_1, .int .i64 a0_2]] rfl (by (try simp only [List.map_toArray, List.map_cons, List.map_nil]); first | done | rfl | (simp only [List.length_drop, List.length_take]; rfl)) ?_; (with_reducible refine (laws_toShape.calls a0_0 a0_1 a0_2 t360 t361 t362 _ A10.out).mono ?_); rintro e w27 ⟨rfl, hb⟩; refine ⟨_, rfl, ?_⟩; have n0_ := Aside0.mk (Kd.R_below (rq HO353.out) hb); have n1_ := Aside0.mk (Kd.R_below (rq HO356.out) hb); have n2_ := Aside0.mk (Kd.R_below (rq HO359.out) hb); have n3_ := Aside0.mk (blk_below (bq BK346.out) hb); have n4_ := Aside0.mk (below_step (lq HB.out) hb); clear HO353; clear HO356; clear HO359; clear BK346; clear HB; have HO353 := n0_; have HO356 := n1_; have HO359 := n2_; have BK346 := n3_; have HB := n4_; clear n0_ n1_ n2_ n3_ n4_; (try clear hb); (try clear hb2); (try clear hk); (try clear hi); obtain ⟨Ao28, co28, eo28⟩ := Kd.R_slice HO359.out; subst eo28) | ((with_reducible refine gate_callee (f := 12) rfl ?_); refine goesL_ (some 28) rfl rfl Try.func12 (by kernel_rfl) rfl #[.agg #[.int .i64 t360, .int .i64 t361, .int .i64 t362], .slice Ao28 t357.length co28] rfl (by (try simp only [List.map_toArray, List.map_cons, List.map_nil]); first | done | rfl | (simp only [List.length_drop, List.length_take]; rfl)) ?_; (with_reducible refine (impl_CacheRun.calls t360 t361 t362 _ _ t357 t363 _ ?side1 ?side2 A11.out).mono ?_); (case side1 => repeat (first | exact (Kd.R_reads' HO359.out).2.2 | (with_reducible refine Kd.C_alloc ?_ _) | (with_reducible refine Kd.C_drewN ?_ _) | (with_reducible refine Kd.C_drew ?_))); (case side2 => exact (Kd.R_reads' HO359.out).2.1); rintro e w29 ⟨v364, rfl, ho0, hb⟩; refine ⟨_, rfl, ?_⟩; have n0_ := Aside0.mk (Kd.R_below (rq HO353.out) hb); have n1_ := Aside0.mk (Kd.R_elder' (rq HO356.out) (Kd.R_base ho0) hb); have n2_ := Aside0.mk (Kd.R_below (rq HO359.out) hb); have n3_ := Aside0.mk (Kd.R_lower (Kd.R_new' ho0 (Kd.R_lt (rq HO356.out))) (below_size (lq HB.out))); have n4_ := Aside0.mk (blk_below (bq BK346.out) hb); have n5_ := Aside0.mk (below_step (lq HB.out) hb); clear HO353; clear HO356; clear HO359; clear BK346; clear HB; have HO353 := n0_; have HO356 := n1_; have HO359 := n2_; have HO365 := n3_; have BK346 := n4_; have HB := n5_; clear n0_ n1_ n2_ n3_ n4_ n5_; (try clear hb); (try clear hb2); (try clear hk); (try clear hi); (try clear ho0); obtain ⟨Ao30, co30, eo30⟩ := Kd.R_slice HO365.out; subst eo30; obtain ⟨Ao31, co31, eo31⟩ := Kd.R_slice HO356.out; subst eo31) | ((with_reducible refine gate_callee (f := 31) rfl ?_); refine goesL_ (some 31) rfl rfl Try.func31 (by kernel_rfl) rfl #[.slice Ao30 t363.length co30, .slice Ao31 t354.length co31] rfl (by (try simp only [List.map_toArray, List.map_cons, List.map_nil]); first | done | rfl | (simp only [List.length_drop, List.length_take]; rfl)) ?_; (with_reducible refine (laws_eqAccessS.calls k _ _ t363 _ _ t354 true _ ?side1 ?side2 ?side3 ?side4 A12.out).mono ?_); (case side1 => repeat (first | exact (Kd.R_reads' HO365.out).2.2 | (with_reducible refine Kd.C_alloc ?_ _) | (with_reducible refine Kd.C_drewN ?_ _) | (with_reducible refine Kd.C_drew ?_))); (case side2 => exact (Kd.R_reads' HO365.out).2.1); (case side3 => repeat (first | exact (Kd.R_reads' HO356.out).2.2 | (with_reducible refine Kd.C_alloc ?_ _) | (with_reducible refine Kd.C_drewN ?_ _) | (with_reducible refine Kd.C_drew ?_))); (case side4 => exact (Kd.R_reads' HO356.out).2.1); rintro e w32 ⟨rfl, hb⟩; refine ⟨_, rfl, ?_⟩; have n0_ := Aside0.mk (Kd.R_below (rq HO353.out) hb); have n1_ := Aside0.mk (Kd.R_below (rq HO356.out) hb); have n2_ := Aside0.mk (Kd.R_below (rq HO359.out) hb); have n3_ := Aside0.mk (Kd.R_below (rq HO365.out) hb); have n4_ := Aside0.mk (blk_below (bq BK346.out) hb); have n5_ := Aside0.mk (below_step (lq HB.out) hb); clear HO353; clear HO356; clear HO359; clear HO365; clear BK346; clear HB; have HO353 := n0_; have HO356 := n1_; have HO359 := n2_; have HO365 := n3_; have BK346 := n4_; have HB := n5_; clear n0_ n1_ n2_ n3_ n4_ n5_; (try clear hb); (try clear hb2); (try clear hk); (try clear hi)) | ((with_reducible refine gate_callee (f := 30) rfl ?_); refine goesL_ (some 35) rfl rfl Try.func30 (by kernel_rfl) rfl #[.slice A1 l1.length c1] rfl (by (try simp only [List.map_toArray, List.map_cons, List.map_nil]); first | done | rfl | (simp only [List.length_drop, List.length_take]; rfl)) ?_; (with_reducible refine (laws_toUseS.calls k _ _ l1 t367 _ ?side1 ?side2 A14.out).mono ?_); (case side1 => repeat (first | exact (Kd.C_below HR1.out HB.out) | (with_reducible refine Kd.C_alloc ?_ _) | (with_reducible refine Kd.C_drewN ?_ _) | (with_reducible refine Kd.C_drew ?_))); (case side2 => exact HC1.out); rintro e w33 ⟨v368, rfl, ho0, hb⟩; refine ⟨_, rfl, ?_⟩; have n0_ := Aside0.mk (Kd.R_elder' (rq HO353.out) (Kd.R_base ho0) hb); have n1_ := Aside0.mk (Kd.R_below (rq HO356.out) hb); have n2_ := Aside0.mk (Kd.R_elder' (rq HO359.out) (Kd.R_base ho0) hb); have n3_ := Aside0.mk (Kd.R_below (rq HO365.out) hb); have n4_ := Aside0.mk (Kd.R_lower (Kd.R_new' (Kd.R_new' ho0 (Kd.R_lt (rq HO353.out))) (Kd.R_lt (rq HO359.out))) (below_size (lq HB.out))); have n5_ := Aside0.mk (blk_below (bq BK346.out) hb); have n6_ := Aside0.mk (below_step (lq HB.out) hb); clear HO353; clear HO356; clear HO359; clear HO365; clear BK346; clear HB; have HO353 := n0_; have HO356 := n1_; have HO359 := n2_; have HO365 := n3_; have HO369 := n4_; have BK346 := n5_; have HB := n6_; clear n0_ n1_ n2_ n3_ n4_ n5_ n6_; (try clear hb); (try clear hb2); (try clear hk); (try clear hi); (try clear ho0); obtain ⟨Ao34, co34, eo34⟩ := Kd.R_slice HO369.out; subst eo34) | ((with_reducible refine gate_callee (f := 32) rfl ?_); refine goesL_ (some 36) rfl rfl Try.func32 (by kernel_rfl) rfl #[.slice Ao28 t357.length co28, .slice Ao34 t367.length co34] rfl (by (try simp only [List.map_toArray, List.map_cons, List.map_nil]); first | done | rfl | (simp only [List.length_drop, List.length_take]; rfl)) ?_; (with_reducible refine (laws_eqUseS.calls k _ _ t357 _ _ t367 true _ ?side1 ?side2 ?side3 ?side4 A15.out).mono ?_); (case side1 => repeat (first | exact (Kd.R_reads' HO359.out).2.2 | (with_reducible refine Kd.C_alloc ?_ _) | (with_reducible refine Kd.C_drewN ?_ _) | (with_reducible refine Kd.C_drew ?_))); (case side2 => exact (Kd.R_reads' HO359.out).2.1); (case side3 => repeat (first | exact (Kd.R_reads' HO369.out).2.2 | (with_reducible refine Kd.C_alloc ?_ _) | (with_reducible refine Kd.C_drewN ?_ _) | (with_reducible refine Kd.C_drew ?_))); (case side4 => exact (Kd.R_reads' HO369.out).2.1); rintro e w35 ⟨rfl, hb⟩; refine ⟨_, rfl, ?_⟩; have n0_ := Aside0.mk (Kd.R_below (rq HO353.out) hb); have n1_ := Aside0.mk (Kd.R_below (rq HO356.out) hb); have n2_ := Aside0.mk (Kd.R_below (rq HO359.out) hb); have n3_ := Aside0.mk (Kd.R_below (rq HO365.out) hb); have n4_ := Aside0.mk (Kd.R_below (rq HO369.out) hb); have n5_ := Aside0.mk (blk_below (bq BK346.out) hb); have n6_ := Aside0.mk (below_step (lq HB.out) hb); clear HO353; clear HO356; clear HO359; clear HO365; clear HO369; clear BK346; clear HB; have HO353 := n0_; have HO356 := n1_; have HO359 := n2_; have HO365 := n3_; have HO369 := n4_; have BK346 := n5_; have HB := n6_; clear n0_ n1_ n2_ n3_ n4_ n5_ n6_; (try clear hb); (try clear hb2); (try clear hk); (try clear hi)) | ((with_reducible refine gate_callee (f := 33) rfl ?_); refine goesL_ (some 40) rfl rfl Try.func33 (by kernel_rfl) rfl #[.slice Ao28 t357.length co28, .int .i64 1] rfl (by (try simp only [List.map_toArray, List.map_cons, List.map_nil]); first | done | rfl | (simp only [List.length_drop, List.length_take]; rfl)) ?_; (with_reducible refine (laws_markUseS.calls k (fun k_ => some k_ = (.slice Ao28 t357.length co28 : Value).ownBlock) (.slice Ao28 t357.length co28) t357 1 t371 t372 w _ ?side1 ?side2 A17.out).mono ?_); (case side1 => exact lq HB.out); (case side2 => exact Kd.R_tight rfl HO359.out); rintro e w36 ⟨rfl, hy0, hb, hkp⟩; refine ⟨_, rfl, ?_⟩; have n0_ := Aside0.mk (blk_kept (bq BK346.out) hkp (fun hs_ => (fun e_ => (Kd.R_ne HO359.out BK346.out (by decide)) e_) hs_)); have n1_ := Aside0.mk (Kd.R_mono (ok' := fun k_ => some k_ ≠ (.slice Ao28 t357.length co28 : Value).ownBlock ∧ some k_ ≠ (.slice Ao34 t367.length co34 : Value).ownBlock) (Kd.R_keptB (HO353.out) hkp (fun k_ hk_ hs_ => (hk_.1.2) hs_)) (fun k_ hk_ => ⟨hk_.1.1.2, hk_.1.2⟩)); have n2_ := Aside0.mk (Kd.R_mono (ok' := fun k_ => some k_ ≠ (.slice Ao30 t363.length co30 : Value).ownBlock) (Kd.R_keptB ((Kd.R_apart' HO356.out (Kd.R_typed HO359.out) (by decide))) hkp (fun k_ hk_ hs_ => (hk_.2) hs_)) (fun k_ hk_ => hk_.1.1.2)); have n3_ := Aside0.mk (Kd.R_reok rfl hy0 (fun k_ e_ => HO359.out.1 k_ e_)); have n4_ := Aside0.mk (Kd.R_mono (ok' := fun k_ => some k_ ≠ (.slice Ao31 t354.length co31 : Value).ownBlock) (Kd.R_keptB ((Kd.R_apart' HO365.out (Kd.R_typed HO359.out) (by decide))) hkp (fun k_ hk_ hs_ => (hk_.2) hs_)) (fun k_ hk_ => hk_.1.1.2)); have n5_ := Aside0.mk (Kd.R_mono (ok' := fun k_ => some k_ ≠ (.slice Ao23 t351.length co23 : Value).ownBlock ∧ some k_ ≠ (.slice Ao28 t357.length co28 : Value).ownBlock) (Kd.R_keptB (HO369.out) hkp (fun k_ hk_ hs_ => (hk_.2) hs_)) (fun k_ hk_ => ⟨hk_.1.1.2, hk_.1.2⟩)); have n6_ := Aside0.mk (hb); clear BK346; clear HO353; clear HO356; clear HO359; clear HO365; clear HO369; clear HB; have BK346 := n0_; have HO353 := n1_; have HO356 := n2_; have HO359 := n3_; have HO365 := n4_; have HO369 := n5_; have HB := n6_; clear n0_ n1_ n2_ n3_ n4_ n5_ n6_; (try clear hb); (try clear hkp); (try clear hy0)))
    (try simp only [Act.put, List.setIfInBounds_toArray, List.set_cons_zero, List.set_cons_succ])
    go_cut [48] (fun v48 wc => ∃ (kq : Nat) (x48_17 : Bool), v48 = .bool x48_17 ∧ Aside0 (laws_FnExactCacheRun.j0 kq l1 t354 t363 x48_17 a0_0 a0_1 a0_2 = some true) ∧ Aside0 (kq ≤ k) ∧ Aside0 (Kd.R k36 36 wc w.heap.size (fun k_ => some k_ ≠ ((.slice Ao30 t363.length co30) : Value).ownBlock) (.slice Ao31 t354.length co31) t354) ∧ Aside0 (Kd.R k36 36 wc w.heap.size (fun k_ => some k_ ≠ ((.slice Ao31 t354.length co31) : Value).ownBlock) (.slice Ao30 t363.length co30) t363) ∧ Aside0 (wc.heap[gb346]? = some (.cells #[.int .i64 a0_0, .int .i64 a0_1, .int .i64 a0_2] 54 (0, 0))) ∧ Aside0 (Below w.heap.size w wc))
    case first =>
     have H := HC18.out
     clear HC18
     by_cases c37 : t371 < 0
     ·rw [if_pos c37] at H
      have c37b0 : decide (t371 < 0) = true := decide_eq_true c37
      clear c37
      (first | rw [c37b0] | (simp only [i64_w, i32_w]; rw [c37b0]) | skip)
      have H' := Aside0.mk H
      clear H
      go_wp2
      go_meet
      case rel => exact ⟨_, (true), (by first | rfl | (simp; done) | (simp [*]; done)), H', ⟨by first | omega | exact Nat.le_refl _⟩, ⟨by (with_reducible repeat (first | apply Kd.R_alloc | apply Kd.R_drewN | apply Kd.R_drew)); exact HO356.out⟩, ⟨by (with_reducible repeat (first | apply Kd.R_alloc | apply Kd.R_drewN | apply Kd.R_drew)); exact HO365.out⟩, ⟨by (with_reducible repeat (first | refine blk_drewN ?_ _ | refine blk_drew ?_ | refine blk_alloc ?_ _)); exact BK346.out⟩, ⟨by exact lq HB.out⟩⟩
     ·rw [if_neg c37] at H
      have c37b0 : decide (t371 < 0) = false := decide_eq_false c37
      clear c37
      (first | rw [c37b0] | (simp only [i64_w, i32_w]; rw [c37b0]) | skip)
      replace H := Option.bind_eq_some_iff.mp H
      obtain ⟨t373, A380, H⟩ := H
      (try dsimp only at H)
      have A38 := Aside0.mk A380
      clear A380
      have H' := Aside0.mk H
      clear H
      go_wp2_with (first | (go_at_call 31; (with_reducible refine (laws_eqAccessS.calls k _ _ t363 _ _ t354 t373 _ ?side1 ?side2 ?side3 ?side4 A38.out).mono ?_); (case side1 => repeat (first | exact (Kd.R_reads' HO365.out).2.2 | (with_reducible refine Kd.C_alloc ?_ _) | (with_reducible refine Kd.C_drewN ?_ _) | (with_reducible refine Kd.C_drew ?_))); (case side2 => exact (Kd.R_reads' HO365.out).2.1); (case side3 => repeat (first | exact (Kd.R_reads' HO356.out).2.2 | (with_reducible refine Kd.C_alloc ?_ _) | (with_reducible refine Kd.C_drewN ?_ _) | (with_reducible refine Kd.C_drew ?_))); (case side4 => exact (Kd.R_reads' HO356.out).2.1); rintro e w39 ⟨rfl, hb⟩; have n0_ := Aside0.mk (Kd.R_below (rq HO353.out) hb); have n1_ := Aside0.mk (Kd.R_below (rq HO356.out) hb); have n2_ := Aside0.mk (Kd.R_below (rq HO359.out) hb); have n3_ := Aside0.mk (Kd.R_below (rq HO365.out) hb); have n4_ := Aside0.mk (Kd.R_below (rq HO369.out) hb); have n5_ := Aside0.mk (blk_below (bq BK346.out) hb); have n6_ := Aside0.mk (below_step (lq HB.out) hb); clear HO353; clear HO356; clear HO359; clear HO365; clear HO369; clear BK346; clear HB; have HO353 := n0_; have HO356 := n1_; have HO359 := n2_; have HO365 := n3_; have HO369 := n4_; have BK346 := n5_; have HB := n6_; clear n0_ n1_ n2_ n3_ n4_ n5_ n6_; (try clear hb); (try clear hb2); (try clear hk); (try clear hi)))
      go_meet
      case rel => exact ⟨_, (!t373), (by first | rfl | (simp; done) | (simp [*]; done)), H', ⟨by first | omega | exact Nat.le_refl _⟩, ⟨by (with_reducible repeat (first | apply Kd.R_alloc | apply Kd.R_drewN | apply Kd.R_drew)); exact HO356.out⟩, ⟨by (with_reducible repeat (first | apply Kd.R_alloc | apply Kd.R_drewN | apply Kd.R_drew)); exact HO365.out⟩, ⟨by (with_reducible repeat (first | refine blk_drewN ?_ _ | refine blk_drew ?_ | refine blk_alloc ?_ _)); exact BK346.out⟩, ⟨by exact lq HB.out⟩⟩
    case rest =>
     clear HC18
     try clear c1
     try clear c2
     try clear p2
     try clear c3
     try clear c4
     try clear c4b0
     try clear c7
     try clear c12
     try clear c13
     try clear c16
     try clear c28
     try clear c29
     try clear c30
     try clear c31
     try clear c32
     try clear c33
     try clear c37
     try clear c37b0
     try clear hcz20_0
     try clear hcz20_1
     try clear hcz20_2
     try clear hcz26_0
     try clear hcz26_1
     try clear hcz26_2
     try clear hfz20_0
     try clear hfz20_1
     try clear hfz20_2
     try clear hfz26_0
     try clear hfz26_1
     try clear hfz26_2
     obtain ⟨kq, x48_17, rfl, HA, HJ17, HO_6, HO_8, BK346, HB⟩ := hcut
     cases kq with
     | zero => exact absurd HA.out (by simp [laws_FnExactCacheRun.j0])
     | succ kj17 =>
      have H := HA.out
      clear HA
      simp only [laws_FnExactCacheRun.j0] at H
      by_cases c40 : x48_17 = true
      ·subst c40
       rw [if_pos rfl] at H
       exact absurd H (by simp)
      ·replace c40 := Bool.eq_false_iff.mpr c40
       subst c40
       rw [if_neg (show ¬ (false = true) by decide)] at H
       replace H := Option.bind_eq_some_iff.mp H
       obtain ⟨⟨t374, t375⟩, A410, H⟩ := H
       (try dsimp only at H)
       have A41 := Aside0.mk A410
       clear A410
       replace H := Option.bind_eq_some_iff.mp H
       obtain ⟨t376, A420, H⟩ := H
       (try dsimp only at H)
       have A42 := Aside0.mk A420
       clear A420
       by_cases c43 : t376 < 0
       ·rw [if_pos c43] at H
        have c43b0 : decide (t376 < 0) = true := decide_eq_true c43
        clear c43
        exact absurd H (by simp)
       ·rw [if_neg c43] at H
        have c43b0 : decide (t376 < 0) = false := decide_eq_false c43
        clear c43
        by_cases c44 : t376 = t374
        ·rw [if_pos c44] at H
         have c44b0 : (t376 == t374) = true := beq_iff_eq.mpr c44
         have c44b1 : (t376 != t374) = false := bne_eq_false_iff_eq.mpr c44
         clear c44
         replace H := Option.bind_eq_some_iff.mp H
         obtain ⟨⟨t377, t378, t379⟩, A450, H⟩ := H
         (try dsimp only at H)
         have A45 := Aside0.mk A450
         clear A450
         replace H := Option.bind_eq_some_iff.mp H
         obtain ⟨t380, A460, H⟩ := H
         (try dsimp only at H)
         have A46 := Aside0.mk A460
         clear A460
         replace H := Option.bind_eq_some_iff.mp H
         obtain ⟨t383, A470, H⟩ := H
         (try dsimp only at H)
         have A47 := Aside0.mk A470
         clear A470
         replace H := Option.bind_eq_some_iff.mp H
         obtain ⟨t386, A480, H⟩ := H
         (try dsimp only at H)
         have A48 := Aside0.mk A480
         clear A480
         by_cases c49 : t386 = true
         ·subst c49
          rw [if_pos rfl] at H
          replace H := Option.bind_eq_some_iff.mp H
          obtain ⟨t387, A500, H⟩ := H
          (try dsimp only at H)
          have A50 := Aside0.mk A500
          clear A500
          by_cases c51 : t387 < 0
          ·rw [if_pos c51] at H
           have c51b0 : decide (t387 < 0) = true := decide_eq_true c51
           clear c51
           exact absurd H (by simp)
          ·rw [if_neg c51] at H
           have c51b0 : decide (t387 < 0) = false := decide_eq_false c51
           clear c51
           by_cases c52 : t387 = t374
           ·rw [if_pos c52] at H
            have c52b0 : (t387 == t374) = true := beq_iff_eq.mpr c52
            have c52b1 : (t387 != t374) = false := bne_eq_false_iff_eq.mpr c52
            clear c52
            clear H
            go_wp2_with (first | ((with_reducible refine gate_callee (f := 34) rfl ?_); refine goesL_ (some 51) rfl rfl Try.func34 (by kernel_rfl) rfl #[.slice Ao30 t363.length co30, .int .i64 1] rfl (by (try simp only [List.map_toArray, List.map_cons, List.map_nil]); first | done | rfl | (simp only [List.length_drop, List.length_take]; rfl)) ?_; (with_reducible refine (laws_markAccessS.calls kj17 (fun k_ => some k_ = (.slice Ao30 t363.length co30 : Value).ownBlock) (.slice Ao30 t363.length co30) t363 1 t374 t375 w _ ?side1 ?side2 A41.out).mono ?_); (case side1 => exact lq HB.out); (case side2 => exact Kd.R_tight rfl HO_8.out); rintro e w53 ⟨rfl, hy0, hb, hkp⟩; refine ⟨_, rfl, ?_⟩; have n0_ := Aside0.mk (Kd.R_mono (ok' := fun k_ => some k_ ≠ (.slice Ao30 t363.length co30 : Value).ownBlock) (Kd.R_keptB (HO_6.out) hkp (fun k_ hk_ hs_ => (hk_) hs_)) (fun k_ hk_ => hk_.1)); have n1_ := Aside0.mk (Kd.R_reok rfl hy0 (fun k_ e_ => HO_8.out.1 k_ e_)); have n2_ := Aside0.mk (blk_kept (bq BK346.out) hkp (fun hs_ => (fun e_ => (Kd.R_ne HO_8.out BK346.out (by decide)) e_) hs_)); have n3_ := Aside0.mk (hb); clear HO_6; clear HO_8; clear BK346; clear HB; have HO_6 := n0_; have HO_8 := n1_; have BK346 := n2_; have HB := n3_; clear n0_ n1_ n2_ n3_; (try clear hb); (try clear hkp); (try clear hy0)) | ((with_reducible refine gate_callee (f := 35) rfl ?_); refine goesL_ (some 54) rfl rfl Try.func35 (by kernel_rfl) rfl #[.slice Ao30 t375.length co30, .int .i64 1] rfl (by (try simp only [List.map_toArray, List.map_cons, List.map_nil]); first | done | (rw [show t375.length = t363.length from (Kd.R_reads' HO_8.out).1.symm] <;> rfl) | rfl | (simp only [List.length_drop, List.length_take]; rfl)) ?_; (with_reducible refine (laws_heldAccessS.calls kj17 _ _ t375 1 t376 _ ?side1 ?side2 A42.out).mono ?_); (case side1 => repeat (first | exact (Kd.R_reads' HO_8.out).2.2 | (with_reducible refine Kd.C_alloc ?_ _) | (with_reducible refine Kd.C_drewN ?_ _) | (with_reducible refine Kd.C_drew ?_))); (case side2 => rw [show t375.length = t363.length from (Kd.R_reads' HO_8.out).1.symm]; exact (Kd.R_reads' HO_8.out).2.1); rintro e w' ⟨rfl, ⟨nd, rfl⟩⟩; refine ⟨_, rfl, ?_⟩; have hcz54_0 : w53.cell? ⟨gb346, 0, none⟩ = some (.int .i64 a0_0) := (blk_cell BK346.out 0).trans rfl; have hcz54_1 : w53.cell? ⟨gb346, 1, none⟩ = some (.int .i64 a0_1) := (blk_cell BK346.out 1).trans rfl; have hcz54_2 : w53.cell? ⟨gb346, 2, none⟩ = some (.int .i64 a0_2) := (blk_cell BK346.out 2).trans rfl; have hfz54_0 := blk_frozen BK346.out 0; have hfz54_1 := blk_frozen BK346.out 1; have hfz54_2 := blk_frozen BK346.out 2) | ((with_reducible refine gate_callee (f := 29) rfl ?_); refine goesL_ (some 61) rfl rfl Try.func29 (by kernel_rfl) rfl #[.agg #[.int .i64 a0_0, .int .i64 a0_1, .int .i64 a0_2]] rfl (by (try simp only [List.map_toArray, List.map_cons, List.map_nil]); first | done | rfl | (simp only [List.length_drop, List.length_take]; rfl)) ?_; (with_reducible refine (laws_toShape.calls a0_0 a0_1 a0_2 t377 t378 t379 _ A45.out).mono ?_); rintro e w55 ⟨rfl, hb⟩; refine ⟨_, rfl, ?_⟩; have n0_ := Aside0.mk (Kd.R_below (rq HO_6.out) hb); have n1_ := Aside0.mk (Kd.R_below (rq HO_8.out) hb); have n2_ := Aside0.mk (blk_below (bq BK346.out) hb); have n3_ := Aside0.mk (below_step (lq HB.out) hb); clear HO_6; clear HO_8; clear BK346; clear HB; have HO_6 := n0_; have HO_8 := n1_; have BK346 := n2_; have HB := n3_; clear n0_ n1_ n2_ n3_; (try clear hb); (try clear hb2); (try clear hk); (try clear hi)) | ((with_reducible refine gate_callee (f := 30) rfl ?_); refine goesL_ (some 63) rfl rfl Try.func30 (by kernel_rfl) rfl #[.slice A1 l1.length c1] rfl (by (try simp only [List.map_toArray, List.map_cons, List.map_nil]); first | done | rfl | (simp only [List.length_drop, List.length_take]; rfl)) ?_; (with_reducible refine (laws_toUseS.calls kj17 _ _ l1 t380 _ ?side1 ?side2 A46.out).mono ?_); (case side1 => repeat (first | exact (Kd.C_below HR1.out HB.out) | (with_reducible refine Kd.C_alloc ?_ _) | (with_reducible refine Kd.C_drewN ?_ _) | (with_reducible refine Kd.C_drew ?_))); (case side2 => exact HC1.out); rintro e w56 ⟨v381, rfl, ho0, hb⟩; refine ⟨_, rfl, ?_⟩; have n0_ := Aside0.mk (Kd.R_below (rq HO_6.out) hb); have n1_ := Aside0.mk (Kd.R_below (rq HO_8.out) hb); have n2_ := Aside0.mk (Kd.R_lower ho0 (below_size (lq HB.out))); have n3_ := Aside0.mk (blk_below (bq BK346.out) hb); have n4_ := Aside0.mk (below_step (lq HB.out) hb); clear HO_6; clear HO_8; clear BK346; clear HB; have HO_6 := n0_; have HO_8 := n1_; have HO382 := n2_; have BK346 := n3_; have HB := n4_; clear n0_ n1_ n2_ n3_ n4_; (try clear hb); (try clear hb2); (try clear hk); (try clear hi); (try clear ho0); obtain ⟨Ao57, co57, eo57⟩ := Kd.R_slice HO382.out; subst eo57) | ((with_reducible refine gate_callee (f := 12) rfl ?_); refine goesL_ (some 64) rfl rfl Try.func12 (by kernel_rfl) rfl #[.agg #[.int .i64 t377, .int .i64 t378, .int .i64 t379], .slice Ao57 t380.length co57] rfl (by (try simp only [List.map_toArray, List.map_cons, List.map_nil]); first | done | rfl | (simp only [List.length_drop, List.length_take]; rfl)) ?_; (with_reducible refine (impl_CacheRun.calls t377 t378 t379 _ _ t380 t383 _ ?side1 ?side2 A47.out).mono ?_); (case side1 => repeat (first | exact (Kd.R_reads' HO382.out).2.2 | (with_reducible refine Kd.C_alloc ?_ _) | (with_reducible refine Kd.C_drewN ?_ _) | (with_reducible refine Kd.C_drew ?_))); (case side2 => exact (Kd.R_reads' HO382.out).2.1); rintro e w58 ⟨v384, rfl, ho0, hb⟩; refine ⟨_, rfl, ?_⟩; have n0_ := Aside0.mk (Kd.R_elder' (rq HO_6.out) (Kd.R_base ho0) hb); have n1_ := Aside0.mk (Kd.R_elder' (rq HO_8.out) (Kd.R_base ho0) hb); have n2_ := Aside0.mk (Kd.R_below (rq HO382.out) hb); have n3_ := Aside0.mk (Kd.R_lower (Kd.R_new' (Kd.R_new' ho0 (Kd.R_lt (rq HO_6.out))) (Kd.R_lt (rq HO_8.out))) (below_size (lq HB.out))); have n4_ := Aside0.mk (blk_below (bq BK346.out) hb); have n5_ := Aside0.mk (below_step (lq HB.out) hb); clear HO_6; clear HO_8; clear HO382; clear BK346; clear HB; have HO_6 := n0_; have HO_8 := n1_; have HO382 := n2_; have HO385 := n3_; have BK346 := n4_; have HB := n5_; clear n0_ n1_ n2_ n3_ n4_ n5_; (try clear hb); (try clear hb2); (try clear hk); (try clear hi); (try clear ho0); obtain ⟨Ao59, co59, eo59⟩ := Kd.R_slice HO385.out; subst eo59) | ((with_reducible refine gate_callee (f := 31) rfl ?_); refine goesL_ (some 67) rfl rfl Try.func31 (by kernel_rfl) rfl #[.slice Ao59 t383.length co59, .slice Ao31 t354.length co31] rfl (by (try simp only [List.map_toArray, List.map_cons, List.map_nil]); first | done | rfl | (simp only [List.length_drop, List.length_take]; rfl)) ?_; (with_reducible refine (laws_eqAccessS.calls kj17 _ _ t383 _ _ t354 true _ ?side1 ?side2 ?side3 ?side4 A48.out).mono ?_); (case side1 => repeat (first | exact (Kd.R_reads' HO385.out).2.2 | (with_reducible refine Kd.C_alloc ?_ _) | (with_reducible refine Kd.C_drewN ?_ _) | (with_reducible refine Kd.C_drew ?_))); (case side2 => exact (Kd.R_reads' HO385.out).2.1); (case side3 => repeat (first | exact (Kd.R_reads' HO_6.out).2.2 | (with_reducible refine Kd.C_alloc ?_ _) | (with_reducible refine Kd.C_drewN ?_ _) | (with_reducible refine Kd.C_drew ?_))); (case side4 => exact (Kd.R_reads' HO_6.out).2.1); rintro e w60 ⟨rfl, hb⟩; refine ⟨_, rfl, ?_⟩; have n0_ := Aside0.mk (Kd.R_below (rq HO_6.out) hb); have n1_ := Aside0.mk (Kd.R_below (rq HO_8.out) hb); have n2_ := Aside0.mk (Kd.R_below (rq HO382.out) hb); have n3_ := Aside0.mk (Kd.R_below (rq HO385.out) hb); have n4_ := Aside0.mk (blk_below (bq BK346.out) hb); have n5_ := Aside0.mk (below_step (lq HB.out) hb); clear HO_6; clear HO_8; clear HO382; clear HO385; clear BK346; clear HB; have HO_6 := n0_; have HO_8 := n1_; have HO382 := n2_; have HO385 := n3_; have BK346 := n4_; have HB := n5_; clear n0_ n1_ n2_ n3_ n4_ n5_; (try clear hb); (try clear hb2); (try clear hk); (try clear hi)) | ((with_reducible refine gate_callee (f := 35) rfl ?_); refine goesL_ (some 71) rfl rfl Try.func35 (by kernel_rfl) rfl #[.slice Ao30 t375.length co30, .int .i64 1] rfl (by (try simp only [List.map_toArray, List.map_cons, List.map_nil]); first | done | (rw [show t375.length = t363.length from (Kd.R_reads' HO_8.out).1.symm] <;> rfl) | rfl | (simp only [List.length_drop, List.length_take]; rfl)) ?_; (with_reducible refine (laws_heldAccessS.calls kj17 _ _ t375 1 t387 _ ?side1 ?side2 A50.out).mono ?_); (case side1 => repeat (first | exact (Kd.R_reads' HO_8.out).2.2 | (with_reducible refine Kd.C_alloc ?_ _) | (with_reducible refine Kd.C_drewN ?_ _) | (with_reducible refine Kd.C_drew ?_))); (case side2 => rw [show t375.length = t363.length from (Kd.R_reads' HO_8.out).1.symm]; exact (Kd.R_reads' HO_8.out).2.1); rintro e w' ⟨rfl, ⟨nd, rfl⟩⟩; refine ⟨_, rfl, ?_⟩))
            go_ret
            exact ⟨by first | rfl | (simp [errW_none, errW_some] <;> rfl) | (simp [*, errW_none, errW_some] <;> rfl), by exact lq HB.out⟩
           ·rw [if_neg c52] at H
            have c52b0 : (t387 == t374) = false := beq_eq_false_iff_ne.mpr c52
            have c52b1 : (t387 != t374) = true := bne_iff_ne.mpr c52
            exact absurd H (by simp)
         ·replace c49 := Bool.eq_false_iff.mpr c49
          subst c49
          rw [if_neg (show ¬ (false = true) by decide)] at H
          exact absurd H (by simp)
        ·rw [if_neg c44] at H
         have c44b0 : (t376 == t374) = false := beq_eq_false_iff_ne.mpr c44
         have c44b1 : (t376 != t374) = true := bne_iff_ne.mpr c44
         exact absurd H (by simp)
   ·replace c16 := Bool.eq_false_iff.mpr c16
    subst c16
    rw [if_neg (show ¬ (false = true) by decide)] at H
    exact absurd H (by simp)
  ·replace c13 := Bool.eq_false_iff.mpr c13
   subst c13
   rw [if_neg (show ¬ (false = true) by decide)] at H
   exact absurd H (by simp)

/-! ### laws_big: function 10 -/
def laws_big.f (l0 : List Int) : Option (Bool) := some (decide ((l0.length : Int) > 1048576))
set_option maxHeartbeats 8000000 in
set_option maxRecDepth 100000 in
theorem laws_big.calls (A0 : Option Addr) (c0 : Nat) (l0 : List Int) (r : Bool) (w : World) (hr0 : Kd.C (Kd.int .u8) w A0 l0.length l0) (hc0 : l0.length ≤ c0) (h : laws_big.f l0 = some r) :
  Calls Try.prog 10 #[.slice A0 l0.length c0] w fun e w' => e = .returned (.bool r) ∧ Drawn0 w w' := by
 have HR0 := Aside0.mk hr0
 have HC0 := Aside0.mk hc0
 clear hr0 hc0
 have H : (some (decide ((l0.length : Int) > 1048576))) = some r := h
 clear h
 obtain rfl := Option.some.inj H
 go_enter Try.func10, Try.ntmps10
 go_wp2
 go_ret
 exact ⟨by first | rfl | (simp; done) | (simp [*]; done), by repeat (first | exact Drawn0.refl _ | apply Drawn0.step)⟩

end Go.Proofs.Ytglehilfemfiiaa.GR
