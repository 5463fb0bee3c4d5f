/- Told by a program of this session, out of the translation: each function of the group as a plain Lean function, and that Go's call comes to just its answer. Lean checks it. -/
import Derived.Test.YtglehilfemfiiaaMkqE
import Derived.Test.YtglehilfemfiiaaGEx0
import Derived.Test.YtglehilfemfiiaaGEx6
import Derived.Test.YtglehilfemfiiaaGEx9
import Derived.Test.YtglehilfemfiiaaGEx10
import Derived.Test.YtglehilfemfiiaaGEx11
import Derived.Test.YtglehilfemfiiaaTluE
namespace Go.Proofs.Ytglehilfemfiiaa.GE
open Go.RowKit Go.Proofs.YtglehilfemfiiaaW.PrintWords Go.Proofs.YtglehilfemfiiaaW.PrintLast Go.Proofs.YtglehilfemfiiaaW.PrintMore Go.Proofs.Ytglehilfemfiiaa.Q
attribute [local go_sem] max2_int min2_int max_two min_two max_three min_three max_four min_four   -- for this text's walks alone
set_option linter.unusedVariables false
set_option linter.unusedSimpArgs false

/-! ### laws_FnExactTlbUse: function 4 -/
mutual
def laws_FnExactTlbUse.j0 : Nat → Int → Bool → Bool → Bool → Int → List Int → Int → List Int → Int → List Int → Int → List Int → Option (Bool)
 | 0, _, _, _, _, _, _, _, _, _, _, _, _ => none
 | k + 1, x1, x7, x10, x44, x277000, x277001, x288000, x288001, x293000, x293001, x299000, x299001 => if x44 = true then (some false) else ((laws_toTlb.f k x277000 x277001).bind fun bt300 => ((laws_eqTlb.f k x293000 x293001 bt300.1 bt300.2).bind fun t304 => (if t304 = true then ((laws_markTlb.f k x293000 x293001 1).bind fun bt305 => (if bt305.1 < 0 then (laws_FnExactTlbUse.j1 k x1 x7 true x277000 x277001 x288000 x288001 x299000 x299001) else ((laws_eqTlb.f k x299000 x299001 x288000 x288001).bind fun t307 => (if t307 = true then (laws_FnExactTlbUse.j1 k x1 x7 (x10 != x7) x277000 x277001 x288000 x288001 x299000 x299001) else (laws_FnExactTlbUse.j1 k x1 x7 true x277000 x277001 x288000 x288001 x299000 x299001))))) else (some false))))
def laws_FnExactTlbUse.j1 : Nat → Int → Bool → Bool → Int → List Int → Int → List Int → Int → List Int → Option (Bool)
 | 0, _, _, _, _, _, _, _, _, _ => none
 | k + 1, x1, x7, x65, x277000, x277001, x288000, x288001, x299000, x299001 => if x65 = true then (some false) else ((laws_markTlb.f k x299000 x299001 1).bind fun bt308 => ((laws_heldTlb.f k x299000 bt308.2 1).bind fun t310 => (if t310 < 0 then (some false) else (if t310 = bt308.1 then ((laws_toTlb.f k x277000 x277001).bind fun bt311 => ((impl_TlbUse.f bt311.1 bt311.2 x1).bind fun bt315 => ((laws_eqTlb.f k bt315.1 bt315.2.1 x288000 x288001).bind fun t321 => (if t321 = true then (laws_FnExactTlbUse.j2 k bt308.1 (bt315.2.2 != x7) x299000 bt308.2) else (laws_FnExactTlbUse.j2 k bt308.1 true x299000 bt308.2))))) else (some false)))))
def laws_FnExactTlbUse.j2 : Nat → Int → Bool → Int → List Int → Option (Bool)
 | 0, _, _, _, _ => none
 | k + 1, x12, x92, x299000, x299001 => if x92 = true then (some false) else ((laws_heldTlb.f k x299000 x299001 1).bind fun t322 => (if t322 < 0 then (some false) else (if t322 = x12 then (some true) else (some false))))
end
def laws_FnExactTlbUse.f (k : Nat) (a0_0 : Int) (l0_1 : List Int) (a1 : Int) : Option (Bool) := (laws_szTlb.f a0_0 l0_1 1048576).bind fun t277 => (if t277 < 0 then (some true) else ((laws_toTlb.f k a0_0 l0_1).bind fun bt278 => ((spec_TlbUse.f k bt278.1 bt278.2 a1).bind fun bt282 => ((laws_toTlb.f k a0_0 l0_1).bind fun bt288 => ((impl_TlbUse.f bt288.1 bt288.2 a1).bind fun bt293 => ((laws_eqTlb.f k bt293.1 bt293.2.1 bt282.1 bt282.2.1).bind fun t299 => (if t299 = true then (laws_FnExactTlbUse.j0 k a1 bt282.2.2 bt293.2.2 (bt293.2.2 != bt282.2.2) a0_0 l0_1 bt282.1 bt282.2.1 bt288.1 bt288.2 bt293.1 bt293.2.1) else (laws_FnExactTlbUse.j0 k a1 bt282.2.2 bt293.2.2 true a0_0 l0_1 bt282.1 bt282.2.1 bt288.1 bt288.2 bt293.1 bt293.2.1))))))))
theorem laws_FnExactTlbUse.mono_l : ∀ k, (∀ y0 y1 y2 y3 y4 y5 y6 y7 y8 y9 y10 y11, LeO (laws_FnExactTlbUse.j0 k y0 y1 y2 y3 y4 y5 y6 y7 y8 y9 y10 y11) (laws_FnExactTlbUse.j0 (k + 1) y0 y1 y2 y3 y4 y5 y6 y7 y8 y9 y10 y11)) ∧ (∀ y0 y1 y2 y3 y4 y5 y6 y7 y8, LeO (laws_FnExactTlbUse.j1 k y0 y1 y2 y3 y4 y5 y6 y7 y8) (laws_FnExactTlbUse.j1 (k + 1) y0 y1 y2 y3 y4 y5 y6 y7 y8)) ∧ (∀ y0 y1 y2 y3, LeO (laws_FnExactTlbUse.j2 k y0 y1 y2 y3) (laws_FnExactTlbUse.j2 (k + 1) y0 y1 y2 y3))
 | 0 => ⟨fun _ _ _ _ _ _ _ _ _ _ _ _ r h => by simp [laws_FnExactTlbUse.j0] at h, fun _ _ _ _ _ _ _ _ _ r h => by simp [laws_FnExactTlbUse.j1] at h, fun _ _ _ _ r h => by simp [laws_FnExactTlbUse.j2] at h⟩
 | k + 1 => by
  obtain ⟨ih0, ih1, ih2⟩ := laws_FnExactTlbUse.mono_l k
  refine ⟨?_, ?_, ?_⟩
  ·intro y0 y1 y2 y3 y4 y5 y6 y7 y8 y9 y10 y11
   unfold laws_FnExactTlbUse.j0
   repeat' first
   | (with_reducible exact ih0 _ _ _ _ _ _ _ _ _ _ _ _)
   | (with_reducible exact ih1 _ _ _ _ _ _ _ _ _)
   | (with_reducible exact ih2 _ _ _ _)
   | (with_reducible exact laws_eqTlb.mono _ _ _ _ _)
   | (with_reducible exact laws_heldTlb.mono _ _ _ _)
   | (with_reducible exact laws_markTlb.mono _ _ _ _)
   | (with_reducible exact laws_toTlb.mono _ _ _)
   | (with_reducible exact spec_TlbUse.mono _ _ _ _)
   | (with_reducible exact LeO.refl _)
   | (with_reducible exact LeO.none _)
   | (with_reducible refine LeO.ite ?_ ?_)
   | (with_reducible refine LeO.bind ?_ (fun _ => ?_))
   | exact ih0 _ _ _ _ _ _ _ _ _ _ _ _
   | exact ih1 _ _ _ _ _ _ _ _ _
   | exact ih2 _ _ _ _
   | exact laws_eqTlb.mono _ _ _ _ _
   | exact laws_heldTlb.mono _ _ _ _
   | exact laws_markTlb.mono _ _ _ _
   | exact laws_toTlb.mono _ _ _
   | exact spec_TlbUse.mono _ _ _ _
   | exact LeO.none _
   | refine LeO.ite ?_ ?_
   | refine LeO.bind ?_ (fun _ => ?_)
  ·intro y0 y1 y2 y3 y4 y5 y6 y7 y8
   unfold laws_FnExactTlbUse.j1
   repeat' first
   | (with_reducible exact ih0 _ _ _ _ _ _ _ _ _ _ _ _)
   | (with_reducible exact ih1 _ _ _ _ _ _ _ _ _)
   | (with_reducible exact ih2 _ _ _ _)
   | (with_reducible exact laws_eqTlb.mono _ _ _ _ _)
   | (with_reducible exact laws_heldTlb.mono _ _ _ _)
   | (with_reducible exact laws_markTlb.mono _ _ _ _)
   | (with_reducible exact laws_toTlb.mono _ _ _)
   | (with_reducible exact spec_TlbUse.mono _ _ _ _)
   | (with_reducible exact LeO.refl _)
   | (with_reducible exact LeO.none _)
   | (with_reducible refine LeO.ite ?_ ?_)
   | (with_reducible refine LeO.bind ?_ (fun _ => ?_))
   | exact ih0 _ _ _ _ _ _ _ _ _ _ _ _
   | exact ih1 _ _ _ _ _ _ _ _ _
   | exact ih2 _ _ _ _
   | exact laws_eqTlb.mono _ _ _ _ _
   | exact laws_heldTlb.mono _ _ _ _
   | exact laws_markTlb.mono _ _ _ _
   | exact laws_toTlb.mono _ _ _
   | exact spec_TlbUse.mono _ _ _ _
   | exact LeO.none _
   | refine LeO.ite ?_ ?_
   | refine LeO.bind ?_ (fun _ => ?_)
  ·intro y0 y1 y2 y3
   unfold laws_FnExactTlbUse.j2
   repeat' first
   | (with_reducible exact ih0 _ _ _ _ _ _ _ _ _ _ _ _)
   | (with_reducible exact ih1 _ _ _ _ _ _ _ _ _)
   | (with_reducible exact ih2 _ _ _ _)
   | (with_reducible exact laws_eqTlb.mono _ _ _ _ _)
   | (with_reducible exact laws_heldTlb.mono _ _ _ _)
   | (with_reducible exact laws_markTlb.mono _ _ _ _)
   | (with_reducible exact laws_toTlb.mono _ _ _)
   | (with_reducible exact spec_TlbUse.mono _ _ _ _)
   | (with_reducible exact LeO.refl _)
   | (with_reducible exact LeO.none _)
   | (with_reducible refine LeO.ite ?_ ?_)
   | (with_reducible refine LeO.bind ?_ (fun _ => ?_))
   | exact ih0 _ _ _ _ _ _ _ _ _ _ _ _
   | exact ih1 _ _ _ _ _ _ _ _ _
   | exact ih2 _ _ _ _
   | exact laws_eqTlb.mono _ _ _ _ _
   | exact laws_heldTlb.mono _ _ _ _
   | exact laws_markTlb.mono _ _ _ _
   | exact laws_toTlb.mono _ _ _
   | exact spec_TlbUse.mono _ _ _ _
   | exact LeO.none _
   | refine LeO.ite ?_ ?_
   | refine LeO.bind ?_ (fun _ => ?_)
theorem laws_FnExactTlbUse.mono : ∀ a0 a1 a2 k, LeO (laws_FnExactTlbUse.f k a0 a1 a2) (laws_FnExactTlbUse.f (k + 1) a0 a1 a2) := by
 intro a0 a1 a2 k
 obtain ⟨ih0, ih1, ih2⟩ := laws_FnExactTlbUse.mono_l k
 unfold laws_FnExactTlbUse.f
 repeat' first
   | (with_reducible exact ih0 _ _ _ _ _ _ _ _ _ _ _ _)
   | (with_reducible exact ih1 _ _ _ _ _ _ _ _ _)
   | (with_reducible exact ih2 _ _ _ _)
   | (with_reducible exact laws_eqTlb.mono _ _ _ _ _)
   | (with_reducible exact laws_heldTlb.mono _ _ _ _)
   | (with_reducible exact laws_markTlb.mono _ _ _ _)
   | (with_reducible exact laws_toTlb.mono _ _ _)
   | (with_reducible exact spec_TlbUse.mono _ _ _ _)
   | (with_reducible exact LeO.refl _)
   | (with_reducible exact LeO.none _)
   | (with_reducible refine LeO.ite ?_ ?_)
   | (with_reducible refine LeO.bind ?_ (fun _ => ?_))
   | exact ih0 _ _ _ _ _ _ _ _ _ _ _ _
   | exact ih1 _ _ _ _ _ _ _ _ _
   | exact ih2 _ _ _ _
   | exact laws_eqTlb.mono _ _ _ _ _
   | exact laws_heldTlb.mono _ _ _ _
   | exact laws_markTlb.mono _ _ _ _
   | exact laws_toTlb.mono _ _ _
   | exact spec_TlbUse.mono _ _ _ _
   | exact LeO.none _
   | refine LeO.ite ?_ ?_
   | refine LeO.bind ?_ (fun _ => ?_)
set_option maxHeartbeats 8000000 in
set_option maxRecDepth 100000 in
theorem laws_FnExactTlbUse.calls (k : Nat) (a0_0 : Int) (A0_1 : Option Addr) (c0_1 : Nat) (l0_1 : List Int) (a1 : Int) (w : World) (hr0_1 : Kd.C (Kd.int .i64) w A0_1 l0_1.length l0_1) (hc0_1 : l0_1.length ≤ c0_1) (h : laws_FnExactTlbUse.f k a0_0 l0_1 a1 = some true) :
  Calls Try.prog 4 #[.agg #[.int .i64 a0_0, .slice A0_1 l0_1.length c0_1], .int .i64 a1] w fun e w' => e = .returned (.bool true) ∧ Below w.heap.size w w' := by
 have hu38 := Try.underlying38
 have hu40 := Try.underlying40
 have HR0_1 := Aside0.mk hr0_1
 have HC0_1 := Aside0.mk hc0_1
 clear hr0_1 hc0_1
 have HB := Aside0.mk (Below.refl w.heap.size w)
 have H : ((laws_szTlb.f a0_0 l0_1 1048576).bind fun t277 => (if t277 < 0 then (some true) else ((laws_toTlb.f k a0_0 l0_1).bind fun bt278 => ((spec_TlbUse.f k bt278.1 bt278.2 a1).bind fun bt282 => ((laws_toTlb.f k a0_0 l0_1).bind fun bt288 => ((impl_TlbUse.f bt288.1 bt288.2 a1).bind fun bt293 => ((laws_eqTlb.f k bt293.1 bt293.2.1 bt282.1 bt282.2.1).bind fun t299 => (if t299 = true then (laws_FnExactTlbUse.j0 k a1 bt282.2.2 bt293.2.2 (bt293.2.2 != bt282.2.2) a0_0 l0_1 bt282.1 bt282.2.1 bt288.1 bt288.2 bt293.1 bt293.2.1) else (laws_FnExactTlbUse.j0 k a1 bt282.2.2 bt293.2.2 true a0_0 l0_1 bt282.1 bt282.2.1 bt288.1 bt288.2 bt293.1 bt293.2.1))))))))) = some true := h
 clear h
 replace H := Option.bind_eq_some_iff.mp H
 obtain ⟨t277, A30, H⟩ := H
 (try dsimp only at H)
 have A3 := Aside0.mk A30
 clear A30
 by_cases c4 : t277 < 0
 ·rw [if_pos c4] at H
  have c4b0 : decide (t277 < 0) = true := decide_eq_true c4
  clear c4
  clear H
  go_enter Try.func4, Try.ntmps4
  go_wp2_with (first | ((with_reducible refine gate_dst (N := 2) rfl ?_); refine box_event ?hg (N := 2) ?hd (cs := #[.int .i64 a0_0, .slice A0_1 l0_1.length c0_1]) (t := 38) ?hr ?_; (case hd => rfl); (case hg => rfl); (case hr => first | (go_simp; done) | (go_simp; rfl)); intro gb276 hg w5 hbox hb; have n0_ := Aside0.mk (below_step (lq HB.out) hb); have n1_ := Aside0.mk (hbox); have n2_ := Aside0.mk ((ge_new hg (lq HB.out) : w.heap.size ≤ gb276)); have n3_ := Aside0.mk ((ge_new hg (lq HB.out) : w.heap.size ≤ gb276)); clear HB; have HB := n0_; have BK276 := n1_; have GW276 := n2_; have GE276 := n3_; clear n0_ n1_ n2_ n3_; clear hb hbox hg; have hcz6_0 : w5.cell? ⟨gb276, 0, none⟩ = some (.int .i64 a0_0) := (blk_cell BK276.out 0).trans rfl; have hcz6_1 : w5.cell? ⟨gb276, 1, none⟩ = some (.slice A0_1 l0_1.length c0_1) := (blk_cell BK276.out 1).trans rfl; have hfz6_0 := blk_frozen BK276.out 0; have hfz6_1 := blk_frozen BK276.out 1) | ((with_reducible refine gate_callee (f := 15) rfl ?_); refine goesL_ (some 18) rfl rfl Try.func15 (by kernel_rfl) rfl #[.agg #[.int .i64 a0_0, .slice A0_1 l0_1.length c0_1], .int .i64 1048576] rfl (by (try simp only [List.map_toArray, List.map_cons, List.map_nil]); first | done | rfl | (simp only [List.length_drop, List.length_take]; rfl)) ?_; (with_reducible refine (laws_szTlb.calls a0_0 _ _ l0_1 1048576 t277 _ ?side1 ?side2 A3.out).mono ?_); (case side1 => repeat (first | exact (Kd.C_below HR0_1.out HB.out) | (with_reducible refine Kd.C_alloc ?_ _) | (with_reducible refine Kd.C_drewN ?_ _) | (with_reducible refine Kd.C_drew ?_))); (case side2 => exact HC0_1.out); rintro e w7 ⟨rfl, hb⟩; refine ⟨_, rfl, ?_⟩; have n0_ := Aside0.mk (blk_below (bq BK276.out) hb); have n1_ := Aside0.mk (below_step (lq HB.out) hb); clear BK276; clear HB; have BK276 := n0_; have HB := n1_; clear n0_ n1_; (try clear hb); (try clear hb2); (try clear hk); (try clear hi)))
  go_ret
  exact ⟨by first | rfl | (simp [errW_none, errW_some] <;> rfl) | (simp [*, errW_none, errW_some] <;> rfl), by exact lq HB.out⟩
 ·rw [if_neg c4] at H
  have c4b0 : decide (t277 < 0) = false := decide_eq_false c4
  clear c4
  replace H := Option.bind_eq_some_iff.mp H
  obtain ⟨⟨t278, t279⟩, A80, H⟩ := H
  (try dsimp only at H)
  have A8 := Aside0.mk A80
  clear A80
  replace H := Option.bind_eq_some_iff.mp H
  obtain ⟨⟨t282, t283, t286⟩, A90, H⟩ := H
  (try dsimp only at H)
  have A9 := Aside0.mk A90
  clear A90
  replace H := Option.bind_eq_some_iff.mp H
  obtain ⟨⟨t288, t289⟩, A100, H⟩ := H
  (try dsimp only at H)
  have A10 := Aside0.mk A100
  clear A100
  replace H := Option.bind_eq_some_iff.mp H
  obtain ⟨⟨t293, t294, t297⟩, A110, H⟩ := H
  (try dsimp only at H)
  have A11 := Aside0.mk A110
  clear A110
  have HC12 := Aside0.mk H
  clear H
  go_enter Try.func4, Try.ntmps4
  go_upto_region 8 with (first | ((with_reducible refine gate_dst (N := 2) rfl ?_); refine box_event ?hg (N := 2) ?hd (cs := #[.int .i64 a0_0, .slice A0_1 l0_1.length c0_1]) (t := 38) ?hr ?_; (case hd => rfl); (case hg => rfl); (case hr => first | (go_simp; done) | (go_simp; rfl)); intro gb276 hg w13 hbox hb; have n0_ := Aside0.mk (below_step (lq HB.out) hb); have n1_ := Aside0.mk (hbox); have n2_ := Aside0.mk ((ge_new hg (lq HB.out) : w.heap.size ≤ gb276)); have n3_ := Aside0.mk ((ge_new hg (lq HB.out) : w.heap.size ≤ gb276)); clear HB; have HB := n0_; have BK276 := n1_; have GW276 := n2_; have GE276 := n3_; clear n0_ n1_ n2_ n3_; clear hb hbox hg; have hcz14_0 : w13.cell? ⟨gb276, 0, none⟩ = some (.int .i64 a0_0) := (blk_cell BK276.out 0).trans rfl; have hcz14_1 : w13.cell? ⟨gb276, 1, none⟩ = some (.slice A0_1 l0_1.length c0_1) := (blk_cell BK276.out 1).trans rfl; have hfz14_0 := blk_frozen BK276.out 0; have hfz14_1 := blk_frozen BK276.out 1) | ((with_reducible refine gate_callee (f := 15) rfl ?_); refine goesL_ (some 18) rfl rfl Try.func15 (by kernel_rfl) rfl #[.agg #[.int .i64 a0_0, .slice A0_1 l0_1.length c0_1], .int .i64 1048576] rfl (by (try simp only [List.map_toArray, List.map_cons, List.map_nil]); first | done | rfl | (simp only [List.length_drop, List.length_take]; rfl)) ?_; (with_reducible refine (laws_szTlb.calls a0_0 _ _ l0_1 1048576 t277 _ ?side1 ?side2 A3.out).mono ?_); (case side1 => repeat (first | exact (Kd.C_below HR0_1.out HB.out) | (with_reducible refine Kd.C_alloc ?_ _) | (with_reducible refine Kd.C_drewN ?_ _) | (with_reducible refine Kd.C_drew ?_))); (case side2 => exact HC0_1.out); rintro e w15 ⟨rfl, hb⟩; refine ⟨_, rfl, ?_⟩; have n0_ := Aside0.mk (blk_below (bq BK276.out) hb); have n1_ := Aside0.mk (below_step (lq HB.out) hb); clear BK276; clear HB; have BK276 := n0_; have HB := n1_; clear n0_ n1_; (try clear hb); (try clear hb2); (try clear hk); (try clear hi); have hcz16_0 : w15.cell? ⟨gb276, 0, none⟩ = some (.int .i64 a0_0) := (blk_cell BK276.out 0).trans rfl; have hcz16_1 : w15.cell? ⟨gb276, 1, none⟩ = some (.slice A0_1 l0_1.length c0_1) := (blk_cell BK276.out 1).trans rfl; have hfz16_0 := blk_frozen BK276.out 0; have hfz16_1 := blk_frozen BK276.out 1) | ((with_reducible refine gate_callee (f := 17) rfl ?_); refine goesL_ (some 23) rfl rfl Try.func17 (by kernel_rfl) rfl #[.agg #[.int .i64 a0_0, .slice A0_1 l0_1.length c0_1]] rfl (by (try simp only [List.map_toArray, List.map_cons, List.map_nil]); first | done | rfl | (simp only [List.length_drop, List.length_take]; rfl)) ?_; (with_reducible refine (laws_toTlb.calls k a0_0 _ _ l0_1 t278 t279 _ ?side1 ?side2 A8.out).mono ?_); (case side1 => repeat (first | exact (Kd.C_below HR0_1.out HB.out) | (with_reducible refine Kd.C_alloc ?_ _) | (with_reducible refine Kd.C_drewN ?_ _) | (with_reducible refine Kd.C_drew ?_))); (case side2 => exact HC0_1.out); rintro e w17 ⟨v280, rfl, ho0, hb⟩; refine ⟨_, rfl, ?_⟩; have n0_ := Aside0.mk (Kd.R_lower ho0 (below_size (lq HB.out))); have n1_ := Aside0.mk (blk_below (bq BK276.out) hb); have n2_ := Aside0.mk (below_step (lq HB.out) hb); clear BK276; clear HB; have HO281 := n0_; have BK276 := n1_; have HB := n2_; clear n0_ n1_ n2_; (try clear hb); (try clear hb2); (try clear hk); (try clear hi); (try clear ho0); obtain ⟨Ao18, co18, eo18⟩ := Kd.R_slice HO281.out; subst eo18) | ((with_reducible refine gate_callee (f := 16) rfl ?_); refine goesL_ (some 25) rfl rfl Try.func16 (by kernel_rfl) rfl #[.agg #[.int .i64 t278, .slice Ao18 t279.length co18], .int .i64 a1] rfl (by (try simp only [List.map_toArray, List.map_cons, List.map_nil]); first | done | rfl | (simp only [List.length_drop, List.length_take]; rfl)) ?_; (with_reducible refine (spec_TlbUse.calls k t278 _ _ t279 a1 t282 t283 t286 _ ?side1 ?side2 A9.out).mono ?_); (case side1 => repeat (first | exact (Kd.R_reads' HO281.out).2.2 | (with_reducible refine Kd.C_alloc ?_ _) | (with_reducible refine Kd.C_drewN ?_ _) | (with_reducible refine Kd.C_drew ?_))); (case side2 => exact (Kd.R_reads' HO281.out).2.1); rintro e w19 ⟨v284, rfl, ho0, hb⟩; refine ⟨_, rfl, ?_⟩; have n0_ := Aside0.mk (Kd.R_elder' (rq HO281.out) (Kd.R_base ho0) hb); have n1_ := Aside0.mk (Kd.R_lower (Kd.R_new' ho0 (Kd.R_lt (rq HO281.out))) (below_size (lq HB.out))); have n2_ := Aside0.mk (blk_below (bq BK276.out) hb); have n3_ := Aside0.mk (below_step (lq HB.out) hb); clear HO281; clear BK276; clear HB; have HO281 := n0_; have HO285 := n1_; have BK276 := n2_; have HB := n3_; clear n0_ n1_ n2_ n3_; (try clear hb); (try clear hb2); (try clear hk); (try clear hi); (try clear ho0)) | ((with_reducible refine gate_dst (N := 6) rfl ?_); refine box_event ?hg (N := 6) ?hd (cs := #[.int .i64 0, .slice none 0 0]) (t := 40) ?hr ?_; (case hd => rfl); (case hg => rfl); (case hr => first | (go_simp; done) | (go_simp; rfl)); intro gb287 hg w20 hbox hb; have n0_ := Aside0.mk (Kd.R_below (rq HO281.out) hb); have n1_ := Aside0.mk (Kd.R_below (rq HO285.out) hb); have n2_ := Aside0.mk (blk_below (bq BK276.out) hb); have n3_ := Aside0.mk (below_step (lq HB.out) hb); have n4_ := Aside0.mk (hbox); have n5_ := Aside0.mk ((ge_new hg (lq HB.out) : w.heap.size ≤ gb287)); have n6_ := Aside0.mk ((ge_new hg (lq HB.out) : w.heap.size ≤ gb287)); have n7_ := Aside0.mk ((ne_new hg (bq BK276.out) : gb276 ≠ gb287)); have n8_ := Aside0.mk ((new_ne hg (bq BK276.out) : gb287 ≠ gb276)); clear HO281; clear HO285; clear BK276; clear HB; have HO281 := n0_; have HO285 := n1_; have BK276 := n2_; have HB := n3_; have BK287 := n4_; have GW287 := n5_; have GE287 := n6_; have NB276_287 := n7_; have NB287_276 := n8_; clear n0_ n1_ n2_ n3_ n4_ n5_ n6_ n7_ n8_; clear hb hbox hg; have hnb21 := NB287_276.out; have hnc21 := NB276_287.out; have hcz22_0 : w20.cell? ⟨gb287, 0, none⟩ = some (.int .i64 0) := (blk_cell BK287.out 0).trans rfl; have hcz22_1 : w20.cell? ⟨gb287, 1, none⟩ = some (.slice none 0 0) := (blk_cell BK287.out 1).trans rfl; have hfz22_0 := blk_frozen BK287.out 0; have hfz22_1 := blk_frozen BK287.out 1; obtain ⟨Ao23, co23, eo23⟩ := Kd.R_slice HO285.out; subst eo23; have hcz24_0 : w20.cell? ⟨gb276, 0, none⟩ = some (.int .i64 a0_0) := (blk_cell BK276.out 0).trans rfl; have hcz24_1 : w20.cell? ⟨gb276, 1, none⟩ = some (.slice A0_1 l0_1.length c0_1) := (blk_cell BK276.out 1).trans rfl; have hfz24_0 := blk_frozen BK276.out 0; have hfz24_1 := blk_frozen BK276.out 1) | ((with_reducible refine gate_callee (f := 17) rfl ?_); refine goesL_ (some 29) rfl rfl Try.func17 (by kernel_rfl) rfl #[.agg #[.int .i64 a0_0, .slice A0_1 l0_1.length c0_1]] rfl (by (try simp only [List.map_toArray, List.map_cons, List.map_nil]); first | done | rfl | (simp only [List.length_drop, List.length_take]; rfl)) ?_; (with_reducible refine (laws_toTlb.calls k a0_0 _ _ l0_1 t288 t289 _ ?side1 ?side2 A10.out).mono ?_); (case side1 => exact Kd.C_below HR0_1.out (by repeat (first | (with_reducible first | exact HB.out | apply below_alloc | apply pw_below_drewN | apply below_drew1 | refine below_set ?_ GE287.out) | exact HB.out))); (case side2 => exact HC0_1.out); rintro e w25 ⟨v290, rfl, ho0, hb⟩; refine ⟨_, rfl, ?_⟩; have n0_ := Aside0.mk (Kd.R_elder' (rq (Kd.R_mono (Kd.R_far (p := ⟨gb287, 1, none⟩) (Kd.R_far (p := ⟨gb287, 0, none⟩) (Kd.R_types HO281.out BK287.out (by decide)) (fun _ hk => hk.2) (.int .i64 t282)) (fun _ hk => hk.2) (.slice Ao23 t283.length co23)) (fun _ h_ => h_.1))) (Kd.R_base ho0) hb); have n1_ := Aside0.mk (Kd.R_elder' (rq (Kd.R_mono (Kd.R_far (p := ⟨gb287, 1, none⟩) (Kd.R_far (p := ⟨gb287, 0, none⟩) (Kd.R_types HO285.out BK287.out (by decide)) (fun _ hk => hk.2) (.int .i64 t282)) (fun _ hk => hk.2) (.slice Ao23 t283.length co23)) (fun _ h_ => h_.1))) (Kd.R_base ho0) hb); have n2_ := Aside0.mk (Kd.R_lower (Kd.R_new' (Kd.R_new' ho0 (Kd.R_lt (rq (Kd.R_mono (Kd.R_far (p := ⟨gb287, 1, none⟩) (Kd.R_far (p := ⟨gb287, 0, none⟩) (Kd.R_types HO281.out BK287.out (by decide)) (fun _ hk => hk.2) (.int .i64 t282)) (fun _ hk => hk.2) (.slice Ao23 t283.length co23)) (fun _ h_ => h_.1))))) (Kd.R_lt (rq (Kd.R_mono (Kd.R_far (p := ⟨gb287, 1, none⟩) (Kd.R_far (p := ⟨gb287, 0, none⟩) (Kd.R_types HO285.out BK287.out (by decide)) (fun _ hk => hk.2) (.int .i64 t282)) (fun _ hk => hk.2) (.slice Ao23 t283.length co23)) (fun _ h_ => h_.1))))) (below_size (by repeat (first | (with_reducible first | exact HB.out | apply below_alloc | apply pw_below_drewN | apply below_drew1 | refine below_set ?_ GE287.out) | exact HB.out)))); have n3_ := Aside0.mk (blk_below (g := gb276) (o := .cells #[.int .i64 a0_0, .slice A0_1 l0_1.length c0_1] 38 (0, 0)) (by (with_reducible repeat (first | refine blk_drewN ?_ _ | refine blk_drew ?_ | refine blk_alloc ?_ _)); refine blk_far ?_ NB276_287.out _; (with_reducible repeat (first | refine blk_drewN ?_ _ | refine blk_drew ?_ | refine blk_alloc ?_ _)); refine blk_far ?_ NB276_287.out _; (with_reducible repeat (first | refine blk_drewN ?_ _ | refine blk_drew ?_ | refine blk_alloc ?_ _)); exact BK276.out) hb); have n4_ := Aside0.mk (blk_below (g := gb287) (o := .cells #[.int .i64 t282, .slice Ao23 t283.length co23] 40 (0, 0)) (by (with_reducible repeat (first | refine blk_drewN ?_ _ | refine blk_drew ?_ | refine blk_alloc ?_ _)); refine blk_put (cs := #[.int .i64 t282, .slice none 0 0]) ?_ 1 _ rfl; (with_reducible repeat (first | refine blk_drewN ?_ _ | refine blk_drew ?_ | refine blk_alloc ?_ _)); refine blk_put (cs := #[.int .i64 0, .slice none 0 0]) ?_ 0 _ rfl; (with_reducible repeat (first | refine blk_drewN ?_ _ | refine blk_drew ?_ | refine blk_alloc ?_ _)); exact BK287.out) hb); have n5_ := Aside0.mk (below_step (by repeat (first | (with_reducible first | exact HB.out | apply below_alloc | apply pw_below_drewN | apply below_drew1 | refine below_set ?_ GE287.out) | exact HB.out)) hb); clear HO281; clear HO285; clear BK276; clear BK287; clear HB; have HO281 := n0_; have HO285 := n1_; have HO291 := n2_; have BK276 := n3_; have BK287 := n4_; have HB := n5_; clear n0_ n1_ n2_ n3_ n4_ n5_; (try clear hb); (try clear hb2); (try clear hk); (try clear hi); (try clear ho0)) | ((with_reducible refine gate_dst (N := 8) rfl ?_); refine box_event ?hg (N := 8) ?hd (cs := #[.int .i64 0, .slice none 0 0]) (t := 40) ?hr ?_; (case hd => rfl); (case hg => rfl); (case hr => first | (go_simp; done) | (go_simp; rfl)); intro gb292 hg w26 hbox hb; have n0_ := Aside0.mk (Kd.R_below (rq HO281.out) hb); have n1_ := Aside0.mk (Kd.R_below (rq HO285.out) hb); have n2_ := Aside0.mk (Kd.R_below (rq HO291.out) hb); have n3_ := Aside0.mk (blk_below (bq BK276.out) hb); have n4_ := Aside0.mk (blk_below (bq BK287.out) hb); have n5_ := Aside0.mk (below_step (lq HB.out) hb); have n6_ := Aside0.mk (hbox); have n7_ := Aside0.mk ((ge_new hg (lq HB.out) : w.heap.size ≤ gb292)); have n8_ := Aside0.mk ((ge_new hg (lq HB.out) : w.heap.size ≤ gb292)); have n9_ := Aside0.mk ((ne_new hg (bq BK276.out) : gb276 ≠ gb292)); have n10_ := Aside0.mk ((new_ne hg (bq BK276.out) : gb292 ≠ gb276)); have n11_ := Aside0.mk ((ne_new hg (bq BK287.out) : gb287 ≠ gb292)); have n12_ := Aside0.mk ((new_ne hg (bq BK287.out) : gb292 ≠ gb287)); clear HO281; clear HO285; clear HO291; clear BK276; clear BK287; clear HB; have HO281 := n0_; have HO285 := n1_; have HO291 := n2_; have BK276 := n3_; have BK287 := n4_; have HB := n5_; have BK292 := n6_; have GW292 := n7_; have GE292 := n8_; have NB276_292 := n9_; have NB292_276 := n10_; have NB287_292 := n11_; have NB292_287 := n12_; clear n0_ n1_ n2_ n3_ n4_ n5_ n6_ n7_ n8_ n9_ n10_ n11_ n12_; clear hb hbox hg; have hnb27 := NB292_276.out; have hnc27 := NB276_292.out; have hnb28 := NB292_287.out; have hnc28 := NB287_292.out; have hcz29_0 : w26.cell? ⟨gb292, 0, none⟩ = some (.int .i64 0) := (blk_cell BK292.out 0).trans rfl; have hcz29_1 : w26.cell? ⟨gb292, 1, none⟩ = some (.slice none 0 0) := (blk_cell BK292.out 1).trans rfl; have hfz29_0 := blk_frozen BK292.out 0; have hfz29_1 := blk_frozen BK292.out 1; obtain ⟨Ao30, co30, eo30⟩ := Kd.R_slice HO291.out; subst eo30) | ((with_reducible refine gate_callee (f := 18) rfl ?_); refine goesL_ (some 33) rfl rfl Try.func18 (by kernel_rfl) rfl #[.agg #[.int .i64 t288, .slice Ao30 t289.length co30], .int .i64 a1] rfl (by (try simp only [List.map_toArray, List.map_cons, List.map_nil]); first | done | rfl | (simp only [List.length_drop, List.length_take]; rfl)) ?_; (with_reducible refine (impl_TlbUse.calls t288 _ _ t289 a1 t293 t294 t297 _ ?side1 ?side2 A11.out).mono ?_); (case side1 => refine (Kd.R_reads' (e := 3) (base := w.heap.size) (ok := fun k_ => ((True ∧ some k_ ≠ (.slice Ao18 t279.length co18 : Value).ownBlock) ∧ some k_ ≠ (.slice Ao23 t283.length co23 : Value).ownBlock)) (n := t289.length) (c := co30) ?_).2.2; exact (rq (Kd.R_mono (Kd.R_far (p := ⟨gb292, 1, none⟩) (Kd.R_far (p := ⟨gb292, 0, none⟩) (Kd.R_types HO291.out BK292.out (by decide)) (fun _ hk => hk.2) (.int .i64 t288)) (fun _ hk => hk.2) (.slice Ao30 t289.length co30)) (fun _ h_ => h_.1)))); (case side2 => exact (Kd.R_reads' HO291.out).2.1); rintro e w31 ⟨v295, rfl, ho0, hb⟩; refine ⟨_, rfl, ?_⟩; have n0_ := Aside0.mk (Kd.R_elder' (rq (Kd.R_mono (Kd.R_far (p := ⟨gb292, 1, none⟩) (Kd.R_far (p := ⟨gb292, 0, none⟩) (Kd.R_types HO281.out BK292.out (by decide)) (fun _ hk => hk.2) (.int .i64 t288)) (fun _ hk => hk.2) (.slice Ao30 t289.length co30)) (fun _ h_ => h_.1))) (Kd.Q_base ho0) hb); have n1_ := Aside0.mk (Kd.R_elder' (rq (Kd.R_mono (Kd.R_far (p := ⟨gb292, 1, none⟩) (Kd.R_far (p := ⟨gb292, 0, none⟩) (Kd.R_types HO285.out BK292.out (by decide)) (fun _ hk => hk.2) (.int .i64 t288)) (fun _ hk => hk.2) (.slice Ao30 t289.length co30)) (fun _ h_ => h_.1))) (Kd.Q_base ho0) hb); have n2_ := Aside0.mk (Kd.R_elder' (rq (Kd.R_mono (Kd.R_far (p := ⟨gb292, 1, none⟩) (Kd.R_far (p := ⟨gb292, 0, none⟩) (Kd.R_types HO291.out BK292.out (by decide)) (fun _ hk => hk.2) (.int .i64 t288)) (fun _ hk => hk.2) (.slice Ao30 t289.length co30)) (fun _ h_ => h_.1))) (Kd.Q_base ho0) hb); have n3_ := Aside0.mk (Kd.Q_lower (Kd.Q_new' (Kd.Q_new' (Kd.Q_new' ho0 (Kd.R_lt (rq (Kd.R_mono (Kd.R_far (p := ⟨gb292, 1, none⟩) (Kd.R_far (p := ⟨gb292, 0, none⟩) (Kd.R_types HO281.out BK292.out (by decide)) (fun _ hk => hk.2) (.int .i64 t288)) (fun _ hk => hk.2) (.slice Ao30 t289.length co30)) (fun _ h_ => h_.1))))) (Kd.R_lt (rq (Kd.R_mono (Kd.R_far (p := ⟨gb292, 1, none⟩) (Kd.R_far (p := ⟨gb292, 0, none⟩) (Kd.R_types HO285.out BK292.out (by decide)) (fun _ hk => hk.2) (.int .i64 t288)) (fun _ hk => hk.2) (.slice Ao30 t289.length co30)) (fun _ h_ => h_.1))))) (Kd.R_lt (rq (Kd.R_mono (Kd.R_far (p := ⟨gb292, 1, none⟩) (Kd.R_far (p := ⟨gb292, 0, none⟩) (Kd.R_types HO291.out BK292.out (by decide)) (fun _ hk => hk.2) (.int .i64 t288)) (fun _ hk => hk.2) (.slice Ao30 t289.length co30)) (fun _ h_ => h_.1))))) (below_size (by repeat (first | (with_reducible first | exact HB.out | apply below_alloc | apply pw_below_drewN | apply below_drew1 | refine below_set ?_ GE292.out) | exact HB.out)))); have n4_ := Aside0.mk (blk_below (g := gb276) (o := .cells #[.int .i64 a0_0, .slice A0_1 l0_1.length c0_1] 38 (0, 0)) (by (with_reducible repeat (first | refine blk_drewN ?_ _ | refine blk_drew ?_ | refine blk_alloc ?_ _)); refine blk_far ?_ NB276_292.out _; (with_reducible repeat (first | refine blk_drewN ?_ _ | refine blk_drew ?_ | refine blk_alloc ?_ _)); refine blk_far ?_ NB276_292.out _; (with_reducible repeat (first | refine blk_drewN ?_ _ | refine blk_drew ?_ | refine blk_alloc ?_ _)); exact BK276.out) hb); have n5_ := Aside0.mk (blk_below (g := gb287) (o := .cells #[.int .i64 t282, .slice Ao23 t283.length co23] 40 (0, 0)) (by (with_reducible repeat (first | refine blk_drewN ?_ _ | refine blk_drew ?_ | refine blk_alloc ?_ _)); refine blk_far ?_ NB287_292.out _; (with_reducible repeat (first | refine blk_drewN ?_ _ | refine blk_drew ?_ | refine blk_alloc ?_ _)); refine blk_far ?_ NB287_292.out _; (with_reducible repeat (first | refine blk_drewN ?_ _ | refine blk_drew ?_ | refine blk_alloc ?_ _)); exact BK287.out) hb); have n6_ := Aside0.mk (blk_below (g := gb292) (o := .cells #[.int .i64 t288, .slice Ao30 t289.length co30] 40 (0, 0)) (by (with_reducible repeat (first | refine blk_drewN ?_ _ | refine blk_drew ?_ | refine blk_alloc ?_ _)); refine blk_put (cs := #[.int .i64 t288, .slice none 0 0]) ?_ 1 _ rfl; (with_reducible repeat (first | refine blk_drewN ?_ _ | refine blk_drew ?_ | refine blk_alloc ?_ _)); refine blk_put (cs := #[.int .i64 0, .slice none 0 0]) ?_ 0 _ rfl; (with_reducible repeat (first | refine blk_drewN ?_ _ | refine blk_drew ?_ | refine blk_alloc ?_ _)); exact BK292.out) hb); have n7_ := Aside0.mk (below_step (by repeat (first | (with_reducible first | exact HB.out | apply below_alloc | apply pw_below_drewN | apply below_drew1 | refine below_set ?_ GE292.out) | exact HB.out)) hb); clear HO281; clear HO285; clear HO291; clear BK276; clear BK287; clear BK292; clear HB; have HO281 := n0_; have HO285 := n1_; have HO291 := n2_; have HO296 := n3_; have BK276 := n4_; have BK287 := n5_; have BK292 := n6_; have HB := n7_; clear n0_ n1_ n2_ n3_ n4_ n5_ n6_ n7_; (try clear hb); (try clear hb2); (try clear hk); (try clear hi); (try clear ho0)) | ((with_reducible refine gate_dst (N := 9) rfl ?_); refine box_event ?hg (N := 9) ?hd (cs := #[.int .i64 0, .slice none 0 0]) (t := 40) ?hr ?_; (case hd => rfl); (case hg => rfl); (case hr => first | (go_simp; done) | (go_simp; rfl)); intro gb298 hg w32 hbox hb; have n0_ := Aside0.mk (Kd.R_below (rq HO281.out) hb); have n1_ := Aside0.mk (Kd.R_below (rq HO285.out) hb); have n2_ := Aside0.mk (Kd.R_below (rq HO291.out) hb); have n3_ := Aside0.mk (Kd.Q_below (by (with_reducible repeat (first | apply Kd.Q_alloc | apply Kd.Q_drewN | apply Kd.Q_drew)); exact HO296.out) hb); have n4_ := Aside0.mk (blk_below (bq BK276.out) hb); have n5_ := Aside0.mk (blk_below (bq BK287.out) hb); have n6_ := Aside0.mk (blk_below (bq BK292.out) hb); have n7_ := Aside0.mk (below_step (lq HB.out) hb); have n8_ := Aside0.mk (hbox); have n9_ := Aside0.mk ((ge_new hg (lq HB.out) : w.heap.size ≤ gb298)); have n10_ := Aside0.mk ((ge_new hg (lq HB.out) : w.heap.size ≤ gb298)); have n11_ := Aside0.mk ((ne_new hg (bq BK276.out) : gb276 ≠ gb298)); have n12_ := Aside0.mk ((new_ne hg (bq BK276.out) : gb298 ≠ gb276)); have n13_ := Aside0.mk ((ne_new hg (bq BK287.out) : gb287 ≠ gb298)); have n14_ := Aside0.mk ((new_ne hg (bq BK287.out) : gb298 ≠ gb287)); have n15_ := Aside0.mk ((ne_new hg (bq BK292.out) : gb292 ≠ gb298)); have n16_ := Aside0.mk ((new_ne hg (bq BK292.out) : gb298 ≠ gb292)); clear HO281; clear HO285; clear HO291; clear HO296; clear BK276; clear BK287; clear BK292; clear HB; have HO281 := n0_; have HO285 := n1_; have HO291 := n2_; have HO296 := n3_; have BK276 := n4_; have BK287 := n5_; have BK292 := n6_; have HB := n7_; have BK298 := n8_; have GW298 := n9_; have GE298 := n10_; have NB276_298 := n11_; have NB298_276 := n12_; have NB287_298 := n13_; have NB298_287 := n14_; have NB292_298 := n15_; have NB298_292 := n16_; clear n0_ n1_ n2_ n3_ n4_ n5_ n6_ n7_ n8_ n9_ n10_ n11_ n12_ n13_ n14_ n15_ n16_; clear hb hbox hg; have hnb33 := NB298_276.out; have hnc33 := NB276_298.out; have hnb34 := NB298_287.out; have hnc34 := NB287_298.out; have hnb35 := NB298_292.out; have hnc35 := NB292_298.out; have hcz36_0 : w32.cell? ⟨gb298, 0, none⟩ = some (.int .i64 0) := (blk_cell BK298.out 0).trans rfl; have hcz36_1 : w32.cell? ⟨gb298, 1, none⟩ = some (.slice none 0 0) := (blk_cell BK298.out 1).trans rfl; have hfz36_0 := blk_frozen BK298.out 0; have hfz36_1 := blk_frozen BK298.out 1; obtain ⟨Ao37, co37, eo37, _⟩ := Kd.Q_slice HO296.out; subst eo37))
  (try simp only [Act.put, List.setIfInBounds_toArray, List.set_cons_zero, List.set_cons_succ])
  go_cut [44] (fun v44 wc => ∃ (kq : Nat) (x44_11 : Bool), v44 = .bool x44_11 ∧ Aside0 (laws_FnExactTlbUse.j0 kq a1 t286 t297 x44_11 a0_0 l0_1 t282 t283 t288 t289 t293 t294 = some true) ∧ Aside0 (kq ≤ k) ∧ Aside0 (Kd.Q (Kd.int .i64) 3 wc w.heap.size (fun k_ => some k_ ≠ ((.slice Ao30 t289.length co30) : Value).ownBlock ∧ some k_ ≠ ((.slice Ao37 t294.length co37) : Value).ownBlock) (.slice Ao23 t283.length co23) t283) ∧ Aside0 (Kd.Q (Kd.int .i64) 3 wc w.heap.size (fun k_ => some k_ ≠ ((.slice Ao23 t283.length co23) : Value).ownBlock ∧ some k_ ≠ ((.slice Ao37 t294.length co37) : Value).ownBlock) (.slice Ao30 t289.length co30) t289) ∧ Aside0 (Kd.Q (Kd.int .i64) 3 wc w.heap.size (fun k_ => some k_ ≠ ((.slice Ao23 t283.length co23) : Value).ownBlock ∧ some k_ ≠ ((.slice Ao30 t289.length co30) : Value).ownBlock) (.slice Ao37 t294.length co37) t294) ∧ Aside0 (wc.heap[gb276]? = some (.cells #[.int .i64 a0_0, (.slice A0_1 l0_1.length c0_1)] 38 (0, 0))) ∧ Aside0 (wc.heap[gb287]? = some (.cells #[.int .i64 t282, (.slice Ao23 t283.length co23)] 40 (0, 0))) ∧ Aside0 (wc.heap[gb292]? = some (.cells #[.int .i64 t288, (.slice Ao30 t289.length co30)] 40 (0, 0))) ∧ Aside0 (wc.heap[gb298]? = some (.cells #[.int .i64 t293, (.slice Ao37 t294.length co37)] 40 (0, 0))) ∧ Aside0 (Below w.heap.size w wc))
  case first =>
   have H := HC12.out
   clear HC12
   replace H := Option.bind_eq_some_iff.mp H
   obtain ⟨t299, A380, H⟩ := H
   (try dsimp only at H)
   have A38 := Aside0.mk A380
   clear A380
   by_cases c39 : t299 = true
   ·subst c39
    rw [if_pos rfl] at H
    have H' := Aside0.mk H
    clear H
    have hnb40 := NB298_276.out
    have hnc40 := NB276_298.out
    have hnb41 := NB298_287.out
    have hnc41 := NB287_298.out
    have hnb42 := NB298_292.out
    have hnc42 := NB292_298.out
    have hcz43_0 : w32.cell? ⟨gb298, 0, none⟩ = some (.int .i64 0) := (blk_cell BK298.out 0).trans rfl
    have hcz43_1 : w32.cell? ⟨gb298, 1, none⟩ = some (.slice none 0 0) := (blk_cell BK298.out 1).trans rfl
    have hfz43_0 := blk_frozen BK298.out 0
    have hfz43_1 := blk_frozen BK298.out 1
    have hnb44 := NB287_276.out
    have hnc44 := NB276_287.out
    have hnb45 := NB287_292.out
    have hnc45 := NB292_287.out
    have hcz46_0 : w32.cell? ⟨gb287, 0, none⟩ = some (.int .i64 t282) := (blk_cell BK287.out 0).trans rfl
    have hcz46_1 : w32.cell? ⟨gb287, 1, none⟩ = some (.slice Ao23 t283.length co23) := (blk_cell BK287.out 1).trans rfl
    have hfz46_0 := blk_frozen BK287.out 0
    have hfz46_1 := blk_frozen BK287.out 1
    go_wp2_with (first | ((with_reducible refine gate_callee (f := 19) rfl ?_); refine goesL_ (some 38) rfl rfl Try.func19 (by kernel_rfl) rfl #[.agg #[.int .i64 t293, .slice Ao37 t294.length co37], .agg #[.int .i64 t282, .slice Ao23 t283.length co23]] rfl (by (try simp only [List.map_toArray, List.map_cons, List.map_nil]); first | done | rfl | (simp only [List.length_drop, List.length_take]; rfl)) ?_; (with_reducible refine (laws_eqTlb.calls k t293 _ _ t294 t282 _ _ t283 true _ ?side1 ?side2 ?side3 ?side4 A38.out).mono ?_); (case side1 => refine (Kd.Q_reads' (e := 3) (base := w.heap.size) (ok := fun k_ => (((True ∧ some k_ ≠ (.slice Ao18 t279.length co18 : Value).ownBlock) ∧ some k_ ≠ (.slice Ao23 t283.length co23 : Value).ownBlock) ∧ some k_ ≠ (.slice Ao30 t289.length co30 : Value).ownBlock)) (n := t294.length) (c := co37) ?_).2.2; exact (by (with_reducible repeat (first | apply Kd.Q_alloc | apply Kd.Q_drewN | apply Kd.Q_drew)); exact (Kd.Q_mono (Kd.Q_far (p := ⟨gb298, 1, none⟩) (Kd.Q_far (p := ⟨gb298, 0, none⟩) (Kd.Q_types HO296.out BK298.out (by decide)) (fun _ hk => hk.2) (.int .i64 t293)) (fun _ hk => hk.2) (.slice Ao37 t294.length co37)) (fun _ h_ => h_.1)))); (case side2 => exact (Kd.Q_reads' HO296.out).2.1); (case side3 => refine (Kd.R_reads' (e := 3) (base := w.heap.size) (ok := fun k_ => (((True ∧ some k_ ≠ (.slice Ao18 t279.length co18 : Value).ownBlock) ∧ some k_ ≠ (.slice Ao30 t289.length co30 : Value).ownBlock) ∧ some k_ ≠ (.slice Ao37 t294.length co37 : Value).ownBlock)) (n := t283.length) (c := co23) ?_).2.2; exact (rq (Kd.R_mono (Kd.R_far (p := ⟨gb298, 1, none⟩) (Kd.R_far (p := ⟨gb298, 0, none⟩) (Kd.R_types HO285.out BK298.out (by decide)) (fun _ hk => hk.2) (.int .i64 t293)) (fun _ hk => hk.2) (.slice Ao37 t294.length co37)) (fun _ h_ => h_.1)))); (case side4 => exact (Kd.R_reads' HO285.out).2.1); rintro e w47 ⟨rfl, hb⟩; refine ⟨_, rfl, ?_⟩; have n0_ := Aside0.mk (Kd.R_below (rq (Kd.R_mono (Kd.R_far (p := ⟨gb298, 1, none⟩) (Kd.R_far (p := ⟨gb298, 0, none⟩) (Kd.R_types HO281.out BK298.out (by decide)) (fun _ hk => hk.2) (.int .i64 t293)) (fun _ hk => hk.2) (.slice Ao37 t294.length co37)) (fun _ h_ => h_.1))) hb); have n1_ := Aside0.mk (Kd.R_below (rq (Kd.R_mono (Kd.R_far (p := ⟨gb298, 1, none⟩) (Kd.R_far (p := ⟨gb298, 0, none⟩) (Kd.R_types HO285.out BK298.out (by decide)) (fun _ hk => hk.2) (.int .i64 t293)) (fun _ hk => hk.2) (.slice Ao37 t294.length co37)) (fun _ h_ => h_.1))) hb); have n2_ := Aside0.mk (Kd.R_below (rq (Kd.R_mono (Kd.R_far (p := ⟨gb298, 1, none⟩) (Kd.R_far (p := ⟨gb298, 0, none⟩) (Kd.R_types HO291.out BK298.out (by decide)) (fun _ hk => hk.2) (.int .i64 t293)) (fun _ hk => hk.2) (.slice Ao37 t294.length co37)) (fun _ h_ => h_.1))) hb); have n3_ := Aside0.mk (Kd.Q_below (by (with_reducible repeat (first | apply Kd.Q_alloc | apply Kd.Q_drewN | apply Kd.Q_drew)); exact (Kd.Q_mono (Kd.Q_far (p := ⟨gb298, 1, none⟩) (Kd.Q_far (p := ⟨gb298, 0, none⟩) (Kd.Q_types HO296.out BK298.out (by decide)) (fun _ hk => hk.2) (.int .i64 t293)) (fun _ hk => hk.2) (.slice Ao37 t294.length co37)) (fun _ h_ => h_.1))) hb); have n4_ := Aside0.mk (blk_below (g := gb276) (o := .cells #[.int .i64 a0_0, .slice A0_1 l0_1.length c0_1] 38 (0, 0)) (by (with_reducible repeat (first | refine blk_drewN ?_ _ | refine blk_drew ?_ | refine blk_alloc ?_ _)); refine blk_far ?_ NB276_298.out _; (with_reducible repeat (first | refine blk_drewN ?_ _ | refine blk_drew ?_ | refine blk_alloc ?_ _)); refine blk_far ?_ NB276_298.out _; (with_reducible repeat (first | refine blk_drewN ?_ _ | refine blk_drew ?_ | refine blk_alloc ?_ _)); exact BK276.out) hb); have n5_ := Aside0.mk (blk_below (g := gb287) (o := .cells #[.int .i64 t282, .slice Ao23 t283.length co23] 40 (0, 0)) (by (with_reducible repeat (first | refine blk_drewN ?_ _ | refine blk_drew ?_ | refine blk_alloc ?_ _)); refine blk_far ?_ NB287_298.out _; (with_reducible repeat (first | refine blk_drewN ?_ _ | refine blk_drew ?_ | refine blk_alloc ?_ _)); refine blk_far ?_ NB287_298.out _; (with_reducible repeat (first | refine blk_drewN ?_ _ | refine blk_drew ?_ | refine blk_alloc ?_ _)); exact BK287.out) hb); have n6_ := Aside0.mk (blk_below (g := gb292) (o := .cells #[.int .i64 t288, .slice Ao30 t289.length co30] 40 (0, 0)) (by (with_reducible repeat (first | refine blk_drewN ?_ _ | refine blk_drew ?_ | refine blk_alloc ?_ _)); refine blk_far ?_ NB292_298.out _; (with_reducible repeat (first | refine blk_drewN ?_ _ | refine blk_drew ?_ | refine blk_alloc ?_ _)); refine blk_far ?_ NB292_298.out _; (with_reducible repeat (first | refine blk_drewN ?_ _ | refine blk_drew ?_ | refine blk_alloc ?_ _)); exact BK292.out) hb); have n7_ := Aside0.mk (blk_below (g := gb298) (o := .cells #[.int .i64 t293, .slice Ao37 t294.length co37] 40 (0, 0)) (by (with_reducible repeat (first | refine blk_drewN ?_ _ | refine blk_drew ?_ | refine blk_alloc ?_ _)); refine blk_put (cs := #[.int .i64 t293, .slice none 0 0]) ?_ 1 _ rfl; (with_reducible repeat (first | refine blk_drewN ?_ _ | refine blk_drew ?_ | refine blk_alloc ?_ _)); refine blk_put (cs := #[.int .i64 0, .slice none 0 0]) ?_ 0 _ rfl; (with_reducible repeat (first | refine blk_drewN ?_ _ | refine blk_drew ?_ | refine blk_alloc ?_ _)); exact BK298.out) hb); have n8_ := Aside0.mk (below_step (by repeat (first | (with_reducible first | exact HB.out | apply below_alloc | apply pw_below_drewN | apply below_drew1 | refine below_set ?_ GE298.out) | exact HB.out)) hb); clear HO281; clear HO285; clear HO291; clear HO296; clear BK276; clear BK287; clear BK292; clear BK298; clear HB; have HO281 := n0_; have HO285 := n1_; have HO291 := n2_; have HO296 := n3_; have BK276 := n4_; have BK287 := n5_; have BK292 := n6_; have BK298 := n7_; have HB := n8_; clear n0_ n1_ n2_ n3_ n4_ n5_ n6_ n7_ n8_; (try clear hb); (try clear hb2); (try clear hk); (try clear hi)))
    go_meet
    case rel => exact ⟨_, ((t297 != t286)), (by first | rfl | (simp; done) | (simp [*]; done)), H', ⟨by first | omega | exact Nat.le_refl _⟩, ⟨Kd.Q_of_R (by (with_reducible repeat (first | apply Kd.R_alloc | apply Kd.R_drewN | apply Kd.R_drew)); exact Kd.R_mono HO285.out (fun _ hk => ⟨hk.1.2, hk.2⟩))⟩, ⟨Kd.Q_of_R (by (with_reducible repeat (first | apply Kd.R_alloc | apply Kd.R_drewN | apply Kd.R_drew)); exact Kd.R_mono HO291.out (fun _ hk => ⟨hk.1.2, hk.2⟩))⟩, ⟨by (with_reducible repeat (first | apply Kd.Q_alloc | apply Kd.Q_drewN | apply Kd.Q_drew)); exact Kd.Q_mono HO296.out (fun _ hk => ⟨hk.1.2, hk.2⟩)⟩, ⟨by (with_reducible repeat (first | refine blk_drewN ?_ _ | refine blk_drew ?_ | refine blk_alloc ?_ _)); exact BK276.out⟩, ⟨by (with_reducible repeat (first | refine blk_drewN ?_ _ | refine blk_drew ?_ | refine blk_alloc ?_ _)); exact BK287.out⟩, ⟨by (with_reducible repeat (first | refine blk_drewN ?_ _ | refine blk_drew ?_ | refine blk_alloc ?_ _)); exact BK292.out⟩, ⟨by (with_reducible repeat (first | refine blk_drewN ?_ _ | refine blk_drew ?_ | refine blk_alloc ?_ _)); exact BK298.out⟩, ⟨by exact lq HB.out⟩⟩
   ·replace c39 := Bool.eq_false_iff.mpr c39
    subst c39
    rw [if_neg (show ¬ (false = true) by decide)] at H
    have H' := Aside0.mk H
    clear H
    have hnb48 := NB298_276.out
    have hnc48 := NB276_298.out
    have hnb49 := NB298_287.out
    have hnc49 := NB287_298.out
    have hnb50 := NB298_292.out
    have hnc50 := NB292_298.out
    have hcz51_0 : w32.cell? ⟨gb298, 0, none⟩ = some (.int .i64 0) := (blk_cell BK298.out 0).trans rfl
    have hcz51_1 : w32.cell? ⟨gb298, 1, none⟩ = some (.slice none 0 0) := (blk_cell BK298.out 1).trans rfl
    have hfz51_0 := blk_frozen BK298.out 0
    have hfz51_1 := blk_frozen BK298.out 1
    have hnb52 := NB287_276.out
    have hnc52 := NB276_287.out
    have hnb53 := NB287_292.out
    have hnc53 := NB292_287.out
    have hcz54_0 : w32.cell? ⟨gb287, 0, none⟩ = some (.int .i64 t282) := (blk_cell BK287.out 0).trans rfl
    have hcz54_1 : w32.cell? ⟨gb287, 1, none⟩ = some (.slice Ao23 t283.length co23) := (blk_cell BK287.out 1).trans rfl
    have hfz54_0 := blk_frozen BK287.out 0
    have hfz54_1 := blk_frozen BK287.out 1
    go_wp2_with (first | ((with_reducible refine gate_callee (f := 19) rfl ?_); refine goesL_ (some 38) rfl rfl Try.func19 (by kernel_rfl) rfl #[.agg #[.int .i64 t293, .slice Ao37 t294.length co37], .agg #[.int .i64 t282, .slice Ao23 t283.length co23]] rfl (by (try simp only [List.map_toArray, List.map_cons, List.map_nil]); first | done | rfl | (simp only [List.length_drop, List.length_take]; rfl)) ?_; (with_reducible refine (laws_eqTlb.calls k t293 _ _ t294 t282 _ _ t283 false _ ?side1 ?side2 ?side3 ?side4 A38.out).mono ?_); (case side1 => refine (Kd.Q_reads' (e := 3) (base := w.heap.size) (ok := fun k_ => (((True ∧ some k_ ≠ (.slice Ao18 t279.length co18 : Value).ownBlock) ∧ some k_ ≠ (.slice Ao23 t283.length co23 : Value).ownBlock) ∧ some k_ ≠ (.slice Ao30 t289.length co30 : Value).ownBlock)) (n := t294.length) (c := co37) ?_).2.2; exact (by (with_reducible repeat (first | apply Kd.Q_alloc | apply Kd.Q_drewN | apply Kd.Q_drew)); exact (Kd.Q_mono (Kd.Q_far (p := ⟨gb298, 1, none⟩) (Kd.Q_far (p := ⟨gb298, 0, none⟩) (Kd.Q_types HO296.out BK298.out (by decide)) (fun _ hk => hk.2) (.int .i64 t293)) (fun _ hk => hk.2) (.slice Ao37 t294.length co37)) (fun _ h_ => h_.1)))); (case side2 => exact (Kd.Q_reads' HO296.out).2.1); (case side3 => refine (Kd.R_reads' (e := 3) (base := w.heap.size) (ok := fun k_ => (((True ∧ some k_ ≠ (.slice Ao18 t279.length co18 : Value).ownBlock) ∧ some k_ ≠ (.slice Ao30 t289.length co30 : Value).ownBlock) ∧ some k_ ≠ (.slice Ao37 t294.length co37 : Value).ownBlock)) (n := t283.length) (c := co23) ?_).2.2; exact (rq (Kd.R_mono (Kd.R_far (p := ⟨gb298, 1, none⟩) (Kd.R_far (p := ⟨gb298, 0, none⟩) (Kd.R_types HO285.out BK298.out (by decide)) (fun _ hk => hk.2) (.int .i64 t293)) (fun _ hk => hk.2) (.slice Ao37 t294.length co37)) (fun _ h_ => h_.1)))); (case side4 => exact (Kd.R_reads' HO285.out).2.1); rintro e w55 ⟨rfl, hb⟩; refine ⟨_, rfl, ?_⟩; have n0_ := Aside0.mk (Kd.R_below (rq (Kd.R_mono (Kd.R_far (p := ⟨gb298, 1, none⟩) (Kd.R_far (p := ⟨gb298, 0, none⟩) (Kd.R_types HO281.out BK298.out (by decide)) (fun _ hk => hk.2) (.int .i64 t293)) (fun _ hk => hk.2) (.slice Ao37 t294.length co37)) (fun _ h_ => h_.1))) hb); have n1_ := Aside0.mk (Kd.R_below (rq (Kd.R_mono (Kd.R_far (p := ⟨gb298, 1, none⟩) (Kd.R_far (p := ⟨gb298, 0, none⟩) (Kd.R_types HO285.out BK298.out (by decide)) (fun _ hk => hk.2) (.int .i64 t293)) (fun _ hk => hk.2) (.slice Ao37 t294.length co37)) (fun _ h_ => h_.1))) hb); have n2_ := Aside0.mk (Kd.R_below (rq (Kd.R_mono (Kd.R_far (p := ⟨gb298, 1, none⟩) (Kd.R_far (p := ⟨gb298, 0, none⟩) (Kd.R_types HO291.out BK298.out (by decide)) (fun _ hk => hk.2) (.int .i64 t293)) (fun _ hk => hk.2) (.slice Ao37 t294.length co37)) (fun _ h_ => h_.1))) hb); have n3_ := Aside0.mk (Kd.Q_below (by (with_reducible repeat (first | apply Kd.Q_alloc | apply Kd.Q_drewN | apply Kd.Q_drew)); exact (Kd.Q_mono (Kd.Q_far (p := ⟨gb298, 1, none⟩) (Kd.Q_far (p := ⟨gb298, 0, none⟩) (Kd.Q_types HO296.out BK298.out (by decide)) (fun _ hk => hk.2) (.int .i64 t293)) (fun _ hk => hk.2) (.slice Ao37 t294.length co37)) (fun _ h_ => h_.1))) hb); have n4_ := Aside0.mk (blk_below (g := gb276) (o := .cells #[.int .i64 a0_0, .slice A0_1 l0_1.length c0_1] 38 (0, 0)) (by (with_reducible repeat (first | refine blk_drewN ?_ _ | refine blk_drew ?_ | refine blk_alloc ?_ _)); refine blk_far ?_ NB276_298.out _; (with_reducible repeat (first | refine blk_drewN ?_ _ | refine blk_drew ?_ | refine blk_alloc ?_ _)); refine blk_far ?_ NB276_298.out _; (with_reducible repeat (first | refine blk_drewN ?_ _ | refine blk_drew ?_ | refine blk_alloc ?_ _)); exact BK276.out) hb); have n5_ := Aside0.mk (blk_below (g := gb287) (o := .cells #[.int .i64 t282, .slice Ao23 t283.length co23] 40 (0, 0)) (by (with_reducible repeat (first | refine blk_drewN ?_ _ | refine blk_drew ?_ | refine blk_alloc ?_ _)); refine blk_far ?_ NB287_298.out _; (with_reducible repeat (first | refine blk_drewN ?_ _ | refine blk_drew ?_ | refine blk_alloc ?_ _)); refine blk_far ?_ NB287_298.out _; (with_reducible repeat (first | refine blk_drewN ?_ _ | refine blk_drew ?_ | refine blk_alloc ?_ _)); exact BK287.out) hb); have n6_ := Aside0.mk (blk_below (g := gb292) (o := .cells #[.int .i64 t288, .slice Ao30 t289.length co30] 40 (0, 0)) (by (with_reducible repeat (first | refine blk_drewN ?_ _ | refine blk_drew ?_ | refine blk_alloc ?_ _)); refine blk_far ?_ NB292_298.out _; (with_reducible repeat (first | refine blk_drewN ?_ _ | refine blk_drew ?_ | refine blk_alloc ?_ _)); refine blk_far ?_ NB292_298.out _; (with_reducible repeat (first | refine blk_drewN ?_ _ | refine blk_drew ?_ | refine blk_alloc ?_ _)); exact BK292.out) hb); have n7_ := Aside0.mk (blk_below (g := gb298) (o := .cells #[.int .i64 t293, .slice Ao37 t294.length co37] 40 (0, 0)) (by (with_reducible repeat (first | refine blk_drewN ?_ _ | refine blk_drew ?_ | refine blk_alloc ?_ _)); refine blk_put (cs := #[.int .i64 t293, .slice none 0 0]) ?_ 1 _ rfl; (with_reducible repeat (first | refine blk_drewN ?_ _ | refine blk_drew ?_ | refine blk_alloc ?_ _)); refine blk_put (cs := #[.int .i64 0, .slice none 0 0]) ?_ 0 _ rfl; (with_reducible repeat (first | refine blk_drewN ?_ _ | refine blk_drew ?_ | refine blk_alloc ?_ _)); exact BK298.out) hb); have n8_ := Aside0.mk (below_step (by repeat (first | (with_reducible first | exact HB.out | apply below_alloc | apply pw_below_drewN | apply below_drew1 | refine below_set ?_ GE298.out) | exact HB.out)) hb); clear HO281; clear HO285; clear HO291; clear HO296; clear BK276; clear BK287; clear BK292; clear BK298; clear HB; have HO281 := n0_; have HO285 := n1_; have HO291 := n2_; have HO296 := n3_; have BK276 := n4_; have BK287 := n5_; have BK292 := n6_; have BK298 := n7_; have HB := n8_; clear n0_ n1_ n2_ n3_ n4_ n5_ n6_ n7_ n8_; (try clear hb); (try clear hb2); (try clear hk); (try clear hi)))
    go_meet
    case rel => exact ⟨_, (true), (by first | rfl | (simp; done) | (simp [*]; done)), H', ⟨by first | omega | exact Nat.le_refl _⟩, ⟨Kd.Q_of_R (by (with_reducible repeat (first | apply Kd.R_alloc | apply Kd.R_drewN | apply Kd.R_drew)); exact Kd.R_mono HO285.out (fun _ hk => ⟨hk.1.2, hk.2⟩))⟩, ⟨Kd.Q_of_R (by (with_reducible repeat (first | apply Kd.R_alloc | apply Kd.R_drewN | apply Kd.R_drew)); exact Kd.R_mono HO291.out (fun _ hk => ⟨hk.1.2, hk.2⟩))⟩, ⟨by (with_reducible repeat (first | apply Kd.Q_alloc | apply Kd.Q_drewN | apply Kd.Q_drew)); exact Kd.Q_mono HO296.out (fun _ hk => ⟨hk.1.2, hk.2⟩)⟩, ⟨by (with_reducible repeat (first | refine blk_drewN ?_ _ | refine blk_drew ?_ | refine blk_alloc ?_ _)); exact BK276.out⟩, ⟨by (with_reducible repeat (first | refine blk_drewN ?_ _ | refine blk_drew ?_ | refine blk_alloc ?_ _)); exact BK287.out⟩, ⟨by (with_reducible repeat (first | refine blk_drewN ?_ _ | refine blk_drew ?_ | refine blk_alloc ?_ _)); exact BK292.out⟩, ⟨by (with_reducible repeat (first | refine blk_drewN ?_ _ | refine blk_drew ?_ | refine blk_alloc ?_ _)); exact BK298.out⟩, ⟨by exact lq HB.out⟩⟩
  case rest =>
   clear HC12
   try clear c1
   try clear c2
   try clear p2
   try clear c3
   try clear c4
   try clear c4b0
   try clear c5
   try clear c15
   try clear c16
   try clear c17
   try clear c18
   try clear c19
   try clear c21
   try clear c27
   try clear c28
   try clear c33
   try clear c34
   try clear c35
   try clear c39
   try clear c40
   try clear c41
   try clear c42
   try clear c44
   try clear c45
   try clear c48
   try clear c49
   try clear c50
   try clear c52
   try clear c53
   try clear hcz14_0
   try clear hcz14_1
   try clear hcz16_0
   try clear hcz16_1
   try clear hcz22_0
   try clear hcz22_1
   try clear hcz24_0
   try clear hcz24_1
   try clear hcz29_0
   try clear hcz29_1
   try clear hcz36_0
   try clear hcz36_1
   try clear hcz43_0
   try clear hcz43_1
   try clear hcz46_0
   try clear hcz46_1
   try clear hcz51_0
   try clear hcz51_1
   try clear hcz54_0
   try clear hcz54_1
   try clear hcz6_0
   try clear hcz6_1
   try clear hfz14_0
   try clear hfz14_1
   try clear hfz16_0
   try clear hfz16_1
   try clear hfz22_0
   try clear hfz22_1
   try clear hfz24_0
   try clear hfz24_1
   try clear hfz29_0
   try clear hfz29_1
   try clear hfz36_0
   try clear hfz36_1
   try clear hfz43_0
   try clear hfz43_1
   try clear hfz46_0
   try clear hfz46_1
   try clear hfz51_0
   try clear hfz51_1
   try clear hfz54_0
   try clear hfz54_1
   try clear hfz6_0
   try clear hfz6_1
   obtain ⟨kq, x44_11, rfl, HA, HJ11, HO_288001, HO_293001, HO_299001, BK276, BK287, BK292, BK298, HB⟩ := hcut
   cases kq with
   | zero => exact absurd HA.out (by simp [laws_FnExactTlbUse.j0])
   | succ kj11 =>
    have H := HA.out
    clear HA
    simp only [laws_FnExactTlbUse.j0] at H
    by_cases c56 : x44_11 = true
    ·subst c56
     rw [if_pos rfl] at H
     exact absurd H (by simp)
    ·replace c56 := Bool.eq_false_iff.mpr c56
     subst c56
     rw [if_neg (show ¬ (false = true) by decide)] at H
     replace H := Option.bind_eq_some_iff.mp H
     obtain ⟨⟨t300, t301⟩, A570, H⟩ := H
     (try dsimp only at H)
     have A57 := Aside0.mk A570
     clear A570
     replace H := Option.bind_eq_some_iff.mp H
     obtain ⟨t304, A580, H⟩ := H
     (try dsimp only at H)
     have A58 := Aside0.mk A580
     clear A580
     by_cases c59 : t304 = true
     ·subst c59
      rw [if_pos rfl] at H
      replace H := Option.bind_eq_some_iff.mp H
      obtain ⟨⟨t305, t306⟩, A600, H⟩ := H
      (try dsimp only at H)
      have A60 := Aside0.mk A600
      clear A600
      have HC61 := Aside0.mk H
      clear H
      try go_wp2
      have n0_ := Aside0.mk (Kd.Q_drew HO_288001.out)
      have n1_ := Aside0.mk (Kd.Q_drew HO_293001.out)
      have n2_ := Aside0.mk (Kd.Q_drew HO_299001.out)
      have n3_ := Aside0.mk (blk_drew BK276.out)
      have n4_ := Aside0.mk (blk_drew BK287.out)
      have n5_ := Aside0.mk (blk_drew BK292.out)
      have n6_ := Aside0.mk (blk_drew BK298.out)
      have n7_ := Aside0.mk (below_drew1 HB.out)
      clear HO_288001
      clear HO_293001
      clear HO_299001
      clear BK276
      clear BK287
      clear BK292
      clear BK298
      clear HB
      have HO_288001 := n0_
      have HO_293001 := n1_
      have HO_299001 := n2_
      have BK276 := n3_
      have BK287 := n4_
      have BK292 := n5_
      have BK298 := n6_
      have HB := n7_
      clear n0_ n1_ n2_ n3_ n4_ n5_ n6_ n7_
      refine start_ (n := 5) (S := fun w' => w'.cell? ⟨gb292, 0, none⟩ = some (.int .i64 t288) ∧ w'.cell? ⟨gb292, 1, none⟩ = some (.slice Ao30 t289.length co30) ∧ w'.cell? ⟨gb276, 0, none⟩ = some (.int .i64 a0_0) ∧ w'.cell? ⟨gb276, 1, none⟩ = some (.slice A0_1 l0_1.length c0_1)) (ds := []) #[false, false, false, false, false] (by kernel_rfl) rfl rfl ⟨(blk_cell BK292.out 0).trans rfl, (blk_cell BK292.out 1).trans rfl, (blk_cell BK276.out 0).trans rfl, (blk_cell BK276.out 1).trans rfl⟩ (fun hHeld => ?_)
      generalize wc.drew = w62 at HO_288001 HO_293001 HO_299001 BK276 BK287 BK292 BK298 HB hHeld ⊢
      refine take_ (i := 0) (N := some 45) (v := ?_) (a' := ?_) #[true, false, false, false, false] rfl rfl (by kernel_rfl) (fun _ _ _ h => h) (Or.inl ⟨by rfl, ?_⟩) hHeld ?_ ?_
      rotate_left
      ·rintro w' ⟨s0, s1, s2, s3⟩
       go_simp
       with_reducible rfl
      rotate_left
      ·simp only [Act.put, List.setIfInBounds_toArray, List.set_cons_zero, List.set_cons_succ, i64_w, i32_w]
       rfl
      refine take_ (i := 1) (N := some 46) (v := ?_) (a' := ?_) #[true, true, false, false, false] rfl rfl (by kernel_rfl) (fun _ _ _ h => h) (Or.inl ⟨by rfl, ?_⟩) hHeld ?_ ?_
      rotate_left
      ·rintro w' ⟨s0, s1, s2, s3⟩
       go_simp
       with_reducible rfl
      rotate_left
      ·simp only [Act.put, List.setIfInBounds_toArray, List.set_cons_zero, List.set_cons_succ, i64_w, i32_w]
       rfl
      refine one_ (i := 2) (N := some 47) #[true, true, true, false, false] rfl rfl (by kernel_rfl) (by decide) (fun K hK => ?_)
      refine goes_ Try.func17 (by kernel_rfl) rfl #[.agg #[.int .i64 a0_0, .slice A0_1 l0_1.length c0_1]] (by rfl) rfl rfl (by (try simp only [List.map_toArray, List.map_cons, List.map_nil]); first | done | rfl | (simp only [List.length_drop, List.length_take]; rfl)) ?_
      with_reducible refine (laws_toTlb.calls kj11 a0_0 _ _ l0_1 t300 t301 _ ?side1 ?side2 A57.out).mono ?_
      (case side1 => repeat (first | exact (Kd.C_below HR0_1.out HB.out) | (with_reducible refine Kd.C_alloc ?_ _) | (with_reducible refine Kd.C_drewN ?_ _) | (with_reducible refine Kd.C_drew ?_)))
      (case side2 => exact HC0_1.out)
      rintro e w63 ⟨v302, rfl, ho0, hb⟩
      refine ⟨_, rfl, ?_⟩
      have n0_ := Aside0.mk (Kd.Q_elder' (by (with_reducible repeat (first | apply Kd.Q_alloc | apply Kd.Q_drewN | apply Kd.Q_drew)); exact HO_288001.out) (Kd.R_base ho0) hb)
      have n1_ := Aside0.mk (Kd.Q_elder' (by (with_reducible repeat (first | apply Kd.Q_alloc | apply Kd.Q_drewN | apply Kd.Q_drew)); exact HO_293001.out) (Kd.R_base ho0) hb)
      have n2_ := Aside0.mk (Kd.Q_elder' (by (with_reducible repeat (first | apply Kd.Q_alloc | apply Kd.Q_drewN | apply Kd.Q_drew)); exact HO_299001.out) (Kd.R_base ho0) hb)
      have n3_ := Aside0.mk (Kd.R_lower (Kd.R_new' (Kd.R_new' (Kd.R_new' ho0 (Kd.Q_lt (by (with_reducible repeat (first | apply Kd.Q_alloc | apply Kd.Q_drewN | apply Kd.Q_drew)); exact HO_288001.out))) (Kd.Q_lt (by (with_reducible repeat (first | apply Kd.Q_alloc | apply Kd.Q_drewN | apply Kd.Q_drew)); exact HO_293001.out))) (Kd.Q_lt (by (with_reducible repeat (first | apply Kd.Q_alloc | apply Kd.Q_drewN | apply Kd.Q_drew)); exact HO_299001.out))) (below_size (lq HB.out)))
      have n4_ := Aside0.mk (blk_below (bq BK276.out) hb)
      have n5_ := Aside0.mk (blk_below (bq BK287.out) hb)
      have n6_ := Aside0.mk (blk_below (bq BK292.out) hb)
      have n7_ := Aside0.mk (blk_below (bq BK298.out) hb)
      have n8_ := Aside0.mk (below_step (lq HB.out) hb)
      clear HO_288001
      clear HO_293001
      clear HO_299001
      clear BK276
      clear BK287
      clear BK292
      clear BK298
      clear HB
      have HO_288001 := n0_
      have HO_293001 := n1_
      have HO_299001 := n2_
      have HO303 := n3_
      have BK276 := n4_
      have BK287 := n5_
      have BK292 := n6_
      have BK298 := n7_
      have HB := n8_
      clear n0_ n1_ n2_ n3_ n4_ n5_ n6_ n7_ n8_
      (try clear hb)
      (try clear hb2)
      (try clear hk)
      (try clear hi)
      (try clear ho0)
      obtain ⟨Ao64, co64, eo64⟩ := Kd.R_slice HO303.out
      (first | subst eo64 | (injection eo64 with f1_ f2_ f3_; have f4_ := f1_.symm; have f5_ := f3_.symm; clear f1_ f2_ f3_; subst f4_; subst f5_))
      refine hK.out _ _ ⟨(blk_cell BK292.out 0).trans rfl, (blk_cell BK292.out 1).trans rfl, (blk_cell BK276.out 0).trans rfl, (blk_cell BK276.out 1).trans rfl⟩ (fun hHeld => ?_)
      clear hK K
      refine norm_ (a' := ?_) ?_ ?_
      rotate_left
      ·show Act.put _ (some 47) _ = _
       simp only [Act.put, List.setIfInBounds_toArray, List.set_cons_zero, List.set_cons_succ, i64_w, i32_w]
       rfl
      refine one_ (i := 3) (N := some 48) #[true, true, true, true, false] rfl rfl (by kernel_rfl) (by decide) (fun K hK => ?_)
      refine goes_ Try.func19 (by kernel_rfl) rfl #[.agg #[.int .i64 t288, .slice Ao30 t289.length co30], .agg #[.int .i64 t300, .slice Ao64 t301.length co64]] (by rfl) rfl rfl (by (try simp only [List.map_toArray, List.map_cons, List.map_nil]); first | done | rfl | (simp only [List.length_drop, List.length_take]; rfl)) ?_
      with_reducible refine (laws_eqTlb.calls kj11 t288 _ _ t289 t300 _ _ t301 true _ ?side1 ?side2 ?side3 ?side4 A58.out).mono ?_
      (case side1 => repeat (first | exact (Kd.Q_reads' HO_293001.out).2.2 | (with_reducible refine Kd.C_alloc ?_ _) | (with_reducible refine Kd.C_drewN ?_ _) | (with_reducible refine Kd.C_drew ?_)))
      (case side2 => exact (Kd.Q_reads' HO_293001.out).2.1)
      (case side3 => repeat (first | exact (Kd.R_reads' HO303.out).2.2 | (with_reducible refine Kd.C_alloc ?_ _) | (with_reducible refine Kd.C_drewN ?_ _) | (with_reducible refine Kd.C_drew ?_)))
      (case side4 => exact (Kd.R_reads' HO303.out).2.1)
      rintro e w65 ⟨rfl, hb⟩
      refine ⟨_, rfl, ?_⟩
      have n0_ := Aside0.mk (Kd.Q_below (by (with_reducible repeat (first | apply Kd.Q_alloc | apply Kd.Q_drewN | apply Kd.Q_drew)); exact HO_288001.out) hb)
      have n1_ := Aside0.mk (Kd.Q_below (by (with_reducible repeat (first | apply Kd.Q_alloc | apply Kd.Q_drewN | apply Kd.Q_drew)); exact HO_293001.out) hb)
      have n2_ := Aside0.mk (Kd.Q_below (by (with_reducible repeat (first | apply Kd.Q_alloc | apply Kd.Q_drewN | apply Kd.Q_drew)); exact HO_299001.out) hb)
      have n3_ := Aside0.mk (Kd.R_below (rq HO303.out) hb)
      have n4_ := Aside0.mk (blk_below (bq BK276.out) hb)
      have n5_ := Aside0.mk (blk_below (bq BK287.out) hb)
      have n6_ := Aside0.mk (blk_below (bq BK292.out) hb)
      have n7_ := Aside0.mk (blk_below (bq BK298.out) hb)
      have n8_ := Aside0.mk (below_step (lq HB.out) hb)
      clear HO_288001
      clear HO_293001
      clear HO_299001
      clear HO303
      clear BK276
      clear BK287
      clear BK292
      clear BK298
      clear HB
      have HO_288001 := n0_
      have HO_293001 := n1_
      have HO_299001 := n2_
      have HO303 := n3_
      have BK276 := n4_
      have BK287 := n5_
      have BK292 := n6_
      have BK298 := n7_
      have HB := n8_
      clear n0_ n1_ n2_ n3_ n4_ n5_ n6_ n7_ n8_
      (try clear hb)
      (try clear hb2)
      (try clear hk)
      (try clear hi)
      refine hK.out _ _ ⟨(blk_cell BK292.out 0).trans rfl, (blk_cell BK292.out 1).trans rfl, (blk_cell BK276.out 0).trans rfl, (blk_cell BK276.out 1).trans rfl⟩ (fun hHeld => ?_)
      clear hK K
      refine norm_ (a' := ?_) ?_ ?_
      rotate_left
      ·show Act.put _ (some 48) _ = _
       simp only [Act.put, List.setIfInBounds_toArray, List.set_cons_zero, List.set_cons_succ, i64_w, i32_w]
       rfl
      refine pure_ (i := 4) (N := some 49) (v := ?_) (a' := ?_) #[true, true, true, true, true] rfl rfl (by kernel_rfl) (fun _ _ _ h => h) (Or.inl ⟨by rfl, ?_⟩) ?_ ?_
      rotate_left
      ·intro w'
       go_simp
       with_reducible rfl
      rotate_left
      ·simp only [Act.put, List.setIfInBounds_toArray, List.set_cons_zero, List.set_cons_succ, i64_w, i32_w]
       rfl
      refine done_ (by kernel_rfl) ?_
      have hnb66 := NB292_276.out
      have hnc66 := NB276_292.out
      have hnb67 := NB292_287.out
      have hnc67 := NB287_292.out
      have hnb68 := NB292_298.out
      have hnc68 := NB298_292.out
      have hcz69_0 : w65.cell? ⟨gb292, 0, none⟩ = some (.int .i64 t288) := (blk_cell BK292.out 0).trans rfl
      have hcz69_1 : w65.cell? ⟨gb292, 1, none⟩ = some (.slice Ao30 t289.length co30) := (blk_cell BK292.out 1).trans rfl
      have hfz69_0 := blk_frozen BK292.out 0
      have hfz69_1 := blk_frozen BK292.out 1
      go_upto_region 14 with (first | ((with_reducible refine gate_callee (f := 20) rfl ?_); refine goesL_ (some 52) rfl rfl Try.func20 (by kernel_rfl) rfl #[.agg #[.int .i64 t288, .slice Ao30 t289.length co30], .int .i64 1] rfl (by (try simp only [List.map_toArray, List.map_cons, List.map_nil]); first | done | rfl | (simp only [List.length_drop, List.length_take]; rfl)) ?_; (with_reducible refine (laws_markTlb.callsQ kj11 t288 (fun k_ => some k_ = (.slice Ao30 t289.length co30 : Value).ownBlock) (.slice Ao30 t289.length co30) t289 1 t305 t306 w _ ?side1 ?side2 A60.out).mono ?_); (case side1 => exact lq HB.out); (case side2 => exact Kd.Q_tight rfl HO_293001.out); rintro e w70 ⟨rfl, hy0, hb, hkp⟩; refine ⟨_, rfl, ?_⟩; have n0_ := Aside0.mk (Kd.Q_mono (ok' := fun k_ => some k_ ≠ (.slice Ao30 t289.length co30 : Value).ownBlock ∧ some k_ ≠ (.slice Ao37 t294.length co37 : Value).ownBlock ∧ some k_ ≠ (.slice Ao64 t301.length co64 : Value).ownBlock) (Kd.Q_keptB (HO_288001.out) hkp (fun k_ hk_ hs_ => (hk_.1.1) hs_)) (fun k_ hk_ => ⟨hk_.1.1.1, hk_.1.1.2, hk_.1.2⟩)); have n1_ := Aside0.mk (Kd.Q_reok rfl hy0 (fun k_ e_ => HO_293001.out.1 k_ e_)); have n2_ := Aside0.mk (Kd.Q_mono (ok' := fun k_ => some k_ ≠ (.slice Ao23 t283.length co23 : Value).ownBlock ∧ some k_ ≠ (.slice Ao30 t289.length co30 : Value).ownBlock ∧ some k_ ≠ (.slice Ao64 t301.length co64 : Value).ownBlock) (Kd.Q_keptB (HO_299001.out) hkp (fun k_ hk_ hs_ => (hk_.1.2) hs_)) (fun k_ hk_ => ⟨hk_.1.1.1, hk_.1.1.2, hk_.1.2⟩)); have n3_ := Aside0.mk (blk_kept (bq BK276.out) hkp (fun hs_ => (fun e_ => (Kd.Q_ne HO_293001.out BK276.out (by decide)) e_) hs_)); have n4_ := Aside0.mk (blk_kept (bq BK287.out) hkp (fun hs_ => (fun e_ => (Kd.Q_ne HO_293001.out BK287.out (by decide)) e_) hs_)); have n5_ := Aside0.mk (blk_kept (bq BK292.out) hkp (fun hs_ => (fun e_ => (Kd.Q_ne HO_293001.out BK292.out (by decide)) e_) hs_)); have n6_ := Aside0.mk (blk_kept (bq BK298.out) hkp (fun hs_ => (fun e_ => (Kd.Q_ne HO_293001.out BK298.out (by decide)) e_) hs_)); have n7_ := Aside0.mk (Kd.R_mono (ok' := fun k_ => some k_ ≠ (.slice Ao23 t283.length co23 : Value).ownBlock ∧ some k_ ≠ (.slice Ao30 t289.length co30 : Value).ownBlock ∧ some k_ ≠ (.slice Ao37 t294.length co37 : Value).ownBlock) (Kd.R_keptB (HO303.out) hkp (fun k_ hk_ hs_ => (hk_.1.2) hs_)) (fun k_ hk_ => ⟨hk_.1.1.1.2, hk_.1.1.2, hk_.1.2⟩)); have n8_ := Aside0.mk (hb); clear HO_288001; clear HO_293001; clear HO_299001; clear BK276; clear BK287; clear BK292; clear BK298; clear HO303; clear HB; have HO_288001 := n0_; have HO_293001 := n1_; have HO_299001 := n2_; have BK276 := n3_; have BK287 := n4_; have BK292 := n5_; have BK298 := n6_; have HO303 := n7_; have HB := n8_; clear n0_ n1_ n2_ n3_ n4_ n5_ n6_ n7_ n8_; (try clear hb); (try clear hkp); (try clear hy0)))
      (try simp only [Act.put, List.setIfInBounds_toArray, List.set_cons_zero, List.set_cons_succ])
      go_cut [65] (fun v65 wc => ∃ (kq : Nat) (x65_60 : Bool), v65 = .bool x65_60 ∧ Aside0 (laws_FnExactTlbUse.j1 kq a1 t286 x65_60 a0_0 l0_1 t282 t283 t293 t294 = some true) ∧ Aside0 (kq ≤ kj11) ∧ Aside0 (Kd.Q (Kd.int .i64) 3 wc w.heap.size (fun k_ => some k_ ≠ ((.slice Ao30 t289.length co30) : Value).ownBlock ∧ some k_ ≠ ((.slice Ao37 t294.length co37) : Value).ownBlock) (.slice Ao23 t283.length co23) t283) ∧ Aside0 (Kd.Q (Kd.int .i64) 3 wc w.heap.size (fun k_ => some k_ ≠ ((.slice Ao23 t283.length co23) : Value).ownBlock ∧ some k_ ≠ ((.slice Ao37 t294.length co37) : Value).ownBlock) (.slice Ao30 t289.length co30) t306) ∧ Aside0 (Kd.Q (Kd.int .i64) 3 wc w.heap.size (fun k_ => some k_ ≠ ((.slice Ao23 t283.length co23) : Value).ownBlock ∧ some k_ ≠ ((.slice Ao30 t289.length co30) : Value).ownBlock) (.slice Ao37 t294.length co37) t294) ∧ Aside0 (wc.heap[gb276]? = some (.cells #[.int .i64 a0_0, (.slice A0_1 l0_1.length c0_1)] 38 (0, 0))) ∧ Aside0 (wc.heap[gb287]? = some (.cells #[.int .i64 t282, (.slice Ao23 t283.length co23)] 40 (0, 0))) ∧ Aside0 (wc.heap[gb292]? = some (.cells #[.int .i64 t288, (.slice Ao30 t289.length co30)] 40 (0, 0))) ∧ Aside0 (wc.heap[gb298]? = some (.cells #[.int .i64 t293, (.slice Ao37 t294.length co37)] 40 (0, 0))) ∧ Aside0 (Below w.heap.size w wc))
      case first =>
       have H := HC61.out
       clear HC61
       by_cases c71 : t305 < 0
       ·rw [if_pos c71] at H
        have c71b0 : decide (t305 < 0) = true := decide_eq_true c71
        clear c71
        (first | rw [c71b0] | (simp only [i64_w, i32_w]; rw [c71b0]) | skip)
        have H' := Aside0.mk H
        clear H
        go_wp2
        go_meet
        case rel => exact ⟨_, (true), (by first | rfl | (simp; done) | (simp [*]; done)), H', ⟨by have := HJ11.out; first | omega | exact Nat.le_refl _⟩, ⟨by (with_reducible repeat (first | apply Kd.Q_alloc | apply Kd.Q_drewN | apply Kd.Q_drew)); exact Kd.Q_mono HO_288001.out (fun _ hk => ⟨hk.1, hk.2.1⟩)⟩, ⟨by (with_reducible repeat (first | apply Kd.Q_alloc | apply Kd.Q_drewN | apply Kd.Q_drew)); exact Kd.Q_mono HO_293001.out (fun _ hk => ⟨hk.1.1, hk.1.2⟩)⟩, ⟨by (with_reducible repeat (first | apply Kd.Q_alloc | apply Kd.Q_drewN | apply Kd.Q_drew)); exact Kd.Q_mono HO_299001.out (fun _ hk => ⟨hk.1, hk.2.1⟩)⟩, ⟨by (with_reducible repeat (first | refine blk_drewN ?_ _ | refine blk_drew ?_ | refine blk_alloc ?_ _)); exact BK276.out⟩, ⟨by (with_reducible repeat (first | refine blk_drewN ?_ _ | refine blk_drew ?_ | refine blk_alloc ?_ _)); exact BK287.out⟩, ⟨by (with_reducible repeat (first | refine blk_drewN ?_ _ | refine blk_drew ?_ | refine blk_alloc ?_ _)); exact BK292.out⟩, ⟨by (with_reducible repeat (first | refine blk_drewN ?_ _ | refine blk_drew ?_ | refine blk_alloc ?_ _)); exact BK298.out⟩, ⟨by exact lq HB.out⟩⟩
       ·rw [if_neg c71] at H
        have c71b0 : decide (t305 < 0) = false := decide_eq_false c71
        clear c71
        (first | rw [c71b0] | (simp only [i64_w, i32_w]; rw [c71b0]) | skip)
        replace H := Option.bind_eq_some_iff.mp H
        obtain ⟨t307, A720, H⟩ := H
        (try dsimp only at H)
        have A72 := Aside0.mk A720
        clear A720
        by_cases c73 : t307 = true
        ·subst c73
         rw [if_pos rfl] at H
         have H' := Aside0.mk H
         clear H
         have hnb74 := NB298_276.out
         have hnc74 := NB276_298.out
         have hnb75 := NB298_287.out
         have hnc75 := NB287_298.out
         have hnb76 := NB298_292.out
         have hnc76 := NB292_298.out
         have hcz77_0 : w70.cell? ⟨gb298, 0, none⟩ = some (.int .i64 t293) := (blk_cell BK298.out 0).trans rfl
         have hcz77_1 : w70.cell? ⟨gb298, 1, none⟩ = some (.slice Ao37 t294.length co37) := (blk_cell BK298.out 1).trans rfl
         have hfz77_0 := blk_frozen BK298.out 0
         have hfz77_1 := blk_frozen BK298.out 1
         have hnb78 := NB287_276.out
         have hnc78 := NB276_287.out
         have hnb79 := NB287_292.out
         have hnc79 := NB292_287.out
         have hcz80_0 : w70.cell? ⟨gb287, 0, none⟩ = some (.int .i64 t282) := (blk_cell BK287.out 0).trans rfl
         have hcz80_1 : w70.cell? ⟨gb287, 1, none⟩ = some (.slice Ao23 t283.length co23) := (blk_cell BK287.out 1).trans rfl
         have hfz80_0 := blk_frozen BK287.out 0
         have hfz80_1 := blk_frozen BK287.out 1
         go_wp2_with (first | (go_at_call 19; (with_reducible refine (laws_eqTlb.calls kj11 t293 _ _ t294 t282 _ _ t283 true _ ?side1 ?side2 ?side3 ?side4 A72.out).mono ?_); (case side1 => repeat (first | exact (Kd.Q_reads' HO_299001.out).2.2 | (with_reducible refine Kd.C_alloc ?_ _) | (with_reducible refine Kd.C_drewN ?_ _) | (with_reducible refine Kd.C_drew ?_))); (case side2 => exact (Kd.Q_reads' HO_299001.out).2.1); (case side3 => repeat (first | exact (Kd.Q_reads' HO_288001.out).2.2 | (with_reducible refine Kd.C_alloc ?_ _) | (with_reducible refine Kd.C_drewN ?_ _) | (with_reducible refine Kd.C_drew ?_))); (case side4 => exact (Kd.Q_reads' HO_288001.out).2.1); rintro e w81 ⟨rfl, hb⟩; have n0_ := Aside0.mk (Kd.Q_below (by (with_reducible repeat (first | apply Kd.Q_alloc | apply Kd.Q_drewN | apply Kd.Q_drew)); exact HO_288001.out) hb); have n1_ := Aside0.mk (Kd.Q_below (by (with_reducible repeat (first | apply Kd.Q_alloc | apply Kd.Q_drewN | apply Kd.Q_drew)); exact HO_293001.out) hb); have n2_ := Aside0.mk (Kd.Q_below (by (with_reducible repeat (first | apply Kd.Q_alloc | apply Kd.Q_drewN | apply Kd.Q_drew)); exact HO_299001.out) hb); have n3_ := Aside0.mk (Kd.R_below (rq HO303.out) hb); have n4_ := Aside0.mk (blk_below (bq BK276.out) hb); have n5_ := Aside0.mk (blk_below (bq BK287.out) hb); have n6_ := Aside0.mk (blk_below (bq BK292.out) hb); have n7_ := Aside0.mk (blk_below (bq BK298.out) hb); have n8_ := Aside0.mk (below_step (lq HB.out) hb); clear HO_288001; clear HO_293001; clear HO_299001; clear HO303; clear BK276; clear BK287; clear BK292; clear BK298; clear HB; have HO_288001 := n0_; have HO_293001 := n1_; have HO_299001 := n2_; have HO303 := n3_; have BK276 := n4_; have BK287 := n5_; have BK292 := n6_; have BK298 := n7_; have HB := n8_; clear n0_ n1_ n2_ n3_ n4_ n5_ n6_ n7_ n8_; (try clear hb); (try clear hb2); (try clear hk); (try clear hi)))
         go_meet
         case rel => exact ⟨_, ((t297 != t286)), (by first | rfl | (simp; done) | (simp [*]; done)), H', ⟨by have := HJ11.out; first | omega | exact Nat.le_refl _⟩, ⟨by (with_reducible repeat (first | apply Kd.Q_alloc | apply Kd.Q_drewN | apply Kd.Q_drew)); exact Kd.Q_mono HO_288001.out (fun _ hk => ⟨hk.1, hk.2.1⟩)⟩, ⟨by (with_reducible repeat (first | apply Kd.Q_alloc | apply Kd.Q_drewN | apply Kd.Q_drew)); exact Kd.Q_mono HO_293001.out (fun _ hk => ⟨hk.1.1, hk.1.2⟩)⟩, ⟨by (with_reducible repeat (first | apply Kd.Q_alloc | apply Kd.Q_drewN | apply Kd.Q_drew)); exact Kd.Q_mono HO_299001.out (fun _ hk => ⟨hk.1, hk.2.1⟩)⟩, ⟨by (with_reducible repeat (first | refine blk_drewN ?_ _ | refine blk_drew ?_ | refine blk_alloc ?_ _)); exact BK276.out⟩, ⟨by (with_reducible repeat (first | refine blk_drewN ?_ _ | refine blk_drew ?_ | refine blk_alloc ?_ _)); exact BK287.out⟩, ⟨by (with_reducible repeat (first | refine blk_drewN ?_ _ | refine blk_drew ?_ | refine blk_alloc ?_ _)); exact BK292.out⟩, ⟨by (with_reducible repeat (first | refine blk_drewN ?_ _ | refine blk_drew ?_ | refine blk_alloc ?_ _)); exact BK298.out⟩, ⟨by exact lq HB.out⟩⟩
        ·replace c73 := Bool.eq_false_iff.mpr c73
         subst c73
         rw [if_neg (show ¬ (false = true) by decide)] at H
         have H' := Aside0.mk H
         clear H
         have hnb82 := NB298_276.out
         have hnc82 := NB276_298.out
         have hnb83 := NB298_287.out
         have hnc83 := NB287_298.out
         have hnb84 := NB298_292.out
         have hnc84 := NB292_298.out
         have hcz85_0 : w70.cell? ⟨gb298, 0, none⟩ = some (.int .i64 t293) := (blk_cell BK298.out 0).trans rfl
         have hcz85_1 : w70.cell? ⟨gb298, 1, none⟩ = some (.slice Ao37 t294.length co37) := (blk_cell BK298.out 1).trans rfl
         have hfz85_0 := blk_frozen BK298.out 0
         have hfz85_1 := blk_frozen BK298.out 1
         have hnb86 := NB287_276.out
         have hnc86 := NB276_287.out
         have hnb87 := NB287_292.out
         have hnc87 := NB292_287.out
         have hcz88_0 : w70.cell? ⟨gb287, 0, none⟩ = some (.int .i64 t282) := (blk_cell BK287.out 0).trans rfl
         have hcz88_1 : w70.cell? ⟨gb287, 1, none⟩ = some (.slice Ao23 t283.length co23) := (blk_cell BK287.out 1).trans rfl
         have hfz88_0 := blk_frozen BK287.out 0
         have hfz88_1 := blk_frozen BK287.out 1
         go_wp2_with (first | (go_at_call 19; (with_reducible refine (laws_eqTlb.calls kj11 t293 _ _ t294 t282 _ _ t283 false _ ?side1 ?side2 ?side3 ?side4 A72.out).mono ?_); (case side1 => repeat (first | exact (Kd.Q_reads' HO_299001.out).2.2 | (with_reducible refine Kd.C_alloc ?_ _) | (with_reducible refine Kd.C_drewN ?_ _) | (with_reducible refine Kd.C_drew ?_))); (case side2 => exact (Kd.Q_reads' HO_299001.out).2.1); (case side3 => repeat (first | exact (Kd.Q_reads' HO_288001.out).2.2 | (with_reducible refine Kd.C_alloc ?_ _) | (with_reducible refine Kd.C_drewN ?_ _) | (with_reducible refine Kd.C_drew ?_))); (case side4 => exact (Kd.Q_reads' HO_288001.out).2.1); rintro e w89 ⟨rfl, hb⟩; have n0_ := Aside0.mk (Kd.Q_below (by (with_reducible repeat (first | apply Kd.Q_alloc | apply Kd.Q_drewN | apply Kd.Q_drew)); exact HO_288001.out) hb); have n1_ := Aside0.mk (Kd.Q_below (by (with_reducible repeat (first | apply Kd.Q_alloc | apply Kd.Q_drewN | apply Kd.Q_drew)); exact HO_293001.out) hb); have n2_ := Aside0.mk (Kd.Q_below (by (with_reducible repeat (first | apply Kd.Q_alloc | apply Kd.Q_drewN | apply Kd.Q_drew)); exact HO_299001.out) hb); have n3_ := Aside0.mk (Kd.R_below (rq HO303.out) hb); have n4_ := Aside0.mk (blk_below (bq BK276.out) hb); have n5_ := Aside0.mk (blk_below (bq BK287.out) hb); have n6_ := Aside0.mk (blk_below (bq BK292.out) hb); have n7_ := Aside0.mk (blk_below (bq BK298.out) hb); have n8_ := Aside0.mk (below_step (lq HB.out) hb); clear HO_288001; clear HO_293001; clear HO_299001; clear HO303; clear BK276; clear BK287; clear BK292; clear BK298; clear HB; have HO_288001 := n0_; have HO_293001 := n1_; have HO_299001 := n2_; have HO303 := n3_; have BK276 := n4_; have BK287 := n5_; have BK292 := n6_; have BK298 := n7_; have HB := n8_; clear n0_ n1_ n2_ n3_ n4_ n5_ n6_ n7_ n8_; (try clear hb); (try clear hb2); (try clear hk); (try clear hi)))
         go_meet
         case rel => exact ⟨_, (true), (by first | rfl | (simp; done) | (simp [*]; done)), H', ⟨by have := HJ11.out; first | omega | exact Nat.le_refl _⟩, ⟨by (with_reducible repeat (first | apply Kd.Q_alloc | apply Kd.Q_drewN | apply Kd.Q_drew)); exact Kd.Q_mono HO_288001.out (fun _ hk => ⟨hk.1, hk.2.1⟩)⟩, ⟨by (with_reducible repeat (first | apply Kd.Q_alloc | apply Kd.Q_drewN | apply Kd.Q_drew)); exact Kd.Q_mono HO_293001.out (fun _ hk => ⟨hk.1.1, hk.1.2⟩)⟩, ⟨by (with_reducible repeat (first | apply Kd.Q_alloc | apply Kd.Q_drewN | apply Kd.Q_drew)); exact Kd.Q_mono HO_299001.out (fun _ hk => ⟨hk.1, hk.2.1⟩)⟩, ⟨by (with_reducible repeat (first | refine blk_drewN ?_ _ | refine blk_drew ?_ | refine blk_alloc ?_ _)); exact BK276.out⟩, ⟨by (with_reducible repeat (first | refine blk_drewN ?_ _ | refine blk_drew ?_ | refine blk_alloc ?_ _)); exact BK287.out⟩, ⟨by (with_reducible repeat (first | refine blk_drewN ?_ _ | refine blk_drew ?_ | refine blk_alloc ?_ _)); exact BK292.out⟩, ⟨by (with_reducible repeat (first | refine blk_drewN ?_ _ | refine blk_drew ?_ | refine blk_alloc ?_ _)); exact BK298.out⟩, ⟨by exact lq HB.out⟩⟩
      case rest =>
       clear HC61
       try clear c1
       try clear c2
       try clear p2
       try clear c3
       try clear c4
       try clear c4b0
       try clear c5
       try clear c6
       try clear c7
       try clear c8
       try clear c15
       try clear c16
       try clear c17
       try clear c18
       try clear c19
       try clear c20
       try clear c21
       try clear c27
       try clear c28
       try clear c33
       try clear c34
       try clear c35
       try clear c39
       try clear c40
       try clear c41
       try clear c42
       try clear c44
       try clear c45
       try clear c48
       try clear c49
       try clear c50
       try clear c52
       try clear c53
       try clear c56
       try clear c59
       try clear c66
       try clear c67
       try clear c68
       try clear c71
       try clear c71b0
       try clear c73
       try clear c74
       try clear c75
       try clear c76
       try clear c78
       try clear c79
       try clear c82
       try clear c83
       try clear c84
       try clear c86
       try clear c87
       try clear hcz14_0
       try clear hcz14_1
       try clear hcz16_0
       try clear hcz16_1
       try clear hcz22_0
       try clear hcz22_1
       try clear hcz24_0
       try clear hcz24_1
       try clear hcz29_0
       try clear hcz29_1
       try clear hcz36_0
       try clear hcz36_1
       try clear hcz43_0
       try clear hcz43_1
       try clear hcz46_0
       try clear hcz46_1
       try clear hcz51_0
       try clear hcz51_1
       try clear hcz54_0
       try clear hcz54_1
       try clear hcz69_0
       try clear hcz69_1
       try clear hcz6_0
       try clear hcz6_1
       try clear hcz77_0
       try clear hcz77_1
       try clear hcz80_0
       try clear hcz80_1
       try clear hcz85_0
       try clear hcz85_1
       try clear hcz88_0
       try clear hcz88_1
       try clear hfz14_0
       try clear hfz14_1
       try clear hfz16_0
       try clear hfz16_1
       try clear hfz22_0
       try clear hfz22_1
       try clear hfz24_0
       try clear hfz24_1
       try clear hfz29_0
       try clear hfz29_1
       try clear hfz36_0
       try clear hfz36_1
       try clear hfz43_0
       try clear hfz43_1
       try clear hfz46_0
       try clear hfz46_1
       try clear hfz51_0
       try clear hfz51_1
       try clear hfz54_0
       try clear hfz54_1
       try clear hfz69_0
       try clear hfz69_1
       try clear hfz6_0
       try clear hfz6_1
       try clear hfz77_0
       try clear hfz77_1
       try clear hfz80_0
       try clear hfz80_1
       try clear hfz85_0
       try clear hfz85_1
       try clear hfz88_0
       try clear hfz88_1
       try clear p2
       obtain ⟨kq, x65_60, rfl, HA, HJ60, HO_288001, HO_293001, HO_299001, BK276, BK287, BK292, BK298, HB⟩ := hcut
       have hl293001_60 := (Kd.Q_reads' HO_293001.out).1
       rw [hl293001_60] at HO_293001
       (try simp only [hl293001_60])
       (try simp only [hl293001_60] at BK276)
       (try simp only [hl293001_60] at BK287)
       (try simp only [hl293001_60] at BK292)
       (try simp only [hl293001_60] at BK298)
       (try simp only [hl293001_60] at HO_288001)
       (try simp only [hl293001_60] at HO_299001)
       cases kq with
       | zero => exact absurd HA.out (by simp [laws_FnExactTlbUse.j1])
       | succ kj60 =>
        have H := HA.out
        clear HA
        simp only [laws_FnExactTlbUse.j1] at H
        by_cases c90 : x65_60 = true
        ·subst c90
         rw [if_pos rfl] at H
         exact absurd H (by simp)
        ·replace c90 := Bool.eq_false_iff.mpr c90
         subst c90
         rw [if_neg (show ¬ (false = true) by decide)] at H
         replace H := Option.bind_eq_some_iff.mp H
         obtain ⟨⟨t308, t309⟩, A910, H⟩ := H
         (try dsimp only at H)
         have A91 := Aside0.mk A910
         clear A910
         replace H := Option.bind_eq_some_iff.mp H
         obtain ⟨t310, A920, H⟩ := H
         (try dsimp only at H)
         have A92 := Aside0.mk A920
         clear A920
         by_cases c93 : t310 < 0
         ·rw [if_pos c93] at H
          have c93b0 : decide (t310 < 0) = true := decide_eq_true c93
          clear c93
          exact absurd H (by simp)
         ·rw [if_neg c93] at H
          have c93b0 : decide (t310 < 0) = false := decide_eq_false c93
          clear c93
          by_cases c94 : t310 = t308
          ·rw [if_pos c94] at H
           have c94b0 : (t310 == t308) = true := beq_iff_eq.mpr c94
           have c94b1 : (t310 != t308) = false := bne_eq_false_iff_eq.mpr c94
           clear c94
           replace H := Option.bind_eq_some_iff.mp H
           obtain ⟨⟨t311, t312⟩, A950, H⟩ := H
           (try dsimp only at H)
           have A95 := Aside0.mk A950
           clear A950
           replace H := Option.bind_eq_some_iff.mp H
           obtain ⟨⟨t315, t316, t319⟩, A960, H⟩ := H
           (try dsimp only at H)
           have A96 := Aside0.mk A960
           clear A960
           have HC97 := Aside0.mk H
           clear H
           have hnb98 := NB298_276.out
           have hnc98 := NB276_298.out
           have hnb99 := NB298_287.out
           have hnc99 := NB287_298.out
           have hnb100 := NB298_292.out
           have hnc100 := NB292_298.out
           have hcz101_0 : wc.cell? ⟨gb298, 0, none⟩ = some (.int .i64 t293) := (blk_cell BK298.out 0).trans rfl
           have hcz101_1 : wc.cell? ⟨gb298, 1, none⟩ = some (.slice Ao37 t294.length co37) := (blk_cell BK298.out 1).trans rfl
           have hfz101_0 := blk_frozen BK298.out 0
           have hfz101_1 := blk_frozen BK298.out 1
           go_upto_region 25 with (first | ((with_reducible refine gate_callee (f := 20) rfl ?_); refine goesL_ (some 68) rfl rfl Try.func20 (by kernel_rfl) rfl #[.agg #[.int .i64 t293, .slice Ao37 t294.length co37], .int .i64 1] rfl (by (try simp only [List.map_toArray, List.map_cons, List.map_nil]); first | done | rfl | (simp only [List.length_drop, List.length_take]; rfl)) ?_; (with_reducible refine (laws_markTlb.callsQ kj60 t293 (fun k_ => some k_ = (.slice Ao37 t294.length co37 : Value).ownBlock) (.slice Ao37 t294.length co37) t294 1 t308 t309 w _ ?side1 ?side2 A91.out).mono ?_); (case side1 => exact lq HB.out); (case side2 => exact Kd.Q_tight rfl HO_299001.out); rintro e w102 ⟨rfl, hy0, hb, hkp⟩; refine ⟨_, rfl, ?_⟩; have n0_ := Aside0.mk (Kd.Q_mono (ok' := fun k_ => some k_ ≠ (.slice Ao30 t306.length co30 : Value).ownBlock ∧ some k_ ≠ (.slice Ao37 t294.length co37 : Value).ownBlock) (Kd.Q_keptB (HO_288001.out) hkp (fun k_ hk_ hs_ => (hk_.2) hs_)) (fun k_ hk_ => ⟨hk_.1.1, hk_.1.2⟩)); have n1_ := Aside0.mk (Kd.Q_mono (ok' := fun k_ => some k_ ≠ (.slice Ao23 t283.length co23 : Value).ownBlock ∧ some k_ ≠ (.slice Ao37 t294.length co37 : Value).ownBlock) (Kd.Q_keptB (HO_293001.out) hkp (fun k_ hk_ hs_ => (hk_.2) hs_)) (fun k_ hk_ => ⟨hk_.1.1, hk_.1.2⟩)); have n2_ := Aside0.mk (Kd.Q_reok rfl hy0 (fun k_ e_ => HO_299001.out.1 k_ e_)); have n3_ := Aside0.mk (blk_kept (bq BK276.out) hkp (fun hs_ => (fun e_ => (Kd.Q_ne HO_299001.out BK276.out (by decide)) e_) hs_)); have n4_ := Aside0.mk (blk_kept (bq BK287.out) hkp (fun hs_ => (fun e_ => (Kd.Q_ne HO_299001.out BK287.out (by decide)) e_) hs_)); have n5_ := Aside0.mk (blk_kept (bq BK292.out) hkp (fun hs_ => (fun e_ => (Kd.Q_ne HO_299001.out BK292.out (by decide)) e_) hs_)); have n6_ := Aside0.mk (blk_kept (bq BK298.out) hkp (fun hs_ => (fun e_ => (Kd.Q_ne HO_299001.out BK298.out (by decide)) e_) hs_)); have n7_ := Aside0.mk (hb); clear HO_288001; clear HO_293001; clear HO_299001; clear BK276; clear BK287; clear BK292; clear BK298; clear HB; have HO_288001 := n0_; have HO_293001 := n1_; have HO_299001 := n2_; have BK276 := n3_; have BK287 := n4_; have BK292 := n5_; have BK298 := n6_; have HB := n7_; clear n0_ n1_ n2_ n3_ n4_ n5_ n6_ n7_; (try clear hb); (try clear hkp); (try clear hy0); have hcz103_0 : w102.cell? ⟨gb298, 0, none⟩ = some (.int .i64 t293) := (blk_cell BK298.out 0).trans rfl; have hcz103_1 : w102.cell? ⟨gb298, 1, none⟩ = some (.slice Ao37 t294.length co37) := (blk_cell BK298.out 1).trans rfl; have hfz103_0 := blk_frozen BK298.out 0; have hfz103_1 := blk_frozen BK298.out 1) | ((with_reducible refine gate_callee (f := 21) rfl ?_); refine goesL_ (some 71) rfl rfl Try.func21 (by kernel_rfl) rfl #[.agg #[.int .i64 t293, .slice Ao37 t309.length co37], .int .i64 1] rfl (by (try simp only [List.map_toArray, List.map_cons, List.map_nil]); first | done | (rw [show t309.length = t294.length from (Kd.Q_reads' HO_299001.out).1.symm] <;> rfl) | rfl | (simp only [List.length_drop, List.length_take]; rfl)) ?_; (with_reducible refine (laws_heldTlb.calls kj60 t293 _ _ t309 1 t310 _ ?side1 ?side2 A92.out).mono ?_); (case side1 => repeat (first | exact (Kd.Q_reads' HO_299001.out).2.2 | (with_reducible refine Kd.C_alloc ?_ _) | (with_reducible refine Kd.C_drewN ?_ _) | (with_reducible refine Kd.C_drew ?_))); (case side2 => rw [show t309.length = t294.length from (Kd.Q_reads' HO_299001.out).1.symm]; exact (Kd.Q_reads' HO_299001.out).2.1); rintro e w104 ⟨rfl, hb⟩; refine ⟨_, rfl, ?_⟩; have n0_ := Aside0.mk (Kd.Q_below (by (with_reducible repeat (first | apply Kd.Q_alloc | apply Kd.Q_drewN | apply Kd.Q_drew)); exact HO_288001.out) hb); have n1_ := Aside0.mk (Kd.Q_below (by (with_reducible repeat (first | apply Kd.Q_alloc | apply Kd.Q_drewN | apply Kd.Q_drew)); exact HO_293001.out) hb); have n2_ := Aside0.mk (Kd.Q_below (by (with_reducible repeat (first | apply Kd.Q_alloc | apply Kd.Q_drewN | apply Kd.Q_drew)); exact HO_299001.out) hb); have n3_ := Aside0.mk (blk_below (bq BK276.out) hb); have n4_ := Aside0.mk (blk_below (bq BK287.out) hb); have n5_ := Aside0.mk (blk_below (bq BK292.out) hb); have n6_ := Aside0.mk (blk_below (bq BK298.out) hb); have n7_ := Aside0.mk (below_step (lq HB.out) hb); clear HO_288001; clear HO_293001; clear HO_299001; clear BK276; clear BK287; clear BK292; clear BK298; clear HB; have HO_288001 := n0_; have HO_293001 := n1_; have HO_299001 := n2_; have BK276 := n3_; have BK287 := n4_; have BK292 := n5_; have BK298 := n6_; have HB := n7_; clear n0_ n1_ n2_ n3_ n4_ n5_ n6_ n7_; (try clear hb); (try clear hb2); (try clear hk); (try clear hi); have hnb105 := NB276_287.out; have hnc105 := NB287_276.out; have hnb106 := NB276_292.out; have hnc106 := NB292_276.out; have hcz107_0 : w104.cell? ⟨gb276, 0, none⟩ = some (.int .i64 a0_0) := (blk_cell BK276.out 0).trans rfl; have hcz107_1 : w104.cell? ⟨gb276, 1, none⟩ = some (.slice A0_1 l0_1.length c0_1) := (blk_cell BK276.out 1).trans rfl; have hfz107_0 := blk_frozen BK276.out 0; have hfz107_1 := blk_frozen BK276.out 1) | ((with_reducible refine gate_callee (f := 17) rfl ?_); refine goesL_ (some 79) rfl rfl Try.func17 (by kernel_rfl) rfl #[.agg #[.int .i64 a0_0, .slice A0_1 l0_1.length c0_1]] rfl (by (try simp only [List.map_toArray, List.map_cons, List.map_nil]); first | done | rfl | (simp only [List.length_drop, List.length_take]; rfl)) ?_; (with_reducible refine (laws_toTlb.calls kj60 a0_0 _ _ l0_1 t311 t312 _ ?side1 ?side2 A95.out).mono ?_); (case side1 => repeat (first | exact (Kd.C_below HR0_1.out HB.out) | (with_reducible refine Kd.C_alloc ?_ _) | (with_reducible refine Kd.C_drewN ?_ _) | (with_reducible refine Kd.C_drew ?_))); (case side2 => exact HC0_1.out); rintro e w108 ⟨v313, rfl, ho0, hb⟩; refine ⟨_, rfl, ?_⟩; have n0_ := Aside0.mk (Kd.Q_elder' (by (with_reducible repeat (first | apply Kd.Q_alloc | apply Kd.Q_drewN | apply Kd.Q_drew)); exact HO_288001.out) (Kd.R_base ho0) hb); have n1_ := Aside0.mk (Kd.Q_elder' (by (with_reducible repeat (first | apply Kd.Q_alloc | apply Kd.Q_drewN | apply Kd.Q_drew)); exact HO_293001.out) (Kd.R_base ho0) hb); have n2_ := Aside0.mk (Kd.Q_elder' (by (with_reducible repeat (first | apply Kd.Q_alloc | apply Kd.Q_drewN | apply Kd.Q_drew)); exact HO_299001.out) (Kd.R_base ho0) hb); have n3_ := Aside0.mk (Kd.R_lower (Kd.R_new' (Kd.R_new' (Kd.R_new' ho0 (Kd.Q_lt (by (with_reducible repeat (first | apply Kd.Q_alloc | apply Kd.Q_drewN | apply Kd.Q_drew)); exact HO_288001.out))) (Kd.Q_lt (by (with_reducible repeat (first | apply Kd.Q_alloc | apply Kd.Q_drewN | apply Kd.Q_drew)); exact HO_293001.out))) (Kd.Q_lt (by (with_reducible repeat (first | apply Kd.Q_alloc | apply Kd.Q_drewN | apply Kd.Q_drew)); exact HO_299001.out))) (below_size (lq HB.out))); have n4_ := Aside0.mk (blk_below (bq BK276.out) hb); have n5_ := Aside0.mk (blk_below (bq BK287.out) hb); have n6_ := Aside0.mk (blk_below (bq BK292.out) hb); have n7_ := Aside0.mk (blk_below (bq BK298.out) hb); have n8_ := Aside0.mk (below_step (lq HB.out) hb); clear HO_288001; clear HO_293001; clear HO_299001; clear BK276; clear BK287; clear BK292; clear BK298; clear HB; have HO_288001 := n0_; have HO_293001 := n1_; have HO_299001 := n2_; have HO314 := n3_; have BK276 := n4_; have BK287 := n5_; have BK292 := n6_; have BK298 := n7_; have HB := n8_; clear n0_ n1_ n2_ n3_ n4_ n5_ n6_ n7_ n8_; (try clear hb); (try clear hb2); (try clear hk); (try clear hi); (try clear ho0); obtain ⟨Ao109, co109, eo109⟩ := Kd.R_slice HO314.out; subst eo109) | ((with_reducible refine gate_callee (f := 18) rfl ?_); refine goesL_ (some 81) rfl rfl Try.func18 (by kernel_rfl) rfl #[.agg #[.int .i64 t311, .slice Ao109 t312.length co109], .int .i64 a1] rfl (by (try simp only [List.map_toArray, List.map_cons, List.map_nil]); first | done | rfl | (simp only [List.length_drop, List.length_take]; rfl)) ?_; (with_reducible refine (impl_TlbUse.calls t311 _ _ t312 a1 t315 t316 t319 _ ?side1 ?side2 A96.out).mono ?_); (case side1 => repeat (first | exact (Kd.R_reads' HO314.out).2.2 | (with_reducible refine Kd.C_alloc ?_ _) | (with_reducible refine Kd.C_drewN ?_ _) | (with_reducible refine Kd.C_drew ?_))); (case side2 => exact (Kd.R_reads' HO314.out).2.1); rintro e w110 ⟨v317, rfl, ho0, hb⟩; refine ⟨_, rfl, ?_⟩; have n0_ := Aside0.mk (Kd.Q_elder' (by (with_reducible repeat (first | apply Kd.Q_alloc | apply Kd.Q_drewN | apply Kd.Q_drew)); exact HO_288001.out) (Kd.Q_base ho0) hb); have n1_ := Aside0.mk (Kd.Q_elder' (by (with_reducible repeat (first | apply Kd.Q_alloc | apply Kd.Q_drewN | apply Kd.Q_drew)); exact HO_293001.out) (Kd.Q_base ho0) hb); have n2_ := Aside0.mk (Kd.Q_elder' (by (with_reducible repeat (first | apply Kd.Q_alloc | apply Kd.Q_drewN | apply Kd.Q_drew)); exact HO_299001.out) (Kd.Q_base ho0) hb); have n3_ := Aside0.mk (Kd.R_elder' (rq HO314.out) (Kd.Q_base ho0) hb); have n4_ := Aside0.mk (Kd.Q_lower (Kd.Q_new' (Kd.Q_new' (Kd.Q_new' (Kd.Q_new' ho0 (Kd.Q_lt (by (with_reducible repeat (first | apply Kd.Q_alloc | apply Kd.Q_drewN | apply Kd.Q_drew)); exact HO_288001.out))) (Kd.Q_lt (by (with_reducible repeat (first | apply Kd.Q_alloc | apply Kd.Q_drewN | apply Kd.Q_drew)); exact HO_293001.out))) (Kd.Q_lt (by (with_reducible repeat (first | apply Kd.Q_alloc | apply Kd.Q_drewN | apply Kd.Q_drew)); exact HO_299001.out))) (Kd.R_lt (rq HO314.out))) (below_size (lq HB.out))); have n5_ := Aside0.mk (blk_below (bq BK276.out) hb); have n6_ := Aside0.mk (blk_below (bq BK287.out) hb); have n7_ := Aside0.mk (blk_below (bq BK292.out) hb); have n8_ := Aside0.mk (blk_below (bq BK298.out) hb); have n9_ := Aside0.mk (below_step (lq HB.out) hb); clear HO_288001; clear HO_293001; clear HO_299001; clear HO314; clear BK276; clear BK287; clear BK292; clear BK298; clear HB; have HO_288001 := n0_; have HO_293001 := n1_; have HO_299001 := n2_; have HO314 := n3_; have HO318 := n4_; have BK276 := n5_; have BK287 := n6_; have BK292 := n7_; have BK298 := n8_; have HB := n9_; clear n0_ n1_ n2_ n3_ n4_ n5_ n6_ n7_ n8_ n9_; (try clear hb); (try clear hb2); (try clear hk); (try clear hi); (try clear ho0)) | ((with_reducible refine gate_dst (N := 14) rfl ?_); refine box_event ?hg (N := 14) ?hd (cs := #[.int .i64 0, .slice none 0 0]) (t := 40) ?hr ?_; (case hd => rfl); (case hg => rfl); (case hr => first | (go_simp; done) | (go_simp; rfl)); intro gb320 hg w111 hbox hb; have n0_ := Aside0.mk (Kd.Q_below (by (with_reducible repeat (first | apply Kd.Q_alloc | apply Kd.Q_drewN | apply Kd.Q_drew)); exact HO_288001.out) hb); have n1_ := Aside0.mk (Kd.Q_below (by (with_reducible repeat (first | apply Kd.Q_alloc | apply Kd.Q_drewN | apply Kd.Q_drew)); exact HO_293001.out) hb); have n2_ := Aside0.mk (Kd.Q_below (by (with_reducible repeat (first | apply Kd.Q_alloc | apply Kd.Q_drewN | apply Kd.Q_drew)); exact HO_299001.out) hb); have n3_ := Aside0.mk (Kd.R_below (rq HO314.out) hb); have n4_ := Aside0.mk (Kd.Q_below (by (with_reducible repeat (first | apply Kd.Q_alloc | apply Kd.Q_drewN | apply Kd.Q_drew)); exact HO318.out) hb); have n5_ := Aside0.mk (blk_below (bq BK276.out) hb); have n6_ := Aside0.mk (blk_below (bq BK287.out) hb); have n7_ := Aside0.mk (blk_below (bq BK292.out) hb); have n8_ := Aside0.mk (blk_below (bq BK298.out) hb); have n9_ := Aside0.mk (below_step (lq HB.out) hb); have n10_ := Aside0.mk (hbox); have n11_ := Aside0.mk ((ge_new hg (lq HB.out) : w.heap.size ≤ gb320)); have n12_ := Aside0.mk ((ge_new hg (lq HB.out) : w.heap.size ≤ gb320)); have n13_ := Aside0.mk ((ne_new hg (bq BK276.out) : gb276 ≠ gb320)); have n14_ := Aside0.mk ((new_ne hg (bq BK276.out) : gb320 ≠ gb276)); have n15_ := Aside0.mk ((ne_new hg (bq BK287.out) : gb287 ≠ gb320)); have n16_ := Aside0.mk ((new_ne hg (bq BK287.out) : gb320 ≠ gb287)); have n17_ := Aside0.mk ((ne_new hg (bq BK292.out) : gb292 ≠ gb320)); have n18_ := Aside0.mk ((new_ne hg (bq BK292.out) : gb320 ≠ gb292)); have n19_ := Aside0.mk ((ne_new hg (bq BK298.out) : gb298 ≠ gb320)); have n20_ := Aside0.mk ((new_ne hg (bq BK298.out) : gb320 ≠ gb298)); clear HO_288001; clear HO_293001; clear HO_299001; clear HO314; clear HO318; clear BK276; clear BK287; clear BK292; clear BK298; clear HB; have HO_288001 := n0_; have HO_293001 := n1_; have HO_299001 := n2_; have HO314 := n3_; have HO318 := n4_; have BK276 := n5_; have BK287 := n6_; have BK292 := n7_; have BK298 := n8_; have HB := n9_; have BK320 := n10_; have GW320 := n11_; have GE320 := n12_; have NB276_320 := n13_; have NB320_276 := n14_; have NB287_320 := n15_; have NB320_287 := n16_; have NB292_320 := n17_; have NB320_292 := n18_; have NB298_320 := n19_; have NB320_298 := n20_; clear n0_ n1_ n2_ n3_ n4_ n5_ n6_ n7_ n8_ n9_ n10_ n11_ n12_ n13_ n14_ n15_ n16_ n17_ n18_ n19_ n20_; clear hb hbox hg; have hnb112 := NB320_276.out; have hnc112 := NB276_320.out; have hnb113 := NB320_287.out; have hnc113 := NB287_320.out; have hnb114 := NB320_292.out; have hnc114 := NB292_320.out; have hnb115 := NB320_298.out; have hnc115 := NB298_320.out; have hcz116_0 : w111.cell? ⟨gb320, 0, none⟩ = some (.int .i64 0) := (blk_cell BK320.out 0).trans rfl; have hcz116_1 : w111.cell? ⟨gb320, 1, none⟩ = some (.slice none 0 0) := (blk_cell BK320.out 1).trans rfl; have hfz116_0 := blk_frozen BK320.out 0; have hfz116_1 := blk_frozen BK320.out 1; obtain ⟨Ao117, co117, eo117, _⟩ := Kd.Q_slice HO318.out; subst eo117))
           (try simp only [Act.put, List.setIfInBounds_toArray, List.set_cons_zero, List.set_cons_succ])
           go_cut [92] (fun v92 wc => ∃ (kq : Nat) (x92_96 : Bool), v92 = .bool x92_96 ∧ Aside0 (laws_FnExactTlbUse.j2 kq t308 x92_96 t293 t309 = some true) ∧ Aside0 (kq ≤ kj60) ∧ Aside0 (Kd.Q (Kd.int .i64) 3 wc w.heap.size (fun k_ => some k_ ≠ ((.slice Ao30 t306.length co30) : Value).ownBlock ∧ some k_ ≠ ((.slice Ao37 t294.length co37) : Value).ownBlock ∧ some k_ ≠ ((.slice Ao117 t316.length co117) : Value).ownBlock) (.slice Ao23 t283.length co23) t283) ∧ Aside0 (Kd.Q (Kd.int .i64) 3 wc w.heap.size (fun k_ => some k_ ≠ ((.slice Ao23 t283.length co23) : Value).ownBlock ∧ some k_ ≠ ((.slice Ao37 t294.length co37) : Value).ownBlock ∧ some k_ ≠ ((.slice Ao117 t316.length co117) : Value).ownBlock) (.slice Ao30 t306.length co30) t306) ∧ Aside0 (Kd.Q (Kd.int .i64) 3 wc w.heap.size (fun k_ => some k_ ≠ ((.slice Ao23 t283.length co23) : Value).ownBlock ∧ some k_ ≠ ((.slice Ao30 t306.length co30) : Value).ownBlock ∧ some k_ ≠ ((.slice Ao117 t316.length co117) : Value).ownBlock) (.slice Ao37 t294.length co37) t309) ∧ Aside0 (Kd.Q (Kd.int .i64) 3 wc w.heap.size (fun k_ => some k_ ≠ ((.slice Ao23 t283.length co23) : Value).ownBlock ∧ some k_ ≠ ((.slice Ao30 t306.length co30) : Value).ownBlock ∧ some k_ ≠ ((.slice Ao37 t294.length co37) : Value).ownBlock) (.slice Ao117 t316.length co117) t316) ∧ Aside0 (wc.heap[gb276]? = some (.cells #[.int .i64 a0_0, (.slice A0_1 l0_1.length c0_1)] 38 (0, 0))) ∧ Aside0 (wc.heap[gb287]? = some (.cells #[.int .i64 t282, (.slice Ao23 t283.length co23)] 40 (0, 0))) ∧ Aside0 (wc.heap[gb292]? = some (.cells #[.int .i64 t288, (.slice Ao30 t306.length co30)] 40 (0, 0))) ∧ Aside0 (wc.heap[gb298]? = some (.cells #[.int .i64 t293, (.slice Ao37 t294.length co37)] 40 (0, 0))) ∧ Aside0 (wc.heap[gb320]? = some (.cells #[.int .i64 t315, (.slice Ao117 t316.length co117)] 40 (0, 0))) ∧ Aside0 (Below w.heap.size w wc))
           case first =>
            have H := HC97.out
            clear HC97
            replace H := Option.bind_eq_some_iff.mp H
            obtain ⟨t321, A1180, H⟩ := H
            (try dsimp only at H)
            have A118 := Aside0.mk A1180
            clear A1180
            by_cases c119 : t321 = true
            ·subst c119
             rw [if_pos rfl] at H
             have H' := Aside0.mk H
             clear H
             have hnb120 := NB320_276.out
             have hnc120 := NB276_320.out
             have hnb121 := NB320_287.out
             have hnc121 := NB287_320.out
             have hnb122 := NB320_292.out
             have hnc122 := NB292_320.out
             have hnb123 := NB320_298.out
             have hnc123 := NB298_320.out
             have hcz124_0 : w111.cell? ⟨gb320, 0, none⟩ = some (.int .i64 0) := (blk_cell BK320.out 0).trans rfl
             have hcz124_1 : w111.cell? ⟨gb320, 1, none⟩ = some (.slice none 0 0) := (blk_cell BK320.out 1).trans rfl
             have hfz124_0 := blk_frozen BK320.out 0
             have hfz124_1 := blk_frozen BK320.out 1
             have hnb125 := NB287_276.out
             have hnc125 := NB276_287.out
             have hnb126 := NB287_292.out
             have hnc126 := NB292_287.out
             have hnb127 := NB287_298.out
             have hnc127 := NB298_287.out
             have hcz128_0 : w111.cell? ⟨gb287, 0, none⟩ = some (.int .i64 t282) := (blk_cell BK287.out 0).trans rfl
             have hcz128_1 : w111.cell? ⟨gb287, 1, none⟩ = some (.slice Ao23 t283.length co23) := (blk_cell BK287.out 1).trans rfl
             have hfz128_0 := blk_frozen BK287.out 0
             have hfz128_1 := blk_frozen BK287.out 1
             go_wp2_with (first | ((with_reducible refine gate_callee (f := 19) rfl ?_); refine goesL_ (some 86) rfl rfl Try.func19 (by kernel_rfl) rfl #[.agg #[.int .i64 t315, .slice Ao117 t316.length co117], .agg #[.int .i64 t282, .slice Ao23 t283.length co23]] rfl (by (try simp only [List.map_toArray, List.map_cons, List.map_nil]); first | done | rfl | (simp only [List.length_drop, List.length_take]; rfl)) ?_; (with_reducible refine (laws_eqTlb.calls kj60 t315 _ _ t316 t282 _ _ t283 true _ ?side1 ?side2 ?side3 ?side4 A118.out).mono ?_); (case side1 => refine (Kd.Q_reads' (e := 3) (base := w.heap.size) (ok := fun k_ => ((((True ∧ some k_ ≠ (.slice Ao23 t283.length co23 : Value).ownBlock) ∧ some k_ ≠ (.slice Ao30 t306.length co30 : Value).ownBlock) ∧ some k_ ≠ (.slice Ao37 t294.length co37 : Value).ownBlock) ∧ some k_ ≠ (.slice Ao109 t312.length co109 : Value).ownBlock)) (n := t316.length) (c := co117) ?_).2.2; exact (by (with_reducible repeat (first | apply Kd.Q_alloc | apply Kd.Q_drewN | apply Kd.Q_drew)); exact (Kd.Q_mono (Kd.Q_far (p := ⟨gb320, 1, none⟩) (Kd.Q_far (p := ⟨gb320, 0, none⟩) (Kd.Q_types HO318.out BK320.out (by decide)) (fun _ hk => hk.2) (.int .i64 t315)) (fun _ hk => hk.2) (.slice Ao117 t316.length co117)) (fun _ h_ => h_.1)))); (case side2 => exact (Kd.Q_reads' HO318.out).2.1); (case side3 => refine (Kd.Q_reads' (e := 3) (base := w.heap.size) (ok := fun k_ => (((some k_ ≠ (.slice Ao30 t306.length co30 : Value).ownBlock ∧ some k_ ≠ (.slice Ao37 t294.length co37 : Value).ownBlock) ∧ some k_ ≠ (.slice Ao109 t312.length co109 : Value).ownBlock) ∧ some k_ ≠ (.slice Ao117 t316.length co117 : Value).ownBlock)) (n := t283.length) (c := co23) ?_).2.2; exact (by (with_reducible repeat (first | apply Kd.Q_alloc | apply Kd.Q_drewN | apply Kd.Q_drew)); exact (Kd.Q_mono (Kd.Q_far (p := ⟨gb320, 1, none⟩) (Kd.Q_far (p := ⟨gb320, 0, none⟩) (Kd.Q_types HO_288001.out BK320.out (by decide)) (fun _ hk => hk.2) (.int .i64 t315)) (fun _ hk => hk.2) (.slice Ao117 t316.length co117)) (fun _ h_ => h_.1)))); (case side4 => exact (Kd.Q_reads' HO_288001.out).2.1); rintro e w129 ⟨rfl, hb⟩; refine ⟨_, rfl, ?_⟩; have n0_ := Aside0.mk (Kd.Q_below (by (with_reducible repeat (first | apply Kd.Q_alloc | apply Kd.Q_drewN | apply Kd.Q_drew)); exact (Kd.Q_mono (Kd.Q_far (p := ⟨gb320, 1, none⟩) (Kd.Q_far (p := ⟨gb320, 0, none⟩) (Kd.Q_types HO_288001.out BK320.out (by decide)) (fun _ hk => hk.2) (.int .i64 t315)) (fun _ hk => hk.2) (.slice Ao117 t316.length co117)) (fun _ h_ => h_.1))) hb); have n1_ := Aside0.mk (Kd.Q_below (by (with_reducible repeat (first | apply Kd.Q_alloc | apply Kd.Q_drewN | apply Kd.Q_drew)); exact (Kd.Q_mono (Kd.Q_far (p := ⟨gb320, 1, none⟩) (Kd.Q_far (p := ⟨gb320, 0, none⟩) (Kd.Q_types HO_293001.out BK320.out (by decide)) (fun _ hk => hk.2) (.int .i64 t315)) (fun _ hk => hk.2) (.slice Ao117 t316.length co117)) (fun _ h_ => h_.1))) hb); have n2_ := Aside0.mk (Kd.Q_below (by (with_reducible repeat (first | apply Kd.Q_alloc | apply Kd.Q_drewN | apply Kd.Q_drew)); exact (Kd.Q_mono (Kd.Q_far (p := ⟨gb320, 1, none⟩) (Kd.Q_far (p := ⟨gb320, 0, none⟩) (Kd.Q_types HO_299001.out BK320.out (by decide)) (fun _ hk => hk.2) (.int .i64 t315)) (fun _ hk => hk.2) (.slice Ao117 t316.length co117)) (fun _ h_ => h_.1))) hb); have n3_ := Aside0.mk (Kd.R_below (rq (Kd.R_mono (Kd.R_far (p := ⟨gb320, 1, none⟩) (Kd.R_far (p := ⟨gb320, 0, none⟩) (Kd.R_types HO314.out BK320.out (by decide)) (fun _ hk => hk.2) (.int .i64 t315)) (fun _ hk => hk.2) (.slice Ao117 t316.length co117)) (fun _ h_ => h_.1))) hb); have n4_ := Aside0.mk (Kd.Q_below (by (with_reducible repeat (first | apply Kd.Q_alloc | apply Kd.Q_drewN | apply Kd.Q_drew)); exact (Kd.Q_mono (Kd.Q_far (p := ⟨gb320, 1, none⟩) (Kd.Q_far (p := ⟨gb320, 0, none⟩) (Kd.Q_types HO318.out BK320.out (by decide)) (fun _ hk => hk.2) (.int .i64 t315)) (fun _ hk => hk.2) (.slice Ao117 t316.length co117)) (fun _ h_ => h_.1))) hb); have n5_ := Aside0.mk (blk_below (g := gb276) (o := .cells #[.int .i64 a0_0, .slice A0_1 l0_1.length c0_1] 38 (0, 0)) (by (with_reducible repeat (first | refine blk_drewN ?_ _ | refine blk_drew ?_ | refine blk_alloc ?_ _)); refine blk_far ?_ NB276_320.out _; (with_reducible repeat (first | refine blk_drewN ?_ _ | refine blk_drew ?_ | refine blk_alloc ?_ _)); refine blk_far ?_ NB276_320.out _; (with_reducible repeat (first | refine blk_drewN ?_ _ | refine blk_drew ?_ | refine blk_alloc ?_ _)); exact BK276.out) hb); have n6_ := Aside0.mk (blk_below (g := gb287) (o := .cells #[.int .i64 t282, .slice Ao23 t283.length co23] 40 (0, 0)) (by (with_reducible repeat (first | refine blk_drewN ?_ _ | refine blk_drew ?_ | refine blk_alloc ?_ _)); refine blk_far ?_ NB287_320.out _; (with_reducible repeat (first | refine blk_drewN ?_ _ | refine blk_drew ?_ | refine blk_alloc ?_ _)); refine blk_far ?_ NB287_320.out _; (with_reducible repeat (first | refine blk_drewN ?_ _ | refine blk_drew ?_ | refine blk_alloc ?_ _)); exact BK287.out) hb); have n7_ := Aside0.mk (blk_below (g := gb292) (o := .cells #[.int .i64 t288, .slice Ao30 t306.length co30] 40 (0, 0)) (by (with_reducible repeat (first | refine blk_drewN ?_ _ | refine blk_drew ?_ | refine blk_alloc ?_ _)); refine blk_far ?_ NB292_320.out _; (with_reducible repeat (first | refine blk_drewN ?_ _ | refine blk_drew ?_ | refine blk_alloc ?_ _)); refine blk_far ?_ NB292_320.out _; (with_reducible repeat (first | refine blk_drewN ?_ _ | refine blk_drew ?_ | refine blk_alloc ?_ _)); exact BK292.out) hb); have n8_ := Aside0.mk (blk_below (g := gb298) (o := .cells #[.int .i64 t293, .slice Ao37 t294.length co37] 40 (0, 0)) (by (with_reducible repeat (first | refine blk_drewN ?_ _ | refine blk_drew ?_ | refine blk_alloc ?_ _)); refine blk_far ?_ NB298_320.out _; (with_reducible repeat (first | refine blk_drewN ?_ _ | refine blk_drew ?_ | refine blk_alloc ?_ _)); refine blk_far ?_ NB298_320.out _; (with_reducible repeat (first | refine blk_drewN ?_ _ | refine blk_drew ?_ | refine blk_alloc ?_ _)); exact BK298.out) hb); have n9_ := Aside0.mk (blk_below (g := gb320) (o := .cells #[.int .i64 t315, .slice Ao117 t316.length co117] 40 (0, 0)) (by (with_reducible repeat (first | refine blk_drewN ?_ _ | refine blk_drew ?_ | refine blk_alloc ?_ _)); refine blk_put (cs := #[.int .i64 t315, .slice none 0 0]) ?_ 1 _ rfl; (with_reducible repeat (first | refine blk_drewN ?_ _ | refine blk_drew ?_ | refine blk_alloc ?_ _)); refine blk_put (cs := #[.int .i64 0, .slice none 0 0]) ?_ 0 _ rfl; (with_reducible repeat (first | refine blk_drewN ?_ _ | refine blk_drew ?_ | refine blk_alloc ?_ _)); exact BK320.out) hb); have n10_ := Aside0.mk (below_step (by repeat (first | (with_reducible first | exact HB.out | apply below_alloc | apply pw_below_drewN | apply below_drew1 | refine below_set ?_ GE320.out) | exact HB.out)) hb); clear HO_288001; clear HO_293001; clear HO_299001; clear HO314; clear HO318; clear BK276; clear BK287; clear BK292; clear BK298; clear BK320; clear HB; have HO_288001 := n0_; have HO_293001 := n1_; have HO_299001 := n2_; have HO314 := n3_; have HO318 := n4_; have BK276 := n5_; have BK287 := n6_; have BK292 := n7_; have BK298 := n8_; have BK320 := n9_; have HB := n10_; clear n0_ n1_ n2_ n3_ n4_ n5_ n6_ n7_ n8_ n9_ n10_; (try clear hb); (try clear hb2); (try clear hk); (try clear hi)))
             go_meet
             case rel => exact ⟨_, ((t319 != t286)), (by first | rfl | (simp; done) | (simp [*]; done)), H', ⟨by have := HJ11.out; have := HJ60.out; first | omega | exact Nat.le_refl _⟩, ⟨by (try simp only [hl293001_60]); (with_reducible repeat (first | apply Kd.Q_alloc | apply Kd.Q_drewN | apply Kd.Q_drew)); exact Kd.Q_mono HO_288001.out (fun _ hk => ⟨hk.1.1.1, ⟨hk.1.1.2, hk.2⟩⟩)⟩, ⟨by (try simp only [hl293001_60]); (with_reducible repeat (first | apply Kd.Q_alloc | apply Kd.Q_drewN | apply Kd.Q_drew)); exact Kd.Q_mono HO_293001.out (fun _ hk => ⟨hk.1.1.1, ⟨hk.1.1.2, hk.2⟩⟩)⟩, ⟨by (try simp only [hl293001_60]); (with_reducible repeat (first | apply Kd.Q_alloc | apply Kd.Q_drewN | apply Kd.Q_drew)); exact Kd.Q_mono HO_299001.out (fun _ hk => ⟨hk.1.1.1, ⟨hk.1.1.2, hk.2⟩⟩)⟩, ⟨by (try simp only [hl293001_60]); (with_reducible repeat (first | apply Kd.Q_alloc | apply Kd.Q_drewN | apply Kd.Q_drew)); exact Kd.Q_mono HO318.out (fun _ hk => ⟨hk.1.1.1.2, ⟨hk.1.1.2, hk.1.2⟩⟩)⟩, ⟨by (try simp only [hl293001_60]); (with_reducible repeat (first | refine blk_drewN ?_ _ | refine blk_drew ?_ | refine blk_alloc ?_ _)); exact BK276.out⟩, ⟨by (try simp only [hl293001_60]); (with_reducible repeat (first | refine blk_drewN ?_ _ | refine blk_drew ?_ | refine blk_alloc ?_ _)); exact BK287.out⟩, ⟨by (try simp only [hl293001_60]); (with_reducible repeat (first | refine blk_drewN ?_ _ | refine blk_drew ?_ | refine blk_alloc ?_ _)); exact BK292.out⟩, ⟨by (try simp only [hl293001_60]); (with_reducible repeat (first | refine blk_drewN ?_ _ | refine blk_drew ?_ | refine blk_alloc ?_ _)); exact BK298.out⟩, ⟨by (try simp only [hl293001_60]); (with_reducible repeat (first | refine blk_drewN ?_ _ | refine blk_drew ?_ | refine blk_alloc ?_ _)); exact BK320.out⟩, ⟨by exact lq HB.out⟩⟩
            ·replace c119 := Bool.eq_false_iff.mpr c119
             subst c119
             rw [if_neg (show ¬ (false = true) by decide)] at H
             have H' := Aside0.mk H
             clear H
             have hnb130 := NB320_276.out
             have hnc130 := NB276_320.out
             have hnb131 := NB320_287.out
             have hnc131 := NB287_320.out
             have hnb132 := NB320_292.out
             have hnc132 := NB292_320.out
             have hnb133 := NB320_298.out
             have hnc133 := NB298_320.out
             have hcz134_0 : w111.cell? ⟨gb320, 0, none⟩ = some (.int .i64 0) := (blk_cell BK320.out 0).trans rfl
             have hcz134_1 : w111.cell? ⟨gb320, 1, none⟩ = some (.slice none 0 0) := (blk_cell BK320.out 1).trans rfl
             have hfz134_0 := blk_frozen BK320.out 0
             have hfz134_1 := blk_frozen BK320.out 1
             have hnb135 := NB287_276.out
             have hnc135 := NB276_287.out
             have hnb136 := NB287_292.out
             have hnc136 := NB292_287.out
             have hnb137 := NB287_298.out
             have hnc137 := NB298_287.out
             have hcz138_0 : w111.cell? ⟨gb287, 0, none⟩ = some (.int .i64 t282) := (blk_cell BK287.out 0).trans rfl
             have hcz138_1 : w111.cell? ⟨gb287, 1, none⟩ = some (.slice Ao23 t283.length co23) := (blk_cell BK287.out 1).trans rfl
             have hfz138_0 := blk_frozen BK287.out 0
             have hfz138_1 := blk_frozen BK287.out 1
             go_wp2_with (first | ((with_reducible refine gate_callee (f := 19) rfl ?_); refine goesL_ (some 86) rfl rfl Try.func19 (by kernel_rfl) rfl #[.agg #[.int .i64 t315, .slice Ao117 t316.length co117], .agg #[.int .i64 t282, .slice Ao23 t283.length co23]] rfl (by (try simp only [List.map_toArray, List.map_cons, List.map_nil]); first | done | rfl | (simp only [List.length_drop, List.length_take]; rfl)) ?_; (with_reducible refine (laws_eqTlb.calls kj60 t315 _ _ t316 t282 _ _ t283 false _ ?side1 ?side2 ?side3 ?side4 A118.out).mono ?_); (case side1 => refine (Kd.Q_reads' (e := 3) (base := w.heap.size) (ok := fun k_ => ((((True ∧ some k_ ≠ (.slice Ao23 t283.length co23 : Value).ownBlock) ∧ some k_ ≠ (.slice Ao30 t306.length co30 : Value).ownBlock) ∧ some k_ ≠ (.slice Ao37 t294.length co37 : Value).ownBlock) ∧ some k_ ≠ (.slice Ao109 t312.length co109 : Value).ownBlock)) (n := t316.length) (c := co117) ?_).2.2; exact (by (with_reducible repeat (first | apply Kd.Q_alloc | apply Kd.Q_drewN | apply Kd.Q_drew)); exact (Kd.Q_mono (Kd.Q_far (p := ⟨gb320, 1, none⟩) (Kd.Q_far (p := ⟨gb320, 0, none⟩) (Kd.Q_types HO318.out BK320.out (by decide)) (fun _ hk => hk.2) (.int .i64 t315)) (fun _ hk => hk.2) (.slice Ao117 t316.length co117)) (fun _ h_ => h_.1)))); (case side2 => exact (Kd.Q_reads' HO318.out).2.1); (case side3 => refine (Kd.Q_reads' (e := 3) (base := w.heap.size) (ok := fun k_ => (((some k_ ≠ (.slice Ao30 t306.length co30 : Value).ownBlock ∧ some k_ ≠ (.slice Ao37 t294.length co37 : Value).ownBlock) ∧ some k_ ≠ (.slice Ao109 t312.length co109 : Value).ownBlock) ∧ some k_ ≠ (.slice Ao117 t316.length co117 : Value).ownBlock)) (n := t283.length) (c := co23) ?_).2.2; exact (by (with_reducible repeat (first | apply Kd.Q_alloc | apply Kd.Q_drewN | apply Kd.Q_drew)); exact (Kd.Q_mono (Kd.Q_far (p := ⟨gb320, 1, none⟩) (Kd.Q_far (p := ⟨gb320, 0, none⟩) (Kd.Q_types HO_288001.out BK320.out (by decide)) (fun _ hk => hk.2) (.int .i64 t315)) (fun _ hk => hk.2) (.slice Ao117 t316.length co117)) (fun _ h_ => h_.1)))); (case side4 => exact (Kd.Q_reads' HO_288001.out).2.1); rintro e w139 ⟨rfl, hb⟩; refine ⟨_, rfl, ?_⟩; have n0_ := Aside0.mk (Kd.Q_below (by (with_reducible repeat (first | apply Kd.Q_alloc | apply Kd.Q_drewN | apply Kd.Q_drew)); exact (Kd.Q_mono (Kd.Q_far (p := ⟨gb320, 1, none⟩) (Kd.Q_far (p := ⟨gb320, 0, none⟩) (Kd.Q_types HO_288001.out BK320.out (by decide)) (fun _ hk => hk.2) (.int .i64 t315)) (fun _ hk => hk.2) (.slice Ao117 t316.length co117)) (fun _ h_ => h_.1))) hb); have n1_ := Aside0.mk (Kd.Q_below (by (with_reducible repeat (first | apply Kd.Q_alloc | apply Kd.Q_drewN | apply Kd.Q_drew)); exact (Kd.Q_mono (Kd.Q_far (p := ⟨gb320, 1, none⟩) (Kd.Q_far (p := ⟨gb320, 0, none⟩) (Kd.Q_types HO_293001.out BK320.out (by decide)) (fun _ hk => hk.2) (.int .i64 t315)) (fun _ hk => hk.2) (.slice Ao117 t316.length co117)) (fun _ h_ => h_.1))) hb); have n2_ := Aside0.mk (Kd.Q_below (by (with_reducible repeat (first | apply Kd.Q_alloc | apply Kd.Q_drewN | apply Kd.Q_drew)); exact (Kd.Q_mono (Kd.Q_far (p := ⟨gb320, 1, none⟩) (Kd.Q_far (p := ⟨gb320, 0, none⟩) (Kd.Q_types HO_299001.out BK320.out (by decide)) (fun _ hk => hk.2) (.int .i64 t315)) (fun _ hk => hk.2) (.slice Ao117 t316.length co117)) (fun _ h_ => h_.1))) hb); have n3_ := Aside0.mk (Kd.R_below (rq (Kd.R_mono (Kd.R_far (p := ⟨gb320, 1, none⟩) (Kd.R_far (p := ⟨gb320, 0, none⟩) (Kd.R_types HO314.out BK320.out (by decide)) (fun _ hk => hk.2) (.int .i64 t315)) (fun _ hk => hk.2) (.slice Ao117 t316.length co117)) (fun _ h_ => h_.1))) hb); have n4_ := Aside0.mk (Kd.Q_below (by (with_reducible repeat (first | apply Kd.Q_alloc | apply Kd.Q_drewN | apply Kd.Q_drew)); exact (Kd.Q_mono (Kd.Q_far (p := ⟨gb320, 1, none⟩) (Kd.Q_far (p := ⟨gb320, 0, none⟩) (Kd.Q_types HO318.out BK320.out (by decide)) (fun _ hk => hk.2) (.int .i64 t315)) (fun _ hk => hk.2) (.slice Ao117 t316.length co117)) (fun _ h_ => h_.1))) hb); have n5_ := Aside0.mk (blk_below (g := gb276) (o := .cells #[.int .i64 a0_0, .slice A0_1 l0_1.length c0_1] 38 (0, 0)) (by (with_reducible repeat (first | refine blk_drewN ?_ _ | refine blk_drew ?_ | refine blk_alloc ?_ _)); refine blk_far ?_ NB276_320.out _; (with_reducible repeat (first | refine blk_drewN ?_ _ | refine blk_drew ?_ | refine blk_alloc ?_ _)); refine blk_far ?_ NB276_320.out _; (with_reducible repeat (first | refine blk_drewN ?_ _ | refine blk_drew ?_ | refine blk_alloc ?_ _)); exact BK276.out) hb); have n6_ := Aside0.mk (blk_below (g := gb287) (o := .cells #[.int .i64 t282, .slice Ao23 t283.length co23] 40 (0, 0)) (by (with_reducible repeat (first | refine blk_drewN ?_ _ | refine blk_drew ?_ | refine blk_alloc ?_ _)); refine blk_far ?_ NB287_320.out _; (with_reducible repeat (first | refine blk_drewN ?_ _ | refine blk_drew ?_ | refine blk_alloc ?_ _)); refine blk_far ?_ NB287_320.out _; (with_reducible repeat (first | refine blk_drewN ?_ _ | refine blk_drew ?_ | refine blk_alloc ?_ _)); exact BK287.out) hb); have n7_ := Aside0.mk (blk_below (g := gb292) (o := .cells #[.int .i64 t288, .slice Ao30 t306.length co30] 40 (0, 0)) (by (with_reducible repeat (first | refine blk_drewN ?_ _ | refine blk_drew ?_ | refine blk_alloc ?_ _)); refine blk_far ?_ NB292_320.out _; (with_reducible repeat (first | refine blk_drewN ?_ _ | refine blk_drew ?_ | refine blk_alloc ?_ _)); refine blk_far ?_ NB292_320.out _; (with_reducible repeat (first | refine blk_drewN ?_ _ | refine blk_drew ?_ | refine blk_alloc ?_ _)); exact BK292.out) hb); have n8_ := Aside0.mk (blk_below (g := gb298) (o := .cells #[.int .i64 t293, .slice Ao37 t294.length co37] 40 (0, 0)) (by (with_reducible repeat (first | refine blk_drewN ?_ _ | refine blk_drew ?_ | refine blk_alloc ?_ _)); refine blk_far ?_ NB298_320.out _; (with_reducible repeat (first | refine blk_drewN ?_ _ | refine blk_drew ?_ | refine blk_alloc ?_ _)); refine blk_far ?_ NB298_320.out _; (with_reducible repeat (first | refine blk_drewN ?_ _ | refine blk_drew ?_ | refine blk_alloc ?_ _)); exact BK298.out) hb); have n9_ := Aside0.mk (blk_below (g := gb320) (o := .cells #[.int .i64 t315, .slice Ao117 t316.length co117] 40 (0, 0)) (by (with_reducible repeat (first | refine blk_drewN ?_ _ | refine blk_drew ?_ | refine blk_alloc ?_ _)); refine blk_put (cs := #[.int .i64 t315, .slice none 0 0]) ?_ 1 _ rfl; (with_reducible repeat (first | refine blk_drewN ?_ _ | refine blk_drew ?_ | refine blk_alloc ?_ _)); refine blk_put (cs := #[.int .i64 0, .slice none 0 0]) ?_ 0 _ rfl; (with_reducible repeat (first | refine blk_drewN ?_ _ | refine blk_drew ?_ | refine blk_alloc ?_ _)); exact BK320.out) hb); have n10_ := Aside0.mk (below_step (by repeat (first | (with_reducible first | exact HB.out | apply below_alloc | apply pw_below_drewN | apply below_drew1 | refine below_set ?_ GE320.out) | exact HB.out)) hb); clear HO_288001; clear HO_293001; clear HO_299001; clear HO314; clear HO318; clear BK276; clear BK287; clear BK292; clear BK298; clear BK320; clear HB; have HO_288001 := n0_; have HO_293001 := n1_; have HO_299001 := n2_; have HO314 := n3_; have HO318 := n4_; have BK276 := n5_; have BK287 := n6_; have BK292 := n7_; have BK298 := n8_; have BK320 := n9_; have HB := n10_; clear n0_ n1_ n2_ n3_ n4_ n5_ n6_ n7_ n8_ n9_ n10_; (try clear hb); (try clear hb2); (try clear hk); (try clear hi)))
             go_meet
             case rel => exact ⟨_, (true), (by first | rfl | (simp; done) | (simp [*]; done)), H', ⟨by have := HJ11.out; have := HJ60.out; first | omega | exact Nat.le_refl _⟩, ⟨by (try simp only [hl293001_60]); (with_reducible repeat (first | apply Kd.Q_alloc | apply Kd.Q_drewN | apply Kd.Q_drew)); exact Kd.Q_mono HO_288001.out (fun _ hk => ⟨hk.1.1.1, ⟨hk.1.1.2, hk.2⟩⟩)⟩, ⟨by (try simp only [hl293001_60]); (with_reducible repeat (first | apply Kd.Q_alloc | apply Kd.Q_drewN | apply Kd.Q_drew)); exact Kd.Q_mono HO_293001.out (fun _ hk => ⟨hk.1.1.1, ⟨hk.1.1.2, hk.2⟩⟩)⟩, ⟨by (try simp only [hl293001_60]); (with_reducible repeat (first | apply Kd.Q_alloc | apply Kd.Q_drewN | apply Kd.Q_drew)); exact Kd.Q_mono HO_299001.out (fun _ hk => ⟨hk.1.1.1, ⟨hk.1.1.2, hk.2⟩⟩)⟩, ⟨by (try simp only [hl293001_60]); (with_reducible repeat (first | apply Kd.Q_alloc | apply Kd.Q_drewN | apply Kd.Q_drew)); exact Kd.Q_mono HO318.out (fun _ hk => ⟨hk.1.1.1.2, ⟨hk.1.1.2, hk.1.2⟩⟩)⟩, ⟨by (try simp only [hl293001_60]); (with_reducible repeat (first | refine blk_drewN ?_ _ | refine blk_drew ?_ | refine blk_alloc ?_ _)); exact BK276.out⟩, ⟨by (try simp only [hl293001_60]); (with_reducible repeat (first | refine blk_drewN ?_ _ | refine blk_drew ?_ | refine blk_alloc ?_ _)); exact BK287.out⟩, ⟨by (try simp only [hl293001_60]); (with_reducible repeat (first | refine blk_drewN ?_ _ | refine blk_drew ?_ | refine blk_alloc ?_ _)); exact BK292.out⟩, ⟨by (try simp only [hl293001_60]); (with_reducible repeat (first | refine blk_drewN ?_ _ | refine blk_drew ?_ | refine blk_alloc ?_ _)); exact BK298.out⟩, ⟨by (try simp only [hl293001_60]); (with_reducible repeat (first | refine blk_drewN ?_ _ | refine blk_drew ?_ | refine blk_alloc ?_ _)); exact BK320.out⟩, ⟨by exact lq HB.out⟩⟩
           case rest =>
            clear HC97
            try clear c1
            try clear c2
            try clear p2
            try clear c3
            try clear c4
            try clear c4b0
            try clear c5
            try clear c6
            try clear c7
            try clear c8
            try clear c9
            try clear c10
            try clear c11
            try clear c12
            try clear c13
            try clear c15
            try clear c16
            try clear c17
            try clear c18
            try clear c19
            try clear c20
            try clear c21
            try clear c27
            try clear c28
            try clear c33
            try clear c34
            try clear c35
            try clear c39
            try clear c40
            try clear c41
            try clear c42
            try clear c44
            try clear c45
            try clear c48
            try clear c49
            try clear c50
            try clear c52
            try clear c53
            try clear c56
            try clear c59
            try clear c66
            try clear c67
            try clear c68
            try clear c71
            try clear c71b0
            try clear c73
            try clear c74
            try clear c75
            try clear c76
            try clear c78
            try clear c79
            try clear c82
            try clear c83
            try clear c84
            try clear c86
            try clear c87
            try clear c90
            try clear c93
            try clear c93b0
            try clear c94
            try clear c94b0
            try clear c94b1
            try clear c98
            try clear c99
            try clear c100
            try clear c105
            try clear c106
            try clear c112
            try clear c113
            try clear c114
            try clear c115
            try clear c119
            try clear c120
            try clear c121
            try clear c122
            try clear c123
            try clear c125
            try clear c126
            try clear c127
            try clear c130
            try clear c131
            try clear c132
            try clear c133
            try clear c135
            try clear c136
            try clear c137
            try clear hcz101_0
            try clear hcz101_1
            try clear hcz103_0
            try clear hcz103_1
            try clear hcz107_0
            try clear hcz107_1
            try clear hcz116_0
            try clear hcz116_1
            try clear hcz124_0
            try clear hcz124_1
            try clear hcz128_0
            try clear hcz128_1
            try clear hcz134_0
            try clear hcz134_1
            try clear hcz138_0
            try clear hcz138_1
            try clear hcz14_0
            try clear hcz14_1
            try clear hcz16_0
            try clear hcz16_1
            try clear hcz22_0
            try clear hcz22_1
            try clear hcz24_0
            try clear hcz24_1
            try clear hcz29_0
            try clear hcz29_1
            try clear hcz36_0
            try clear hcz36_1
            try clear hcz43_0
            try clear hcz43_1
            try clear hcz46_0
            try clear hcz46_1
            try clear hcz51_0
            try clear hcz51_1
            try clear hcz54_0
            try clear hcz54_1
            try clear hcz69_0
            try clear hcz69_1
            try clear hcz6_0
            try clear hcz6_1
            try clear hcz77_0
            try clear hcz77_1
            try clear hcz80_0
            try clear hcz80_1
            try clear hcz85_0
            try clear hcz85_1
            try clear hcz88_0
            try clear hcz88_1
            try clear hfz101_0
            try clear hfz101_1
            try clear hfz103_0
            try clear hfz103_1
            try clear hfz107_0
            try clear hfz107_1
            try clear hfz116_0
            try clear hfz116_1
            try clear hfz124_0
            try clear hfz124_1
            try clear hfz128_0
            try clear hfz128_1
            try clear hfz134_0
            try clear hfz134_1
            try clear hfz138_0
            try clear hfz138_1
            try clear hfz14_0
            try clear hfz14_1
            try clear hfz16_0
            try clear hfz16_1
            try clear hfz22_0
            try clear hfz22_1
            try clear hfz24_0
            try clear hfz24_1
            try clear hfz29_0
            try clear hfz29_1
            try clear hfz36_0
            try clear hfz36_1
            try clear hfz43_0
            try clear hfz43_1
            try clear hfz46_0
            try clear hfz46_1
            try clear hfz51_0
            try clear hfz51_1
            try clear hfz54_0
            try clear hfz54_1
            try clear hfz69_0
            try clear hfz69_1
            try clear hfz6_0
            try clear hfz6_1
            try clear hfz77_0
            try clear hfz77_1
            try clear hfz80_0
            try clear hfz80_1
            try clear hfz85_0
            try clear hfz85_1
            try clear hfz88_0
            try clear hfz88_1
            try clear p2
            obtain ⟨kq, x92_96, rfl, HA, HJ96, HO_288001, HO_293001, HO_299001, HO_321001, BK276, BK287, BK292, BK298, BK320, HB⟩ := hcut
            have hl299001_96 := (Kd.Q_reads' HO_299001.out).1
            rw [hl299001_96] at HO_299001
            (try simp only [hl299001_96])
            (try simp only [hl299001_96] at BK276)
            (try simp only [hl299001_96] at BK287)
            (try simp only [hl299001_96] at BK292)
            (try simp only [hl299001_96] at BK298)
            (try simp only [hl299001_96] at BK320)
            (try simp only [hl299001_96] at HO_288001)
            (try simp only [hl299001_96] at HO_293001)
            (try simp only [hl299001_96] at HO_321001)
            cases kq with
            | zero => exact absurd HA.out (by simp [laws_FnExactTlbUse.j2])
            | succ kj96 =>
             have H := HA.out
             clear HA
             simp only [laws_FnExactTlbUse.j2] at H
             by_cases c140 : x92_96 = true
             ·subst c140
              rw [if_pos rfl] at H
              exact absurd H (by simp)
             ·replace c140 := Bool.eq_false_iff.mpr c140
              subst c140
              rw [if_neg (show ¬ (false = true) by decide)] at H
              replace H := Option.bind_eq_some_iff.mp H
              obtain ⟨t322, A1410, H⟩ := H
              (try dsimp only at H)
              have A141 := Aside0.mk A1410
              clear A1410
              by_cases c142 : t322 < 0
              ·rw [if_pos c142] at H
               have c142b0 : decide (t322 < 0) = true := decide_eq_true c142
               clear c142
               exact absurd H (by simp)
              ·rw [if_neg c142] at H
               have c142b0 : decide (t322 < 0) = false := decide_eq_false c142
               clear c142
               by_cases c143 : t322 = t308
               ·rw [if_pos c143] at H
                have c143b0 : (t322 == t308) = true := beq_iff_eq.mpr c143
                have c143b1 : (t322 != t308) = false := bne_eq_false_iff_eq.mpr c143
                clear c143
                clear H
                have hnb144 := NB298_276.out
                have hnc144 := NB276_298.out
                have hnb145 := NB298_287.out
                have hnc145 := NB287_298.out
                have hnb146 := NB298_292.out
                have hnc146 := NB292_298.out
                have hnb147 := NB298_320.out
                have hnc147 := NB320_298.out
                have hcz148_0 : wc.cell? ⟨gb298, 0, none⟩ = some (.int .i64 t293) := (blk_cell BK298.out 0).trans rfl
                have hcz148_1 : wc.cell? ⟨gb298, 1, none⟩ = some (.slice Ao37 t309.length co37) := (blk_cell BK298.out 1).trans rfl
                have hfz148_0 := blk_frozen BK298.out 0
                have hfz148_1 := blk_frozen BK298.out 1
                go_wp2_with (first | ((with_reducible refine gate_callee (f := 21) rfl ?_); refine goesL_ (some 95) rfl rfl Try.func21 (by kernel_rfl) rfl #[.agg #[.int .i64 t293, .slice Ao37 t309.length co37], .int .i64 1] rfl (by (try simp only [List.map_toArray, List.map_cons, List.map_nil]); first | done | rfl | (simp only [List.length_drop, List.length_take]; rfl)) ?_; (with_reducible refine (laws_heldTlb.calls kj96 t293 _ _ t309 1 t322 _ ?side1 ?side2 A141.out).mono ?_); (case side1 => repeat (first | exact (Kd.Q_reads' HO_299001.out).2.2 | (with_reducible refine Kd.C_alloc ?_ _) | (with_reducible refine Kd.C_drewN ?_ _) | (with_reducible refine Kd.C_drew ?_))); (case side2 => exact (Kd.Q_reads' HO_299001.out).2.1); rintro e w149 ⟨rfl, hb⟩; refine ⟨_, rfl, ?_⟩; have n0_ := Aside0.mk (Kd.Q_below (by (with_reducible repeat (first | apply Kd.Q_alloc | apply Kd.Q_drewN | apply Kd.Q_drew)); exact HO_288001.out) hb); have n1_ := Aside0.mk (Kd.Q_below (by (with_reducible repeat (first | apply Kd.Q_alloc | apply Kd.Q_drewN | apply Kd.Q_drew)); exact HO_293001.out) hb); have n2_ := Aside0.mk (Kd.Q_below (by (with_reducible repeat (first | apply Kd.Q_alloc | apply Kd.Q_drewN | apply Kd.Q_drew)); exact HO_299001.out) hb); have n3_ := Aside0.mk (Kd.Q_below (by (with_reducible repeat (first | apply Kd.Q_alloc | apply Kd.Q_drewN | apply Kd.Q_drew)); exact HO_321001.out) hb); have n4_ := Aside0.mk (blk_below (bq BK276.out) hb); have n5_ := Aside0.mk (blk_below (bq BK287.out) hb); have n6_ := Aside0.mk (blk_below (bq BK292.out) hb); have n7_ := Aside0.mk (blk_below (bq BK298.out) hb); have n8_ := Aside0.mk (blk_below (bq BK320.out) hb); have n9_ := Aside0.mk (below_step (lq HB.out) hb); clear HO_288001; clear HO_293001; clear HO_299001; clear HO_321001; clear BK276; clear BK287; clear BK292; clear BK298; clear BK320; clear HB; have HO_288001 := n0_; have HO_293001 := n1_; have HO_299001 := n2_; have HO_321001 := n3_; have BK276 := n4_; have BK287 := n5_; have BK292 := n6_; have BK298 := n7_; have BK320 := n8_; have HB := n9_; clear n0_ n1_ n2_ n3_ n4_ n5_ n6_ n7_ n8_ n9_; (try clear hb); (try clear hb2); (try clear hk); (try clear hi)))
                go_ret
                exact ⟨by first | rfl | (simp [errW_none, errW_some] <;> rfl) | (simp [*, errW_none, errW_some] <;> rfl), by exact lq HB.out⟩
               ·rw [if_neg c143] at H
                have c143b0 : (t322 == t308) = false := beq_eq_false_iff_ne.mpr c143
                have c143b1 : (t322 != t308) = true := bne_iff_ne.mpr c143
                exact absurd H (by simp)
          ·rw [if_neg c94] at H
           have c94b0 : (t310 == t308) = false := beq_eq_false_iff_ne.mpr c94
           have c94b1 : (t310 != t308) = true := bne_iff_ne.mpr c94
           exact absurd H (by simp)
     ·replace c59 := Bool.eq_false_iff.mpr c59
      subst c59
      rw [if_neg (show ¬ (false = true) by decide)] at H
      exact absurd H (by simp)

end Go.Proofs.Ytglehilfemfiiaa.GE
