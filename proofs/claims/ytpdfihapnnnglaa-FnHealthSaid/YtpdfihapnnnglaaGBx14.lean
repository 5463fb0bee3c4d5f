/- Told by a program of this session, out of the translation: each function of the group as a plain Lean function, and that Go's call comes to just its answer. Lean checks it. -/
import Derived.Test.YtpdfihapnnnglaaGBx0
import Derived.Test.YtpdfihapnnnglaaGBx5
import Derived.Test.YtpdfihapnnnglaaGBx9
import Derived.Test.YtpdfihapnnnglaaGBx10
import Derived.Test.YtpdfihapnnnglaaGBx13
namespace Go.Proofs.Ytpdfihapnnnglaa.GB
open Go.RowKit Go.Proofs.YtpdfihapnnnglaaW.PrintWords Go.Proofs.YtpdfihapnnnglaaW.PrintLast Go.Proofs.YtpdfihapnnnglaaW.PrintMore Go.Proofs.Ytpdfihapnnnglaa.Q
attribute [local go_sem] max2_int min2_int max_two min_two max_three min_three max_four min_four   -- for this text's walks alone
set_option linter.unusedVariables false
set_option linter.unusedSimpArgs false

/-! ### laws_FnHealth: function 9 -/
mutual
def laws_FnHealth.l0 : Nat → List Int → Int → Int → Bool → Int → Int → Int → Int → Int → Int → Bool → Option (Bool)
 | 0, _, _, _, _, _, _, _, _, _, _, _ => none
 | k + 1, x6, x9, x10, x11, x12, x433000, x433001, x441000, x441001, x441002, x441003 => if x12 < (x6.length : Int) then (if x11 = true then (if 0 ≤ x12 then (laws_FnHealth.j1 k x6 x9 x10 x11 x12 ((rd x6 x12) != 0) x433000 x433001 x441000 x441001 x441002 x441003) else (none)) else (laws_FnHealth.j1 k x6 x9 x10 x11 x12 false x433000 x433001 x441000 x441001 x441002 x441003)) else ((impl_Operator.f x441000 x441001 x441002 x441003).bind fun bt449 => (if x441001 = x9 then (if x441000 = x10 then (if (x441003 == x11) = true then (if x9 = 0 then (if x11 = true then (if x433000 = 2 then (some false) else (if bt449.2.2.2 = true then (some false) else (some (bt449.2.1 == x9)))) else (if bt449.2.2.2 = true then (some false) else (some (bt449.2.1 == x9)))) else (if x9 ≤ x433001 then (if x11 = true then (if x433000 = 2 then (some false) else (if bt449.2.2.2 = true then (some false) else (some (bt449.2.1 == x9)))) else (if bt449.2.2.2 = true then (some false) else (some (bt449.2.1 == x9)))) else (some false))) else (some false)) else (some false)) else (some false)))
def laws_FnHealth.j1 : Nat → List Int → Int → Int → Bool → Int → Bool → Int → Int → Int → Int → Int → Bool → Option (Bool)
 | 0, _, _, _, _, _, _, _, _, _, _, _, _ => none
 | k + 1, x6, x9, x10, x11, x12, x51, x433000, x433001, x441000, x441001, x441002, x441003 => if x51 = true then (some false) else (if 0 ≤ x12 then (if x12 < (x6.length : Int) then (if (rd x6 x12) = 2 then (laws_FnHealth.l0 k x6 (wrap64 (x9 + 1)) (wrap64 (x10 + 1)) x11 (wrap64 (x12 + 1)) x433000 x433001 x441000 x441001 x441002 x441003) else (if (rd x6 x12) = 1 then (laws_FnHealth.l0 k x6 x9 (wrap64 (x10 + 1)) true (wrap64 (x12 + 1)) x433000 x433001 x441000 x441001 x441002 x441003) else (if (rd x6 x12) = 3 then (laws_FnHealth.l0 k x6 x9 (wrap64 (x10 + 1)) x11 (wrap64 (x12 + 1)) x433000 x433001 x441000 x441001 x441002 x441003) else (laws_FnHealth.l0 k x6 x9 x10 x11 (wrap64 (x12 + 1)) x433000 x433001 x441000 x441001 x441002 x441003)))) else (none)) else (none))
end
def laws_FnHealth.f (k : Nat) (l0 : List Int) : Option (Bool) := (laws_big.f l0).bind fun t426 => (if t426 = true then (some true) else ((spec_DrawHealthRun.f k l0).bind fun bt427 => ((impl_HealthRun.f k bt427.1 bt427.2.1 bt427.2.2).bind fun bt433 => ((spec_HealthRun.f k bt427.1 bt427.2.1 bt427.2.2).bind fun bt441 => (if (bt433.2.2.2.2.length : Int) = (bt441.2.2.2.2.length : Int) then (laws_FnHealth.l0 k bt433.2.2.2.2 0 0 false 0 bt427.1 bt427.2.1 bt433.1 bt433.2.1 bt433.2.2.1 bt433.2.2.2.1) else (some false))))))
theorem laws_FnHealth.mono_l : ∀ k, (∀ y0 y1 y2 y3 y4 y5 y6 y7 y8 y9 y10, LeO (laws_FnHealth.l0 k y0 y1 y2 y3 y4 y5 y6 y7 y8 y9 y10) (laws_FnHealth.l0 (k + 1) y0 y1 y2 y3 y4 y5 y6 y7 y8 y9 y10)) ∧ (∀ y0 y1 y2 y3 y4 y5 y6 y7 y8 y9 y10 y11, LeO (laws_FnHealth.j1 k y0 y1 y2 y3 y4 y5 y6 y7 y8 y9 y10 y11) (laws_FnHealth.j1 (k + 1) y0 y1 y2 y3 y4 y5 y6 y7 y8 y9 y10 y11))
 | 0 => ⟨fun _ _ _ _ _ _ _ _ _ _ _ r h => by simp [laws_FnHealth.l0] at h, fun _ _ _ _ _ _ _ _ _ _ _ _ r h => by simp [laws_FnHealth.j1] at h⟩
 | k + 1 => by
  obtain ⟨ih0, ih1⟩ := laws_FnHealth.mono_l k
  refine ⟨?_, ?_⟩
  ·intro y0 y1 y2 y3 y4 y5 y6 y7 y8 y9 y10
   unfold laws_FnHealth.l0
   repeat' first
   | (with_reducible exact ih0 _ _ _ _ _ _ _ _ _ _ _)
   | (with_reducible exact ih1 _ _ _ _ _ _ _ _ _ _ _ _)
   | (with_reducible exact impl_HealthRun.mono _ _ _ _)
   | (with_reducible exact spec_DrawHealthRun.mono _ _)
   | (with_reducible exact spec_HealthRun.mono _ _ _ _)
   | (with_reducible exact LeO.refl _)
   | (with_reducible exact LeO.none _)
   | (with_reducible refine LeO.ite ?_ ?_)
   | (with_reducible refine LeO.bind ?_ (fun _ => ?_))
   | exact ih0 _ _ _ _ _ _ _ _ _ _ _
   | exact ih1 _ _ _ _ _ _ _ _ _ _ _ _
   | exact impl_HealthRun.mono _ _ _ _
   | exact spec_DrawHealthRun.mono _ _
   | exact spec_HealthRun.mono _ _ _ _
   | exact LeO.none _
   | refine LeO.ite ?_ ?_
   | refine LeO.bind ?_ (fun _ => ?_)
  ·intro y0 y1 y2 y3 y4 y5 y6 y7 y8 y9 y10 y11
   unfold laws_FnHealth.j1
   repeat' first
   | (with_reducible exact ih0 _ _ _ _ _ _ _ _ _ _ _)
   | (with_reducible exact ih1 _ _ _ _ _ _ _ _ _ _ _ _)
   | (with_reducible exact impl_HealthRun.mono _ _ _ _)
   | (with_reducible exact spec_DrawHealthRun.mono _ _)
   | (with_reducible exact spec_HealthRun.mono _ _ _ _)
   | (with_reducible exact LeO.refl _)
   | (with_reducible exact LeO.none _)
   | (with_reducible refine LeO.ite ?_ ?_)
   | (with_reducible refine LeO.bind ?_ (fun _ => ?_))
   | exact ih0 _ _ _ _ _ _ _ _ _ _ _
   | exact ih1 _ _ _ _ _ _ _ _ _ _ _ _
   | exact impl_HealthRun.mono _ _ _ _
   | exact spec_DrawHealthRun.mono _ _
   | exact spec_HealthRun.mono _ _ _ _
   | exact LeO.none _
   | refine LeO.ite ?_ ?_
   | refine LeO.bind ?_ (fun _ => ?_)
theorem laws_FnHealth.mono : ∀ a0 k, LeO (laws_FnHealth.f k a0) (laws_FnHealth.f (k + 1) a0) := by
 intro a0 k
 obtain ⟨ih0, ih1⟩ := laws_FnHealth.mono_l k
 unfold laws_FnHealth.f
 repeat' first
   | (with_reducible exact ih0 _ _ _ _ _ _ _ _ _ _ _)
   | (with_reducible exact ih1 _ _ _ _ _ _ _ _ _ _ _ _)
   | (with_reducible exact impl_HealthRun.mono _ _ _ _)
   | (with_reducible exact spec_DrawHealthRun.mono _ _)
   | (with_reducible exact spec_HealthRun.mono _ _ _ _)
   | (with_reducible exact LeO.refl _)
   | (with_reducible exact LeO.none _)
   | (with_reducible refine LeO.ite ?_ ?_)
   | (with_reducible refine LeO.bind ?_ (fun _ => ?_))
   | exact ih0 _ _ _ _ _ _ _ _ _ _ _
   | exact ih1 _ _ _ _ _ _ _ _ _ _ _ _
   | exact impl_HealthRun.mono _ _ _ _
   | exact spec_DrawHealthRun.mono _ _
   | exact spec_HealthRun.mono _ _ _ _
   | exact LeO.none _
   | refine LeO.ite ?_ ?_
   | refine LeO.bind ?_ (fun _ => ?_)
set_option maxHeartbeats 8000000 in
set_option maxRecDepth 100000 in
theorem laws_FnHealth.calls (k : Nat) (A0 : Option Addr) (c0 : Nat) (l0 : List Int) (r : Bool) (w : World) (hr0 : Kd.C (Kd.int .u8) w A0 l0.length l0) (hc0 : l0.length ≤ c0) (h : laws_FnHealth.f k l0 = some r) :
  Calls Try.prog 9 #[.slice A0 l0.length c0] w fun e w' => e = .returned (.bool r) ∧ Below w.heap.size w w' := by
 have hu41 := Try.underlying41
 have hu38 := Try.underlying38
 have HR0 := Aside0.mk hr0
 have HC0 := Aside0.mk hc0
 clear hr0 hc0
 have HB := Aside0.mk (Below.refl w.heap.size w)
 have H : ((laws_big.f l0).bind fun t426 => (if t426 = true then (some true) else ((spec_DrawHealthRun.f k l0).bind fun bt427 => ((impl_HealthRun.f k bt427.1 bt427.2.1 bt427.2.2).bind fun bt433 => ((spec_HealthRun.f k bt427.1 bt427.2.1 bt427.2.2).bind fun bt441 => (if (bt433.2.2.2.2.length : Int) = (bt441.2.2.2.2.length : Int) then (laws_FnHealth.l0 k bt433.2.2.2.2 0 0 false 0 bt427.1 bt427.2.1 bt433.1 bt433.2.1 bt433.2.2.1 bt433.2.2.2.1) else (some false))))))) = some r := h
 clear h
 replace H := Option.bind_eq_some_iff.mp H
 obtain ⟨t426, A20, H⟩ := H
 (try dsimp only at H)
 have A2 := Aside0.mk A20
 clear A20
 by_cases c3 : t426 = true
 ·subst c3
  rw [if_pos rfl] at H
  obtain rfl := Option.some.inj H
  go_enter Try.func9, Try.ntmps9
  go_wp2_with (first | ((with_reducible refine gate_callee (f := 21) rfl ?_); refine goesL_ (some 15) rfl rfl Try.func21 (by kernel_rfl) rfl #[.slice A0 l0.length c0] rfl (by (try simp only [List.map_toArray, List.map_cons, List.map_nil]); first | done | rfl | (simp only [List.length_drop, List.length_take]; rfl)) ?_; (with_reducible refine (laws_big.calls _ _ l0 true _ ?side1 ?side2 A2.out).mono ?_); (case side1 => repeat (first | exact HR0.out | (with_reducible refine Kd.C_alloc ?_ _) | (with_reducible refine Kd.C_drewN ?_ _) | (with_reducible refine Kd.C_drew ?_))); (case side2 => exact HC0.out); rintro e w' ⟨rfl, ⟨nd, rfl⟩⟩; refine ⟨_, rfl, ?_⟩))
  go_ret
  exact ⟨by first | rfl | (simp [errW_none, errW_some] <;> rfl) | (simp [*, errW_none, errW_some] <;> rfl), by exact lq HB.out⟩
 ·replace c3 := Bool.eq_false_iff.mpr c3
  subst c3
  rw [if_neg (show ¬ (false = true) by decide)] at H
  replace H := Option.bind_eq_some_iff.mp H
  obtain ⟨⟨t427, t428, t429⟩, A40, H⟩ := H
  (try dsimp only at H)
  have A4 := Aside0.mk A40
  clear A40
  replace H := Option.bind_eq_some_iff.mp H
  obtain ⟨⟨t433, t434, t435, t436, t437⟩, A50, H⟩ := H
  (try dsimp only at H)
  have A5 := Aside0.mk A50
  clear A50
  replace H := Option.bind_eq_some_iff.mp H
  obtain ⟨⟨t441, t442, t443, t444, t445⟩, A60, H⟩ := H
  (try dsimp only at H)
  have A6 := Aside0.mk A60
  clear A60
  by_cases c7 : (t437.length : Int) = (t445.length : Int)
  ·rw [if_pos c7] at H
   have c7b0 : ((t437.length : Int) == (t445.length : Int)) = true := beq_iff_eq.mpr c7
   have c7b1 : ((t437.length : Int) != (t445.length : Int)) = false := bne_eq_false_iff_eq.mpr c7
   have c7b2 : (t437.length == t445.length) = true := by first | simpa using c7 | (simp at c7 ⊢; omega)
   clear c7
   have H' := Aside0.mk H
   clear H
   go_enter Try.func9, Try.ntmps9
   go_wp2_with (first | ((with_reducible refine gate_callee (f := 21) rfl ?_); refine goesL_ (some 15) rfl rfl Try.func21 (by kernel_rfl) rfl #[.slice A0 l0.length c0] rfl (by (try simp only [List.map_toArray, List.map_cons, List.map_nil]); first | done | rfl | (simp only [List.length_drop, List.length_take]; rfl)) ?_; (with_reducible refine (laws_big.calls _ _ l0 false _ ?side1 ?side2 A2.out).mono ?_); (case side1 => repeat (first | exact HR0.out | (with_reducible refine Kd.C_alloc ?_ _) | (with_reducible refine Kd.C_drewN ?_ _) | (with_reducible refine Kd.C_drew ?_))); (case side2 => exact HC0.out); rintro e w' ⟨rfl, ⟨nd, rfl⟩⟩; refine ⟨_, rfl, ?_⟩) | ((with_reducible refine gate_callee (f := 33) rfl ?_); refine goesL_ (some 18) rfl rfl Try.func33 (by kernel_rfl) rfl #[.slice A0 l0.length c0] rfl (by (try simp only [List.map_toArray, List.map_cons, List.map_nil]); first | done | rfl | (simp only [List.length_drop, List.length_take]; rfl)) ?_; (with_reducible refine (spec_DrawHealthRun.calls k _ _ l0 t427 t428 t429 _ ?side1 ?side2 A4.out).mono ?_); (case side1 => repeat (first | exact HR0.out | (with_reducible refine Kd.C_alloc ?_ _) | (with_reducible refine Kd.C_drewN ?_ _) | (with_reducible refine Kd.C_drew ?_))); (case side2 => exact HC0.out); rintro e w8 ⟨v430, rfl, ho0, hb⟩; refine ⟨_, rfl, ?_⟩; have n0_ := Aside0.mk (Kd.R_lower ho0 (below_size (lq HB.out))); have n1_ := Aside0.mk (below_step (lq HB.out) hb); clear HB; have HO431 := n0_; have HB := n1_; clear n0_ n1_; (try clear hb); (try clear hb2); (try clear hk); (try clear hi); (try clear ho0)) | ((with_reducible refine gate_dst (N := 3) rfl ?_); refine box_event ?hg (N := 3) ?hd (cs := #[.int .i64 0, .int .i64 0]) (t := 41) ?hr ?_; (case hd => rfl); (case hg => rfl); (case hr => first | (go_simp; done) | (go_simp; rfl)); intro gb432 hg w9 hbox hb; have n0_ := Aside0.mk (Kd.R_below (rq HO431.out) hb); have n1_ := Aside0.mk (below_step (lq HB.out) hb); have n2_ := Aside0.mk (hbox); have n3_ := Aside0.mk ((ge_new hg (lq HB.out) : w.heap.size ≤ gb432)); have n4_ := Aside0.mk ((ge_new hg (lq HB.out) : w.heap.size ≤ gb432)); clear HO431; clear HB; have HO431 := n0_; have HB := n1_; have BK432 := n2_; have GW432 := n3_; have GE432 := n4_; clear n0_ n1_ n2_ n3_ n4_; clear hb hbox hg; have hcz10_0 : w9.cell? ⟨gb432, 0, none⟩ = some (.int .i64 0) := (blk_cell BK432.out 0).trans rfl; have hcz10_1 : w9.cell? ⟨gb432, 1, none⟩ = some (.int .i64 0) := (blk_cell BK432.out 1).trans rfl; have hfz10_0 := blk_frozen BK432.out 0; have hfz10_1 := blk_frozen BK432.out 1; obtain ⟨Ao11, co11, eo11⟩ := Kd.R_slice HO431.out; subst eo11) | ((with_reducible refine gate_callee (f := 29) rfl ?_); refine goesL_ (some 24) rfl rfl Try.func29 (by kernel_rfl) rfl #[.agg #[.int .i64 t427, .int .i64 t428], .slice Ao11 t429.length co11] rfl (by (try simp only [List.map_toArray, List.map_cons, List.map_nil]); first | done | rfl | (simp only [List.length_drop, List.length_take]; rfl)) ?_; (with_reducible refine (impl_HealthRun.calls k t427 t428 _ _ t429 t433 t434 t435 t436 t437 _ ?side1 ?side2 A5.out).mono ?_); (case side1 => refine (Kd.R_reads' (e := 3) (base := w.heap.size) (ok := fun k_ => True) (n := t429.length) (c := co11) ?_).2.2; exact (rq (Kd.R_mono (Kd.R_far (p := ⟨gb432, 1, none⟩) (Kd.R_far (p := ⟨gb432, 0, none⟩) (Kd.R_types HO431.out BK432.out (by decide)) (fun _ hk => hk.2) (.int .i64 t427)) (fun _ hk => hk.2) (.int .i64 t428)) (fun _ h_ => h_.1)))); (case side2 => exact (Kd.R_reads' HO431.out).2.1); rintro e w12 ⟨v438, rfl, ho0, hb⟩; refine ⟨_, rfl, ?_⟩; have n0_ := Aside0.mk (Kd.R_elder' (rq (Kd.R_mono (Kd.R_far (p := ⟨gb432, 1, none⟩) (Kd.R_far (p := ⟨gb432, 0, none⟩) (Kd.R_types HO431.out BK432.out (by decide)) (fun _ hk => hk.2) (.int .i64 t427)) (fun _ hk => hk.2) (.int .i64 t428)) (fun _ h_ => h_.1))) (Kd.R_base ho0) hb); have n1_ := Aside0.mk (Kd.R_lower (Kd.R_new' ho0 (Kd.R_lt (rq (Kd.R_mono (Kd.R_far (p := ⟨gb432, 1, none⟩) (Kd.R_far (p := ⟨gb432, 0, none⟩) (Kd.R_types HO431.out BK432.out (by decide)) (fun _ hk => hk.2) (.int .i64 t427)) (fun _ hk => hk.2) (.int .i64 t428)) (fun _ h_ => h_.1))))) (below_size (by repeat (first | (with_reducible first | exact HB.out | apply below_alloc | apply pw_below_drewN | apply below_drew1 | refine below_set ?_ GE432.out) | exact HB.out)))); have n2_ := Aside0.mk (blk_below (g := gb432) (o := .cells #[.int .i64 t427, .int .i64 t428] 41 (0, 0)) (by (with_reducible repeat (first | refine blk_drewN ?_ _ | refine blk_drew ?_ | refine blk_alloc ?_ _)); refine blk_put (cs := #[.int .i64 t427, .int .i64 0]) ?_ 1 _ rfl; (with_reducible repeat (first | refine blk_drewN ?_ _ | refine blk_drew ?_ | refine blk_alloc ?_ _)); refine blk_put (cs := #[.int .i64 0, .int .i64 0]) ?_ 0 _ rfl; (with_reducible repeat (first | refine blk_drewN ?_ _ | refine blk_drew ?_ | refine blk_alloc ?_ _)); exact BK432.out) hb); have n3_ := Aside0.mk (below_step (by repeat (first | (with_reducible first | exact HB.out | apply below_alloc | apply pw_below_drewN | apply below_drew1 | refine below_set ?_ GE432.out) | exact HB.out)) hb); clear HO431; clear BK432; clear HB; have HO431 := n0_; have HO439 := n1_; have BK432 := n2_; have HB := n3_; clear n0_ n1_ n2_ n3_; (try clear hb); (try clear hb2); (try clear hk); (try clear hi); (try clear ho0)) | ((with_reducible refine gate_dst (N := 5) rfl ?_); refine box_event ?hg (N := 5) ?hd (cs := #[.int .i64 0, .int .i64 0, .int .i64 0, .bool false]) (t := 38) ?hr ?_; (case hd => rfl); (case hg => rfl); (case hr => first | (go_simp; done) | (go_simp; rfl)); intro gb440 hg w13 hbox hb; have n0_ := Aside0.mk (Kd.R_below (rq HO431.out) hb); have n1_ := Aside0.mk (Kd.R_below (rq HO439.out) hb); have n2_ := Aside0.mk (blk_below (bq BK432.out) hb); have n3_ := Aside0.mk (below_step (lq HB.out) hb); have n4_ := Aside0.mk (hbox); have n5_ := Aside0.mk ((ge_new hg (lq HB.out) : w.heap.size ≤ gb440)); have n6_ := Aside0.mk ((ge_new hg (lq HB.out) : w.heap.size ≤ gb440)); have n7_ := Aside0.mk ((ne_new hg (bq BK432.out) : gb432 ≠ gb440)); have n8_ := Aside0.mk ((new_ne hg (bq BK432.out) : gb440 ≠ gb432)); clear HO431; clear HO439; clear BK432; clear HB; have HO431 := n0_; have HO439 := n1_; have BK432 := n2_; have HB := n3_; have BK440 := n4_; have GW440 := n5_; have GE440 := n6_; have NB432_440 := n7_; have NB440_432 := n8_; clear n0_ n1_ n2_ n3_ n4_ n5_ n6_ n7_ n8_; clear hb hbox hg; have hnb14 := NB440_432.out; have hnc14 := NB432_440.out; have hcz15_0 : w13.cell? ⟨gb440, 0, none⟩ = some (.int .i64 0) := (blk_cell BK440.out 0).trans rfl; have hcz15_1 : w13.cell? ⟨gb440, 1, none⟩ = some (.int .i64 0) := (blk_cell BK440.out 1).trans rfl; have hcz15_2 : w13.cell? ⟨gb440, 2, none⟩ = some (.int .i64 0) := (blk_cell BK440.out 2).trans rfl; have hcz15_3 : w13.cell? ⟨gb440, 3, none⟩ = some (.bool false) := (blk_cell BK440.out 3).trans rfl; have hfz15_0 := blk_frozen BK440.out 0; have hfz15_1 := blk_frozen BK440.out 1; have hfz15_2 := blk_frozen BK440.out 2; have hfz15_3 := blk_frozen BK440.out 3; have hcz16_0 : w13.cell? ⟨gb432, 0, none⟩ = some (.int .i64 t427) := (blk_cell BK432.out 0).trans rfl; have hcz16_1 : w13.cell? ⟨gb432, 1, none⟩ = some (.int .i64 t428) := (blk_cell BK432.out 1).trans rfl; have hfz16_0 := blk_frozen BK432.out 0; have hfz16_1 := blk_frozen BK432.out 1) | ((with_reducible refine gate_callee (f := 27) rfl ?_); refine goesL_ (some 30) rfl rfl Try.func27 (by kernel_rfl) rfl #[.agg #[.int .i64 t427, .int .i64 t428], .slice Ao11 t429.length co11] rfl (by (try simp only [List.map_toArray, List.map_cons, List.map_nil]); first | done | rfl | (simp only [List.length_drop, List.length_take]; rfl)) ?_; (with_reducible refine (spec_HealthRun.calls k t427 t428 _ _ t429 t441 t442 t443 t444 t445 _ ?side1 ?side2 A6.out).mono ?_); (case side1 => refine (Kd.R_reads' (e := 3) (base := w.heap.size) (ok := fun k_ => (True ∧ some k_ ≠ (v438 : Value).ownBlock)) (n := t429.length) (c := co11) ?_).2.2; exact (rq (Kd.R_mono (Kd.R_far (p := ⟨gb440, 3, none⟩) (Kd.R_far (p := ⟨gb440, 2, none⟩) (Kd.R_far (p := ⟨gb440, 1, none⟩) (Kd.R_far (p := ⟨gb440, 0, none⟩) (Kd.R_types HO431.out BK440.out (by decide)) (fun _ hk => hk.2) (.int .i64 t433)) (fun _ hk => hk.2) (.int .i64 t434)) (fun _ hk => hk.2) (.int .i64 t435)) (fun _ hk => hk.2) (.bool t436)) (fun _ h_ => h_.1)))); (case side2 => exact (Kd.R_reads' HO431.out).2.1); rintro e w17 ⟨v446, rfl, ho0, hb⟩; refine ⟨_, rfl, ?_⟩; have n0_ := Aside0.mk (Kd.R_elder' (rq (Kd.R_mono (Kd.R_far (p := ⟨gb440, 3, none⟩) (Kd.R_far (p := ⟨gb440, 2, none⟩) (Kd.R_far (p := ⟨gb440, 1, none⟩) (Kd.R_far (p := ⟨gb440, 0, none⟩) (Kd.R_types HO431.out BK440.out (by decide)) (fun _ hk => hk.2) (.int .i64 t433)) (fun _ hk => hk.2) (.int .i64 t434)) (fun _ hk => hk.2) (.int .i64 t435)) (fun _ hk => hk.2) (.bool t436)) (fun _ h_ => h_.1))) (Kd.R_base ho0) hb); have n1_ := Aside0.mk (Kd.R_elder' (rq (Kd.R_mono (Kd.R_far (p := ⟨gb440, 3, none⟩) (Kd.R_far (p := ⟨gb440, 2, none⟩) (Kd.R_far (p := ⟨gb440, 1, none⟩) (Kd.R_far (p := ⟨gb440, 0, none⟩) (Kd.R_types HO439.out BK440.out (by decide)) (fun _ hk => hk.2) (.int .i64 t433)) (fun _ hk => hk.2) (.int .i64 t434)) (fun _ hk => hk.2) (.int .i64 t435)) (fun _ hk => hk.2) (.bool t436)) (fun _ h_ => h_.1))) (Kd.R_base ho0) hb); have n2_ := Aside0.mk (Kd.R_lower (Kd.R_new' (Kd.R_new' ho0 (Kd.R_lt (rq (Kd.R_mono (Kd.R_far (p := ⟨gb440, 3, none⟩) (Kd.R_far (p := ⟨gb440, 2, none⟩) (Kd.R_far (p := ⟨gb440, 1, none⟩) (Kd.R_far (p := ⟨gb440, 0, none⟩) (Kd.R_types HO431.out BK440.out (by decide)) (fun _ hk => hk.2) (.int .i64 t433)) (fun _ hk => hk.2) (.int .i64 t434)) (fun _ hk => hk.2) (.int .i64 t435)) (fun _ hk => hk.2) (.bool t436)) (fun _ h_ => h_.1))))) (Kd.R_lt (rq (Kd.R_mono (Kd.R_far (p := ⟨gb440, 3, none⟩) (Kd.R_far (p := ⟨gb440, 2, none⟩) (Kd.R_far (p := ⟨gb440, 1, none⟩) (Kd.R_far (p := ⟨gb440, 0, none⟩) (Kd.R_types HO439.out BK440.out (by decide)) (fun _ hk => hk.2) (.int .i64 t433)) (fun _ hk => hk.2) (.int .i64 t434)) (fun _ hk => hk.2) (.int .i64 t435)) (fun _ hk => hk.2) (.bool t436)) (fun _ h_ => h_.1))))) (below_size (by repeat (first | (with_reducible first | exact HB.out | apply below_alloc | apply pw_below_drewN | apply below_drew1 | refine below_set ?_ GE440.out) | exact HB.out)))); have n3_ := Aside0.mk (blk_below (g := gb432) (o := .cells #[.int .i64 t427, .int .i64 t428] 41 (0, 0)) (by (with_reducible repeat (first | refine blk_drewN ?_ _ | refine blk_drew ?_ | refine blk_alloc ?_ _)); refine blk_far ?_ NB432_440.out _; (with_reducible repeat (first | refine blk_drewN ?_ _ | refine blk_drew ?_ | refine blk_alloc ?_ _)); refine blk_far ?_ NB432_440.out _; (with_reducible repeat (first | refine blk_drewN ?_ _ | refine blk_drew ?_ | refine blk_alloc ?_ _)); refine blk_far ?_ NB432_440.out _; (with_reducible repeat (first | refine blk_drewN ?_ _ | refine blk_drew ?_ | refine blk_alloc ?_ _)); refine blk_far ?_ NB432_440.out _; (with_reducible repeat (first | refine blk_drewN ?_ _ | refine blk_drew ?_ | refine blk_alloc ?_ _)); exact BK432.out) hb); have n4_ := Aside0.mk (blk_below (g := gb440) (o := .cells #[.int .i64 t433, .int .i64 t434, .int .i64 t435, .bool t436] 38 (0, 0)) (by (with_reducible repeat (first | refine blk_drewN ?_ _ | refine blk_drew ?_ | refine blk_alloc ?_ _)); refine blk_put (cs := #[.int .i64 t433, .int .i64 t434, .int .i64 t435, .bool false]) ?_ 3 _ rfl; (with_reducible repeat (first | refine blk_drewN ?_ _ | refine blk_drew ?_ | refine blk_alloc ?_ _)); refine blk_put (cs := #[.int .i64 t433, .int .i64 t434, .int .i64 0, .bool false]) ?_ 2 _ rfl; (with_reducible repeat (first | refine blk_drewN ?_ _ | refine blk_drew ?_ | refine blk_alloc ?_ _)); refine blk_put (cs := #[.int .i64 t433, .int .i64 0, .int .i64 0, .bool false]) ?_ 1 _ rfl; (with_reducible repeat (first | refine blk_drewN ?_ _ | refine blk_drew ?_ | refine blk_alloc ?_ _)); refine blk_put (cs := #[.int .i64 0, .int .i64 0, .int .i64 0, .bool false]) ?_ 0 _ rfl; (with_reducible repeat (first | refine blk_drewN ?_ _ | refine blk_drew ?_ | refine blk_alloc ?_ _)); exact BK440.out) hb); have n5_ := Aside0.mk (below_step (by repeat (first | (with_reducible first | exact HB.out | apply below_alloc | apply pw_below_drewN | apply below_drew1 | refine below_set ?_ GE440.out) | exact HB.out)) hb); clear HO431; clear HO439; clear BK432; clear BK440; clear HB; have HO431 := n0_; have HO439 := n1_; have HO447 := n2_; have BK432 := n3_; have BK440 := n4_; have HB := n5_; clear n0_ n1_ n2_ n3_ n4_ n5_; (try clear hb); (try clear hb2); (try clear hk); (try clear hi); (try clear ho0)) | ((with_reducible refine gate_dst (N := 7) rfl ?_); refine box_event ?hg (N := 7) ?hd (cs := #[.int .i64 0, .int .i64 0, .int .i64 0, .bool false]) (t := 38) ?hr ?_; (case hd => rfl); (case hg => rfl); (case hr => first | (go_simp; done) | (go_simp; rfl)); intro gb448 hg w18 hbox hb; have n0_ := Aside0.mk (Kd.R_below (rq HO431.out) hb); have n1_ := Aside0.mk (Kd.R_below (rq HO439.out) hb); have n2_ := Aside0.mk (Kd.R_below (rq HO447.out) hb); have n3_ := Aside0.mk (blk_below (bq BK432.out) hb); have n4_ := Aside0.mk (blk_below (bq BK440.out) hb); have n5_ := Aside0.mk (below_step (lq HB.out) hb); have n6_ := Aside0.mk (hbox); have n7_ := Aside0.mk ((ge_new hg (lq HB.out) : w.heap.size ≤ gb448)); have n8_ := Aside0.mk ((ge_new hg (lq HB.out) : w.heap.size ≤ gb448)); have n9_ := Aside0.mk ((ne_new hg (bq BK432.out) : gb432 ≠ gb448)); have n10_ := Aside0.mk ((new_ne hg (bq BK432.out) : gb448 ≠ gb432)); have n11_ := Aside0.mk ((ne_new hg (bq BK440.out) : gb440 ≠ gb448)); have n12_ := Aside0.mk ((new_ne hg (bq BK440.out) : gb448 ≠ gb440)); clear HO431; clear HO439; clear HO447; clear BK432; clear BK440; clear HB; have HO431 := n0_; have HO439 := n1_; have HO447 := n2_; have BK432 := n3_; have BK440 := n4_; have HB := n5_; have BK448 := n6_; have GW448 := n7_; have GE448 := n8_; have NB432_448 := n9_; have NB448_432 := n10_; have NB440_448 := n11_; have NB448_440 := n12_; clear n0_ n1_ n2_ n3_ n4_ n5_ n6_ n7_ n8_ n9_ n10_ n11_ n12_; clear hb hbox hg; have hnb19 := NB448_432.out; have hnc19 := NB432_448.out; have hnb20 := NB448_440.out; have hnc20 := NB440_448.out; have hcz21_0 : w18.cell? ⟨gb448, 0, none⟩ = some (.int .i64 0) := (blk_cell BK448.out 0).trans rfl; have hcz21_1 : w18.cell? ⟨gb448, 1, none⟩ = some (.int .i64 0) := (blk_cell BK448.out 1).trans rfl; have hcz21_2 : w18.cell? ⟨gb448, 2, none⟩ = some (.int .i64 0) := (blk_cell BK448.out 2).trans rfl; have hcz21_3 : w18.cell? ⟨gb448, 3, none⟩ = some (.bool false) := (blk_cell BK448.out 3).trans rfl; have hfz21_0 := blk_frozen BK448.out 0; have hfz21_1 := blk_frozen BK448.out 1; have hfz21_2 := blk_frozen BK448.out 2; have hfz21_3 := blk_frozen BK448.out 3; obtain ⟨Ao22, co22, eo22⟩ := Kd.R_slice HO439.out; subst eo22; obtain ⟨Ao23, co23, eo23⟩ := Kd.R_slice HO447.out; subst eo23))
   go_loopg [9, 10, 11, 12] k (fun kq v9 v10 v11 v12 w' => ∃ (x9_1 : Int) (x10_1 : Int) (x11_1 : Bool) (x12_1 : Int), v9 = .int .i64 x9_1 ∧ v10 = .int .i64 x10_1 ∧ v11 = .bool x11_1 ∧ v12 = .int .i64 x12_1 ∧ Aside0 (laws_FnHealth.l0 kq t437 x9_1 x10_1 x11_1 x12_1 t427 t428 t433 t434 t435 t436 = some r) ∧ Aside0 (kq ≤ k) ∧ Aside0 (Kd.R (Kd.int .i64) 3 w' w.heap.size (fun _ => True) (.slice Ao22 t437.length co22) t437) ∧ Aside0 (w'.heap[gb432]? = some (.cells #[.int .i64 t427, .int .i64 t428] 41 (0, 0))) ∧ Aside0 (w'.heap[gb440]? = some (.cells #[.int .i64 t433, .int .i64 t434, .int .i64 t435, .bool t436] 38 (0, 0))) ∧ Aside0 (w'.heap[gb448]? = some (.cells #[.int .i64 t441, .int .i64 t442, .int .i64 t443, .bool t444] 38 (0, 0))) ∧ Aside0 (Below w.heap.size w w'))
   case atStart => exact ⟨(0), (0), (false), (0), (by first | rfl | (simp; done) | (simp [*]; done)), (by first | rfl | (simp; done) | (simp [*]; done)), (by first | rfl | (simp; done) | (simp [*]; done)), (by first | rfl | (simp; done) | (simp [*]; done)), H', ⟨Nat.le_refl _⟩, ⟨by (with_reducible repeat (first | apply Kd.R_alloc | apply Kd.R_drewN | apply Kd.R_drew)); exact Kd.R_mono (Kd.R_far (p := ⟨gb448, 3, none⟩) (Kd.R_far (p := ⟨gb448, 2, none⟩) (Kd.R_far (p := ⟨gb448, 1, none⟩) (Kd.R_far (p := ⟨gb448, 0, none⟩) (Kd.R_types HO439.out BK448.out (by decide)) (fun _ hk => hk.2) (.int .i64 t441)) (fun _ hk => hk.2) (.int .i64 t442)) (fun _ hk => hk.2) (.int .i64 t443)) (fun _ hk => hk.2) (.bool t444)) (fun _ hk => trivial)⟩, ⟨by (with_reducible repeat (first | refine blk_drewN ?_ _ | refine blk_drew ?_ | refine blk_alloc ?_ _)); refine blk_far ?_ NB432_448.out _; (with_reducible repeat (first | refine blk_drewN ?_ _ | refine blk_drew ?_ | refine blk_alloc ?_ _)); refine blk_far ?_ NB432_448.out _; (with_reducible repeat (first | refine blk_drewN ?_ _ | refine blk_drew ?_ | refine blk_alloc ?_ _)); refine blk_far ?_ NB432_448.out _; (with_reducible repeat (first | refine blk_drewN ?_ _ | refine blk_drew ?_ | refine blk_alloc ?_ _)); refine blk_far ?_ NB432_448.out _; (with_reducible repeat (first | refine blk_drewN ?_ _ | refine blk_drew ?_ | refine blk_alloc ?_ _)); exact BK432.out⟩, ⟨by (with_reducible repeat (first | refine blk_drewN ?_ _ | refine blk_drew ?_ | refine blk_alloc ?_ _)); refine blk_far ?_ NB440_448.out _; (with_reducible repeat (first | refine blk_drewN ?_ _ | refine blk_drew ?_ | refine blk_alloc ?_ _)); refine blk_far ?_ NB440_448.out _; (with_reducible repeat (first | refine blk_drewN ?_ _ | refine blk_drew ?_ | refine blk_alloc ?_ _)); refine blk_far ?_ NB440_448.out _; (with_reducible repeat (first | refine blk_drewN ?_ _ | refine blk_drew ?_ | refine blk_alloc ?_ _)); refine blk_far ?_ NB440_448.out _; (with_reducible repeat (first | refine blk_drewN ?_ _ | refine blk_drew ?_ | refine blk_alloc ?_ _)); exact BK440.out⟩, ⟨by (with_reducible repeat (first | refine blk_drewN ?_ _ | refine blk_drew ?_ | refine blk_alloc ?_ _)); refine blk_put (cs := #[.int .i64 t441, .int .i64 t442, .int .i64 t443, .bool false]) ?_ 3 _ rfl; (with_reducible repeat (first | refine blk_drewN ?_ _ | refine blk_drew ?_ | refine blk_alloc ?_ _)); refine blk_put (cs := #[.int .i64 t441, .int .i64 t442, .int .i64 0, .bool false]) ?_ 2 _ rfl; (with_reducible repeat (first | refine blk_drewN ?_ _ | refine blk_drew ?_ | refine blk_alloc ?_ _)); refine blk_put (cs := #[.int .i64 t441, .int .i64 0, .int .i64 0, .bool false]) ?_ 1 _ rfl; (with_reducible repeat (first | refine blk_drewN ?_ _ | refine blk_drew ?_ | refine blk_alloc ?_ _)); refine blk_put (cs := #[.int .i64 0, .int .i64 0, .int .i64 0, .bool false]) ?_ 0 _ rfl; (with_reducible repeat (first | refine blk_drewN ?_ _ | refine blk_drew ?_ | refine blk_alloc ?_ _)); exact BK448.out⟩, ⟨by repeat (first | (with_reducible first | exact HB.out | apply below_alloc | apply pw_below_drewN | apply below_drew1 | refine below_set ?_ GE448.out) | exact HB.out)⟩⟩
   case round =>
    clear H'
    try clear c1
    try clear c2
    try clear p2
    try clear c3
    try clear c7
    try clear c7b0
    try clear c7b1
    try clear c7b2
    try clear c9
    try clear c14
    try clear c19
    try clear c20
    try clear c21
    try clear hcz10_0
    try clear hcz10_1
    try clear hcz15_0
    try clear hcz15_1
    try clear hcz15_2
    try clear hcz15_3
    try clear hcz16_0
    try clear hcz16_1
    try clear hcz21_0
    try clear hcz21_1
    try clear hcz21_2
    try clear hcz21_3
    try clear hfz10_0
    try clear hfz10_1
    try clear hfz15_0
    try clear hfz15_1
    try clear hfz15_2
    try clear hfz15_3
    try clear hfz16_0
    try clear hfz16_1
    try clear hfz21_0
    try clear hfz21_1
    try clear hfz21_2
    try clear hfz21_3
    obtain ⟨x9_1, x10_1, x11_1, x12_1, rfl, rfl, rfl, rfl, HA, HK1, HO_6, BK432, BK440, BK448, HB⟩ := hrel
    cases gk with
    | zero => exact absurd HA.out (by simp [laws_FnHealth.l0])
    | succ k1 =>
     have H := HA.out
     clear HA
     simp only [laws_FnHealth.l0] at H
     by_cases c24 : x12_1 < (t437.length : Int)
     ·rw [if_pos c24] at H
      have c24b0 : decide (x12_1 < (t437.length : Int)) = true := decide_eq_true c24
      clear c24
      have HC25 := Aside0.mk H
      clear H
      go_upto_region 12 with (fail)
      go_cut [51] (fun v51 wc => ∃ (kq : Nat) (x51_24 : Bool), v51 = .bool x51_24 ∧ Aside0 (laws_FnHealth.j1 kq t437 x9_1 x10_1 x11_1 x12_1 x51_24 t427 t428 t433 t434 t435 t436 = some r) ∧ Aside0 (kq ≤ k1) ∧ Aside0 (Kd.R (Kd.int .i64) 3 wc w.heap.size (fun _ => True) (.slice Ao22 t437.length co22) t437) ∧ Aside0 (wc.heap[gb432]? = some (.cells #[.int .i64 t427, .int .i64 t428] 41 (0, 0))) ∧ Aside0 (wc.heap[gb440]? = some (.cells #[.int .i64 t433, .int .i64 t434, .int .i64 t435, .bool t436] 38 (0, 0))) ∧ Aside0 (wc.heap[gb448]? = some (.cells #[.int .i64 t441, .int .i64 t442, .int .i64 t443, .bool t444] 38 (0, 0))) ∧ Aside0 (Below w.heap.size w wc))
      case first =>
       have H := HC25.out
       clear HC25
       by_cases c26 : x11_1 = true
       ·subst c26
        rw [if_pos rfl] at H
        by_cases c27 : 0 ≤ x12_1
        ·rw [if_pos c27] at H
         have c27b0 : decide (0 ≤ x12_1) = true := decide_eq_true c27
         clear c27
         (first | rw [c27b0] | (simp only [i64_w, i32_w]; rw [c27b0]) | skip)
         have H' := Aside0.mk H
         clear H
         have p454 : 0 ≤ (x12_1 : Int) := of_decide_eq_true (by first | (with_reducible assumption) | assumption)
         have q454 : x12_1 < (t437.length : Int) := of_decide_eq_true (by first | (with_reducible assumption) | assumption)
         obtain ⟨ad454, e454, hx454_0⟩ := Kd.at_int (Kd.R_reads' HO_6.out).2.2 x12_1 p454 q454
         cases e454
         replace p454 := eq_true p454
         replace q454 := eq_true q454
         go_wp2
         go_meet
         case rel => exact ⟨_, (((rd t437 x12_1) != 0)), (by first | rfl | (simp; done) | (simp [*]; done)), H', ⟨by have := HK1.out; first | omega | exact Nat.le_refl _⟩, ⟨by (with_reducible repeat (first | apply Kd.R_alloc | apply Kd.R_drewN | apply Kd.R_drew)); exact HO_6.out⟩, ⟨by (with_reducible repeat (first | refine blk_drewN ?_ _ | refine blk_drew ?_ | refine blk_alloc ?_ _)); exact BK432.out⟩, ⟨by (with_reducible repeat (first | refine blk_drewN ?_ _ | refine blk_drew ?_ | refine blk_alloc ?_ _)); exact BK440.out⟩, ⟨by (with_reducible repeat (first | refine blk_drewN ?_ _ | refine blk_drew ?_ | refine blk_alloc ?_ _)); exact BK448.out⟩, ⟨by exact lq HB.out⟩⟩
        ·rw [if_neg c27] at H
         exact absurd H (by simp)
       ·replace c26 := Bool.eq_false_iff.mpr c26
        subst c26
        rw [if_neg (show ¬ (false = true) by decide)] at H
        have H' := Aside0.mk H
        clear H
        go_wp2
        go_meet
        case rel => exact ⟨_, (false), (by first | rfl | (simp; done) | (simp [*]; done)), H', ⟨by have := HK1.out; first | omega | exact Nat.le_refl _⟩, ⟨by (with_reducible repeat (first | apply Kd.R_alloc | apply Kd.R_drewN | apply Kd.R_drew)); exact HO_6.out⟩, ⟨by (with_reducible repeat (first | refine blk_drewN ?_ _ | refine blk_drew ?_ | refine blk_alloc ?_ _)); exact BK432.out⟩, ⟨by (with_reducible repeat (first | refine blk_drewN ?_ _ | refine blk_drew ?_ | refine blk_alloc ?_ _)); exact BK440.out⟩, ⟨by (with_reducible repeat (first | refine blk_drewN ?_ _ | refine blk_drew ?_ | refine blk_alloc ?_ _)); exact BK448.out⟩, ⟨by exact lq HB.out⟩⟩
      case rest =>
       clear HC25
       try clear c1
       try clear c2
       try clear p2
       try clear c3
       try clear p4
       try clear q4
       try clear hx4
       try clear c7
       try clear c7b0
       try clear c7b1
       try clear c7b2
       try clear c9
       try clear c14
       try clear c19
       try clear c20
       try clear c21
       try clear c24
       try clear c24b0
       try clear c26
       try clear c27
       try clear c27b0
       try clear hcz10_0
       try clear hcz10_1
       try clear hcz15_0
       try clear hcz15_1
       try clear hcz15_2
       try clear hcz15_3
       try clear hcz16_0
       try clear hcz16_1
       try clear hcz21_0
       try clear hcz21_1
       try clear hcz21_2
       try clear hcz21_3
       try clear hfz10_0
       try clear hfz10_1
       try clear hfz15_0
       try clear hfz15_1
       try clear hfz15_2
       try clear hfz15_3
       try clear hfz16_0
       try clear hfz16_1
       try clear hfz21_0
       try clear hfz21_1
       try clear hfz21_2
       try clear hfz21_3
       try clear hx454_0
       try clear p2
       try clear p454
       try clear q454
       obtain ⟨kq, x51_24, rfl, HA, HJ24, HO_6, BK432, BK440, BK448, HB⟩ := hcut
       cases kq with
       | zero => exact absurd HA.out (by simp [laws_FnHealth.j1])
       | succ kj24 =>
        have H := HA.out
        clear HA
        simp only [laws_FnHealth.j1] at H
        by_cases c28 : x51_24 = true
        ·subst c28
         rw [if_pos rfl] at H
         obtain rfl := Option.some.inj H
         go_wp2
         go_ret
         exact ⟨by first | rfl | (simp [errW_none, errW_some] <;> rfl) | (simp [*, errW_none, errW_some] <;> rfl), by exact lq HB.out⟩
        ·replace c28 := Bool.eq_false_iff.mpr c28
         subst c28
         rw [if_neg (show ¬ (false = true) by decide)] at H
         by_cases c29 : 0 ≤ x12_1
         ·rw [if_pos c29] at H
          have c29b0 : decide (0 ≤ x12_1) = true := decide_eq_true c29
          clear c29
          by_cases c30 : x12_1 < (t437.length : Int)
          ·rw [if_pos c30] at H
           have c30b0 : decide (x12_1 < (t437.length : Int)) = true := decide_eq_true c30
           clear c30
           by_cases c31 : (rd t437 x12_1) = 2
           ·rw [if_pos c31] at H
            have c31b0 : ((rd t437 x12_1) == 2) = true := beq_iff_eq.mpr c31
            have c31b1 : ((rd t437 x12_1) != 2) = false := bne_eq_false_iff_eq.mpr c31
            clear c31
            have H' := Aside0.mk H
            clear H
            have p455 : 0 ≤ (x12_1 : Int) := of_decide_eq_true (by first | (with_reducible assumption) | assumption)
            have q455 : x12_1 < (t437.length : Int) := of_decide_eq_true (by first | (with_reducible assumption) | assumption)
            obtain ⟨ad455, e455, hx455_0⟩ := Kd.at_int (Kd.R_reads' HO_6.out).2.2 x12_1 p455 q455
            cases e455
            replace p455 := eq_true p455
            replace q455 := eq_true q455
            go_wp2
            go_roundg kj24
            case measure => have := HK1.out; have := HJ24.out; omega
            case rel => exact ⟨(wrap64 (x9_1 + 1)), (wrap64 (x10_1 + 1)), (x11_1), (wrap64 (x12_1 + 1)), (by first | rfl | (simp; done) | (simp [*]; done)), (by first | rfl | (simp; done) | (simp [*]; done)), (by first | rfl | (simp; done) | (simp [*]; done)), (by first | rfl | (simp; done) | (simp [*]; done)), H', ⟨by have := HK1.out; have := HJ24.out; omega⟩, ⟨by (with_reducible repeat (first | apply Kd.R_alloc | apply Kd.R_drewN | apply Kd.R_drew)); exact HO_6.out⟩, ⟨by (with_reducible repeat (first | refine blk_drewN ?_ _ | refine blk_drew ?_ | refine blk_alloc ?_ _)); exact BK432.out⟩, ⟨by (with_reducible repeat (first | refine blk_drewN ?_ _ | refine blk_drew ?_ | refine blk_alloc ?_ _)); exact BK440.out⟩, ⟨by (with_reducible repeat (first | refine blk_drewN ?_ _ | refine blk_drew ?_ | refine blk_alloc ?_ _)); exact BK448.out⟩, ⟨by exact lq HB.out⟩⟩
           ·rw [if_neg c31] at H
            have c31b0 : ((rd t437 x12_1) == 2) = false := beq_eq_false_iff_ne.mpr c31
            have c31b1 : ((rd t437 x12_1) != 2) = true := bne_iff_ne.mpr c31
            by_cases c32 : (rd t437 x12_1) = 1
            ·rw [if_pos c32] at H
             have c32b0 : ((rd t437 x12_1) == 1) = true := beq_iff_eq.mpr c32
             have c32b1 : ((rd t437 x12_1) != 1) = false := bne_eq_false_iff_eq.mpr c32
             clear c32
             have H' := Aside0.mk H
             clear H
             have p455 : 0 ≤ (x12_1 : Int) := of_decide_eq_true (by first | (with_reducible assumption) | assumption)
             have q455 : x12_1 < (t437.length : Int) := of_decide_eq_true (by first | (with_reducible assumption) | assumption)
             obtain ⟨ad455, e455, hx455_0⟩ := Kd.at_int (Kd.R_reads' HO_6.out).2.2 x12_1 p455 q455
             cases e455
             replace p455 := eq_true p455
             replace q455 := eq_true q455
             go_wp2
             go_roundg kj24
             case measure => have := HK1.out; have := HJ24.out; omega
             case rel => exact ⟨(x9_1), (wrap64 (x10_1 + 1)), (true), (wrap64 (x12_1 + 1)), (by first | rfl | (simp; done) | (simp [*]; done)), (by first | rfl | (simp; done) | (simp [*]; done)), (by first | rfl | (simp; done) | (simp [*]; done)), (by first | rfl | (simp; done) | (simp [*]; done)), H', ⟨by have := HK1.out; have := HJ24.out; omega⟩, ⟨by (with_reducible repeat (first | apply Kd.R_alloc | apply Kd.R_drewN | apply Kd.R_drew)); exact HO_6.out⟩, ⟨by (with_reducible repeat (first | refine blk_drewN ?_ _ | refine blk_drew ?_ | refine blk_alloc ?_ _)); exact BK432.out⟩, ⟨by (with_reducible repeat (first | refine blk_drewN ?_ _ | refine blk_drew ?_ | refine blk_alloc ?_ _)); exact BK440.out⟩, ⟨by (with_reducible repeat (first | refine blk_drewN ?_ _ | refine blk_drew ?_ | refine blk_alloc ?_ _)); exact BK448.out⟩, ⟨by exact lq HB.out⟩⟩
            ·rw [if_neg c32] at H
             have c32b0 : ((rd t437 x12_1) == 1) = false := beq_eq_false_iff_ne.mpr c32
             have c32b1 : ((rd t437 x12_1) != 1) = true := bne_iff_ne.mpr c32
             by_cases c33 : (rd t437 x12_1) = 3
             ·rw [if_pos c33] at H
              have c33b0 : ((rd t437 x12_1) == 3) = true := beq_iff_eq.mpr c33
              have c33b1 : ((rd t437 x12_1) != 3) = false := bne_eq_false_iff_eq.mpr c33
              clear c33
              have H' := Aside0.mk H
              clear H
              have p455 : 0 ≤ (x12_1 : Int) := of_decide_eq_true (by first | (with_reducible assumption) | assumption)
              have q455 : x12_1 < (t437.length : Int) := of_decide_eq_true (by first | (with_reducible assumption) | assumption)
              obtain ⟨ad455, e455, hx455_0⟩ := Kd.at_int (Kd.R_reads' HO_6.out).2.2 x12_1 p455 q455
              cases e455
              replace p455 := eq_true p455
              replace q455 := eq_true q455
              go_wp2
              go_roundg kj24
              case measure => have := HK1.out; have := HJ24.out; omega
              case rel => exact ⟨(x9_1), (wrap64 (x10_1 + 1)), (x11_1), (wrap64 (x12_1 + 1)), (by first | rfl | (simp; done) | (simp [*]; done)), (by first | rfl | (simp; done) | (simp [*]; done)), (by first | rfl | (simp; done) | (simp [*]; done)), (by first | rfl | (simp; done) | (simp [*]; done)), H', ⟨by have := HK1.out; have := HJ24.out; omega⟩, ⟨by (with_reducible repeat (first | apply Kd.R_alloc | apply Kd.R_drewN | apply Kd.R_drew)); exact HO_6.out⟩, ⟨by (with_reducible repeat (first | refine blk_drewN ?_ _ | refine blk_drew ?_ | refine blk_alloc ?_ _)); exact BK432.out⟩, ⟨by (with_reducible repeat (first | refine blk_drewN ?_ _ | refine blk_drew ?_ | refine blk_alloc ?_ _)); exact BK440.out⟩, ⟨by (with_reducible repeat (first | refine blk_drewN ?_ _ | refine blk_drew ?_ | refine blk_alloc ?_ _)); exact BK448.out⟩, ⟨by exact lq HB.out⟩⟩
             ·rw [if_neg c33] at H
              have c33b0 : ((rd t437 x12_1) == 3) = false := beq_eq_false_iff_ne.mpr c33
              have c33b1 : ((rd t437 x12_1) != 3) = true := bne_iff_ne.mpr c33
              have H' := Aside0.mk H
              clear H
              have p455 : 0 ≤ (x12_1 : Int) := of_decide_eq_true (by first | (with_reducible assumption) | assumption)
              have q455 : x12_1 < (t437.length : Int) := of_decide_eq_true (by first | (with_reducible assumption) | assumption)
              obtain ⟨ad455, e455, hx455_0⟩ := Kd.at_int (Kd.R_reads' HO_6.out).2.2 x12_1 p455 q455
              cases e455
              replace p455 := eq_true p455
              replace q455 := eq_true q455
              go_wp2
              go_roundg kj24
              case measure => have := HK1.out; have := HJ24.out; omega
              case rel => exact ⟨(x9_1), (x10_1), (x11_1), (wrap64 (x12_1 + 1)), (by first | rfl | (simp; done) | (simp [*]; done)), (by first | rfl | (simp; done) | (simp [*]; done)), (by first | rfl | (simp; done) | (simp [*]; done)), (by first | rfl | (simp; done) | (simp [*]; done)), H', ⟨by have := HK1.out; have := HJ24.out; omega⟩, ⟨by (with_reducible repeat (first | apply Kd.R_alloc | apply Kd.R_drewN | apply Kd.R_drew)); exact HO_6.out⟩, ⟨by (with_reducible repeat (first | refine blk_drewN ?_ _ | refine blk_drew ?_ | refine blk_alloc ?_ _)); exact BK432.out⟩, ⟨by (with_reducible repeat (first | refine blk_drewN ?_ _ | refine blk_drew ?_ | refine blk_alloc ?_ _)); exact BK440.out⟩, ⟨by (with_reducible repeat (first | refine blk_drewN ?_ _ | refine blk_drew ?_ | refine blk_alloc ?_ _)); exact BK448.out⟩, ⟨by exact lq HB.out⟩⟩
          ·rw [if_neg c30] at H
           exact absurd H (by simp)
         ·rw [if_neg c29] at H
          exact absurd H (by simp)
     ·rw [if_neg c24] at H
      have c24b0 : decide (x12_1 < (t437.length : Int)) = false := decide_eq_false c24
      clear c24
      replace H := Option.bind_eq_some_iff.mp H
      obtain ⟨⟨t449, t450, t451, t452⟩, A340, H⟩ := H
      (try dsimp only at H)
      have A34 := Aside0.mk A340
      clear A340
      by_cases c35 : t434 = x9_1
      ·rw [if_pos c35] at H
       have c35b0 : (t434 == x9_1) = true := beq_iff_eq.mpr c35
       have c35b1 : (t434 != x9_1) = false := bne_eq_false_iff_eq.mpr c35
       clear c35
       by_cases c36 : t433 = x10_1
       ·rw [if_pos c36] at H
        have c36b0 : (t433 == x10_1) = true := beq_iff_eq.mpr c36
        have c36b1 : (t433 != x10_1) = false := bne_eq_false_iff_eq.mpr c36
        clear c36
        by_cases c37 : (t436 == x11_1) = true
        ·rw [if_pos c37] at H
         have c37b0 : (t436 == x11_1) = true := c37
         (try (have c37b1 : decide (t436 = x11_1) = true := by simpa using c37))
         (try (have c37b2 : (t436 == x11_1) = true := by simpa using c37))
         clear c37
         by_cases c38 : x9_1 = 0
         ·rw [if_pos c38] at H
          have c38b0 : (x9_1 == 0) = true := beq_iff_eq.mpr c38
          have c38b1 : (x9_1 != 0) = false := bne_eq_false_iff_eq.mpr c38
          clear c38
          by_cases c39 : x11_1 = true
          ·subst c39
           rw [if_pos rfl] at H
           by_cases c40 : t427 = 2
           ·rw [if_pos c40] at H
            have c40b0 : (t427 == 2) = true := beq_iff_eq.mpr c40
            have c40b1 : (t427 != 2) = false := bne_eq_false_iff_eq.mpr c40
            clear c40
            obtain rfl := Option.some.inj H
            have hnb41 := NB440_432.out
            have hnc41 := NB432_440.out
            have hnb42 := NB440_448.out
            have hnc42 := NB448_440.out
            have hcz43_0 : wr.cell? ⟨gb440, 0, none⟩ = some (.int .i64 t433) := (blk_cell BK440.out 0).trans rfl
            have hcz43_1 : wr.cell? ⟨gb440, 1, none⟩ = some (.int .i64 t434) := (blk_cell BK440.out 1).trans rfl
            have hcz43_2 : wr.cell? ⟨gb440, 2, none⟩ = some (.int .i64 t435) := (blk_cell BK440.out 2).trans rfl
            have hcz43_3 : wr.cell? ⟨gb440, 3, none⟩ = some (.bool t436) := (blk_cell BK440.out 3).trans rfl
            have hfz43_0 := blk_frozen BK440.out 0
            have hfz43_1 := blk_frozen BK440.out 1
            have hfz43_2 := blk_frozen BK440.out 2
            have hfz43_3 := blk_frozen BK440.out 3
            go_wp2_with (first | ((with_reducible refine gate_callee (f := 34) rfl ?_); refine goesL_ (some 71) rfl rfl Try.func34 (by kernel_rfl) rfl #[.agg #[.int .i64 t433, .int .i64 t434, .int .i64 t435, .bool t436]] rfl (by (try simp only [List.map_toArray, List.map_cons, List.map_nil]); first | done | rfl | (simp only [List.length_drop, List.length_take]; rfl)) ?_; (with_reducible refine (impl_Operator.calls t433 t434 t435 t436 t449 t450 t451 t452 _ A34.out).mono ?_); rintro e w44 ⟨rfl, hb⟩; refine ⟨_, rfl, ?_⟩; have n0_ := Aside0.mk (Kd.R_below (rq HO_6.out) hb); have n1_ := Aside0.mk (blk_below (bq BK432.out) hb); have n2_ := Aside0.mk (blk_below (bq BK440.out) hb); have n3_ := Aside0.mk (blk_below (bq BK448.out) hb); have n4_ := Aside0.mk (below_step (lq HB.out) hb); clear HO_6; clear BK432; clear BK440; clear BK448; clear HB; have HO_6 := n0_; have BK432 := n1_; have BK440 := n2_; have BK448 := n3_; have HB := n4_; clear n0_ n1_ n2_ n3_ n4_; (try clear hb); (try clear hb2); (try clear hk); (try clear hi)) | ((with_reducible refine gate_dst (N := 13) rfl ?_); refine box_event ?hg (N := 13) ?hd (cs := #[.int .i64 0, .int .i64 0, .int .i64 0, .bool false]) (t := 38) ?hr ?_; (case hd => rfl); (case hg => rfl); (case hr => first | (go_simp; done) | (go_simp; rfl)); intro gb453 hg w45 hbox hb; have n0_ := Aside0.mk (Kd.R_below (rq HO_6.out) hb); have n1_ := Aside0.mk (blk_below (bq BK432.out) hb); have n2_ := Aside0.mk (blk_below (bq BK440.out) hb); have n3_ := Aside0.mk (blk_below (bq BK448.out) hb); have n4_ := Aside0.mk (below_step (lq HB.out) hb); have n5_ := Aside0.mk (hbox); have n6_ := Aside0.mk ((ge_new hg (lq HB.out) : w.heap.size ≤ gb453)); have n7_ := Aside0.mk ((ge_new hg (lq HB.out) : w.heap.size ≤ gb453)); have n8_ := Aside0.mk ((ne_new hg (bq BK432.out) : gb432 ≠ gb453)); have n9_ := Aside0.mk ((new_ne hg (bq BK432.out) : gb453 ≠ gb432)); have n10_ := Aside0.mk ((ne_new hg (bq BK440.out) : gb440 ≠ gb453)); have n11_ := Aside0.mk ((new_ne hg (bq BK440.out) : gb453 ≠ gb440)); have n12_ := Aside0.mk ((ne_new hg (bq BK448.out) : gb448 ≠ gb453)); have n13_ := Aside0.mk ((new_ne hg (bq BK448.out) : gb453 ≠ gb448)); clear HO_6; clear BK432; clear BK440; clear BK448; clear HB; have HO_6 := n0_; have BK432 := n1_; have BK440 := n2_; have BK448 := n3_; have HB := n4_; have BK453 := n5_; have GW453 := n6_; have GE453 := n7_; have NB432_453 := n8_; have NB453_432 := n9_; have NB440_453 := n10_; have NB453_440 := n11_; have NB448_453 := n12_; have NB453_448 := n13_; clear n0_ n1_ n2_ n3_ n4_ n5_ n6_ n7_ n8_ n9_ n10_ n11_ n12_ n13_; clear hb hbox hg; have hnb46 := NB453_432.out; have hnc46 := NB432_453.out; have hnb47 := NB453_440.out; have hnc47 := NB440_453.out; have hnb48 := NB453_448.out; have hnc48 := NB448_453.out; have hcz49_0 : w45.cell? ⟨gb453, 0, none⟩ = some (.int .i64 0) := (blk_cell BK453.out 0).trans rfl; have hcz49_1 : w45.cell? ⟨gb453, 1, none⟩ = some (.int .i64 0) := (blk_cell BK453.out 1).trans rfl; have hcz49_2 : w45.cell? ⟨gb453, 2, none⟩ = some (.int .i64 0) := (blk_cell BK453.out 2).trans rfl; have hcz49_3 : w45.cell? ⟨gb453, 3, none⟩ = some (.bool false) := (blk_cell BK453.out 3).trans rfl; have hfz49_0 := blk_frozen BK453.out 0; have hfz49_1 := blk_frozen BK453.out 1; have hfz49_2 := blk_frozen BK453.out 2; have hfz49_3 := blk_frozen BK453.out 3; have hcz50_0 : w45.cell? ⟨gb440, 0, none⟩ = some (.int .i64 t433) := (blk_cell BK440.out 0).trans rfl; have hcz50_1 : w45.cell? ⟨gb440, 1, none⟩ = some (.int .i64 t434) := (blk_cell BK440.out 1).trans rfl; have hcz50_2 : w45.cell? ⟨gb440, 2, none⟩ = some (.int .i64 t435) := (blk_cell BK440.out 2).trans rfl; have hcz50_3 : w45.cell? ⟨gb440, 3, none⟩ = some (.bool t436) := (blk_cell BK440.out 3).trans rfl; have hfz50_0 := blk_frozen BK440.out 0; have hfz50_1 := blk_frozen BK440.out 1; have hfz50_2 := blk_frozen BK440.out 2; have hfz50_3 := blk_frozen BK440.out 3; have hnb51 := NB432_448.out; have hnc51 := NB448_432.out; have hcz52_0 : w45.cell? ⟨gb432, 0, none⟩ = some (.int .i64 t427) := (blk_cell BK432.out 0).trans rfl; have hcz52_1 : w45.cell? ⟨gb432, 1, none⟩ = some (.int .i64 t428) := (blk_cell BK432.out 1).trans rfl; have hfz52_0 := blk_frozen BK432.out 0; have hfz52_1 := blk_frozen BK432.out 1))
            go_ret
            exact ⟨by first | rfl | (simp [errW_none, errW_some] <;> rfl) | (simp [*, errW_none, errW_some] <;> rfl), by repeat (first | (with_reducible first | exact HB.out | apply below_alloc | apply pw_below_drewN | apply below_drew1 | refine below_set ?_ GE453.out) | exact HB.out)⟩
           ·rw [if_neg c40] at H
            have c40b0 : (t427 == 2) = false := beq_eq_false_iff_ne.mpr c40
            have c40b1 : (t427 != 2) = true := bne_iff_ne.mpr c40
            by_cases c53 : t452 = true
            ·subst c53
             rw [if_pos rfl] at H
             obtain rfl := Option.some.inj H
             have hnb54 := NB440_432.out
             have hnc54 := NB432_440.out
             have hnb55 := NB440_448.out
             have hnc55 := NB448_440.out
             have hcz56_0 : wr.cell? ⟨gb440, 0, none⟩ = some (.int .i64 t433) := (blk_cell BK440.out 0).trans rfl
             have hcz56_1 : wr.cell? ⟨gb440, 1, none⟩ = some (.int .i64 t434) := (blk_cell BK440.out 1).trans rfl
             have hcz56_2 : wr.cell? ⟨gb440, 2, none⟩ = some (.int .i64 t435) := (blk_cell BK440.out 2).trans rfl
             have hcz56_3 : wr.cell? ⟨gb440, 3, none⟩ = some (.bool t436) := (blk_cell BK440.out 3).trans rfl
             have hfz56_0 := blk_frozen BK440.out 0
             have hfz56_1 := blk_frozen BK440.out 1
             have hfz56_2 := blk_frozen BK440.out 2
             have hfz56_3 := blk_frozen BK440.out 3
             go_wp2_with (first | ((with_reducible refine gate_callee (f := 34) rfl ?_); refine goesL_ (some 71) rfl rfl Try.func34 (by kernel_rfl) rfl #[.agg #[.int .i64 t433, .int .i64 t434, .int .i64 t435, .bool t436]] rfl (by (try simp only [List.map_toArray, List.map_cons, List.map_nil]); first | done | rfl | (simp only [List.length_drop, List.length_take]; rfl)) ?_; (with_reducible refine (impl_Operator.calls t433 t434 t435 t436 t449 t450 t451 true _ A34.out).mono ?_); rintro e w57 ⟨rfl, hb⟩; refine ⟨_, rfl, ?_⟩; have n0_ := Aside0.mk (Kd.R_below (rq HO_6.out) hb); have n1_ := Aside0.mk (blk_below (bq BK432.out) hb); have n2_ := Aside0.mk (blk_below (bq BK440.out) hb); have n3_ := Aside0.mk (blk_below (bq BK448.out) hb); have n4_ := Aside0.mk (below_step (lq HB.out) hb); clear HO_6; clear BK432; clear BK440; clear BK448; clear HB; have HO_6 := n0_; have BK432 := n1_; have BK440 := n2_; have BK448 := n3_; have HB := n4_; clear n0_ n1_ n2_ n3_ n4_; (try clear hb); (try clear hb2); (try clear hk); (try clear hi)) | ((with_reducible refine gate_dst (N := 13) rfl ?_); refine box_event ?hg (N := 13) ?hd (cs := #[.int .i64 0, .int .i64 0, .int .i64 0, .bool false]) (t := 38) ?hr ?_; (case hd => rfl); (case hg => rfl); (case hr => first | (go_simp; done) | (go_simp; rfl)); intro gb453 hg w58 hbox hb; have n0_ := Aside0.mk (Kd.R_below (rq HO_6.out) hb); have n1_ := Aside0.mk (blk_below (bq BK432.out) hb); have n2_ := Aside0.mk (blk_below (bq BK440.out) hb); have n3_ := Aside0.mk (blk_below (bq BK448.out) hb); have n4_ := Aside0.mk (below_step (lq HB.out) hb); have n5_ := Aside0.mk (hbox); have n6_ := Aside0.mk ((ge_new hg (lq HB.out) : w.heap.size ≤ gb453)); have n7_ := Aside0.mk ((ge_new hg (lq HB.out) : w.heap.size ≤ gb453)); have n8_ := Aside0.mk ((ne_new hg (bq BK432.out) : gb432 ≠ gb453)); have n9_ := Aside0.mk ((new_ne hg (bq BK432.out) : gb453 ≠ gb432)); have n10_ := Aside0.mk ((ne_new hg (bq BK440.out) : gb440 ≠ gb453)); have n11_ := Aside0.mk ((new_ne hg (bq BK440.out) : gb453 ≠ gb440)); have n12_ := Aside0.mk ((ne_new hg (bq BK448.out) : gb448 ≠ gb453)); have n13_ := Aside0.mk ((new_ne hg (bq BK448.out) : gb453 ≠ gb448)); clear HO_6; clear BK432; clear BK440; clear BK448; clear HB; have HO_6 := n0_; have BK432 := n1_; have BK440 := n2_; have BK448 := n3_; have HB := n4_; have BK453 := n5_; have GW453 := n6_; have GE453 := n7_; have NB432_453 := n8_; have NB453_432 := n9_; have NB440_453 := n10_; have NB453_440 := n11_; have NB448_453 := n12_; have NB453_448 := n13_; clear n0_ n1_ n2_ n3_ n4_ n5_ n6_ n7_ n8_ n9_ n10_ n11_ n12_ n13_; clear hb hbox hg; have hnb59 := NB453_432.out; have hnc59 := NB432_453.out; have hnb60 := NB453_440.out; have hnc60 := NB440_453.out; have hnb61 := NB453_448.out; have hnc61 := NB448_453.out; have hcz62_0 : w58.cell? ⟨gb453, 0, none⟩ = some (.int .i64 0) := (blk_cell BK453.out 0).trans rfl; have hcz62_1 : w58.cell? ⟨gb453, 1, none⟩ = some (.int .i64 0) := (blk_cell BK453.out 1).trans rfl; have hcz62_2 : w58.cell? ⟨gb453, 2, none⟩ = some (.int .i64 0) := (blk_cell BK453.out 2).trans rfl; have hcz62_3 : w58.cell? ⟨gb453, 3, none⟩ = some (.bool false) := (blk_cell BK453.out 3).trans rfl; have hfz62_0 := blk_frozen BK453.out 0; have hfz62_1 := blk_frozen BK453.out 1; have hfz62_2 := blk_frozen BK453.out 2; have hfz62_3 := blk_frozen BK453.out 3; have hcz63_0 : w58.cell? ⟨gb440, 0, none⟩ = some (.int .i64 t433) := (blk_cell BK440.out 0).trans rfl; have hcz63_1 : w58.cell? ⟨gb440, 1, none⟩ = some (.int .i64 t434) := (blk_cell BK440.out 1).trans rfl; have hcz63_2 : w58.cell? ⟨gb440, 2, none⟩ = some (.int .i64 t435) := (blk_cell BK440.out 2).trans rfl; have hcz63_3 : w58.cell? ⟨gb440, 3, none⟩ = some (.bool t436) := (blk_cell BK440.out 3).trans rfl; have hfz63_0 := blk_frozen BK440.out 0; have hfz63_1 := blk_frozen BK440.out 1; have hfz63_2 := blk_frozen BK440.out 2; have hfz63_3 := blk_frozen BK440.out 3; have hnb64 := NB432_448.out; have hnc64 := NB448_432.out; have hcz65_0 : w58.cell? ⟨gb432, 0, none⟩ = some (.int .i64 t427) := (blk_cell BK432.out 0).trans rfl; have hcz65_1 : w58.cell? ⟨gb432, 1, none⟩ = some (.int .i64 t428) := (blk_cell BK432.out 1).trans rfl; have hfz65_0 := blk_frozen BK432.out 0; have hfz65_1 := blk_frozen BK432.out 1))
             go_ret
             exact ⟨by first | rfl | (simp [errW_none, errW_some] <;> rfl) | (simp [*, errW_none, errW_some] <;> rfl), by repeat (first | (with_reducible first | exact HB.out | apply below_alloc | apply pw_below_drewN | apply below_drew1 | refine below_set ?_ GE453.out) | exact HB.out)⟩
            ·replace c53 := Bool.eq_false_iff.mpr c53
             subst c53
             rw [if_neg (show ¬ (false = true) by decide)] at H
             obtain rfl := Option.some.inj H
             have hnb66 := NB440_432.out
             have hnc66 := NB432_440.out
             have hnb67 := NB440_448.out
             have hnc67 := NB448_440.out
             have hcz68_0 : wr.cell? ⟨gb440, 0, none⟩ = some (.int .i64 t433) := (blk_cell BK440.out 0).trans rfl
             have hcz68_1 : wr.cell? ⟨gb440, 1, none⟩ = some (.int .i64 t434) := (blk_cell BK440.out 1).trans rfl
             have hcz68_2 : wr.cell? ⟨gb440, 2, none⟩ = some (.int .i64 t435) := (blk_cell BK440.out 2).trans rfl
             have hcz68_3 : wr.cell? ⟨gb440, 3, none⟩ = some (.bool t436) := (blk_cell BK440.out 3).trans rfl
             have hfz68_0 := blk_frozen BK440.out 0
             have hfz68_1 := blk_frozen BK440.out 1
             have hfz68_2 := blk_frozen BK440.out 2
             have hfz68_3 := blk_frozen BK440.out 3
             go_wp2_with (first | ((with_reducible refine gate_callee (f := 34) rfl ?_); refine goesL_ (some 71) rfl rfl Try.func34 (by kernel_rfl) rfl #[.agg #[.int .i64 t433, .int .i64 t434, .int .i64 t435, .bool t436]] rfl (by (try simp only [List.map_toArray, List.map_cons, List.map_nil]); first | done | rfl | (simp only [List.length_drop, List.length_take]; rfl)) ?_; (with_reducible refine (impl_Operator.calls t433 t434 t435 t436 t449 t450 t451 false _ A34.out).mono ?_); rintro e w69 ⟨rfl, hb⟩; refine ⟨_, rfl, ?_⟩; have n0_ := Aside0.mk (Kd.R_below (rq HO_6.out) hb); have n1_ := Aside0.mk (blk_below (bq BK432.out) hb); have n2_ := Aside0.mk (blk_below (bq BK440.out) hb); have n3_ := Aside0.mk (blk_below (bq BK448.out) hb); have n4_ := Aside0.mk (below_step (lq HB.out) hb); clear HO_6; clear BK432; clear BK440; clear BK448; clear HB; have HO_6 := n0_; have BK432 := n1_; have BK440 := n2_; have BK448 := n3_; have HB := n4_; clear n0_ n1_ n2_ n3_ n4_; (try clear hb); (try clear hb2); (try clear hk); (try clear hi)) | ((with_reducible refine gate_dst (N := 13) rfl ?_); refine box_event ?hg (N := 13) ?hd (cs := #[.int .i64 0, .int .i64 0, .int .i64 0, .bool false]) (t := 38) ?hr ?_; (case hd => rfl); (case hg => rfl); (case hr => first | (go_simp; done) | (go_simp; rfl)); intro gb453 hg w70 hbox hb; have n0_ := Aside0.mk (Kd.R_below (rq HO_6.out) hb); have n1_ := Aside0.mk (blk_below (bq BK432.out) hb); have n2_ := Aside0.mk (blk_below (bq BK440.out) hb); have n3_ := Aside0.mk (blk_below (bq BK448.out) hb); have n4_ := Aside0.mk (below_step (lq HB.out) hb); have n5_ := Aside0.mk (hbox); have n6_ := Aside0.mk ((ge_new hg (lq HB.out) : w.heap.size ≤ gb453)); have n7_ := Aside0.mk ((ge_new hg (lq HB.out) : w.heap.size ≤ gb453)); have n8_ := Aside0.mk ((ne_new hg (bq BK432.out) : gb432 ≠ gb453)); have n9_ := Aside0.mk ((new_ne hg (bq BK432.out) : gb453 ≠ gb432)); have n10_ := Aside0.mk ((ne_new hg (bq BK440.out) : gb440 ≠ gb453)); have n11_ := Aside0.mk ((new_ne hg (bq BK440.out) : gb453 ≠ gb440)); have n12_ := Aside0.mk ((ne_new hg (bq BK448.out) : gb448 ≠ gb453)); have n13_ := Aside0.mk ((new_ne hg (bq BK448.out) : gb453 ≠ gb448)); clear HO_6; clear BK432; clear BK440; clear BK448; clear HB; have HO_6 := n0_; have BK432 := n1_; have BK440 := n2_; have BK448 := n3_; have HB := n4_; have BK453 := n5_; have GW453 := n6_; have GE453 := n7_; have NB432_453 := n8_; have NB453_432 := n9_; have NB440_453 := n10_; have NB453_440 := n11_; have NB448_453 := n12_; have NB453_448 := n13_; clear n0_ n1_ n2_ n3_ n4_ n5_ n6_ n7_ n8_ n9_ n10_ n11_ n12_ n13_; clear hb hbox hg; have hnb71 := NB453_432.out; have hnc71 := NB432_453.out; have hnb72 := NB453_440.out; have hnc72 := NB440_453.out; have hnb73 := NB453_448.out; have hnc73 := NB448_453.out; have hcz74_0 : w70.cell? ⟨gb453, 0, none⟩ = some (.int .i64 0) := (blk_cell BK453.out 0).trans rfl; have hcz74_1 : w70.cell? ⟨gb453, 1, none⟩ = some (.int .i64 0) := (blk_cell BK453.out 1).trans rfl; have hcz74_2 : w70.cell? ⟨gb453, 2, none⟩ = some (.int .i64 0) := (blk_cell BK453.out 2).trans rfl; have hcz74_3 : w70.cell? ⟨gb453, 3, none⟩ = some (.bool false) := (blk_cell BK453.out 3).trans rfl; have hfz74_0 := blk_frozen BK453.out 0; have hfz74_1 := blk_frozen BK453.out 1; have hfz74_2 := blk_frozen BK453.out 2; have hfz74_3 := blk_frozen BK453.out 3; have hcz75_0 : w70.cell? ⟨gb440, 0, none⟩ = some (.int .i64 t433) := (blk_cell BK440.out 0).trans rfl; have hcz75_1 : w70.cell? ⟨gb440, 1, none⟩ = some (.int .i64 t434) := (blk_cell BK440.out 1).trans rfl; have hcz75_2 : w70.cell? ⟨gb440, 2, none⟩ = some (.int .i64 t435) := (blk_cell BK440.out 2).trans rfl; have hcz75_3 : w70.cell? ⟨gb440, 3, none⟩ = some (.bool t436) := (blk_cell BK440.out 3).trans rfl; have hfz75_0 := blk_frozen BK440.out 0; have hfz75_1 := blk_frozen BK440.out 1; have hfz75_2 := blk_frozen BK440.out 2; have hfz75_3 := blk_frozen BK440.out 3; have hnb76 := NB432_448.out; have hnc76 := NB448_432.out; have hcz77_0 : w70.cell? ⟨gb432, 0, none⟩ = some (.int .i64 t427) := (blk_cell BK432.out 0).trans rfl; have hcz77_1 : w70.cell? ⟨gb432, 1, none⟩ = some (.int .i64 t428) := (blk_cell BK432.out 1).trans rfl; have hfz77_0 := blk_frozen BK432.out 0; have hfz77_1 := blk_frozen BK432.out 1))
             go_ret
             exact ⟨by first | rfl | (simp [errW_none, errW_some] <;> rfl) | (simp [*, errW_none, errW_some] <;> rfl), by repeat (first | (with_reducible first | exact HB.out | apply below_alloc | apply pw_below_drewN | apply below_drew1 | refine below_set ?_ GE453.out) | exact HB.out)⟩
          ·replace c39 := Bool.eq_false_iff.mpr c39
           subst c39
           rw [if_neg (show ¬ (false = true) by decide)] at H
           by_cases c78 : t452 = true
           ·subst c78
            rw [if_pos rfl] at H
            obtain rfl := Option.some.inj H
            have hnb79 := NB440_432.out
            have hnc79 := NB432_440.out
            have hnb80 := NB440_448.out
            have hnc80 := NB448_440.out
            have hcz81_0 : wr.cell? ⟨gb440, 0, none⟩ = some (.int .i64 t433) := (blk_cell BK440.out 0).trans rfl
            have hcz81_1 : wr.cell? ⟨gb440, 1, none⟩ = some (.int .i64 t434) := (blk_cell BK440.out 1).trans rfl
            have hcz81_2 : wr.cell? ⟨gb440, 2, none⟩ = some (.int .i64 t435) := (blk_cell BK440.out 2).trans rfl
            have hcz81_3 : wr.cell? ⟨gb440, 3, none⟩ = some (.bool t436) := (blk_cell BK440.out 3).trans rfl
            have hfz81_0 := blk_frozen BK440.out 0
            have hfz81_1 := blk_frozen BK440.out 1
            have hfz81_2 := blk_frozen BK440.out 2
            have hfz81_3 := blk_frozen BK440.out 3
            go_wp2_with (first | ((with_reducible refine gate_callee (f := 34) rfl ?_); refine goesL_ (some 71) rfl rfl Try.func34 (by kernel_rfl) rfl #[.agg #[.int .i64 t433, .int .i64 t434, .int .i64 t435, .bool t436]] rfl (by (try simp only [List.map_toArray, List.map_cons, List.map_nil]); first | done | rfl | (simp only [List.length_drop, List.length_take]; rfl)) ?_; (with_reducible refine (impl_Operator.calls t433 t434 t435 t436 t449 t450 t451 true _ A34.out).mono ?_); rintro e w82 ⟨rfl, hb⟩; refine ⟨_, rfl, ?_⟩; have n0_ := Aside0.mk (Kd.R_below (rq HO_6.out) hb); have n1_ := Aside0.mk (blk_below (bq BK432.out) hb); have n2_ := Aside0.mk (blk_below (bq BK440.out) hb); have n3_ := Aside0.mk (blk_below (bq BK448.out) hb); have n4_ := Aside0.mk (below_step (lq HB.out) hb); clear HO_6; clear BK432; clear BK440; clear BK448; clear HB; have HO_6 := n0_; have BK432 := n1_; have BK440 := n2_; have BK448 := n3_; have HB := n4_; clear n0_ n1_ n2_ n3_ n4_; (try clear hb); (try clear hb2); (try clear hk); (try clear hi)) | ((with_reducible refine gate_dst (N := 13) rfl ?_); refine box_event ?hg (N := 13) ?hd (cs := #[.int .i64 0, .int .i64 0, .int .i64 0, .bool false]) (t := 38) ?hr ?_; (case hd => rfl); (case hg => rfl); (case hr => first | (go_simp; done) | (go_simp; rfl)); intro gb453 hg w83 hbox hb; have n0_ := Aside0.mk (Kd.R_below (rq HO_6.out) hb); have n1_ := Aside0.mk (blk_below (bq BK432.out) hb); have n2_ := Aside0.mk (blk_below (bq BK440.out) hb); have n3_ := Aside0.mk (blk_below (bq BK448.out) hb); have n4_ := Aside0.mk (below_step (lq HB.out) hb); have n5_ := Aside0.mk (hbox); have n6_ := Aside0.mk ((ge_new hg (lq HB.out) : w.heap.size ≤ gb453)); have n7_ := Aside0.mk ((ge_new hg (lq HB.out) : w.heap.size ≤ gb453)); have n8_ := Aside0.mk ((ne_new hg (bq BK432.out) : gb432 ≠ gb453)); have n9_ := Aside0.mk ((new_ne hg (bq BK432.out) : gb453 ≠ gb432)); have n10_ := Aside0.mk ((ne_new hg (bq BK440.out) : gb440 ≠ gb453)); have n11_ := Aside0.mk ((new_ne hg (bq BK440.out) : gb453 ≠ gb440)); have n12_ := Aside0.mk ((ne_new hg (bq BK448.out) : gb448 ≠ gb453)); have n13_ := Aside0.mk ((new_ne hg (bq BK448.out) : gb453 ≠ gb448)); clear HO_6; clear BK432; clear BK440; clear BK448; clear HB; have HO_6 := n0_; have BK432 := n1_; have BK440 := n2_; have BK448 := n3_; have HB := n4_; have BK453 := n5_; have GW453 := n6_; have GE453 := n7_; have NB432_453 := n8_; have NB453_432 := n9_; have NB440_453 := n10_; have NB453_440 := n11_; have NB448_453 := n12_; have NB453_448 := n13_; clear n0_ n1_ n2_ n3_ n4_ n5_ n6_ n7_ n8_ n9_ n10_ n11_ n12_ n13_; clear hb hbox hg; have hnb84 := NB453_432.out; have hnc84 := NB432_453.out; have hnb85 := NB453_440.out; have hnc85 := NB440_453.out; have hnb86 := NB453_448.out; have hnc86 := NB448_453.out; have hcz87_0 : w83.cell? ⟨gb453, 0, none⟩ = some (.int .i64 0) := (blk_cell BK453.out 0).trans rfl; have hcz87_1 : w83.cell? ⟨gb453, 1, none⟩ = some (.int .i64 0) := (blk_cell BK453.out 1).trans rfl; have hcz87_2 : w83.cell? ⟨gb453, 2, none⟩ = some (.int .i64 0) := (blk_cell BK453.out 2).trans rfl; have hcz87_3 : w83.cell? ⟨gb453, 3, none⟩ = some (.bool false) := (blk_cell BK453.out 3).trans rfl; have hfz87_0 := blk_frozen BK453.out 0; have hfz87_1 := blk_frozen BK453.out 1; have hfz87_2 := blk_frozen BK453.out 2; have hfz87_3 := blk_frozen BK453.out 3; have hcz88_0 : w83.cell? ⟨gb440, 0, none⟩ = some (.int .i64 t433) := (blk_cell BK440.out 0).trans rfl; have hcz88_1 : w83.cell? ⟨gb440, 1, none⟩ = some (.int .i64 t434) := (blk_cell BK440.out 1).trans rfl; have hcz88_2 : w83.cell? ⟨gb440, 2, none⟩ = some (.int .i64 t435) := (blk_cell BK440.out 2).trans rfl; have hcz88_3 : w83.cell? ⟨gb440, 3, none⟩ = some (.bool t436) := (blk_cell BK440.out 3).trans rfl; have hfz88_0 := blk_frozen BK440.out 0; have hfz88_1 := blk_frozen BK440.out 1; have hfz88_2 := blk_frozen BK440.out 2; have hfz88_3 := blk_frozen BK440.out 3))
            go_ret
            exact ⟨by first | rfl | (simp [errW_none, errW_some] <;> rfl) | (simp [*, errW_none, errW_some] <;> rfl), by repeat (first | (with_reducible first | exact HB.out | apply below_alloc | apply pw_below_drewN | apply below_drew1 | refine below_set ?_ GE453.out) | exact HB.out)⟩
           ·replace c78 := Bool.eq_false_iff.mpr c78
            subst c78
            rw [if_neg (show ¬ (false = true) by decide)] at H
            obtain rfl := Option.some.inj H
            have hnb89 := NB440_432.out
            have hnc89 := NB432_440.out
            have hnb90 := NB440_448.out
            have hnc90 := NB448_440.out
            have hcz91_0 : wr.cell? ⟨gb440, 0, none⟩ = some (.int .i64 t433) := (blk_cell BK440.out 0).trans rfl
            have hcz91_1 : wr.cell? ⟨gb440, 1, none⟩ = some (.int .i64 t434) := (blk_cell BK440.out 1).trans rfl
            have hcz91_2 : wr.cell? ⟨gb440, 2, none⟩ = some (.int .i64 t435) := (blk_cell BK440.out 2).trans rfl
            have hcz91_3 : wr.cell? ⟨gb440, 3, none⟩ = some (.bool t436) := (blk_cell BK440.out 3).trans rfl
            have hfz91_0 := blk_frozen BK440.out 0
            have hfz91_1 := blk_frozen BK440.out 1
            have hfz91_2 := blk_frozen BK440.out 2
            have hfz91_3 := blk_frozen BK440.out 3
            go_wp2_with (first | ((with_reducible refine gate_callee (f := 34) rfl ?_); refine goesL_ (some 71) rfl rfl Try.func34 (by kernel_rfl) rfl #[.agg #[.int .i64 t433, .int .i64 t434, .int .i64 t435, .bool t436]] rfl (by (try simp only [List.map_toArray, List.map_cons, List.map_nil]); first | done | rfl | (simp only [List.length_drop, List.length_take]; rfl)) ?_; (with_reducible refine (impl_Operator.calls t433 t434 t435 t436 t449 t450 t451 false _ A34.out).mono ?_); rintro e w92 ⟨rfl, hb⟩; refine ⟨_, rfl, ?_⟩; have n0_ := Aside0.mk (Kd.R_below (rq HO_6.out) hb); have n1_ := Aside0.mk (blk_below (bq BK432.out) hb); have n2_ := Aside0.mk (blk_below (bq BK440.out) hb); have n3_ := Aside0.mk (blk_below (bq BK448.out) hb); have n4_ := Aside0.mk (below_step (lq HB.out) hb); clear HO_6; clear BK432; clear BK440; clear BK448; clear HB; have HO_6 := n0_; have BK432 := n1_; have BK440 := n2_; have BK448 := n3_; have HB := n4_; clear n0_ n1_ n2_ n3_ n4_; (try clear hb); (try clear hb2); (try clear hk); (try clear hi)) | ((with_reducible refine gate_dst (N := 13) rfl ?_); refine box_event ?hg (N := 13) ?hd (cs := #[.int .i64 0, .int .i64 0, .int .i64 0, .bool false]) (t := 38) ?hr ?_; (case hd => rfl); (case hg => rfl); (case hr => first | (go_simp; done) | (go_simp; rfl)); intro gb453 hg w93 hbox hb; have n0_ := Aside0.mk (Kd.R_below (rq HO_6.out) hb); have n1_ := Aside0.mk (blk_below (bq BK432.out) hb); have n2_ := Aside0.mk (blk_below (bq BK440.out) hb); have n3_ := Aside0.mk (blk_below (bq BK448.out) hb); have n4_ := Aside0.mk (below_step (lq HB.out) hb); have n5_ := Aside0.mk (hbox); have n6_ := Aside0.mk ((ge_new hg (lq HB.out) : w.heap.size ≤ gb453)); have n7_ := Aside0.mk ((ge_new hg (lq HB.out) : w.heap.size ≤ gb453)); have n8_ := Aside0.mk ((ne_new hg (bq BK432.out) : gb432 ≠ gb453)); have n9_ := Aside0.mk ((new_ne hg (bq BK432.out) : gb453 ≠ gb432)); have n10_ := Aside0.mk ((ne_new hg (bq BK440.out) : gb440 ≠ gb453)); have n11_ := Aside0.mk ((new_ne hg (bq BK440.out) : gb453 ≠ gb440)); have n12_ := Aside0.mk ((ne_new hg (bq BK448.out) : gb448 ≠ gb453)); have n13_ := Aside0.mk ((new_ne hg (bq BK448.out) : gb453 ≠ gb448)); clear HO_6; clear BK432; clear BK440; clear BK448; clear HB; have HO_6 := n0_; have BK432 := n1_; have BK440 := n2_; have BK448 := n3_; have HB := n4_; have BK453 := n5_; have GW453 := n6_; have GE453 := n7_; have NB432_453 := n8_; have NB453_432 := n9_; have NB440_453 := n10_; have NB453_440 := n11_; have NB448_453 := n12_; have NB453_448 := n13_; clear n0_ n1_ n2_ n3_ n4_ n5_ n6_ n7_ n8_ n9_ n10_ n11_ n12_ n13_; clear hb hbox hg; have hnb94 := NB453_432.out; have hnc94 := NB432_453.out; have hnb95 := NB453_440.out; have hnc95 := NB440_453.out; have hnb96 := NB453_448.out; have hnc96 := NB448_453.out; have hcz97_0 : w93.cell? ⟨gb453, 0, none⟩ = some (.int .i64 0) := (blk_cell BK453.out 0).trans rfl; have hcz97_1 : w93.cell? ⟨gb453, 1, none⟩ = some (.int .i64 0) := (blk_cell BK453.out 1).trans rfl; have hcz97_2 : w93.cell? ⟨gb453, 2, none⟩ = some (.int .i64 0) := (blk_cell BK453.out 2).trans rfl; have hcz97_3 : w93.cell? ⟨gb453, 3, none⟩ = some (.bool false) := (blk_cell BK453.out 3).trans rfl; have hfz97_0 := blk_frozen BK453.out 0; have hfz97_1 := blk_frozen BK453.out 1; have hfz97_2 := blk_frozen BK453.out 2; have hfz97_3 := blk_frozen BK453.out 3; have hcz98_0 : w93.cell? ⟨gb440, 0, none⟩ = some (.int .i64 t433) := (blk_cell BK440.out 0).trans rfl; have hcz98_1 : w93.cell? ⟨gb440, 1, none⟩ = some (.int .i64 t434) := (blk_cell BK440.out 1).trans rfl; have hcz98_2 : w93.cell? ⟨gb440, 2, none⟩ = some (.int .i64 t435) := (blk_cell BK440.out 2).trans rfl; have hcz98_3 : w93.cell? ⟨gb440, 3, none⟩ = some (.bool t436) := (blk_cell BK440.out 3).trans rfl; have hfz98_0 := blk_frozen BK440.out 0; have hfz98_1 := blk_frozen BK440.out 1; have hfz98_2 := blk_frozen BK440.out 2; have hfz98_3 := blk_frozen BK440.out 3))
            go_ret
            exact ⟨by first | rfl | (simp [errW_none, errW_some] <;> rfl) | (simp [*, errW_none, errW_some] <;> rfl), by repeat (first | (with_reducible first | exact HB.out | apply below_alloc | apply pw_below_drewN | apply below_drew1 | refine below_set ?_ GE453.out) | exact HB.out)⟩
         ·rw [if_neg c38] at H
          have c38b0 : (x9_1 == 0) = false := beq_eq_false_iff_ne.mpr c38
          have c38b1 : (x9_1 != 0) = true := bne_iff_ne.mpr c38
          by_cases c99 : x9_1 ≤ t428
          ·rw [if_pos c99] at H
           have c99b0 : decide (x9_1 ≤ t428) = true := decide_eq_true c99
           clear c99
           by_cases c100 : x11_1 = true
           ·subst c100
            rw [if_pos rfl] at H
            by_cases c101 : t427 = 2
            ·rw [if_pos c101] at H
             have c101b0 : (t427 == 2) = true := beq_iff_eq.mpr c101
             have c101b1 : (t427 != 2) = false := bne_eq_false_iff_eq.mpr c101
             clear c101
             obtain rfl := Option.some.inj H
             have hnb102 := NB440_432.out
             have hnc102 := NB432_440.out
             have hnb103 := NB440_448.out
             have hnc103 := NB448_440.out
             have hcz104_0 : wr.cell? ⟨gb440, 0, none⟩ = some (.int .i64 t433) := (blk_cell BK440.out 0).trans rfl
             have hcz104_1 : wr.cell? ⟨gb440, 1, none⟩ = some (.int .i64 t434) := (blk_cell BK440.out 1).trans rfl
             have hcz104_2 : wr.cell? ⟨gb440, 2, none⟩ = some (.int .i64 t435) := (blk_cell BK440.out 2).trans rfl
             have hcz104_3 : wr.cell? ⟨gb440, 3, none⟩ = some (.bool t436) := (blk_cell BK440.out 3).trans rfl
             have hfz104_0 := blk_frozen BK440.out 0
             have hfz104_1 := blk_frozen BK440.out 1
             have hfz104_2 := blk_frozen BK440.out 2
             have hfz104_3 := blk_frozen BK440.out 3
             go_wp2_with (first | ((with_reducible refine gate_callee (f := 34) rfl ?_); refine goesL_ (some 71) rfl rfl Try.func34 (by kernel_rfl) rfl #[.agg #[.int .i64 t433, .int .i64 t434, .int .i64 t435, .bool t436]] rfl (by (try simp only [List.map_toArray, List.map_cons, List.map_nil]); first | done | rfl | (simp only [List.length_drop, List.length_take]; rfl)) ?_; (with_reducible refine (impl_Operator.calls t433 t434 t435 t436 t449 t450 t451 t452 _ A34.out).mono ?_); rintro e w105 ⟨rfl, hb⟩; refine ⟨_, rfl, ?_⟩; have n0_ := Aside0.mk (Kd.R_below (rq HO_6.out) hb); have n1_ := Aside0.mk (blk_below (bq BK432.out) hb); have n2_ := Aside0.mk (blk_below (bq BK440.out) hb); have n3_ := Aside0.mk (blk_below (bq BK448.out) hb); have n4_ := Aside0.mk (below_step (lq HB.out) hb); clear HO_6; clear BK432; clear BK440; clear BK448; clear HB; have HO_6 := n0_; have BK432 := n1_; have BK440 := n2_; have BK448 := n3_; have HB := n4_; clear n0_ n1_ n2_ n3_ n4_; (try clear hb); (try clear hb2); (try clear hk); (try clear hi)) | ((with_reducible refine gate_dst (N := 13) rfl ?_); refine box_event ?hg (N := 13) ?hd (cs := #[.int .i64 0, .int .i64 0, .int .i64 0, .bool false]) (t := 38) ?hr ?_; (case hd => rfl); (case hg => rfl); (case hr => first | (go_simp; done) | (go_simp; rfl)); intro gb453 hg w106 hbox hb; have n0_ := Aside0.mk (Kd.R_below (rq HO_6.out) hb); have n1_ := Aside0.mk (blk_below (bq BK432.out) hb); have n2_ := Aside0.mk (blk_below (bq BK440.out) hb); have n3_ := Aside0.mk (blk_below (bq BK448.out) hb); have n4_ := Aside0.mk (below_step (lq HB.out) hb); have n5_ := Aside0.mk (hbox); have n6_ := Aside0.mk ((ge_new hg (lq HB.out) : w.heap.size ≤ gb453)); have n7_ := Aside0.mk ((ge_new hg (lq HB.out) : w.heap.size ≤ gb453)); have n8_ := Aside0.mk ((ne_new hg (bq BK432.out) : gb432 ≠ gb453)); have n9_ := Aside0.mk ((new_ne hg (bq BK432.out) : gb453 ≠ gb432)); have n10_ := Aside0.mk ((ne_new hg (bq BK440.out) : gb440 ≠ gb453)); have n11_ := Aside0.mk ((new_ne hg (bq BK440.out) : gb453 ≠ gb440)); have n12_ := Aside0.mk ((ne_new hg (bq BK448.out) : gb448 ≠ gb453)); have n13_ := Aside0.mk ((new_ne hg (bq BK448.out) : gb453 ≠ gb448)); clear HO_6; clear BK432; clear BK440; clear BK448; clear HB; have HO_6 := n0_; have BK432 := n1_; have BK440 := n2_; have BK448 := n3_; have HB := n4_; have BK453 := n5_; have GW453 := n6_; have GE453 := n7_; have NB432_453 := n8_; have NB453_432 := n9_; have NB440_453 := n10_; have NB453_440 := n11_; have NB448_453 := n12_; have NB453_448 := n13_; clear n0_ n1_ n2_ n3_ n4_ n5_ n6_ n7_ n8_ n9_ n10_ n11_ n12_ n13_; clear hb hbox hg; have hnb107 := NB453_432.out; have hnc107 := NB432_453.out; have hnb108 := NB453_440.out; have hnc108 := NB440_453.out; have hnb109 := NB453_448.out; have hnc109 := NB448_453.out; have hcz110_0 : w106.cell? ⟨gb453, 0, none⟩ = some (.int .i64 0) := (blk_cell BK453.out 0).trans rfl; have hcz110_1 : w106.cell? ⟨gb453, 1, none⟩ = some (.int .i64 0) := (blk_cell BK453.out 1).trans rfl; have hcz110_2 : w106.cell? ⟨gb453, 2, none⟩ = some (.int .i64 0) := (blk_cell BK453.out 2).trans rfl; have hcz110_3 : w106.cell? ⟨gb453, 3, none⟩ = some (.bool false) := (blk_cell BK453.out 3).trans rfl; have hfz110_0 := blk_frozen BK453.out 0; have hfz110_1 := blk_frozen BK453.out 1; have hfz110_2 := blk_frozen BK453.out 2; have hfz110_3 := blk_frozen BK453.out 3; have hcz111_0 : w106.cell? ⟨gb440, 0, none⟩ = some (.int .i64 t433) := (blk_cell BK440.out 0).trans rfl; have hcz111_1 : w106.cell? ⟨gb440, 1, none⟩ = some (.int .i64 t434) := (blk_cell BK440.out 1).trans rfl; have hcz111_2 : w106.cell? ⟨gb440, 2, none⟩ = some (.int .i64 t435) := (blk_cell BK440.out 2).trans rfl; have hcz111_3 : w106.cell? ⟨gb440, 3, none⟩ = some (.bool t436) := (blk_cell BK440.out 3).trans rfl; have hfz111_0 := blk_frozen BK440.out 0; have hfz111_1 := blk_frozen BK440.out 1; have hfz111_2 := blk_frozen BK440.out 2; have hfz111_3 := blk_frozen BK440.out 3; have hnb112 := NB432_448.out; have hnc112 := NB448_432.out; have hcz113_0 : w106.cell? ⟨gb432, 0, none⟩ = some (.int .i64 t427) := (blk_cell BK432.out 0).trans rfl; have hcz113_1 : w106.cell? ⟨gb432, 1, none⟩ = some (.int .i64 t428) := (blk_cell BK432.out 1).trans rfl; have hfz113_0 := blk_frozen BK432.out 0; have hfz113_1 := blk_frozen BK432.out 1))
             go_ret
             exact ⟨by first | rfl | (simp [errW_none, errW_some] <;> rfl) | (simp [*, errW_none, errW_some] <;> rfl), by repeat (first | (with_reducible first | exact HB.out | apply below_alloc | apply pw_below_drewN | apply below_drew1 | refine below_set ?_ GE453.out) | exact HB.out)⟩
            ·rw [if_neg c101] at H
             have c101b0 : (t427 == 2) = false := beq_eq_false_iff_ne.mpr c101
             have c101b1 : (t427 != 2) = true := bne_iff_ne.mpr c101
             by_cases c114 : t452 = true
             ·subst c114
              rw [if_pos rfl] at H
              obtain rfl := Option.some.inj H
              have hnb115 := NB440_432.out
              have hnc115 := NB432_440.out
              have hnb116 := NB440_448.out
              have hnc116 := NB448_440.out
              have hcz117_0 : wr.cell? ⟨gb440, 0, none⟩ = some (.int .i64 t433) := (blk_cell BK440.out 0).trans rfl
              have hcz117_1 : wr.cell? ⟨gb440, 1, none⟩ = some (.int .i64 t434) := (blk_cell BK440.out 1).trans rfl
              have hcz117_2 : wr.cell? ⟨gb440, 2, none⟩ = some (.int .i64 t435) := (blk_cell BK440.out 2).trans rfl
              have hcz117_3 : wr.cell? ⟨gb440, 3, none⟩ = some (.bool t436) := (blk_cell BK440.out 3).trans rfl
              have hfz117_0 := blk_frozen BK440.out 0
              have hfz117_1 := blk_frozen BK440.out 1
              have hfz117_2 := blk_frozen BK440.out 2
              have hfz117_3 := blk_frozen BK440.out 3
              go_wp2_with (first | ((with_reducible refine gate_callee (f := 34) rfl ?_); refine goesL_ (some 71) rfl rfl Try.func34 (by kernel_rfl) rfl #[.agg #[.int .i64 t433, .int .i64 t434, .int .i64 t435, .bool t436]] rfl (by (try simp only [List.map_toArray, List.map_cons, List.map_nil]); first | done | rfl | (simp only [List.length_drop, List.length_take]; rfl)) ?_; (with_reducible refine (impl_Operator.calls t433 t434 t435 t436 t449 t450 t451 true _ A34.out).mono ?_); rintro e w118 ⟨rfl, hb⟩; refine ⟨_, rfl, ?_⟩; have n0_ := Aside0.mk (Kd.R_below (rq HO_6.out) hb); have n1_ := Aside0.mk (blk_below (bq BK432.out) hb); have n2_ := Aside0.mk (blk_below (bq BK440.out) hb); have n3_ := Aside0.mk (blk_below (bq BK448.out) hb); have n4_ := Aside0.mk (below_step (lq HB.out) hb); clear HO_6; clear BK432; clear BK440; clear BK448; clear HB; have HO_6 := n0_; have BK432 := n1_; have BK440 := n2_; have BK448 := n3_; have HB := n4_; clear n0_ n1_ n2_ n3_ n4_; (try clear hb); (try clear hb2); (try clear hk); (try clear hi)) | ((with_reducible refine gate_dst (N := 13) rfl ?_); refine box_event ?hg (N := 13) ?hd (cs := #[.int .i64 0, .int .i64 0, .int .i64 0, .bool false]) (t := 38) ?hr ?_; (case hd => rfl); (case hg => rfl); (case hr => first | (go_simp; done) | (go_simp; rfl)); intro gb453 hg w119 hbox hb; have n0_ := Aside0.mk (Kd.R_below (rq HO_6.out) hb); have n1_ := Aside0.mk (blk_below (bq BK432.out) hb); have n2_ := Aside0.mk (blk_below (bq BK440.out) hb); have n3_ := Aside0.mk (blk_below (bq BK448.out) hb); have n4_ := Aside0.mk (below_step (lq HB.out) hb); have n5_ := Aside0.mk (hbox); have n6_ := Aside0.mk ((ge_new hg (lq HB.out) : w.heap.size ≤ gb453)); have n7_ := Aside0.mk ((ge_new hg (lq HB.out) : w.heap.size ≤ gb453)); have n8_ := Aside0.mk ((ne_new hg (bq BK432.out) : gb432 ≠ gb453)); have n9_ := Aside0.mk ((new_ne hg (bq BK432.out) : gb453 ≠ gb432)); have n10_ := Aside0.mk ((ne_new hg (bq BK440.out) : gb440 ≠ gb453)); have n11_ := Aside0.mk ((new_ne hg (bq BK440.out) : gb453 ≠ gb440)); have n12_ := Aside0.mk ((ne_new hg (bq BK448.out) : gb448 ≠ gb453)); have n13_ := Aside0.mk ((new_ne hg (bq BK448.out) : gb453 ≠ gb448)); clear HO_6; clear BK432; clear BK440; clear BK448; clear HB; have HO_6 := n0_; have BK432 := n1_; have BK440 := n2_; have BK448 := n3_; have HB := n4_; have BK453 := n5_; have GW453 := n6_; have GE453 := n7_; have NB432_453 := n8_; have NB453_432 := n9_; have NB440_453 := n10_; have NB453_440 := n11_; have NB448_453 := n12_; have NB453_448 := n13_; clear n0_ n1_ n2_ n3_ n4_ n5_ n6_ n7_ n8_ n9_ n10_ n11_ n12_ n13_; clear hb hbox hg; have hnb120 := NB453_432.out; have hnc120 := NB432_453.out; have hnb121 := NB453_440.out; have hnc121 := NB440_453.out; have hnb122 := NB453_448.out; have hnc122 := NB448_453.out; have hcz123_0 : w119.cell? ⟨gb453, 0, none⟩ = some (.int .i64 0) := (blk_cell BK453.out 0).trans rfl; have hcz123_1 : w119.cell? ⟨gb453, 1, none⟩ = some (.int .i64 0) := (blk_cell BK453.out 1).trans rfl; have hcz123_2 : w119.cell? ⟨gb453, 2, none⟩ = some (.int .i64 0) := (blk_cell BK453.out 2).trans rfl; have hcz123_3 : w119.cell? ⟨gb453, 3, none⟩ = some (.bool false) := (blk_cell BK453.out 3).trans rfl; have hfz123_0 := blk_frozen BK453.out 0; have hfz123_1 := blk_frozen BK453.out 1; have hfz123_2 := blk_frozen BK453.out 2; have hfz123_3 := blk_frozen BK453.out 3; have hcz124_0 : w119.cell? ⟨gb440, 0, none⟩ = some (.int .i64 t433) := (blk_cell BK440.out 0).trans rfl; have hcz124_1 : w119.cell? ⟨gb440, 1, none⟩ = some (.int .i64 t434) := (blk_cell BK440.out 1).trans rfl; have hcz124_2 : w119.cell? ⟨gb440, 2, none⟩ = some (.int .i64 t435) := (blk_cell BK440.out 2).trans rfl; have hcz124_3 : w119.cell? ⟨gb440, 3, none⟩ = some (.bool t436) := (blk_cell BK440.out 3).trans rfl; have hfz124_0 := blk_frozen BK440.out 0; have hfz124_1 := blk_frozen BK440.out 1; have hfz124_2 := blk_frozen BK440.out 2; have hfz124_3 := blk_frozen BK440.out 3; have hnb125 := NB432_448.out; have hnc125 := NB448_432.out; have hcz126_0 : w119.cell? ⟨gb432, 0, none⟩ = some (.int .i64 t427) := (blk_cell BK432.out 0).trans rfl; have hcz126_1 : w119.cell? ⟨gb432, 1, none⟩ = some (.int .i64 t428) := (blk_cell BK432.out 1).trans rfl; have hfz126_0 := blk_frozen BK432.out 0; have hfz126_1 := blk_frozen BK432.out 1))
              go_ret
              exact ⟨by first | rfl | (simp [errW_none, errW_some] <;> rfl) | (simp [*, errW_none, errW_some] <;> rfl), by repeat (first | (with_reducible first | exact HB.out | apply below_alloc | apply pw_below_drewN | apply below_drew1 | refine below_set ?_ GE453.out) | exact HB.out)⟩
             ·replace c114 := Bool.eq_false_iff.mpr c114
              subst c114
              rw [if_neg (show ¬ (false = true) by decide)] at H
              obtain rfl := Option.some.inj H
              have hnb127 := NB440_432.out
              have hnc127 := NB432_440.out
              have hnb128 := NB440_448.out
              have hnc128 := NB448_440.out
              have hcz129_0 : wr.cell? ⟨gb440, 0, none⟩ = some (.int .i64 t433) := (blk_cell BK440.out 0).trans rfl
              have hcz129_1 : wr.cell? ⟨gb440, 1, none⟩ = some (.int .i64 t434) := (blk_cell BK440.out 1).trans rfl
              have hcz129_2 : wr.cell? ⟨gb440, 2, none⟩ = some (.int .i64 t435) := (blk_cell BK440.out 2).trans rfl
              have hcz129_3 : wr.cell? ⟨gb440, 3, none⟩ = some (.bool t436) := (blk_cell BK440.out 3).trans rfl
              have hfz129_0 := blk_frozen BK440.out 0
              have hfz129_1 := blk_frozen BK440.out 1
              have hfz129_2 := blk_frozen BK440.out 2
              have hfz129_3 := blk_frozen BK440.out 3
              go_wp2_with (first | ((with_reducible refine gate_callee (f := 34) rfl ?_); refine goesL_ (some 71) rfl rfl Try.func34 (by kernel_rfl) rfl #[.agg #[.int .i64 t433, .int .i64 t434, .int .i64 t435, .bool t436]] rfl (by (try simp only [List.map_toArray, List.map_cons, List.map_nil]); first | done | rfl | (simp only [List.length_drop, List.length_take]; rfl)) ?_; (with_reducible refine (impl_Operator.calls t433 t434 t435 t436 t449 t450 t451 false _ A34.out).mono ?_); rintro e w130 ⟨rfl, hb⟩; refine ⟨_, rfl, ?_⟩; have n0_ := Aside0.mk (Kd.R_below (rq HO_6.out) hb); have n1_ := Aside0.mk (blk_below (bq BK432.out) hb); have n2_ := Aside0.mk (blk_below (bq BK440.out) hb); have n3_ := Aside0.mk (blk_below (bq BK448.out) hb); have n4_ := Aside0.mk (below_step (lq HB.out) hb); clear HO_6; clear BK432; clear BK440; clear BK448; clear HB; have HO_6 := n0_; have BK432 := n1_; have BK440 := n2_; have BK448 := n3_; have HB := n4_; clear n0_ n1_ n2_ n3_ n4_; (try clear hb); (try clear hb2); (try clear hk); (try clear hi)) | ((with_reducible refine gate_dst (N := 13) rfl ?_); refine box_event ?hg (N := 13) ?hd (cs := #[.int .i64 0, .int .i64 0, .int .i64 0, .bool false]) (t := 38) ?hr ?_; (case hd => rfl); (case hg => rfl); (case hr => first | (go_simp; done) | (go_simp; rfl)); intro gb453 hg w131 hbox hb; have n0_ := Aside0.mk (Kd.R_below (rq HO_6.out) hb); have n1_ := Aside0.mk (blk_below (bq BK432.out) hb); have n2_ := Aside0.mk (blk_below (bq BK440.out) hb); have n3_ := Aside0.mk (blk_below (bq BK448.out) hb); have n4_ := Aside0.mk (below_step (lq HB.out) hb); have n5_ := Aside0.mk (hbox); have n6_ := Aside0.mk ((ge_new hg (lq HB.out) : w.heap.size ≤ gb453)); have n7_ := Aside0.mk ((ge_new hg (lq HB.out) : w.heap.size ≤ gb453)); have n8_ := Aside0.mk ((ne_new hg (bq BK432.out) : gb432 ≠ gb453)); have n9_ := Aside0.mk ((new_ne hg (bq BK432.out) : gb453 ≠ gb432)); have n10_ := Aside0.mk ((ne_new hg (bq BK440.out) : gb440 ≠ gb453)); have n11_ := Aside0.mk ((new_ne hg (bq BK440.out) : gb453 ≠ gb440)); have n12_ := Aside0.mk ((ne_new hg (bq BK448.out) : gb448 ≠ gb453)); have n13_ := Aside0.mk ((new_ne hg (bq BK448.out) : gb453 ≠ gb448)); clear HO_6; clear BK432; clear BK440; clear BK448; clear HB; have HO_6 := n0_; have BK432 := n1_; have BK440 := n2_; have BK448 := n3_; have HB := n4_; have BK453 := n5_; have GW453 := n6_; have GE453 := n7_; have NB432_453 := n8_; have NB453_432 := n9_; have NB440_453 := n10_; have NB453_440 := n11_; have NB448_453 := n12_; have NB453_448 := n13_; clear n0_ n1_ n2_ n3_ n4_ n5_ n6_ n7_ n8_ n9_ n10_ n11_ n12_ n13_; clear hb hbox hg; have hnb132 := NB453_432.out; have hnc132 := NB432_453.out; have hnb133 := NB453_440.out; have hnc133 := NB440_453.out; have hnb134 := NB453_448.out; have hnc134 := NB448_453.out; have hcz135_0 : w131.cell? ⟨gb453, 0, none⟩ = some (.int .i64 0) := (blk_cell BK453.out 0).trans rfl; have hcz135_1 : w131.cell? ⟨gb453, 1, none⟩ = some (.int .i64 0) := (blk_cell BK453.out 1).trans rfl; have hcz135_2 : w131.cell? ⟨gb453, 2, none⟩ = some (.int .i64 0) := (blk_cell BK453.out 2).trans rfl; have hcz135_3 : w131.cell? ⟨gb453, 3, none⟩ = some (.bool false) := (blk_cell BK453.out 3).trans rfl; have hfz135_0 := blk_frozen BK453.out 0; have hfz135_1 := blk_frozen BK453.out 1; have hfz135_2 := blk_frozen BK453.out 2; have hfz135_3 := blk_frozen BK453.out 3; have hcz136_0 : w131.cell? ⟨gb440, 0, none⟩ = some (.int .i64 t433) := (blk_cell BK440.out 0).trans rfl; have hcz136_1 : w131.cell? ⟨gb440, 1, none⟩ = some (.int .i64 t434) := (blk_cell BK440.out 1).trans rfl; have hcz136_2 : w131.cell? ⟨gb440, 2, none⟩ = some (.int .i64 t435) := (blk_cell BK440.out 2).trans rfl; have hcz136_3 : w131.cell? ⟨gb440, 3, none⟩ = some (.bool t436) := (blk_cell BK440.out 3).trans rfl; have hfz136_0 := blk_frozen BK440.out 0; have hfz136_1 := blk_frozen BK440.out 1; have hfz136_2 := blk_frozen BK440.out 2; have hfz136_3 := blk_frozen BK440.out 3; have hnb137 := NB432_448.out; have hnc137 := NB448_432.out; have hcz138_0 : w131.cell? ⟨gb432, 0, none⟩ = some (.int .i64 t427) := (blk_cell BK432.out 0).trans rfl; have hcz138_1 : w131.cell? ⟨gb432, 1, none⟩ = some (.int .i64 t428) := (blk_cell BK432.out 1).trans rfl; have hfz138_0 := blk_frozen BK432.out 0; have hfz138_1 := blk_frozen BK432.out 1))
              go_ret
              exact ⟨by first | rfl | (simp [errW_none, errW_some] <;> rfl) | (simp [*, errW_none, errW_some] <;> rfl), by repeat (first | (with_reducible first | exact HB.out | apply below_alloc | apply pw_below_drewN | apply below_drew1 | refine below_set ?_ GE453.out) | exact HB.out)⟩
           ·replace c100 := Bool.eq_false_iff.mpr c100
            subst c100
            rw [if_neg (show ¬ (false = true) by decide)] at H
            by_cases c139 : t452 = true
            ·subst c139
             rw [if_pos rfl] at H
             obtain rfl := Option.some.inj H
             have hnb140 := NB440_432.out
             have hnc140 := NB432_440.out
             have hnb141 := NB440_448.out
             have hnc141 := NB448_440.out
             have hcz142_0 : wr.cell? ⟨gb440, 0, none⟩ = some (.int .i64 t433) := (blk_cell BK440.out 0).trans rfl
             have hcz142_1 : wr.cell? ⟨gb440, 1, none⟩ = some (.int .i64 t434) := (blk_cell BK440.out 1).trans rfl
             have hcz142_2 : wr.cell? ⟨gb440, 2, none⟩ = some (.int .i64 t435) := (blk_cell BK440.out 2).trans rfl
             have hcz142_3 : wr.cell? ⟨gb440, 3, none⟩ = some (.bool t436) := (blk_cell BK440.out 3).trans rfl
             have hfz142_0 := blk_frozen BK440.out 0
             have hfz142_1 := blk_frozen BK440.out 1
             have hfz142_2 := blk_frozen BK440.out 2
             have hfz142_3 := blk_frozen BK440.out 3
             go_wp2_with (first | ((with_reducible refine gate_callee (f := 34) rfl ?_); refine goesL_ (some 71) rfl rfl Try.func34 (by kernel_rfl) rfl #[.agg #[.int .i64 t433, .int .i64 t434, .int .i64 t435, .bool t436]] rfl (by (try simp only [List.map_toArray, List.map_cons, List.map_nil]); first | done | rfl | (simp only [List.length_drop, List.length_take]; rfl)) ?_; (with_reducible refine (impl_Operator.calls t433 t434 t435 t436 t449 t450 t451 true _ A34.out).mono ?_); rintro e w143 ⟨rfl, hb⟩; refine ⟨_, rfl, ?_⟩; have n0_ := Aside0.mk (Kd.R_below (rq HO_6.out) hb); have n1_ := Aside0.mk (blk_below (bq BK432.out) hb); have n2_ := Aside0.mk (blk_below (bq BK440.out) hb); have n3_ := Aside0.mk (blk_below (bq BK448.out) hb); have n4_ := Aside0.mk (below_step (lq HB.out) hb); clear HO_6; clear BK432; clear BK440; clear BK448; clear HB; have HO_6 := n0_; have BK432 := n1_; have BK440 := n2_; have BK448 := n3_; have HB := n4_; clear n0_ n1_ n2_ n3_ n4_; (try clear hb); (try clear hb2); (try clear hk); (try clear hi)) | ((with_reducible refine gate_dst (N := 13) rfl ?_); refine box_event ?hg (N := 13) ?hd (cs := #[.int .i64 0, .int .i64 0, .int .i64 0, .bool false]) (t := 38) ?hr ?_; (case hd => rfl); (case hg => rfl); (case hr => first | (go_simp; done) | (go_simp; rfl)); intro gb453 hg w144 hbox hb; have n0_ := Aside0.mk (Kd.R_below (rq HO_6.out) hb); have n1_ := Aside0.mk (blk_below (bq BK432.out) hb); have n2_ := Aside0.mk (blk_below (bq BK440.out) hb); have n3_ := Aside0.mk (blk_below (bq BK448.out) hb); have n4_ := Aside0.mk (below_step (lq HB.out) hb); have n5_ := Aside0.mk (hbox); have n6_ := Aside0.mk ((ge_new hg (lq HB.out) : w.heap.size ≤ gb453)); have n7_ := Aside0.mk ((ge_new hg (lq HB.out) : w.heap.size ≤ gb453)); have n8_ := Aside0.mk ((ne_new hg (bq BK432.out) : gb432 ≠ gb453)); have n9_ := Aside0.mk ((new_ne hg (bq BK432.out) : gb453 ≠ gb432)); have n10_ := Aside0.mk ((ne_new hg (bq BK440.out) : gb440 ≠ gb453)); have n11_ := Aside0.mk ((new_ne hg (bq BK440.out) : gb453 ≠ gb440)); have n12_ := Aside0.mk ((ne_new hg (bq BK448.out) : gb448 ≠ gb453)); have n13_ := Aside0.mk ((new_ne hg (bq BK448.out) : gb453 ≠ gb448)); clear HO_6; clear BK432; clear BK440; clear BK448; clear HB; have HO_6 := n0_; have BK432 := n1_; have BK440 := n2_; have BK448 := n3_; have HB := n4_; have BK453 := n5_; have GW453 := n6_; have GE453 := n7_; have NB432_453 := n8_; have NB453_432 := n9_; have NB440_453 := n10_; have NB453_440 := n11_; have NB448_453 := n12_; have NB453_448 := n13_; clear n0_ n1_ n2_ n3_ n4_ n5_ n6_ n7_ n8_ n9_ n10_ n11_ n12_ n13_; clear hb hbox hg; have hnb145 := NB453_432.out; have hnc145 := NB432_453.out; have hnb146 := NB453_440.out; have hnc146 := NB440_453.out; have hnb147 := NB453_448.out; have hnc147 := NB448_453.out; have hcz148_0 : w144.cell? ⟨gb453, 0, none⟩ = some (.int .i64 0) := (blk_cell BK453.out 0).trans rfl; have hcz148_1 : w144.cell? ⟨gb453, 1, none⟩ = some (.int .i64 0) := (blk_cell BK453.out 1).trans rfl; have hcz148_2 : w144.cell? ⟨gb453, 2, none⟩ = some (.int .i64 0) := (blk_cell BK453.out 2).trans rfl; have hcz148_3 : w144.cell? ⟨gb453, 3, none⟩ = some (.bool false) := (blk_cell BK453.out 3).trans rfl; have hfz148_0 := blk_frozen BK453.out 0; have hfz148_1 := blk_frozen BK453.out 1; have hfz148_2 := blk_frozen BK453.out 2; have hfz148_3 := blk_frozen BK453.out 3; have hcz149_0 : w144.cell? ⟨gb440, 0, none⟩ = some (.int .i64 t433) := (blk_cell BK440.out 0).trans rfl; have hcz149_1 : w144.cell? ⟨gb440, 1, none⟩ = some (.int .i64 t434) := (blk_cell BK440.out 1).trans rfl; have hcz149_2 : w144.cell? ⟨gb440, 2, none⟩ = some (.int .i64 t435) := (blk_cell BK440.out 2).trans rfl; have hcz149_3 : w144.cell? ⟨gb440, 3, none⟩ = some (.bool t436) := (blk_cell BK440.out 3).trans rfl; have hfz149_0 := blk_frozen BK440.out 0; have hfz149_1 := blk_frozen BK440.out 1; have hfz149_2 := blk_frozen BK440.out 2; have hfz149_3 := blk_frozen BK440.out 3; have hnb150 := NB432_448.out; have hnc150 := NB448_432.out; have hcz151_0 : w144.cell? ⟨gb432, 0, none⟩ = some (.int .i64 t427) := (blk_cell BK432.out 0).trans rfl; have hcz151_1 : w144.cell? ⟨gb432, 1, none⟩ = some (.int .i64 t428) := (blk_cell BK432.out 1).trans rfl; have hfz151_0 := blk_frozen BK432.out 0; have hfz151_1 := blk_frozen BK432.out 1))
             go_ret
             exact ⟨by first | rfl | (simp [errW_none, errW_some] <;> rfl) | (simp [*, errW_none, errW_some] <;> rfl), by repeat (first | (with_reducible first | exact HB.out | apply below_alloc | apply pw_below_drewN | apply below_drew1 | refine below_set ?_ GE453.out) | exact HB.out)⟩
            ·replace c139 := Bool.eq_false_iff.mpr c139
             subst c139
             rw [if_neg (show ¬ (false = true) by decide)] at H
             obtain rfl := Option.some.inj H
             have hnb152 := NB440_432.out
             have hnc152 := NB432_440.out
             have hnb153 := NB440_448.out
             have hnc153 := NB448_440.out
             have hcz154_0 : wr.cell? ⟨gb440, 0, none⟩ = some (.int .i64 t433) := (blk_cell BK440.out 0).trans rfl
             have hcz154_1 : wr.cell? ⟨gb440, 1, none⟩ = some (.int .i64 t434) := (blk_cell BK440.out 1).trans rfl
             have hcz154_2 : wr.cell? ⟨gb440, 2, none⟩ = some (.int .i64 t435) := (blk_cell BK440.out 2).trans rfl
             have hcz154_3 : wr.cell? ⟨gb440, 3, none⟩ = some (.bool t436) := (blk_cell BK440.out 3).trans rfl
             have hfz154_0 := blk_frozen BK440.out 0
             have hfz154_1 := blk_frozen BK440.out 1
             have hfz154_2 := blk_frozen BK440.out 2
             have hfz154_3 := blk_frozen BK440.out 3
             go_wp2_with (first | ((with_reducible refine gate_callee (f := 34) rfl ?_); refine goesL_ (some 71) rfl rfl Try.func34 (by kernel_rfl) rfl #[.agg #[.int .i64 t433, .int .i64 t434, .int .i64 t435, .bool t436]] rfl (by (try simp only [List.map_toArray, List.map_cons, List.map_nil]); first | done | rfl | (simp only [List.length_drop, List.length_take]; rfl)) ?_; (with_reducible refine (impl_Operator.calls t433 t434 t435 t436 t449 t450 t451 false _ A34.out).mono ?_); rintro e w155 ⟨rfl, hb⟩; refine ⟨_, rfl, ?_⟩; have n0_ := Aside0.mk (Kd.R_below (rq HO_6.out) hb); have n1_ := Aside0.mk (blk_below (bq BK432.out) hb); have n2_ := Aside0.mk (blk_below (bq BK440.out) hb); have n3_ := Aside0.mk (blk_below (bq BK448.out) hb); have n4_ := Aside0.mk (below_step (lq HB.out) hb); clear HO_6; clear BK432; clear BK440; clear BK448; clear HB; have HO_6 := n0_; have BK432 := n1_; have BK440 := n2_; have BK448 := n3_; have HB := n4_; clear n0_ n1_ n2_ n3_ n4_; (try clear hb); (try clear hb2); (try clear hk); (try clear hi)) | ((with_reducible refine gate_dst (N := 13) rfl ?_); refine box_event ?hg (N := 13) ?hd (cs := #[.int .i64 0, .int .i64 0, .int .i64 0, .bool false]) (t := 38) ?hr ?_; (case hd => rfl); (case hg => rfl); (case hr => first | (go_simp; done) | (go_simp; rfl)); intro gb453 hg w156 hbox hb; have n0_ := Aside0.mk (Kd.R_below (rq HO_6.out) hb); have n1_ := Aside0.mk (blk_below (bq BK432.out) hb); have n2_ := Aside0.mk (blk_below (bq BK440.out) hb); have n3_ := Aside0.mk (blk_below (bq BK448.out) hb); have n4_ := Aside0.mk (below_step (lq HB.out) hb); have n5_ := Aside0.mk (hbox); have n6_ := Aside0.mk ((ge_new hg (lq HB.out) : w.heap.size ≤ gb453)); have n7_ := Aside0.mk ((ge_new hg (lq HB.out) : w.heap.size ≤ gb453)); have n8_ := Aside0.mk ((ne_new hg (bq BK432.out) : gb432 ≠ gb453)); have n9_ := Aside0.mk ((new_ne hg (bq BK432.out) : gb453 ≠ gb432)); have n10_ := Aside0.mk ((ne_new hg (bq BK440.out) : gb440 ≠ gb453)); have n11_ := Aside0.mk ((new_ne hg (bq BK440.out) : gb453 ≠ gb440)); have n12_ := Aside0.mk ((ne_new hg (bq BK448.out) : gb448 ≠ gb453)); have n13_ := Aside0.mk ((new_ne hg (bq BK448.out) : gb453 ≠ gb448)); clear HO_6; clear BK432; clear BK440; clear BK448; clear HB; have HO_6 := n0_; have BK432 := n1_; have BK440 := n2_; have BK448 := n3_; have HB := n4_; have BK453 := n5_; have GW453 := n6_; have GE453 := n7_; have NB432_453 := n8_; have NB453_432 := n9_; have NB440_453 := n10_; have NB453_440 := n11_; have NB448_453 := n12_; have NB453_448 := n13_; clear n0_ n1_ n2_ n3_ n4_ n5_ n6_ n7_ n8_ n9_ n10_ n11_ n12_ n13_; clear hb hbox hg; have hnb157 := NB453_432.out; have hnc157 := NB432_453.out; have hnb158 := NB453_440.out; have hnc158 := NB440_453.out; have hnb159 := NB453_448.out; have hnc159 := NB448_453.out; have hcz160_0 : w156.cell? ⟨gb453, 0, none⟩ = some (.int .i64 0) := (blk_cell BK453.out 0).trans rfl; have hcz160_1 : w156.cell? ⟨gb453, 1, none⟩ = some (.int .i64 0) := (blk_cell BK453.out 1).trans rfl; have hcz160_2 : w156.cell? ⟨gb453, 2, none⟩ = some (.int .i64 0) := (blk_cell BK453.out 2).trans rfl; have hcz160_3 : w156.cell? ⟨gb453, 3, none⟩ = some (.bool false) := (blk_cell BK453.out 3).trans rfl; have hfz160_0 := blk_frozen BK453.out 0; have hfz160_1 := blk_frozen BK453.out 1; have hfz160_2 := blk_frozen BK453.out 2; have hfz160_3 := blk_frozen BK453.out 3; have hcz161_0 : w156.cell? ⟨gb440, 0, none⟩ = some (.int .i64 t433) := (blk_cell BK440.out 0).trans rfl; have hcz161_1 : w156.cell? ⟨gb440, 1, none⟩ = some (.int .i64 t434) := (blk_cell BK440.out 1).trans rfl; have hcz161_2 : w156.cell? ⟨gb440, 2, none⟩ = some (.int .i64 t435) := (blk_cell BK440.out 2).trans rfl; have hcz161_3 : w156.cell? ⟨gb440, 3, none⟩ = some (.bool t436) := (blk_cell BK440.out 3).trans rfl; have hfz161_0 := blk_frozen BK440.out 0; have hfz161_1 := blk_frozen BK440.out 1; have hfz161_2 := blk_frozen BK440.out 2; have hfz161_3 := blk_frozen BK440.out 3; have hnb162 := NB432_448.out; have hnc162 := NB448_432.out; have hcz163_0 : w156.cell? ⟨gb432, 0, none⟩ = some (.int .i64 t427) := (blk_cell BK432.out 0).trans rfl; have hcz163_1 : w156.cell? ⟨gb432, 1, none⟩ = some (.int .i64 t428) := (blk_cell BK432.out 1).trans rfl; have hfz163_0 := blk_frozen BK432.out 0; have hfz163_1 := blk_frozen BK432.out 1))
             go_ret
             exact ⟨by first | rfl | (simp [errW_none, errW_some] <;> rfl) | (simp [*, errW_none, errW_some] <;> rfl), by repeat (first | (with_reducible first | exact HB.out | apply below_alloc | apply pw_below_drewN | apply below_drew1 | refine below_set ?_ GE453.out) | exact HB.out)⟩
          ·rw [if_neg c99] at H
           have c99b0 : decide (x9_1 ≤ t428) = false := decide_eq_false c99
           clear c99
           obtain rfl := Option.some.inj H
           have hnb164 := NB440_432.out
           have hnc164 := NB432_440.out
           have hnb165 := NB440_448.out
           have hnc165 := NB448_440.out
           have hcz166_0 : wr.cell? ⟨gb440, 0, none⟩ = some (.int .i64 t433) := (blk_cell BK440.out 0).trans rfl
           have hcz166_1 : wr.cell? ⟨gb440, 1, none⟩ = some (.int .i64 t434) := (blk_cell BK440.out 1).trans rfl
           have hcz166_2 : wr.cell? ⟨gb440, 2, none⟩ = some (.int .i64 t435) := (blk_cell BK440.out 2).trans rfl
           have hcz166_3 : wr.cell? ⟨gb440, 3, none⟩ = some (.bool t436) := (blk_cell BK440.out 3).trans rfl
           have hfz166_0 := blk_frozen BK440.out 0
           have hfz166_1 := blk_frozen BK440.out 1
           have hfz166_2 := blk_frozen BK440.out 2
           have hfz166_3 := blk_frozen BK440.out 3
           go_wp2_with (first | ((with_reducible refine gate_callee (f := 34) rfl ?_); refine goesL_ (some 71) rfl rfl Try.func34 (by kernel_rfl) rfl #[.agg #[.int .i64 t433, .int .i64 t434, .int .i64 t435, .bool t436]] rfl (by (try simp only [List.map_toArray, List.map_cons, List.map_nil]); first | done | rfl | (simp only [List.length_drop, List.length_take]; rfl)) ?_; (with_reducible refine (impl_Operator.calls t433 t434 t435 t436 t449 t450 t451 t452 _ A34.out).mono ?_); rintro e w167 ⟨rfl, hb⟩; refine ⟨_, rfl, ?_⟩; have n0_ := Aside0.mk (Kd.R_below (rq HO_6.out) hb); have n1_ := Aside0.mk (blk_below (bq BK432.out) hb); have n2_ := Aside0.mk (blk_below (bq BK440.out) hb); have n3_ := Aside0.mk (blk_below (bq BK448.out) hb); have n4_ := Aside0.mk (below_step (lq HB.out) hb); clear HO_6; clear BK432; clear BK440; clear BK448; clear HB; have HO_6 := n0_; have BK432 := n1_; have BK440 := n2_; have BK448 := n3_; have HB := n4_; clear n0_ n1_ n2_ n3_ n4_; (try clear hb); (try clear hb2); (try clear hk); (try clear hi)) | ((with_reducible refine gate_dst (N := 13) rfl ?_); refine box_event ?hg (N := 13) ?hd (cs := #[.int .i64 0, .int .i64 0, .int .i64 0, .bool false]) (t := 38) ?hr ?_; (case hd => rfl); (case hg => rfl); (case hr => first | (go_simp; done) | (go_simp; rfl)); intro gb453 hg w168 hbox hb; have n0_ := Aside0.mk (Kd.R_below (rq HO_6.out) hb); have n1_ := Aside0.mk (blk_below (bq BK432.out) hb); have n2_ := Aside0.mk (blk_below (bq BK440.out) hb); have n3_ := Aside0.mk (blk_below (bq BK448.out) hb); have n4_ := Aside0.mk (below_step (lq HB.out) hb); have n5_ := Aside0.mk (hbox); have n6_ := Aside0.mk ((ge_new hg (lq HB.out) : w.heap.size ≤ gb453)); have n7_ := Aside0.mk ((ge_new hg (lq HB.out) : w.heap.size ≤ gb453)); have n8_ := Aside0.mk ((ne_new hg (bq BK432.out) : gb432 ≠ gb453)); have n9_ := Aside0.mk ((new_ne hg (bq BK432.out) : gb453 ≠ gb432)); have n10_ := Aside0.mk ((ne_new hg (bq BK440.out) : gb440 ≠ gb453)); have n11_ := Aside0.mk ((new_ne hg (bq BK440.out) : gb453 ≠ gb440)); have n12_ := Aside0.mk ((ne_new hg (bq BK448.out) : gb448 ≠ gb453)); have n13_ := Aside0.mk ((new_ne hg (bq BK448.out) : gb453 ≠ gb448)); clear HO_6; clear BK432; clear BK440; clear BK448; clear HB; have HO_6 := n0_; have BK432 := n1_; have BK440 := n2_; have BK448 := n3_; have HB := n4_; have BK453 := n5_; have GW453 := n6_; have GE453 := n7_; have NB432_453 := n8_; have NB453_432 := n9_; have NB440_453 := n10_; have NB453_440 := n11_; have NB448_453 := n12_; have NB453_448 := n13_; clear n0_ n1_ n2_ n3_ n4_ n5_ n6_ n7_ n8_ n9_ n10_ n11_ n12_ n13_; clear hb hbox hg; have hnb169 := NB453_432.out; have hnc169 := NB432_453.out; have hnb170 := NB453_440.out; have hnc170 := NB440_453.out; have hnb171 := NB453_448.out; have hnc171 := NB448_453.out; have hcz172_0 : w168.cell? ⟨gb453, 0, none⟩ = some (.int .i64 0) := (blk_cell BK453.out 0).trans rfl; have hcz172_1 : w168.cell? ⟨gb453, 1, none⟩ = some (.int .i64 0) := (blk_cell BK453.out 1).trans rfl; have hcz172_2 : w168.cell? ⟨gb453, 2, none⟩ = some (.int .i64 0) := (blk_cell BK453.out 2).trans rfl; have hcz172_3 : w168.cell? ⟨gb453, 3, none⟩ = some (.bool false) := (blk_cell BK453.out 3).trans rfl; have hfz172_0 := blk_frozen BK453.out 0; have hfz172_1 := blk_frozen BK453.out 1; have hfz172_2 := blk_frozen BK453.out 2; have hfz172_3 := blk_frozen BK453.out 3; have hcz173_0 : w168.cell? ⟨gb440, 0, none⟩ = some (.int .i64 t433) := (blk_cell BK440.out 0).trans rfl; have hcz173_1 : w168.cell? ⟨gb440, 1, none⟩ = some (.int .i64 t434) := (blk_cell BK440.out 1).trans rfl; have hcz173_2 : w168.cell? ⟨gb440, 2, none⟩ = some (.int .i64 t435) := (blk_cell BK440.out 2).trans rfl; have hcz173_3 : w168.cell? ⟨gb440, 3, none⟩ = some (.bool t436) := (blk_cell BK440.out 3).trans rfl; have hfz173_0 := blk_frozen BK440.out 0; have hfz173_1 := blk_frozen BK440.out 1; have hfz173_2 := blk_frozen BK440.out 2; have hfz173_3 := blk_frozen BK440.out 3; have hnb174 := NB432_448.out; have hnc174 := NB448_432.out; have hcz175_0 : w168.cell? ⟨gb432, 0, none⟩ = some (.int .i64 t427) := (blk_cell BK432.out 0).trans rfl; have hcz175_1 : w168.cell? ⟨gb432, 1, none⟩ = some (.int .i64 t428) := (blk_cell BK432.out 1).trans rfl; have hfz175_0 := blk_frozen BK432.out 0; have hfz175_1 := blk_frozen BK432.out 1))
           go_ret
           exact ⟨by first | rfl | (simp [errW_none, errW_some] <;> rfl) | (simp [*, errW_none, errW_some] <;> rfl), by repeat (first | (with_reducible first | exact HB.out | apply below_alloc | apply pw_below_drewN | apply below_drew1 | refine below_set ?_ GE453.out) | exact HB.out)⟩
        ·rw [if_neg c37] at H
         have c37b0 : (t436 == x11_1) = false := by simpa using c37
         (try (have c37b1 : decide (t436 = x11_1) = false := by simpa using c37))
         (try (have c37b2 : (t436 == x11_1) = false := by simpa using c37))
         (try (have c37b3 : ¬ (t436 = x11_1) := by simpa using c37))
         clear c37
         obtain rfl := Option.some.inj H
         have hnb176 := NB440_432.out
         have hnc176 := NB432_440.out
         have hnb177 := NB440_448.out
         have hnc177 := NB448_440.out
         have hcz178_0 : wr.cell? ⟨gb440, 0, none⟩ = some (.int .i64 t433) := (blk_cell BK440.out 0).trans rfl
         have hcz178_1 : wr.cell? ⟨gb440, 1, none⟩ = some (.int .i64 t434) := (blk_cell BK440.out 1).trans rfl
         have hcz178_2 : wr.cell? ⟨gb440, 2, none⟩ = some (.int .i64 t435) := (blk_cell BK440.out 2).trans rfl
         have hcz178_3 : wr.cell? ⟨gb440, 3, none⟩ = some (.bool t436) := (blk_cell BK440.out 3).trans rfl
         have hfz178_0 := blk_frozen BK440.out 0
         have hfz178_1 := blk_frozen BK440.out 1
         have hfz178_2 := blk_frozen BK440.out 2
         have hfz178_3 := blk_frozen BK440.out 3
         go_wp2_with (first | ((with_reducible refine gate_callee (f := 34) rfl ?_); refine goesL_ (some 71) rfl rfl Try.func34 (by kernel_rfl) rfl #[.agg #[.int .i64 t433, .int .i64 t434, .int .i64 t435, .bool t436]] rfl (by (try simp only [List.map_toArray, List.map_cons, List.map_nil]); first | done | rfl | (simp only [List.length_drop, List.length_take]; rfl)) ?_; (with_reducible refine (impl_Operator.calls t433 t434 t435 t436 t449 t450 t451 t452 _ A34.out).mono ?_); rintro e w179 ⟨rfl, hb⟩; refine ⟨_, rfl, ?_⟩; have n0_ := Aside0.mk (Kd.R_below (rq HO_6.out) hb); have n1_ := Aside0.mk (blk_below (bq BK432.out) hb); have n2_ := Aside0.mk (blk_below (bq BK440.out) hb); have n3_ := Aside0.mk (blk_below (bq BK448.out) hb); have n4_ := Aside0.mk (below_step (lq HB.out) hb); clear HO_6; clear BK432; clear BK440; clear BK448; clear HB; have HO_6 := n0_; have BK432 := n1_; have BK440 := n2_; have BK448 := n3_; have HB := n4_; clear n0_ n1_ n2_ n3_ n4_; (try clear hb); (try clear hb2); (try clear hk); (try clear hi)) | ((with_reducible refine gate_dst (N := 13) rfl ?_); refine box_event ?hg (N := 13) ?hd (cs := #[.int .i64 0, .int .i64 0, .int .i64 0, .bool false]) (t := 38) ?hr ?_; (case hd => rfl); (case hg => rfl); (case hr => first | (go_simp; done) | (go_simp; rfl)); intro gb453 hg w180 hbox hb; have n0_ := Aside0.mk (Kd.R_below (rq HO_6.out) hb); have n1_ := Aside0.mk (blk_below (bq BK432.out) hb); have n2_ := Aside0.mk (blk_below (bq BK440.out) hb); have n3_ := Aside0.mk (blk_below (bq BK448.out) hb); have n4_ := Aside0.mk (below_step (lq HB.out) hb); have n5_ := Aside0.mk (hbox); have n6_ := Aside0.mk ((ge_new hg (lq HB.out) : w.heap.size ≤ gb453)); have n7_ := Aside0.mk ((ge_new hg (lq HB.out) : w.heap.size ≤ gb453)); have n8_ := Aside0.mk ((ne_new hg (bq BK432.out) : gb432 ≠ gb453)); have n9_ := Aside0.mk ((new_ne hg (bq BK432.out) : gb453 ≠ gb432)); have n10_ := Aside0.mk ((ne_new hg (bq BK440.out) : gb440 ≠ gb453)); have n11_ := Aside0.mk ((new_ne hg (bq BK440.out) : gb453 ≠ gb440)); have n12_ := Aside0.mk ((ne_new hg (bq BK448.out) : gb448 ≠ gb453)); have n13_ := Aside0.mk ((new_ne hg (bq BK448.out) : gb453 ≠ gb448)); clear HO_6; clear BK432; clear BK440; clear BK448; clear HB; have HO_6 := n0_; have BK432 := n1_; have BK440 := n2_; have BK448 := n3_; have HB := n4_; have BK453 := n5_; have GW453 := n6_; have GE453 := n7_; have NB432_453 := n8_; have NB453_432 := n9_; have NB440_453 := n10_; have NB453_440 := n11_; have NB448_453 := n12_; have NB453_448 := n13_; clear n0_ n1_ n2_ n3_ n4_ n5_ n6_ n7_ n8_ n9_ n10_ n11_ n12_ n13_; clear hb hbox hg; have hnb181 := NB453_432.out; have hnc181 := NB432_453.out; have hnb182 := NB453_440.out; have hnc182 := NB440_453.out; have hnb183 := NB453_448.out; have hnc183 := NB448_453.out; have hcz184_0 : w180.cell? ⟨gb453, 0, none⟩ = some (.int .i64 0) := (blk_cell BK453.out 0).trans rfl; have hcz184_1 : w180.cell? ⟨gb453, 1, none⟩ = some (.int .i64 0) := (blk_cell BK453.out 1).trans rfl; have hcz184_2 : w180.cell? ⟨gb453, 2, none⟩ = some (.int .i64 0) := (blk_cell BK453.out 2).trans rfl; have hcz184_3 : w180.cell? ⟨gb453, 3, none⟩ = some (.bool false) := (blk_cell BK453.out 3).trans rfl; have hfz184_0 := blk_frozen BK453.out 0; have hfz184_1 := blk_frozen BK453.out 1; have hfz184_2 := blk_frozen BK453.out 2; have hfz184_3 := blk_frozen BK453.out 3; have hcz185_0 : w180.cell? ⟨gb440, 0, none⟩ = some (.int .i64 t433) := (blk_cell BK440.out 0).trans rfl; have hcz185_1 : w180.cell? ⟨gb440, 1, none⟩ = some (.int .i64 t434) := (blk_cell BK440.out 1).trans rfl; have hcz185_2 : w180.cell? ⟨gb440, 2, none⟩ = some (.int .i64 t435) := (blk_cell BK440.out 2).trans rfl; have hcz185_3 : w180.cell? ⟨gb440, 3, none⟩ = some (.bool t436) := (blk_cell BK440.out 3).trans rfl; have hfz185_0 := blk_frozen BK440.out 0; have hfz185_1 := blk_frozen BK440.out 1; have hfz185_2 := blk_frozen BK440.out 2; have hfz185_3 := blk_frozen BK440.out 3))
         go_ret
         exact ⟨by first | rfl | (simp [errW_none, errW_some] <;> rfl) | (simp [*, errW_none, errW_some] <;> rfl), by repeat (first | (with_reducible first | exact HB.out | apply below_alloc | apply pw_below_drewN | apply below_drew1 | refine below_set ?_ GE453.out) | exact HB.out)⟩
       ·rw [if_neg c36] at H
        have c36b0 : (t433 == x10_1) = false := beq_eq_false_iff_ne.mpr c36
        have c36b1 : (t433 != x10_1) = true := bne_iff_ne.mpr c36
        obtain rfl := Option.some.inj H
        have hnb186 := NB440_432.out
        have hnc186 := NB432_440.out
        have hnb187 := NB440_448.out
        have hnc187 := NB448_440.out
        have hcz188_0 : wr.cell? ⟨gb440, 0, none⟩ = some (.int .i64 t433) := (blk_cell BK440.out 0).trans rfl
        have hcz188_1 : wr.cell? ⟨gb440, 1, none⟩ = some (.int .i64 t434) := (blk_cell BK440.out 1).trans rfl
        have hcz188_2 : wr.cell? ⟨gb440, 2, none⟩ = some (.int .i64 t435) := (blk_cell BK440.out 2).trans rfl
        have hcz188_3 : wr.cell? ⟨gb440, 3, none⟩ = some (.bool t436) := (blk_cell BK440.out 3).trans rfl
        have hfz188_0 := blk_frozen BK440.out 0
        have hfz188_1 := blk_frozen BK440.out 1
        have hfz188_2 := blk_frozen BK440.out 2
        have hfz188_3 := blk_frozen BK440.out 3
        go_wp2_with (first | ((with_reducible refine gate_callee (f := 34) rfl ?_); refine goesL_ (some 71) rfl rfl Try.func34 (by kernel_rfl) rfl #[.agg #[.int .i64 t433, .int .i64 t434, .int .i64 t435, .bool t436]] rfl (by (try simp only [List.map_toArray, List.map_cons, List.map_nil]); first | done | rfl | (simp only [List.length_drop, List.length_take]; rfl)) ?_; (with_reducible refine (impl_Operator.calls t433 t434 t435 t436 t449 t450 t451 t452 _ A34.out).mono ?_); rintro e w189 ⟨rfl, hb⟩; refine ⟨_, rfl, ?_⟩; have n0_ := Aside0.mk (Kd.R_below (rq HO_6.out) hb); have n1_ := Aside0.mk (blk_below (bq BK432.out) hb); have n2_ := Aside0.mk (blk_below (bq BK440.out) hb); have n3_ := Aside0.mk (blk_below (bq BK448.out) hb); have n4_ := Aside0.mk (below_step (lq HB.out) hb); clear HO_6; clear BK432; clear BK440; clear BK448; clear HB; have HO_6 := n0_; have BK432 := n1_; have BK440 := n2_; have BK448 := n3_; have HB := n4_; clear n0_ n1_ n2_ n3_ n4_; (try clear hb); (try clear hb2); (try clear hk); (try clear hi)) | ((with_reducible refine gate_dst (N := 13) rfl ?_); refine box_event ?hg (N := 13) ?hd (cs := #[.int .i64 0, .int .i64 0, .int .i64 0, .bool false]) (t := 38) ?hr ?_; (case hd => rfl); (case hg => rfl); (case hr => first | (go_simp; done) | (go_simp; rfl)); intro gb453 hg w190 hbox hb; have n0_ := Aside0.mk (Kd.R_below (rq HO_6.out) hb); have n1_ := Aside0.mk (blk_below (bq BK432.out) hb); have n2_ := Aside0.mk (blk_below (bq BK440.out) hb); have n3_ := Aside0.mk (blk_below (bq BK448.out) hb); have n4_ := Aside0.mk (below_step (lq HB.out) hb); have n5_ := Aside0.mk (hbox); have n6_ := Aside0.mk ((ge_new hg (lq HB.out) : w.heap.size ≤ gb453)); have n7_ := Aside0.mk ((ge_new hg (lq HB.out) : w.heap.size ≤ gb453)); have n8_ := Aside0.mk ((ne_new hg (bq BK432.out) : gb432 ≠ gb453)); have n9_ := Aside0.mk ((new_ne hg (bq BK432.out) : gb453 ≠ gb432)); have n10_ := Aside0.mk ((ne_new hg (bq BK440.out) : gb440 ≠ gb453)); have n11_ := Aside0.mk ((new_ne hg (bq BK440.out) : gb453 ≠ gb440)); have n12_ := Aside0.mk ((ne_new hg (bq BK448.out) : gb448 ≠ gb453)); have n13_ := Aside0.mk ((new_ne hg (bq BK448.out) : gb453 ≠ gb448)); clear HO_6; clear BK432; clear BK440; clear BK448; clear HB; have HO_6 := n0_; have BK432 := n1_; have BK440 := n2_; have BK448 := n3_; have HB := n4_; have BK453 := n5_; have GW453 := n6_; have GE453 := n7_; have NB432_453 := n8_; have NB453_432 := n9_; have NB440_453 := n10_; have NB453_440 := n11_; have NB448_453 := n12_; have NB453_448 := n13_; clear n0_ n1_ n2_ n3_ n4_ n5_ n6_ n7_ n8_ n9_ n10_ n11_ n12_ n13_; clear hb hbox hg; have hnb191 := NB453_432.out; have hnc191 := NB432_453.out; have hnb192 := NB453_440.out; have hnc192 := NB440_453.out; have hnb193 := NB453_448.out; have hnc193 := NB448_453.out; have hcz194_0 : w190.cell? ⟨gb453, 0, none⟩ = some (.int .i64 0) := (blk_cell BK453.out 0).trans rfl; have hcz194_1 : w190.cell? ⟨gb453, 1, none⟩ = some (.int .i64 0) := (blk_cell BK453.out 1).trans rfl; have hcz194_2 : w190.cell? ⟨gb453, 2, none⟩ = some (.int .i64 0) := (blk_cell BK453.out 2).trans rfl; have hcz194_3 : w190.cell? ⟨gb453, 3, none⟩ = some (.bool false) := (blk_cell BK453.out 3).trans rfl; have hfz194_0 := blk_frozen BK453.out 0; have hfz194_1 := blk_frozen BK453.out 1; have hfz194_2 := blk_frozen BK453.out 2; have hfz194_3 := blk_frozen BK453.out 3; have hcz195_0 : w190.cell? ⟨gb440, 0, none⟩ = some (.int .i64 t433) := (blk_cell BK440.out 0).trans rfl; have hcz195_1 : w190.cell? ⟨gb440, 1, none⟩ = some (.int .i64 t434) := (blk_cell BK440.out 1).trans rfl; have hcz195_2 : w190.cell? ⟨gb440, 2, none⟩ = some (.int .i64 t435) := (blk_cell BK440.out 2).trans rfl; have hcz195_3 : w190.cell? ⟨gb440, 3, none⟩ = some (.bool t436) := (blk_cell BK440.out 3).trans rfl; have hfz195_0 := blk_frozen BK440.out 0; have hfz195_1 := blk_frozen BK440.out 1; have hfz195_2 := blk_frozen BK440.out 2; have hfz195_3 := blk_frozen BK440.out 3))
        go_ret
        exact ⟨by first | rfl | (simp [errW_none, errW_some] <;> rfl) | (simp [*, errW_none, errW_some] <;> rfl), by repeat (first | (with_reducible first | exact HB.out | apply below_alloc | apply pw_below_drewN | apply below_drew1 | refine below_set ?_ GE453.out) | exact HB.out)⟩
      ·rw [if_neg c35] at H
       have c35b0 : (t434 == x9_1) = false := beq_eq_false_iff_ne.mpr c35
       have c35b1 : (t434 != x9_1) = true := bne_iff_ne.mpr c35
       obtain rfl := Option.some.inj H
       have hnb196 := NB440_432.out
       have hnc196 := NB432_440.out
       have hnb197 := NB440_448.out
       have hnc197 := NB448_440.out
       have hcz198_0 : wr.cell? ⟨gb440, 0, none⟩ = some (.int .i64 t433) := (blk_cell BK440.out 0).trans rfl
       have hcz198_1 : wr.cell? ⟨gb440, 1, none⟩ = some (.int .i64 t434) := (blk_cell BK440.out 1).trans rfl
       have hcz198_2 : wr.cell? ⟨gb440, 2, none⟩ = some (.int .i64 t435) := (blk_cell BK440.out 2).trans rfl
       have hcz198_3 : wr.cell? ⟨gb440, 3, none⟩ = some (.bool t436) := (blk_cell BK440.out 3).trans rfl
       have hfz198_0 := blk_frozen BK440.out 0
       have hfz198_1 := blk_frozen BK440.out 1
       have hfz198_2 := blk_frozen BK440.out 2
       have hfz198_3 := blk_frozen BK440.out 3
       go_wp2_with (first | ((with_reducible refine gate_callee (f := 34) rfl ?_); refine goesL_ (some 71) rfl rfl Try.func34 (by kernel_rfl) rfl #[.agg #[.int .i64 t433, .int .i64 t434, .int .i64 t435, .bool t436]] rfl (by (try simp only [List.map_toArray, List.map_cons, List.map_nil]); first | done | rfl | (simp only [List.length_drop, List.length_take]; rfl)) ?_; (with_reducible refine (impl_Operator.calls t433 t434 t435 t436 t449 t450 t451 t452 _ A34.out).mono ?_); rintro e w199 ⟨rfl, hb⟩; refine ⟨_, rfl, ?_⟩; have n0_ := Aside0.mk (Kd.R_below (rq HO_6.out) hb); have n1_ := Aside0.mk (blk_below (bq BK432.out) hb); have n2_ := Aside0.mk (blk_below (bq BK440.out) hb); have n3_ := Aside0.mk (blk_below (bq BK448.out) hb); have n4_ := Aside0.mk (below_step (lq HB.out) hb); clear HO_6; clear BK432; clear BK440; clear BK448; clear HB; have HO_6 := n0_; have BK432 := n1_; have BK440 := n2_; have BK448 := n3_; have HB := n4_; clear n0_ n1_ n2_ n3_ n4_; (try clear hb); (try clear hb2); (try clear hk); (try clear hi)) | ((with_reducible refine gate_dst (N := 13) rfl ?_); refine box_event ?hg (N := 13) ?hd (cs := #[.int .i64 0, .int .i64 0, .int .i64 0, .bool false]) (t := 38) ?hr ?_; (case hd => rfl); (case hg => rfl); (case hr => first | (go_simp; done) | (go_simp; rfl)); intro gb453 hg w200 hbox hb; have n0_ := Aside0.mk (Kd.R_below (rq HO_6.out) hb); have n1_ := Aside0.mk (blk_below (bq BK432.out) hb); have n2_ := Aside0.mk (blk_below (bq BK440.out) hb); have n3_ := Aside0.mk (blk_below (bq BK448.out) hb); have n4_ := Aside0.mk (below_step (lq HB.out) hb); have n5_ := Aside0.mk (hbox); have n6_ := Aside0.mk ((ge_new hg (lq HB.out) : w.heap.size ≤ gb453)); have n7_ := Aside0.mk ((ge_new hg (lq HB.out) : w.heap.size ≤ gb453)); have n8_ := Aside0.mk ((ne_new hg (bq BK432.out) : gb432 ≠ gb453)); have n9_ := Aside0.mk ((new_ne hg (bq BK432.out) : gb453 ≠ gb432)); have n10_ := Aside0.mk ((ne_new hg (bq BK440.out) : gb440 ≠ gb453)); have n11_ := Aside0.mk ((new_ne hg (bq BK440.out) : gb453 ≠ gb440)); have n12_ := Aside0.mk ((ne_new hg (bq BK448.out) : gb448 ≠ gb453)); have n13_ := Aside0.mk ((new_ne hg (bq BK448.out) : gb453 ≠ gb448)); clear HO_6; clear BK432; clear BK440; clear BK448; clear HB; have HO_6 := n0_; have BK432 := n1_; have BK440 := n2_; have BK448 := n3_; have HB := n4_; have BK453 := n5_; have GW453 := n6_; have GE453 := n7_; have NB432_453 := n8_; have NB453_432 := n9_; have NB440_453 := n10_; have NB453_440 := n11_; have NB448_453 := n12_; have NB453_448 := n13_; clear n0_ n1_ n2_ n3_ n4_ n5_ n6_ n7_ n8_ n9_ n10_ n11_ n12_ n13_; clear hb hbox hg; have hnb201 := NB453_432.out; have hnc201 := NB432_453.out; have hnb202 := NB453_440.out; have hnc202 := NB440_453.out; have hnb203 := NB453_448.out; have hnc203 := NB448_453.out; have hcz204_0 : w200.cell? ⟨gb453, 0, none⟩ = some (.int .i64 0) := (blk_cell BK453.out 0).trans rfl; have hcz204_1 : w200.cell? ⟨gb453, 1, none⟩ = some (.int .i64 0) := (blk_cell BK453.out 1).trans rfl; have hcz204_2 : w200.cell? ⟨gb453, 2, none⟩ = some (.int .i64 0) := (blk_cell BK453.out 2).trans rfl; have hcz204_3 : w200.cell? ⟨gb453, 3, none⟩ = some (.bool false) := (blk_cell BK453.out 3).trans rfl; have hfz204_0 := blk_frozen BK453.out 0; have hfz204_1 := blk_frozen BK453.out 1; have hfz204_2 := blk_frozen BK453.out 2; have hfz204_3 := blk_frozen BK453.out 3; have hcz205_0 : w200.cell? ⟨gb440, 0, none⟩ = some (.int .i64 t433) := (blk_cell BK440.out 0).trans rfl; have hcz205_1 : w200.cell? ⟨gb440, 1, none⟩ = some (.int .i64 t434) := (blk_cell BK440.out 1).trans rfl; have hcz205_2 : w200.cell? ⟨gb440, 2, none⟩ = some (.int .i64 t435) := (blk_cell BK440.out 2).trans rfl; have hcz205_3 : w200.cell? ⟨gb440, 3, none⟩ = some (.bool t436) := (blk_cell BK440.out 3).trans rfl; have hfz205_0 := blk_frozen BK440.out 0; have hfz205_1 := blk_frozen BK440.out 1; have hfz205_2 := blk_frozen BK440.out 2; have hfz205_3 := blk_frozen BK440.out 3))
       go_ret
       exact ⟨by first | rfl | (simp [errW_none, errW_some] <;> rfl) | (simp [*, errW_none, errW_some] <;> rfl), by repeat (first | (with_reducible first | exact HB.out | apply below_alloc | apply pw_below_drewN | apply below_drew1 | refine below_set ?_ GE453.out) | exact HB.out)⟩
  ·rw [if_neg c7] at H
   have c7b0 : ((t437.length : Int) == (t445.length : Int)) = false := beq_eq_false_iff_ne.mpr c7
   have c7b1 : ((t437.length : Int) != (t445.length : Int)) = true := bne_iff_ne.mpr c7
   have c7b2 : (t437.length == t445.length) = false := by first | simpa using c7 | (simp at c7 ⊢; omega)
   obtain rfl := Option.some.inj H
   go_enter Try.func9, Try.ntmps9
   go_wp2_with (first | ((with_reducible refine gate_callee (f := 21) rfl ?_); refine goesL_ (some 15) rfl rfl Try.func21 (by kernel_rfl) rfl #[.slice A0 l0.length c0] rfl (by (try simp only [List.map_toArray, List.map_cons, List.map_nil]); first | done | rfl | (simp only [List.length_drop, List.length_take]; rfl)) ?_; (with_reducible refine (laws_big.calls _ _ l0 false _ ?side1 ?side2 A2.out).mono ?_); (case side1 => repeat (first | exact HR0.out | (with_reducible refine Kd.C_alloc ?_ _) | (with_reducible refine Kd.C_drewN ?_ _) | (with_reducible refine Kd.C_drew ?_))); (case side2 => exact HC0.out); rintro e w' ⟨rfl, ⟨nd, rfl⟩⟩; refine ⟨_, rfl, ?_⟩) | ((with_reducible refine gate_callee (f := 33) rfl ?_); refine goesL_ (some 18) rfl rfl Try.func33 (by kernel_rfl) rfl #[.slice A0 l0.length c0] rfl (by (try simp only [List.map_toArray, List.map_cons, List.map_nil]); first | done | rfl | (simp only [List.length_drop, List.length_take]; rfl)) ?_; (with_reducible refine (spec_DrawHealthRun.calls k _ _ l0 t427 t428 t429 _ ?side1 ?side2 A4.out).mono ?_); (case side1 => repeat (first | exact HR0.out | (with_reducible refine Kd.C_alloc ?_ _) | (with_reducible refine Kd.C_drewN ?_ _) | (with_reducible refine Kd.C_drew ?_))); (case side2 => exact HC0.out); rintro e w206 ⟨v430, rfl, ho0, hb⟩; refine ⟨_, rfl, ?_⟩; have n0_ := Aside0.mk (Kd.R_lower ho0 (below_size (lq HB.out))); have n1_ := Aside0.mk (below_step (lq HB.out) hb); clear HB; have HO431 := n0_; have HB := n1_; clear n0_ n1_; (try clear hb); (try clear hb2); (try clear hk); (try clear hi); (try clear ho0)) | ((with_reducible refine gate_dst (N := 3) rfl ?_); refine box_event ?hg (N := 3) ?hd (cs := #[.int .i64 0, .int .i64 0]) (t := 41) ?hr ?_; (case hd => rfl); (case hg => rfl); (case hr => first | (go_simp; done) | (go_simp; rfl)); intro gb432 hg w207 hbox hb; have n0_ := Aside0.mk (Kd.R_below (rq HO431.out) hb); have n1_ := Aside0.mk (below_step (lq HB.out) hb); have n2_ := Aside0.mk (hbox); have n3_ := Aside0.mk ((ge_new hg (lq HB.out) : w.heap.size ≤ gb432)); have n4_ := Aside0.mk ((ge_new hg (lq HB.out) : w.heap.size ≤ gb432)); clear HO431; clear HB; have HO431 := n0_; have HB := n1_; have BK432 := n2_; have GW432 := n3_; have GE432 := n4_; clear n0_ n1_ n2_ n3_ n4_; clear hb hbox hg; have hcz208_0 : w207.cell? ⟨gb432, 0, none⟩ = some (.int .i64 0) := (blk_cell BK432.out 0).trans rfl; have hcz208_1 : w207.cell? ⟨gb432, 1, none⟩ = some (.int .i64 0) := (blk_cell BK432.out 1).trans rfl; have hfz208_0 := blk_frozen BK432.out 0; have hfz208_1 := blk_frozen BK432.out 1; obtain ⟨Ao209, co209, eo209⟩ := Kd.R_slice HO431.out; subst eo209) | ((with_reducible refine gate_callee (f := 29) rfl ?_); refine goesL_ (some 24) rfl rfl Try.func29 (by kernel_rfl) rfl #[.agg #[.int .i64 t427, .int .i64 t428], .slice Ao209 t429.length co209] rfl (by (try simp only [List.map_toArray, List.map_cons, List.map_nil]); first | done | rfl | (simp only [List.length_drop, List.length_take]; rfl)) ?_; (with_reducible refine (impl_HealthRun.calls k t427 t428 _ _ t429 t433 t434 t435 t436 t437 _ ?side1 ?side2 A5.out).mono ?_); (case side1 => refine (Kd.R_reads' (e := 3) (base := w.heap.size) (ok := fun k_ => True) (n := t429.length) (c := co209) ?_).2.2; exact (rq (Kd.R_mono (Kd.R_far (p := ⟨gb432, 1, none⟩) (Kd.R_far (p := ⟨gb432, 0, none⟩) (Kd.R_types HO431.out BK432.out (by decide)) (fun _ hk => hk.2) (.int .i64 t427)) (fun _ hk => hk.2) (.int .i64 t428)) (fun _ h_ => h_.1)))); (case side2 => exact (Kd.R_reads' HO431.out).2.1); rintro e w210 ⟨v438, rfl, ho0, hb⟩; refine ⟨_, rfl, ?_⟩; have n0_ := Aside0.mk (Kd.R_elder' (rq (Kd.R_mono (Kd.R_far (p := ⟨gb432, 1, none⟩) (Kd.R_far (p := ⟨gb432, 0, none⟩) (Kd.R_types HO431.out BK432.out (by decide)) (fun _ hk => hk.2) (.int .i64 t427)) (fun _ hk => hk.2) (.int .i64 t428)) (fun _ h_ => h_.1))) (Kd.R_base ho0) hb); have n1_ := Aside0.mk (Kd.R_lower (Kd.R_new' ho0 (Kd.R_lt (rq (Kd.R_mono (Kd.R_far (p := ⟨gb432, 1, none⟩) (Kd.R_far (p := ⟨gb432, 0, none⟩) (Kd.R_types HO431.out BK432.out (by decide)) (fun _ hk => hk.2) (.int .i64 t427)) (fun _ hk => hk.2) (.int .i64 t428)) (fun _ h_ => h_.1))))) (below_size (by repeat (first | (with_reducible first | exact HB.out | apply below_alloc | apply pw_below_drewN | apply below_drew1 | refine below_set ?_ GE432.out) | exact HB.out)))); have n2_ := Aside0.mk (blk_below (g := gb432) (o := .cells #[.int .i64 t427, .int .i64 t428] 41 (0, 0)) (by (with_reducible repeat (first | refine blk_drewN ?_ _ | refine blk_drew ?_ | refine blk_alloc ?_ _)); refine blk_put (cs := #[.int .i64 t427, .int .i64 0]) ?_ 1 _ rfl; (with_reducible repeat (first | refine blk_drewN ?_ _ | refine blk_drew ?_ | refine blk_alloc ?_ _)); refine blk_put (cs := #[.int .i64 0, .int .i64 0]) ?_ 0 _ rfl; (with_reducible repeat (first | refine blk_drewN ?_ _ | refine blk_drew ?_ | refine blk_alloc ?_ _)); exact BK432.out) hb); have n3_ := Aside0.mk (below_step (by repeat (first | (with_reducible first | exact HB.out | apply below_alloc | apply pw_below_drewN | apply below_drew1 | refine below_set ?_ GE432.out) | exact HB.out)) hb); clear HO431; clear BK432; clear HB; have HO431 := n0_; have HO439 := n1_; have BK432 := n2_; have HB := n3_; clear n0_ n1_ n2_ n3_; (try clear hb); (try clear hb2); (try clear hk); (try clear hi); (try clear ho0)) | ((with_reducible refine gate_dst (N := 5) rfl ?_); refine box_event ?hg (N := 5) ?hd (cs := #[.int .i64 0, .int .i64 0, .int .i64 0, .bool false]) (t := 38) ?hr ?_; (case hd => rfl); (case hg => rfl); (case hr => first | (go_simp; done) | (go_simp; rfl)); intro gb440 hg w211 hbox hb; have n0_ := Aside0.mk (Kd.R_below (rq HO431.out) hb); have n1_ := Aside0.mk (Kd.R_below (rq HO439.out) hb); have n2_ := Aside0.mk (blk_below (bq BK432.out) hb); have n3_ := Aside0.mk (below_step (lq HB.out) hb); have n4_ := Aside0.mk (hbox); have n5_ := Aside0.mk ((ge_new hg (lq HB.out) : w.heap.size ≤ gb440)); have n6_ := Aside0.mk ((ge_new hg (lq HB.out) : w.heap.size ≤ gb440)); have n7_ := Aside0.mk ((ne_new hg (bq BK432.out) : gb432 ≠ gb440)); have n8_ := Aside0.mk ((new_ne hg (bq BK432.out) : gb440 ≠ gb432)); clear HO431; clear HO439; clear BK432; clear HB; have HO431 := n0_; have HO439 := n1_; have BK432 := n2_; have HB := n3_; have BK440 := n4_; have GW440 := n5_; have GE440 := n6_; have NB432_440 := n7_; have NB440_432 := n8_; clear n0_ n1_ n2_ n3_ n4_ n5_ n6_ n7_ n8_; clear hb hbox hg; have hnb212 := NB440_432.out; have hnc212 := NB432_440.out; have hcz213_0 : w211.cell? ⟨gb440, 0, none⟩ = some (.int .i64 0) := (blk_cell BK440.out 0).trans rfl; have hcz213_1 : w211.cell? ⟨gb440, 1, none⟩ = some (.int .i64 0) := (blk_cell BK440.out 1).trans rfl; have hcz213_2 : w211.cell? ⟨gb440, 2, none⟩ = some (.int .i64 0) := (blk_cell BK440.out 2).trans rfl; have hcz213_3 : w211.cell? ⟨gb440, 3, none⟩ = some (.bool false) := (blk_cell BK440.out 3).trans rfl; have hfz213_0 := blk_frozen BK440.out 0; have hfz213_1 := blk_frozen BK440.out 1; have hfz213_2 := blk_frozen BK440.out 2; have hfz213_3 := blk_frozen BK440.out 3; have hcz214_0 : w211.cell? ⟨gb432, 0, none⟩ = some (.int .i64 t427) := (blk_cell BK432.out 0).trans rfl; have hcz214_1 : w211.cell? ⟨gb432, 1, none⟩ = some (.int .i64 t428) := (blk_cell BK432.out 1).trans rfl; have hfz214_0 := blk_frozen BK432.out 0; have hfz214_1 := blk_frozen BK432.out 1) | ((with_reducible refine gate_callee (f := 27) rfl ?_); refine goesL_ (some 30) rfl rfl Try.func27 (by kernel_rfl) rfl #[.agg #[.int .i64 t427, .int .i64 t428], .slice Ao209 t429.length co209] rfl (by (try simp only [List.map_toArray, List.map_cons, List.map_nil]); first | done | rfl | (simp only [List.length_drop, List.length_take]; rfl)) ?_; (with_reducible refine (spec_HealthRun.calls k t427 t428 _ _ t429 t441 t442 t443 t444 t445 _ ?side1 ?side2 A6.out).mono ?_); (case side1 => refine (Kd.R_reads' (e := 3) (base := w.heap.size) (ok := fun k_ => (True ∧ some k_ ≠ (v438 : Value).ownBlock)) (n := t429.length) (c := co209) ?_).2.2; exact (rq (Kd.R_mono (Kd.R_far (p := ⟨gb440, 3, none⟩) (Kd.R_far (p := ⟨gb440, 2, none⟩) (Kd.R_far (p := ⟨gb440, 1, none⟩) (Kd.R_far (p := ⟨gb440, 0, none⟩) (Kd.R_types HO431.out BK440.out (by decide)) (fun _ hk => hk.2) (.int .i64 t433)) (fun _ hk => hk.2) (.int .i64 t434)) (fun _ hk => hk.2) (.int .i64 t435)) (fun _ hk => hk.2) (.bool t436)) (fun _ h_ => h_.1)))); (case side2 => exact (Kd.R_reads' HO431.out).2.1); rintro e w215 ⟨v446, rfl, ho0, hb⟩; refine ⟨_, rfl, ?_⟩; have n0_ := Aside0.mk (Kd.R_elder' (rq (Kd.R_mono (Kd.R_far (p := ⟨gb440, 3, none⟩) (Kd.R_far (p := ⟨gb440, 2, none⟩) (Kd.R_far (p := ⟨gb440, 1, none⟩) (Kd.R_far (p := ⟨gb440, 0, none⟩) (Kd.R_types HO431.out BK440.out (by decide)) (fun _ hk => hk.2) (.int .i64 t433)) (fun _ hk => hk.2) (.int .i64 t434)) (fun _ hk => hk.2) (.int .i64 t435)) (fun _ hk => hk.2) (.bool t436)) (fun _ h_ => h_.1))) (Kd.R_base ho0) hb); have n1_ := Aside0.mk (Kd.R_elder' (rq (Kd.R_mono (Kd.R_far (p := ⟨gb440, 3, none⟩) (Kd.R_far (p := ⟨gb440, 2, none⟩) (Kd.R_far (p := ⟨gb440, 1, none⟩) (Kd.R_far (p := ⟨gb440, 0, none⟩) (Kd.R_types HO439.out BK440.out (by decide)) (fun _ hk => hk.2) (.int .i64 t433)) (fun _ hk => hk.2) (.int .i64 t434)) (fun _ hk => hk.2) (.int .i64 t435)) (fun _ hk => hk.2) (.bool t436)) (fun _ h_ => h_.1))) (Kd.R_base ho0) hb); have n2_ := Aside0.mk (Kd.R_lower (Kd.R_new' (Kd.R_new' ho0 (Kd.R_lt (rq (Kd.R_mono (Kd.R_far (p := ⟨gb440, 3, none⟩) (Kd.R_far (p := ⟨gb440, 2, none⟩) (Kd.R_far (p := ⟨gb440, 1, none⟩) (Kd.R_far (p := ⟨gb440, 0, none⟩) (Kd.R_types HO431.out BK440.out (by decide)) (fun _ hk => hk.2) (.int .i64 t433)) (fun _ hk => hk.2) (.int .i64 t434)) (fun _ hk => hk.2) (.int .i64 t435)) (fun _ hk => hk.2) (.bool t436)) (fun _ h_ => h_.1))))) (Kd.R_lt (rq (Kd.R_mono (Kd.R_far (p := ⟨gb440, 3, none⟩) (Kd.R_far (p := ⟨gb440, 2, none⟩) (Kd.R_far (p := ⟨gb440, 1, none⟩) (Kd.R_far (p := ⟨gb440, 0, none⟩) (Kd.R_types HO439.out BK440.out (by decide)) (fun _ hk => hk.2) (.int .i64 t433)) (fun _ hk => hk.2) (.int .i64 t434)) (fun _ hk => hk.2) (.int .i64 t435)) (fun _ hk => hk.2) (.bool t436)) (fun _ h_ => h_.1))))) (below_size (by repeat (first | (with_reducible first | exact HB.out | apply below_alloc | apply pw_below_drewN | apply below_drew1 | refine below_set ?_ GE440.out) | exact HB.out)))); have n3_ := Aside0.mk (blk_below (g := gb432) (o := .cells #[.int .i64 t427, .int .i64 t428] 41 (0, 0)) (by (with_reducible repeat (first | refine blk_drewN ?_ _ | refine blk_drew ?_ | refine blk_alloc ?_ _)); refine blk_far ?_ NB432_440.out _; (with_reducible repeat (first | refine blk_drewN ?_ _ | refine blk_drew ?_ | refine blk_alloc ?_ _)); refine blk_far ?_ NB432_440.out _; (with_reducible repeat (first | refine blk_drewN ?_ _ | refine blk_drew ?_ | refine blk_alloc ?_ _)); refine blk_far ?_ NB432_440.out _; (with_reducible repeat (first | refine blk_drewN ?_ _ | refine blk_drew ?_ | refine blk_alloc ?_ _)); refine blk_far ?_ NB432_440.out _; (with_reducible repeat (first | refine blk_drewN ?_ _ | refine blk_drew ?_ | refine blk_alloc ?_ _)); exact BK432.out) hb); have n4_ := Aside0.mk (blk_below (g := gb440) (o := .cells #[.int .i64 t433, .int .i64 t434, .int .i64 t435, .bool t436] 38 (0, 0)) (by (with_reducible repeat (first | refine blk_drewN ?_ _ | refine blk_drew ?_ | refine blk_alloc ?_ _)); refine blk_put (cs := #[.int .i64 t433, .int .i64 t434, .int .i64 t435, .bool false]) ?_ 3 _ rfl; (with_reducible repeat (first | refine blk_drewN ?_ _ | refine blk_drew ?_ | refine blk_alloc ?_ _)); refine blk_put (cs := #[.int .i64 t433, .int .i64 t434, .int .i64 0, .bool false]) ?_ 2 _ rfl; (with_reducible repeat (first | refine blk_drewN ?_ _ | refine blk_drew ?_ | refine blk_alloc ?_ _)); refine blk_put (cs := #[.int .i64 t433, .int .i64 0, .int .i64 0, .bool false]) ?_ 1 _ rfl; (with_reducible repeat (first | refine blk_drewN ?_ _ | refine blk_drew ?_ | refine blk_alloc ?_ _)); refine blk_put (cs := #[.int .i64 0, .int .i64 0, .int .i64 0, .bool false]) ?_ 0 _ rfl; (with_reducible repeat (first | refine blk_drewN ?_ _ | refine blk_drew ?_ | refine blk_alloc ?_ _)); exact BK440.out) hb); have n5_ := Aside0.mk (below_step (by repeat (first | (with_reducible first | exact HB.out | apply below_alloc | apply pw_below_drewN | apply below_drew1 | refine below_set ?_ GE440.out) | exact HB.out)) hb); clear HO431; clear HO439; clear BK432; clear BK440; clear HB; have HO431 := n0_; have HO439 := n1_; have HO447 := n2_; have BK432 := n3_; have BK440 := n4_; have HB := n5_; clear n0_ n1_ n2_ n3_ n4_ n5_; (try clear hb); (try clear hb2); (try clear hk); (try clear hi); (try clear ho0)) | ((with_reducible refine gate_dst (N := 7) rfl ?_); refine box_event ?hg (N := 7) ?hd (cs := #[.int .i64 0, .int .i64 0, .int .i64 0, .bool false]) (t := 38) ?hr ?_; (case hd => rfl); (case hg => rfl); (case hr => first | (go_simp; done) | (go_simp; rfl)); intro gb448 hg w216 hbox hb; have n0_ := Aside0.mk (Kd.R_below (rq HO431.out) hb); have n1_ := Aside0.mk (Kd.R_below (rq HO439.out) hb); have n2_ := Aside0.mk (Kd.R_below (rq HO447.out) hb); have n3_ := Aside0.mk (blk_below (bq BK432.out) hb); have n4_ := Aside0.mk (blk_below (bq BK440.out) hb); have n5_ := Aside0.mk (below_step (lq HB.out) hb); have n6_ := Aside0.mk (hbox); have n7_ := Aside0.mk ((ge_new hg (lq HB.out) : w.heap.size ≤ gb448)); have n8_ := Aside0.mk ((ge_new hg (lq HB.out) : w.heap.size ≤ gb448)); have n9_ := Aside0.mk ((ne_new hg (bq BK432.out) : gb432 ≠ gb448)); have n10_ := Aside0.mk ((new_ne hg (bq BK432.out) : gb448 ≠ gb432)); have n11_ := Aside0.mk ((ne_new hg (bq BK440.out) : gb440 ≠ gb448)); have n12_ := Aside0.mk ((new_ne hg (bq BK440.out) : gb448 ≠ gb440)); clear HO431; clear HO439; clear HO447; clear BK432; clear BK440; clear HB; have HO431 := n0_; have HO439 := n1_; have HO447 := n2_; have BK432 := n3_; have BK440 := n4_; have HB := n5_; have BK448 := n6_; have GW448 := n7_; have GE448 := n8_; have NB432_448 := n9_; have NB448_432 := n10_; have NB440_448 := n11_; have NB448_440 := n12_; clear n0_ n1_ n2_ n3_ n4_ n5_ n6_ n7_ n8_ n9_ n10_ n11_ n12_; clear hb hbox hg; have hnb217 := NB448_432.out; have hnc217 := NB432_448.out; have hnb218 := NB448_440.out; have hnc218 := NB440_448.out; have hcz219_0 : w216.cell? ⟨gb448, 0, none⟩ = some (.int .i64 0) := (blk_cell BK448.out 0).trans rfl; have hcz219_1 : w216.cell? ⟨gb448, 1, none⟩ = some (.int .i64 0) := (blk_cell BK448.out 1).trans rfl; have hcz219_2 : w216.cell? ⟨gb448, 2, none⟩ = some (.int .i64 0) := (blk_cell BK448.out 2).trans rfl; have hcz219_3 : w216.cell? ⟨gb448, 3, none⟩ = some (.bool false) := (blk_cell BK448.out 3).trans rfl; have hfz219_0 := blk_frozen BK448.out 0; have hfz219_1 := blk_frozen BK448.out 1; have hfz219_2 := blk_frozen BK448.out 2; have hfz219_3 := blk_frozen BK448.out 3; obtain ⟨Ao220, co220, eo220⟩ := Kd.R_slice HO439.out; subst eo220; obtain ⟨Ao221, co221, eo221⟩ := Kd.R_slice HO447.out; subst eo221))
   go_ret
   exact ⟨by first | rfl | (simp [errW_none, errW_some] <;> rfl) | (simp [*, errW_none, errW_some] <;> rfl), by repeat (first | (with_reducible first | exact HB.out | apply below_alloc | apply pw_below_drewN | apply below_drew1 | refine below_set ?_ GE448.out) | exact HB.out)⟩

/-- THE ONE PURE STATEMENT of laws_FnHealth: yours. -/
def laws_FnHealth.Pure : Prop := ∀ (l0 : List Int), l0.length ≤ maxLen → l0.length * 1 ≤ 140737488351232 → (∀ x ∈ l0, (Lit.int .u8 x).wf = true) → ∃ k, laws_FnHealth.f k l0 = some true
theorem laws_FnHealth.walk (P : laws_FnHealth.Pure) (a0 : Option Addr) (len0 cap0 : Nat) (z0 : List Int) (w : World) (w0 : (a0 = none ∧ len0 = 0 ∧ cap0 = 0 ∧ z0 = []) ∨ ∃ x, a0 = some x ∧ len0 ≤ cap0 ∧ cap0 ≤ maxLen ∧ z0.length = cap0 ∧ (∀ i, i < z0.length → w.cell? (x.add i) = some (.int .u8 (z0.getD i 0))) ∧ ∀ n ∈ z0, (Lit.int .u8 n).wf = true) (y0 : len0 * 1 ≤ 140737488351232) :
  Calls Try.prog 9 #[.slice a0 len0 cap0] w fun e w' => e = .returned (.bool true) ∧ Below w.heap.size w w' := by
 obtain ⟨l0, rfl, hr0, hm0, hw0, hc0⟩ := ReadsInt.ofRowC w0
 obtain ⟨k, h⟩ := P l0 hm0 y0 hw0
 refine (laws_FnHealth.calls k _ _ l0 true w (Kd.C_of_reads (d := (0 : Int)) (h1 := fun _ => rfl) hr0) hc0 h).mono ?_
 rintro e w' ⟨rfl, hd⟩
 exact ⟨rfl, hd⟩

end Go.Proofs.Ytpdfihapnnnglaa.GB
