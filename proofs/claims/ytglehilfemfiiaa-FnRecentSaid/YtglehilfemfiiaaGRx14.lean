/- Told by a program of this session, out of the translation: each function of the group as a plain Lean function, and that Go's call comes to just its answer. Lean checks it. -/
import Derived.Test.YtglehilfemfiiaaGRx0
import Derived.Test.YtglehilfemfiiaaGRx5
import Derived.Test.YtglehilfemfiiaaGRx7
import Derived.Test.YtglehilfemfiiaaGRx12
import Derived.Test.YtglehilfemfiiaaGRx13
import Derived.Test.YtglehilfemfiiaaCcrR
namespace Go.Proofs.Ytglehilfemfiiaa.GR
open Go.RowKit Go.Proofs.YtglehilfemfiiaaW.PrintWords Go.Proofs.YtglehilfemfiiaaW.PrintLast Go.Proofs.YtglehilfemfiiaaW.PrintMore Go.Proofs.Ytglehilfemfiiaa.Q
attribute [local go_sem] max2_int min2_int max_two min_two max_three min_three max_four min_four   -- for this text's walks alone
set_option linter.unusedVariables false
set_option linter.unusedSimpArgs false

/-! ### laws_FnRecent: function 3 -/
mutual
def laws_FnRecent.l0 : Nat → List (S32) → List (S36) → Int → Int → Int → Int → Option (Bool)
 | 0, _, _, _, _, _, _ => none
 | k + 1, x4, x5, x6, x397000, x397001, x397002 => if x6 < (x5.length : Int) then (laws_FnRecent.j1 k x4 x5 x6 (decide (x6 < 120)) x397000 x397001 x397002) else (laws_FnRecent.j1 k x4 x5 x6 false x397000 x397001 x397002)
def laws_FnRecent.j1 : Nat → List (S32) → List (S36) → Int → Bool → Int → Int → Int → Option (Bool)
 | 0, _, _, _, _, _, _, _ => none
 | k + 1, x4, x5, x6, x36, x397000, x397001, x397002 => if x36 = true then (if 0 ≤ x6 then (if x6 < (x4.length : Int) then (if x397002 = 0 then (none) else (laws_FnRecent.l1 k x4 x5 x6 (wrap64 (Int.tdiv ((rd_T32 x4 x6).f0) x397002)) false (([] : List Int)) (wrap64 (x6 - 1)) x397000 x397001 x397002)) else (none)) else (none)) else (some true)
def laws_FnRecent.l1 : Nat → List (S32) → List (S36) → Int → Int → Bool → List Int → Int → Int → Int → Int → Option (Bool)
 | 0, _, _, _, _, _, _, _, _, _, _ => none
 | k + 1, x4, x5, x6, x7, x8, x9, x10, x397000, x397001, x397002 => if x10 ≥ 0 then (if 0 ≤ x10 then (if x10 < (x4.length : Int) then (if x397002 = 0 then (none) else (if (wrap64 (Int.tdiv ((rd_T32 x4 x10).f0) x397002)) = x7 then (if 0 ≤ x6 then (if x6 < (x5.length : Int) then (if (((rd_T36 x5 x6).f0) != (decide ((x9.length : Int) < x397001))) = true then (some false) else (if (rd_T36 x5 x6).f1 = true then (some false) else (laws_FnRecent.l0 k x4 x5 (wrap64 (x6 + 1)) x397000 x397001 x397002))) else (none)) else (none)) else (if x397000 = 0 then (none) else (if (Int.tmod (wrap64 (Int.tdiv ((rd_T32 x4 x10).f0) x397002)) x397000) = (Int.tmod x7 x397000) then ((laws_has.f k x9 (wrap64 (Int.tdiv ((rd_T32 x4 x10).f0) x397002))).bind fun t413 => (if t413 = true then (laws_FnRecent.l1 k x4 x5 x6 x7 x8 x9 (wrap64 (x10 - 1)) x397000 x397001 x397002) else (if x9.length < 17592186044416 then (laws_FnRecent.l1 k x4 x5 x6 x7 x8 (x9 ++ [wrap64 (Int.tdiv ((rd_T32 x4 x10).f0) x397002)]) (wrap64 (x10 - 1)) x397000 x397001 x397002) else (none)))) else (laws_FnRecent.l1 k x4 x5 x6 x7 x8 x9 (wrap64 (x10 - 1)) x397000 x397001 x397002))))) else (none)) else (none)) else (if 0 ≤ x6 then (if x6 < (x5.length : Int) then (if x8 = true then (if (((rd_T36 x5 x6).f0) != (decide ((x9.length : Int) < x397001))) = true then (some false) else (if (rd_T36 x5 x6).f1 = true then (some false) else (laws_FnRecent.l0 k x4 x5 (wrap64 (x6 + 1)) x397000 x397001 x397002))) else (if (((rd_T36 x5 x6).f0) != false) = true then (some false) else (if (rd_T36 x5 x6).f1 = true then (some false) else (laws_FnRecent.l0 k x4 x5 (wrap64 (x6 + 1)) x397000 x397001 x397002)))) else (none)) else (none))
end
def laws_FnRecent.f (k : Nat) (l0 : List Int) : Option (Bool) := (laws_big.f l0).bind fun t389 => (if t389 = true then (some true) else ((spec_DrawCacheRun.f k l0).bind fun bt390 => ((impl_CacheRun.f bt390.1 bt390.2.1 bt390.2.2.1 bt390.2.2.2).bind fun t397 => ((spec_CacheRun.f k bt390.1 bt390.2.1 bt390.2.2.1 bt390.2.2.2).bind fun t400 => (if (t397.length : Int) = (t400.length : Int) then (laws_FnRecent.l0 k bt390.2.2.2 t397 0 bt390.1 bt390.2.1 bt390.2.2.1) else (some false))))))
theorem laws_FnRecent.mono_l : ∀ k, (∀ y0 y1 y2 y3 y4 y5, LeO (laws_FnRecent.l0 k y0 y1 y2 y3 y4 y5) (laws_FnRecent.l0 (k + 1) y0 y1 y2 y3 y4 y5)) ∧ (∀ y0 y1 y2 y3 y4 y5 y6, LeO (laws_FnRecent.j1 k y0 y1 y2 y3 y4 y5 y6) (laws_FnRecent.j1 (k + 1) y0 y1 y2 y3 y4 y5 y6)) ∧ (∀ y0 y1 y2 y3 y4 y5 y6 y7 y8 y9, LeO (laws_FnRecent.l1 k y0 y1 y2 y3 y4 y5 y6 y7 y8 y9) (laws_FnRecent.l1 (k + 1) y0 y1 y2 y3 y4 y5 y6 y7 y8 y9))
 | 0 => ⟨fun _ _ _ _ _ _ r h => by simp [laws_FnRecent.l0] at h, fun _ _ _ _ _ _ _ r h => by simp [laws_FnRecent.j1] at h, fun _ _ _ _ _ _ _ _ _ _ r h => by simp [laws_FnRecent.l1] at h⟩
 | k + 1 => by
  obtain ⟨ih0, ih1, ih2⟩ := laws_FnRecent.mono_l k
  refine ⟨?_, ?_, ?_⟩
  ·intro y0 y1 y2 y3 y4 y5
   unfold laws_FnRecent.l0
   repeat' first
   | (with_reducible exact ih0 _ _ _ _ _ _)
   | (with_reducible exact ih1 _ _ _ _ _ _ _)
   | (with_reducible exact ih2 _ _ _ _ _ _ _ _ _ _)
   | (with_reducible exact laws_has.mono _ _ _)
   | (with_reducible exact spec_CacheRun.mono _ _ _ _ _)
   | (with_reducible exact spec_DrawCacheRun.mono _ _)
   | (with_reducible exact LeO.refl _)
   | (with_reducible exact LeO.none _)
   | (with_reducible refine LeO.ite ?_ ?_)
   | (with_reducible refine LeO.bind ?_ (fun _ => ?_))
   | exact ih0 _ _ _ _ _ _
   | exact ih1 _ _ _ _ _ _ _
   | exact ih2 _ _ _ _ _ _ _ _ _ _
   | exact laws_has.mono _ _ _
   | exact spec_CacheRun.mono _ _ _ _ _
   | exact spec_DrawCacheRun.mono _ _
   | exact LeO.none _
   | refine LeO.ite ?_ ?_
   | refine LeO.bind ?_ (fun _ => ?_)
  ·intro y0 y1 y2 y3 y4 y5 y6
   unfold laws_FnRecent.j1
   repeat' first
   | (with_reducible exact ih0 _ _ _ _ _ _)
   | (with_reducible exact ih1 _ _ _ _ _ _ _)
   | (with_reducible exact ih2 _ _ _ _ _ _ _ _ _ _)
   | (with_reducible exact laws_has.mono _ _ _)
   | (with_reducible exact spec_CacheRun.mono _ _ _ _ _)
   | (with_reducible exact spec_DrawCacheRun.mono _ _)
   | (with_reducible exact LeO.refl _)
   | (with_reducible exact LeO.none _)
   | (with_reducible refine LeO.ite ?_ ?_)
   | (with_reducible refine LeO.bind ?_ (fun _ => ?_))
   | exact ih0 _ _ _ _ _ _
   | exact ih1 _ _ _ _ _ _ _
   | exact ih2 _ _ _ _ _ _ _ _ _ _
   | exact laws_has.mono _ _ _
   | exact spec_CacheRun.mono _ _ _ _ _
   | exact spec_DrawCacheRun.mono _ _
   | exact LeO.none _
   | refine LeO.ite ?_ ?_
   | refine LeO.bind ?_ (fun _ => ?_)
  ·intro y0 y1 y2 y3 y4 y5 y6 y7 y8 y9
   unfold laws_FnRecent.l1
   repeat' first
   | (with_reducible exact ih0 _ _ _ _ _ _)
   | (with_reducible exact ih1 _ _ _ _ _ _ _)
   | (with_reducible exact ih2 _ _ _ _ _ _ _ _ _ _)
   | (with_reducible exact laws_has.mono _ _ _)
   | (with_reducible exact spec_CacheRun.mono _ _ _ _ _)
   | (with_reducible exact spec_DrawCacheRun.mono _ _)
   | (with_reducible exact LeO.refl _)
   | (with_reducible exact LeO.none _)
   | (with_reducible refine LeO.ite ?_ ?_)
   | (with_reducible refine LeO.bind ?_ (fun _ => ?_))
   | exact ih0 _ _ _ _ _ _
   | exact ih1 _ _ _ _ _ _ _
   | exact ih2 _ _ _ _ _ _ _ _ _ _
   | exact laws_has.mono _ _ _
   | exact spec_CacheRun.mono _ _ _ _ _
   | exact spec_DrawCacheRun.mono _ _
   | exact LeO.none _
   | refine LeO.ite ?_ ?_
   | refine LeO.bind ?_ (fun _ => ?_)
theorem laws_FnRecent.mono : ∀ a0 k, LeO (laws_FnRecent.f k a0) (laws_FnRecent.f (k + 1) a0) := by
 intro a0 k
 obtain ⟨ih0, ih1, ih2⟩ := laws_FnRecent.mono_l k
 unfold laws_FnRecent.f
 repeat' first
   | (with_reducible exact ih0 _ _ _ _ _ _)
   | (with_reducible exact ih1 _ _ _ _ _ _ _)
   | (with_reducible exact ih2 _ _ _ _ _ _ _ _ _ _)
   | (with_reducible exact laws_has.mono _ _ _)
   | (with_reducible exact spec_CacheRun.mono _ _ _ _ _)
   | (with_reducible exact spec_DrawCacheRun.mono _ _)
   | (with_reducible exact LeO.refl _)
   | (with_reducible exact LeO.none _)
   | (with_reducible refine LeO.ite ?_ ?_)
   | (with_reducible refine LeO.bind ?_ (fun _ => ?_))
   | exact ih0 _ _ _ _ _ _
   | exact ih1 _ _ _ _ _ _ _
   | exact ih2 _ _ _ _ _ _ _ _ _ _
   | exact laws_has.mono _ _ _
   | exact spec_CacheRun.mono _ _ _ _ _
   | exact spec_DrawCacheRun.mono _ _
   | exact LeO.none _
   | refine LeO.ite ?_ ?_
   | refine LeO.bind ?_ (fun _ => ?_)
set_option maxHeartbeats 8000000 in
set_option maxRecDepth 100000 in
theorem laws_FnRecent.calls (k : Nat) (A0 : Option Addr) (c0 : Nat) (l0 : List Int) (w : World) (hr0 : Kd.C (Kd.int .u8) w A0 l0.length l0) (hc0 : l0.length ≤ c0) (h : laws_FnRecent.f k l0 = some true) :
  Calls Try.prog 3 #[.slice A0 l0.length c0] w fun e w' => e = .returned (.bool true) ∧ Below w.heap.size w w' := by
 have hu25 := Try.underlying25
 have HR0 := Aside0.mk hr0
 have HC0 := Aside0.mk hc0
 clear hr0 hc0
 have HB := Aside0.mk (Below.refl w.heap.size w)
 have H : ((laws_big.f l0).bind fun t389 => (if t389 = true then (some true) else ((spec_DrawCacheRun.f k l0).bind fun bt390 => ((impl_CacheRun.f bt390.1 bt390.2.1 bt390.2.2.1 bt390.2.2.2).bind fun t397 => ((spec_CacheRun.f k bt390.1 bt390.2.1 bt390.2.2.1 bt390.2.2.2).bind fun t400 => (if (t397.length : Int) = (t400.length : Int) then (laws_FnRecent.l0 k bt390.2.2.2 t397 0 bt390.1 bt390.2.1 bt390.2.2.1) else (some false))))))) = some true := h
 clear h
 replace H := Option.bind_eq_some_iff.mp H
 obtain ⟨t389, A20, H⟩ := H
 (try dsimp only at H)
 have A2 := Aside0.mk A20
 clear A20
 by_cases c3 : t389 = true
 ·subst c3
  rw [if_pos rfl] at H
  clear H
  go_enter Try.func3, Try.ntmps3
  go_wp2_with (first | (go_at_call 10; (with_reducible refine (laws_big.calls _ _ l0 true _ ?side1 ?side2 A2.out).mono ?_); (case side1 => repeat (first | exact HR0.out | (with_reducible refine Kd.C_alloc ?_ _) | (with_reducible refine Kd.C_drewN ?_ _) | (with_reducible refine Kd.C_drew ?_))); (case side2 => exact HC0.out); rintro e w' ⟨rfl, ⟨nd, rfl⟩⟩; (try first | exact ⟨rfl, _, World.drewN_drewN _ _ _⟩ | exact ⟨rfl, _, Eq.trans (World.drewN_drewN _ _ _) (congrArg (World.drewN _) (Nat.add_assoc _ _ _))⟩)))
  repeat (go_quiet (first | (go_at_call 10; (with_reducible refine (laws_big.calls _ _ l0 true _ ?side1 ?side2 A2.out).mono ?_); (case side1 => repeat (first | exact HR0.out | (with_reducible refine Kd.C_alloc ?_ _) | (with_reducible refine Kd.C_drewN ?_ _) | (with_reducible refine Kd.C_drew ?_))); (case side2 => exact HC0.out); rintro e w' ⟨rfl, ⟨nd, rfl⟩⟩; (try first | exact ⟨rfl, _, World.drewN_drewN _ _ _⟩ | exact ⟨rfl, _, Eq.trans (World.drewN_drewN _ _ _) (congrArg (World.drewN _) (Nat.add_assoc _ _ _))⟩))); try go_wp2_with (first | (go_at_call 10; (with_reducible refine (laws_big.calls _ _ l0 true _ ?side1 ?side2 A2.out).mono ?_); (case side1 => repeat (first | exact HR0.out | (with_reducible refine Kd.C_alloc ?_ _) | (with_reducible refine Kd.C_drewN ?_ _) | (with_reducible refine Kd.C_drew ?_))); (case side2 => exact HC0.out); rintro e w' ⟨rfl, ⟨nd, rfl⟩⟩; (try first | exact ⟨rfl, _, World.drewN_drewN _ _ _⟩ | exact ⟨rfl, _, Eq.trans (World.drewN_drewN _ _ _) (congrArg (World.drewN _) (Nat.add_assoc _ _ _))⟩))))
  go_ret
  exact ⟨by first | rfl | (simp [errW_none, errW_some] <;> rfl) | (simp [*, errW_none, errW_some] <;> rfl), by exact lq HB.out⟩
 ·replace c3 := Bool.eq_false_iff.mpr c3
  subst c3
  rw [if_neg (show ¬ (false = true) by decide)] at H
  replace H := Option.bind_eq_some_iff.mp H
  obtain ⟨⟨t390, t391, t392, t393⟩, A40, H⟩ := H
  (try dsimp only at H)
  have A4 := Aside0.mk A40
  clear A40
  replace H := Option.bind_eq_some_iff.mp H
  obtain ⟨t397, A50, H⟩ := H
  (try dsimp only at H)
  have A5 := Aside0.mk A50
  clear A50
  replace H := Option.bind_eq_some_iff.mp H
  obtain ⟨t400, A60, H⟩ := H
  (try dsimp only at H)
  have A6 := Aside0.mk A60
  clear A60
  by_cases c7 : (t397.length : Int) = (t400.length : Int)
  ·rw [if_pos c7] at H
   have c7b0 : ((t397.length : Int) == (t400.length : Int)) = true := beq_iff_eq.mpr c7
   have c7b1 : ((t397.length : Int) != (t400.length : Int)) = false := bne_eq_false_iff_eq.mpr c7
   have c7b2 : (t397.length == t400.length) = true := by first | simpa using c7 | (simp at c7 ⊢; omega)
   clear c7
   have H' := Aside0.mk H
   clear H
   go_enter Try.func3, Try.ntmps3
   go_wp2_with (first | (go_at_call 10; (with_reducible refine (laws_big.calls _ _ l0 false _ ?side1 ?side2 A2.out).mono ?_); (case side1 => repeat (first | exact HR0.out | (with_reducible refine Kd.C_alloc ?_ _) | (with_reducible refine Kd.C_drewN ?_ _) | (with_reducible refine Kd.C_drew ?_))); (case side2 => exact HC0.out); rintro e w' ⟨rfl, ⟨nd, rfl⟩⟩; (try first | exact ⟨rfl, _, World.drewN_drewN _ _ _⟩ | exact ⟨rfl, _, Eq.trans (World.drewN_drewN _ _ _) (congrArg (World.drewN _) (Nat.add_assoc _ _ _))⟩)) | (go_at_call 11; (with_reducible refine (spec_DrawCacheRun.calls k _ _ l0 t390 t391 t392 t393 _ ?side1 ?side2 A4.out).mono ?_); (case side1 => repeat (first | exact HR0.out | (with_reducible refine Kd.C_alloc ?_ _) | (with_reducible refine Kd.C_drewN ?_ _) | (with_reducible refine Kd.C_drew ?_))); (case side2 => exact HC0.out); rintro e w8 ⟨v394, rfl, ho0, hb⟩; have n0_ := Aside0.mk (Kd.R_lower ho0 (below_size (lq HB.out))); have n1_ := Aside0.mk (below_step (lq HB.out) hb); clear HB; have HO395 := n0_; have HB := n1_; clear n0_ n1_; (try clear hb); (try clear hb2); (try clear hk); (try clear hi); (try clear ho0)) | ((with_reducible refine gate_dst (N := 3) rfl ?_); (try (refine gate_guard (by rfl) ?_; dsimp only)); refine box_event ?hg (N := 3) ?hd (cs := #[.int .i64 0, .int .i64 0, .int .i64 0]) (t := 25) ?hr ?_; (case hd => rfl); (case hg => rfl); (case hr => first | (go_simp; done) | (go_simp; rfl)); intro gb396 hg w9 hbox hb; have n0_ := Aside0.mk (Kd.R_below (rq HO395.out) hb); have n1_ := Aside0.mk (below_step (lq HB.out) hb); have n2_ := Aside0.mk (hbox); have n3_ := Aside0.mk ((ge_new hg (lq HB.out) : w.heap.size ≤ gb396)); have n4_ := Aside0.mk ((ge_new hg (lq HB.out) : w.heap.size ≤ gb396)); clear HO395; clear HB; have HO395 := n0_; have HB := n1_; have BK396 := n2_; have GW396 := n3_; have GE396 := n4_; clear n0_ n1_ n2_ n3_ n4_; clear hb hbox hg; have hcz10_0 : w9.cell? ⟨gb396, 0, none⟩ = some (.int .i64 0) := (blk_cell BK396.out 0).trans rfl; have hcz10_1 : w9.cell? ⟨gb396, 1, none⟩ = some (.int .i64 0) := (blk_cell BK396.out 1).trans rfl; have hcz10_2 : w9.cell? ⟨gb396, 2, none⟩ = some (.int .i64 0) := (blk_cell BK396.out 2).trans rfl; have hfz10_0 := blk_frozen BK396.out 0; have hfz10_1 := blk_frozen BK396.out 1; have hfz10_2 := blk_frozen BK396.out 2; obtain ⟨Ao11, co11, eo11⟩ := Kd.R_slice HO395.out; subst eo11) | (go_at_call 12; (with_reducible refine (impl_CacheRun.calls t390 t391 t392 _ _ t393 t397 _ ?side1 ?side2 A5.out).mono ?_); (case side1 => refine (Kd.R_reads' (e := 32) (base := w.heap.size) (ok := fun k_ => True) (n := t393.length) (c := co11) ?_).2.2; exact (rq (Kd.R_mono (Kd.R_far (p := ⟨gb396, 2, none⟩) (Kd.R_far (p := ⟨gb396, 1, none⟩) (Kd.R_far (p := ⟨gb396, 0, none⟩) (Kd.R_types HO395.out BK396.out (by decide)) (fun _ hk => hk.2) (.int .i64 t390)) (fun _ hk => hk.2) (.int .i64 t391)) (fun _ hk => hk.2) (.int .i64 t392)) (fun _ h_ => h_.1)))); (case side2 => exact (Kd.R_reads' HO395.out).2.1); rintro e w12 ⟨v398, rfl, ho0, hb⟩; have n0_ := Aside0.mk (Kd.R_below (rq (Kd.R_mono (Kd.R_far (p := ⟨gb396, 2, none⟩) (Kd.R_far (p := ⟨gb396, 1, none⟩) (Kd.R_far (p := ⟨gb396, 0, none⟩) (Kd.R_types HO395.out BK396.out (by decide)) (fun _ hk => hk.2) (.int .i64 t390)) (fun _ hk => hk.2) (.int .i64 t391)) (fun _ hk => hk.2) (.int .i64 t392)) (fun _ h_ => h_.1))) hb); have n1_ := Aside0.mk (Kd.R_lower ho0 (below_size (by repeat (first | (with_reducible first | exact HB.out | apply below_alloc | apply pw_below_drewN | apply below_drew1 | refine below_set ?_ GE396.out) | exact HB.out)))); have n2_ := Aside0.mk (blk_below (g := gb396) (o := .cells #[.int .i64 t390, .int .i64 t391, .int .i64 t392] 25 (0, 0)) (by (with_reducible repeat (first | refine blk_drewN ?_ _ | refine blk_drew ?_ | refine blk_alloc ?_ _)); refine blk_put (cs := #[.int .i64 t390, .int .i64 t391, .int .i64 0]) ?_ 2 _ rfl; (with_reducible repeat (first | refine blk_drewN ?_ _ | refine blk_drew ?_ | refine blk_alloc ?_ _)); refine blk_put (cs := #[.int .i64 t390, .int .i64 0, .int .i64 0]) ?_ 1 _ rfl; (with_reducible repeat (first | refine blk_drewN ?_ _ | refine blk_drew ?_ | refine blk_alloc ?_ _)); refine blk_put (cs := #[.int .i64 0, .int .i64 0, .int .i64 0]) ?_ 0 _ rfl; (with_reducible repeat (first | refine blk_drewN ?_ _ | refine blk_drew ?_ | refine blk_alloc ?_ _)); exact BK396.out) hb); have n3_ := Aside0.mk (below_step (by repeat (first | (with_reducible first | exact HB.out | apply below_alloc | apply pw_below_drewN | apply below_drew1 | refine below_set ?_ GE396.out) | exact HB.out)) hb); clear HO395; clear BK396; clear HB; have HO395 := n0_; have HO399 := n1_; have BK396 := n2_; have HB := n3_; clear n0_ n1_ n2_ n3_; (try clear hb); (try clear hb2); (try clear hk); (try clear hi); (try clear ho0); obtain ⟨Ao13, co13, eo13⟩ := Kd.R_slice HO399.out; subst eo13; have hcz14_0 : w12.cell? ⟨gb396, 0, none⟩ = some (.int .i64 t390) := (blk_cell BK396.out 0).trans rfl; have hcz14_1 : w12.cell? ⟨gb396, 1, none⟩ = some (.int .i64 t391) := (blk_cell BK396.out 1).trans rfl; have hcz14_2 : w12.cell? ⟨gb396, 2, none⟩ = some (.int .i64 t392) := (blk_cell BK396.out 2).trans rfl; have hfz14_0 := blk_frozen BK396.out 0; have hfz14_1 := blk_frozen BK396.out 1; have hfz14_2 := blk_frozen BK396.out 2) | (go_at_call 13; (with_reducible refine (spec_CacheRun.calls k t390 t391 t392 _ _ t393 t400 _ ?side1 ?side2 A6.out).mono ?_); (case side1 => repeat (first | exact (Kd.R_reads' HO395.out).2.2 | (with_reducible refine Kd.C_alloc ?_ _) | (with_reducible refine Kd.C_drewN ?_ _) | (with_reducible refine Kd.C_drew ?_))); (case side2 => exact (Kd.R_reads' HO395.out).2.1); rintro e w15 ⟨v401, rfl, ho0, hb⟩; have n0_ := Aside0.mk (Kd.R_below (rq HO395.out) hb); have n1_ := Aside0.mk (Kd.R_elder' (rq HO399.out) (Kd.R_base ho0) hb); have n2_ := Aside0.mk (Kd.R_lower (Kd.R_new' ho0 (Kd.R_lt (rq HO399.out))) (below_size (lq HB.out))); have n3_ := Aside0.mk (blk_below (bq BK396.out) hb); have n4_ := Aside0.mk (below_step (lq HB.out) hb); clear HO395; clear HO399; clear BK396; clear HB; have HO395 := n0_; have HO399 := n1_; have HO402 := n2_; have BK396 := n3_; have HB := n4_; clear n0_ n1_ n2_ n3_ n4_; (try clear hb); (try clear hb2); (try clear hk); (try clear hi); (try clear ho0); obtain ⟨Ao16, co16, eo16⟩ := Kd.R_slice HO402.out; subst eo16))
   repeat (go_quiet (first | (go_at_call 10; (with_reducible refine (laws_big.calls _ _ l0 false _ ?side1 ?side2 A2.out).mono ?_); (case side1 => repeat (first | exact HR0.out | (with_reducible refine Kd.C_alloc ?_ _) | (with_reducible refine Kd.C_drewN ?_ _) | (with_reducible refine Kd.C_drew ?_))); (case side2 => exact HC0.out); rintro e w' ⟨rfl, ⟨nd, rfl⟩⟩; (try first | exact ⟨rfl, _, World.drewN_drewN _ _ _⟩ | exact ⟨rfl, _, Eq.trans (World.drewN_drewN _ _ _) (congrArg (World.drewN _) (Nat.add_assoc _ _ _))⟩)) | (go_at_call 11; (with_reducible refine (spec_DrawCacheRun.calls k _ _ l0 t390 t391 t392 t393 _ ?side1 ?side2 A4.out).mono ?_); (case side1 => repeat (first | exact HR0.out | (with_reducible refine Kd.C_alloc ?_ _) | (with_reducible refine Kd.C_drewN ?_ _) | (with_reducible refine Kd.C_drew ?_))); (case side2 => exact HC0.out); rintro e w8 ⟨v394, rfl, ho0, hb⟩; have n0_ := Aside0.mk (Kd.R_lower ho0 (below_size (lq HB.out))); have n1_ := Aside0.mk (below_step (lq HB.out) hb); clear HB; have HO395 := n0_; have HB := n1_; clear n0_ n1_; (try clear hb); (try clear hb2); (try clear hk); (try clear hi); (try clear ho0)) | ((with_reducible refine gate_dst (N := 3) rfl ?_); (try (refine gate_guard (by rfl) ?_; dsimp only)); refine box_event ?hg (N := 3) ?hd (cs := #[.int .i64 0, .int .i64 0, .int .i64 0]) (t := 25) ?hr ?_; (case hd => rfl); (case hg => rfl); (case hr => first | (go_simp; done) | (go_simp; rfl)); intro gb396 hg w9 hbox hb; have n0_ := Aside0.mk (Kd.R_below (rq HO395.out) hb); have n1_ := Aside0.mk (below_step (lq HB.out) hb); have n2_ := Aside0.mk (hbox); have n3_ := Aside0.mk ((ge_new hg (lq HB.out) : w.heap.size ≤ gb396)); have n4_ := Aside0.mk ((ge_new hg (lq HB.out) : w.heap.size ≤ gb396)); clear HO395; clear HB; have HO395 := n0_; have HB := n1_; have BK396 := n2_; have GW396 := n3_; have GE396 := n4_; clear n0_ n1_ n2_ n3_ n4_; clear hb hbox hg; have hcz10_0 : w9.cell? ⟨gb396, 0, none⟩ = some (.int .i64 0) := (blk_cell BK396.out 0).trans rfl; have hcz10_1 : w9.cell? ⟨gb396, 1, none⟩ = some (.int .i64 0) := (blk_cell BK396.out 1).trans rfl; have hcz10_2 : w9.cell? ⟨gb396, 2, none⟩ = some (.int .i64 0) := (blk_cell BK396.out 2).trans rfl; have hfz10_0 := blk_frozen BK396.out 0; have hfz10_1 := blk_frozen BK396.out 1; have hfz10_2 := blk_frozen BK396.out 2; obtain ⟨Ao11, co11, eo11⟩ := Kd.R_slice HO395.out; subst eo11) | (go_at_call 12; (with_reducible refine (impl_CacheRun.calls t390 t391 t392 _ _ t393 t397 _ ?side1 ?side2 A5.out).mono ?_); (case side1 => refine (Kd.R_reads' (e := 32) (base := w.heap.size) (ok := fun k_ => True) (n := t393.length) (c := co11) ?_).2.2; exact (rq (Kd.R_mono (Kd.R_far (p := ⟨gb396, 2, none⟩) (Kd.R_far (p := ⟨gb396, 1, none⟩) (Kd.R_far (p := ⟨gb396, 0, none⟩) (Kd.R_types HO395.out BK396.out (by decide)) (fun _ hk => hk.2) (.int .i64 t390)) (fun _ hk => hk.2) (.int .i64 t391)) (fun _ hk => hk.2) (.int .i64 t392)) (fun _ h_ => h_.1)))); (case side2 => exact (Kd.R_reads' HO395.out).2.1); rintro e w12 ⟨v398, rfl, ho0, hb⟩; have n0_ := Aside0.mk (Kd.R_below (rq (Kd.R_mono (Kd.R_far (p := ⟨gb396, 2, none⟩) (Kd.R_far (p := ⟨gb396, 1, none⟩) (Kd.R_far (p := ⟨gb396, 0, none⟩) (Kd.R_types HO395.out BK396.out (by decide)) (fun _ hk => hk.2) (.int .i64 t390)) (fun _ hk => hk.2) (.int .i64 t391)) (fun _ hk => hk.2) (.int .i64 t392)) (fun _ h_ => h_.1))) hb); have n1_ := Aside0.mk (Kd.R_lower ho0 (below_size (by repeat (first | (with_reducible first | exact HB.out | apply below_alloc | apply pw_below_drewN | apply below_drew1 | refine below_set ?_ GE396.out) | exact HB.out)))); have n2_ := Aside0.mk (blk_below (g := gb396) (o := .cells #[.int .i64 t390, .int .i64 t391, .int .i64 t392] 25 (0, 0)) (by (with_reducible repeat (first | refine blk_drewN ?_ _ | refine blk_drew ?_ | refine blk_alloc ?_ _)); refine blk_put (cs := #[.int .i64 t390, .int .i64 t391, .int .i64 0]) ?_ 2 _ rfl; (with_reducible repeat (first | refine blk_drewN ?_ _ | refine blk_drew ?_ | refine blk_alloc ?_ _)); refine blk_put (cs := #[.int .i64 t390, .int .i64 0, .int .i64 0]) ?_ 1 _ rfl; (with_reducible repeat (first | refine blk_drewN ?_ _ | refine blk_drew ?_ | refine blk_alloc ?_ _)); refine blk_put (cs := #[.int .i64 0, .int .i64 0, .int .i64 0]) ?_ 0 _ rfl; (with_reducible repeat (first | refine blk_drewN ?_ _ | refine blk_drew ?_ | refine blk_alloc ?_ _)); exact BK396.out) hb); have n3_ := Aside0.mk (below_step (by repeat (first | (with_reducible first | exact HB.out | apply below_alloc | apply pw_below_drewN | apply below_drew1 | refine below_set ?_ GE396.out) | exact HB.out)) hb); clear HO395; clear BK396; clear HB; have HO395 := n0_; have HO399 := n1_; have BK396 := n2_; have HB := n3_; clear n0_ n1_ n2_ n3_; (try clear hb); (try clear hb2); (try clear hk); (try clear hi); (try clear ho0); obtain ⟨Ao13, co13, eo13⟩ := Kd.R_slice HO399.out; subst eo13; have hcz14_0 : w12.cell? ⟨gb396, 0, none⟩ = some (.int .i64 t390) := (blk_cell BK396.out 0).trans rfl; have hcz14_1 : w12.cell? ⟨gb396, 1, none⟩ = some (.int .i64 t391) := (blk_cell BK396.out 1).trans rfl; have hcz14_2 : w12.cell? ⟨gb396, 2, none⟩ = some (.int .i64 t392) := (blk_cell BK396.out 2).trans rfl; have hfz14_0 := blk_frozen BK396.out 0; have hfz14_1 := blk_frozen BK396.out 1; have hfz14_2 := blk_frozen BK396.out 2) | (go_at_call 13; (with_reducible refine (spec_CacheRun.calls k t390 t391 t392 _ _ t393 t400 _ ?side1 ?side2 A6.out).mono ?_); (case side1 => repeat (first | exact (Kd.R_reads' HO395.out).2.2 | (with_reducible refine Kd.C_alloc ?_ _) | (with_reducible refine Kd.C_drewN ?_ _) | (with_reducible refine Kd.C_drew ?_))); (case side2 => exact (Kd.R_reads' HO395.out).2.1); rintro e w15 ⟨v401, rfl, ho0, hb⟩; have n0_ := Aside0.mk (Kd.R_below (rq HO395.out) hb); have n1_ := Aside0.mk (Kd.R_elder' (rq HO399.out) (Kd.R_base ho0) hb); have n2_ := Aside0.mk (Kd.R_lower (Kd.R_new' ho0 (Kd.R_lt (rq HO399.out))) (below_size (lq HB.out))); have n3_ := Aside0.mk (blk_below (bq BK396.out) hb); have n4_ := Aside0.mk (below_step (lq HB.out) hb); clear HO395; clear HO399; clear BK396; clear HB; have HO395 := n0_; have HO399 := n1_; have HO402 := n2_; have BK396 := n3_; have HB := n4_; clear n0_ n1_ n2_ n3_ n4_; (try clear hb); (try clear hb2); (try clear hk); (try clear hi); (try clear ho0); obtain ⟨Ao16, co16, eo16⟩ := Kd.R_slice HO402.out; subst eo16)); try go_wp2_with (first | (go_at_call 10; (with_reducible refine (laws_big.calls _ _ l0 false _ ?side1 ?side2 A2.out).mono ?_); (case side1 => repeat (first | exact HR0.out | (with_reducible refine Kd.C_alloc ?_ _) | (with_reducible refine Kd.C_drewN ?_ _) | (with_reducible refine Kd.C_drew ?_))); (case side2 => exact HC0.out); rintro e w' ⟨rfl, ⟨nd, rfl⟩⟩; (try first | exact ⟨rfl, _, World.drewN_drewN _ _ _⟩ | exact ⟨rfl, _, Eq.trans (World.drewN_drewN _ _ _) (congrArg (World.drewN _) (Nat.add_assoc _ _ _))⟩)) | (go_at_call 11; (with_reducible refine (spec_DrawCacheRun.calls k _ _ l0 t390 t391 t392 t393 _ ?side1 ?side2 A4.out).mono ?_); (case side1 => repeat (first | exact HR0.out | (with_reducible refine Kd.C_alloc ?_ _) | (with_reducible refine Kd.C_drewN ?_ _) | (with_reducible refine Kd.C_drew ?_))); (case side2 => exact HC0.out); rintro e w8 ⟨v394, rfl, ho0, hb⟩; have n0_ := Aside0.mk (Kd.R_lower ho0 (below_size (lq HB.out))); have n1_ := Aside0.mk (below_step (lq HB.out) hb); clear HB; have HO395 := n0_; have HB := n1_; clear n0_ n1_; (try clear hb); (try clear hb2); (try clear hk); (try clear hi); (try clear ho0)) | ((with_reducible refine gate_dst (N := 3) rfl ?_); (try (refine gate_guard (by rfl) ?_; dsimp only)); refine box_event ?hg (N := 3) ?hd (cs := #[.int .i64 0, .int .i64 0, .int .i64 0]) (t := 25) ?hr ?_; (case hd => rfl); (case hg => rfl); (case hr => first | (go_simp; done) | (go_simp; rfl)); intro gb396 hg w9 hbox hb; have n0_ := Aside0.mk (Kd.R_below (rq HO395.out) hb); have n1_ := Aside0.mk (below_step (lq HB.out) hb); have n2_ := Aside0.mk (hbox); have n3_ := Aside0.mk ((ge_new hg (lq HB.out) : w.heap.size ≤ gb396)); have n4_ := Aside0.mk ((ge_new hg (lq HB.out) : w.heap.size ≤ gb396)); clear HO395; clear HB; have HO395 := n0_; have HB := n1_; have BK396 := n2_; have GW396 := n3_; have GE396 := n4_; clear n0_ n1_ n2_ n3_ n4_; clear hb hbox hg; have hcz10_0 : w9.cell? ⟨gb396, 0, none⟩ = some (.int .i64 0) := (blk_cell BK396.out 0).trans rfl; have hcz10_1 : w9.cell? ⟨gb396, 1, none⟩ = some (.int .i64 0) := (blk_cell BK396.out 1).trans rfl; have hcz10_2 : w9.cell? ⟨gb396, 2, none⟩ = some (.int .i64 0) := (blk_cell BK396.out 2).trans rfl; have hfz10_0 := blk_frozen BK396.out 0; have hfz10_1 := blk_frozen BK396.out 1; have hfz10_2 := blk_frozen BK396.out 2; obtain ⟨Ao11, co11, eo11⟩ := Kd.R_slice HO395.out; subst eo11) | (go_at_call 12; (with_reducible refine (impl_CacheRun.calls t390 t391 t392 _ _ t393 t397 _ ?side1 ?side2 A5.out).mono ?_); (case side1 => refine (Kd.R_reads' (e := 32) (base := w.heap.size) (ok := fun k_ => True) (n := t393.length) (c := co11) ?_).2.2; exact (rq (Kd.R_mono (Kd.R_far (p := ⟨gb396, 2, none⟩) (Kd.R_far (p := ⟨gb396, 1, none⟩) (Kd.R_far (p := ⟨gb396, 0, none⟩) (Kd.R_types HO395.out BK396.out (by decide)) (fun _ hk => hk.2) (.int .i64 t390)) (fun _ hk => hk.2) (.int .i64 t391)) (fun _ hk => hk.2) (.int .i64 t392)) (fun _ h_ => h_.1)))); (case side2 => exact (Kd.R_reads' HO395.out).2.1); rintro e w12 ⟨v398, rfl, ho0, hb⟩; have n0_ := Aside0.mk (Kd.R_below (rq (Kd.R_mono (Kd.R_far (p := ⟨gb396, 2, none⟩) (Kd.R_far (p := ⟨gb396, 1, none⟩) (Kd.R_far (p := ⟨gb396, 0, none⟩) (Kd.R_types HO395.out BK396.out (by decide)) (fun _ hk => hk.2) (.int .i64 t390)) (fun _ hk => hk.2) (.int .i64 t391)) (fun _ hk => hk.2) (.int .i64 t392)) (fun _ h_ => h_.1))) hb); have n1_ := Aside0.mk (Kd.R_lower ho0 (below_size (by repeat (first | (with_reducible first | exact HB.out | apply below_alloc | apply pw_below_drewN | apply below_drew1 | refine below_set ?_ GE396.out) | exact HB.out)))); have n2_ := Aside0.mk (blk_below (g := gb396) (o := .cells #[.int .i64 t390, .int .i64 t391, .int .i64 t392] 25 (0, 0)) (by (with_reducible repeat (first | refine blk_drewN ?_ _ | refine blk_drew ?_ | refine blk_alloc ?_ _)); refine blk_put (cs := #[.int .i64 t390, .int .i64 t391, .int .i64 0]) ?_ 2 _ rfl; (with_reducible repeat (first | refine blk_drewN ?_ _ | refine blk_drew ?_ | refine blk_alloc ?_ _)); refine blk_put (cs := #[.int .i64 t390, .int .i64 0, .int .i64 0]) ?_ 1 _ rfl; (with_reducible repeat (first | refine blk_drewN ?_ _ | refine blk_drew ?_ | refine blk_alloc ?_ _)); refine blk_put (cs := #[.int .i64 0, .int .i64 0, .int .i64 0]) ?_ 0 _ rfl; (with_reducible repeat (first | refine blk_drewN ?_ _ | refine blk_drew ?_ | refine blk_alloc ?_ _)); exact BK396.out) hb); have n3_ := Aside0.mk (below_step (by repeat (first | (with_reducible first | exact HB.out | apply below_alloc | apply pw_below_drewN | apply below_drew1 | refine below_set ?_ GE396.out) | exact HB.out)) hb); clear HO395; clear BK396; clear HB; have HO395 := n0_; have HO399 := n1_; have BK396 := n2_; have HB := n3_; clear n0_ n1_ n2_ n3_; (try clear hb); (try clear hb2); (try clear hk); (try clear hi); (try clear ho0); obtain ⟨Ao13, co13, eo13⟩ := Kd.R_slice HO399.out; subst eo13; have hcz14_0 : w12.cell? ⟨gb396, 0, none⟩ = some (.int .i64 t390) := (blk_cell BK396.out 0).trans rfl; have hcz14_1 : w12.cell? ⟨gb396, 1, none⟩ = some (.int .i64 t391) := (blk_cell BK396.out 1).trans rfl; have hcz14_2 : w12.cell? ⟨gb396, 2, none⟩ = some (.int .i64 t392) := (blk_cell BK396.out 2).trans rfl; have hfz14_0 := blk_frozen BK396.out 0; have hfz14_1 := blk_frozen BK396.out 1; have hfz14_2 := blk_frozen BK396.out 2) | (go_at_call 13; (with_reducible refine (spec_CacheRun.calls k t390 t391 t392 _ _ t393 t400 _ ?side1 ?side2 A6.out).mono ?_); (case side1 => repeat (first | exact (Kd.R_reads' HO395.out).2.2 | (with_reducible refine Kd.C_alloc ?_ _) | (with_reducible refine Kd.C_drewN ?_ _) | (with_reducible refine Kd.C_drew ?_))); (case side2 => exact (Kd.R_reads' HO395.out).2.1); rintro e w15 ⟨v401, rfl, ho0, hb⟩; have n0_ := Aside0.mk (Kd.R_below (rq HO395.out) hb); have n1_ := Aside0.mk (Kd.R_elder' (rq HO399.out) (Kd.R_base ho0) hb); have n2_ := Aside0.mk (Kd.R_lower (Kd.R_new' ho0 (Kd.R_lt (rq HO399.out))) (below_size (lq HB.out))); have n3_ := Aside0.mk (blk_below (bq BK396.out) hb); have n4_ := Aside0.mk (below_step (lq HB.out) hb); clear HO395; clear HO399; clear BK396; clear HB; have HO395 := n0_; have HO399 := n1_; have HO402 := n2_; have BK396 := n3_; have HB := n4_; clear n0_ n1_ n2_ n3_ n4_; (try clear hb); (try clear hb2); (try clear hk); (try clear hi); (try clear ho0); obtain ⟨Ao16, co16, eo16⟩ := Kd.R_slice HO402.out; subst eo16)))
   go_loopg [6] k (fun kq v6 w' => ∃ (x6_1 : Int), v6 = .int .i64 x6_1 ∧ Aside0 (laws_FnRecent.l0 kq t393 t397 x6_1 t390 t391 t392 = some true) ∧ Aside0 (kq ≤ k) ∧ Aside0 (Kd.R k32 32 w' w.heap.size (fun _ => True) (.slice Ao11 t393.length co11) t393) ∧ Aside0 (Kd.R k36 36 w' w.heap.size (fun _ => True) (.slice Ao13 t397.length co13) t397) ∧ Aside0 (w'.heap[gb396]? = some (.cells #[.int .i64 t390, .int .i64 t391, .int .i64 t392] 25 (0, 0))) ∧ Aside0 (Below w.heap.size w w'))
   case atStart => exact ⟨(0), (by first | rfl | (simp; done) | (simp [*]; done)), H', ⟨Nat.le_refl _⟩, ⟨by (with_reducible repeat (first | apply Kd.R_alloc | apply Kd.R_drewN | apply Kd.R_drew)); exact HO395.out⟩, ⟨by (with_reducible repeat (first | apply Kd.R_alloc | apply Kd.R_drewN | apply Kd.R_drew)); exact Kd.R_mono HO399.out (fun _ hk => trivial)⟩, ⟨by (with_reducible repeat (first | refine blk_drewN ?_ _ | refine blk_drew ?_ | refine blk_alloc ?_ _)); exact BK396.out⟩, ⟨by exact lq HB.out⟩⟩
   case round =>
    clear H'
    try clear p2
    try clear c3
    try clear c7
    try clear c7b0
    try clear c7b1
    try clear c7b2
    try clear hcz10_0
    try clear hcz10_1
    try clear hcz10_2
    try clear hcz14_0
    try clear hcz14_1
    try clear hcz14_2
    try clear hfz10_0
    try clear hfz10_1
    try clear hfz10_2
    try clear hfz14_0
    try clear hfz14_1
    try clear hfz14_2
    obtain ⟨x6_1, rfl, HA, HK1, HO_4, HO_5, BK396, HB⟩ := hrel
    cases gk with
    | zero => exact absurd HA.out (by simp [laws_FnRecent.l0])
    | succ k1 =>
     have H := HA.out
     clear HA
     simp only [laws_FnRecent.l0] at H
     have HC17 := Aside0.mk H
     clear H
     go_upto_region 8 with (fail)
     repeat (go_quiet (fail); go_upto_region 8 with (fail))
     go_cut [36] (fun v36 wc => ∃ (kq : Nat) (x36_16 : Bool), v36 = .bool x36_16 ∧ Aside0 (laws_FnRecent.j1 kq t393 t397 x6_1 x36_16 t390 t391 t392 = some true) ∧ Aside0 (kq ≤ k1) ∧ Aside0 (Kd.R k32 32 wc w.heap.size (fun _ => True) (.slice Ao11 t393.length co11) t393) ∧ Aside0 (Kd.R k36 36 wc w.heap.size (fun _ => True) (.slice Ao13 t397.length co13) t397) ∧ Aside0 (wc.heap[gb396]? = some (.cells #[.int .i64 t390, .int .i64 t391, .int .i64 t392] 25 (0, 0))) ∧ Aside0 (Below w.heap.size w wc))
     case first =>
      have H := HC17.out
      clear HC17
      by_cases c18 : x6_1 < (t397.length : Int)
      ·rw [if_pos c18] at H
       have c18b0 : decide (x6_1 < (t397.length : Int)) = true := decide_eq_true c18
       clear c18
       (first | rw [c18b0] | (simp only [i64_w, i32_w]; rw [c18b0]) | skip)
       have H' := Aside0.mk H
       clear H
       go_wp2
       repeat (go_quiet (fail); try go_wp2)
       go_meet
       case rel => exact ⟨_, (decide (x6_1 < 120)), (by first | rfl | (simp; done) | (simp [*]; done)), H', ⟨by have := HK1.out; first | omega | exact Nat.le_refl _⟩, ⟨by (with_reducible repeat (first | apply Kd.R_alloc | apply Kd.R_drewN | apply Kd.R_drew)); exact HO_4.out⟩, ⟨by (with_reducible repeat (first | apply Kd.R_alloc | apply Kd.R_drewN | apply Kd.R_drew)); exact HO_5.out⟩, ⟨by (with_reducible repeat (first | refine blk_drewN ?_ _ | refine blk_drew ?_ | refine blk_alloc ?_ _)); exact BK396.out⟩, ⟨by exact lq HB.out⟩⟩
      ·rw [if_neg c18] at H
       have c18b0 : decide (x6_1 < (t397.length : Int)) = false := decide_eq_false c18
       clear c18
       (first | rw [c18b0] | (simp only [i64_w, i32_w]; rw [c18b0]) | skip)
       have H' := Aside0.mk H
       clear H
       go_wp2
       repeat (go_quiet (fail); try go_wp2)
       go_meet
       case rel => exact ⟨_, (false), (by first | rfl | (simp; done) | (simp [*]; done)), H', ⟨by have := HK1.out; first | omega | exact Nat.le_refl _⟩, ⟨by (with_reducible repeat (first | apply Kd.R_alloc | apply Kd.R_drewN | apply Kd.R_drew)); exact HO_4.out⟩, ⟨by (with_reducible repeat (first | apply Kd.R_alloc | apply Kd.R_drewN | apply Kd.R_drew)); exact HO_5.out⟩, ⟨by (with_reducible repeat (first | refine blk_drewN ?_ _ | refine blk_drew ?_ | refine blk_alloc ?_ _)); exact BK396.out⟩, ⟨by exact lq HB.out⟩⟩
     case rest =>
      clear HC17
      try clear c1
      try clear p2
      try clear c3
      try clear c7
      try clear c7b0
      try clear c7b1
      try clear c7b2
      try clear c18
      try clear c18b0
      try clear hcz10_0
      try clear hcz10_1
      try clear hcz10_2
      try clear hcz14_0
      try clear hcz14_1
      try clear hcz14_2
      try clear hfz10_0
      try clear hfz10_1
      try clear hfz10_2
      try clear hfz14_0
      try clear hfz14_1
      try clear hfz14_2
      try clear p2
      obtain ⟨kq, x36_16, rfl, HA, HJ16, HO_4, HO_5, BK396, HB⟩ := hcut
      cases kq with
      | zero => exact absurd HA.out (by simp [laws_FnRecent.j1])
      | succ kj16 =>
       have H := HA.out
       clear HA
       simp only [laws_FnRecent.j1] at H
       by_cases c19 : x36_16 = true
       ·subst c19
        rw [if_pos rfl] at H
        by_cases c20 : 0 ≤ x6_1
        ·rw [if_pos c20] at H
         have c20b0 : decide (0 ≤ x6_1) = true := decide_eq_true c20
         clear c20
         by_cases c21 : x6_1 < (t393.length : Int)
         ·rw [if_pos c21] at H
          have c21b0 : decide (x6_1 < (t393.length : Int)) = true := decide_eq_true c21
          clear c21
          by_cases c22 : t392 = 0
          ·rw [if_pos c22] at H
           exact absurd H (by simp)
          ·rw [if_neg c22] at H
           have c22b0 : (t392 == 0) = false := beq_eq_false_iff_ne.mpr c22
           have c22b1 : (t392 != 0) = true := bne_iff_ne.mpr c22
           obtain ⟨y404, hy404⟩ : ∃ y_ : List Int, y_ = (([] : List Int)) := ⟨_, rfl⟩
           replace H : (laws_FnRecent.l1 kj16 t393 t397 x6_1 (wrap64 (Int.tdiv ((rd_T32 t393 x6_1).f0) t392)) false y404 (wrap64 (x6_1 - 1)) t390 t391 t392) = some true := by first | (rw [hy404]; with_reducible exact H) | (have H2_ := (Option.bind_some _ _).symm.trans H; rw [hy404]; with_reducible exact H2_) | (have H2_ := (Option.bind_some _ _).symm.trans H; with_reducible exact H2_) | with_reducible exact H | (rw [hy404]; exact H) | exact H
           have Ny404 := Aside0.mk hy404
           clear hy404
           have H' := Aside0.mk H
           clear H
           have p403 : 0 ≤ (x6_1 : Int) := of_decide_eq_true (by first | (with_reducible assumption) | assumption)
           have q403 : x6_1 < (t393.length : Int) := of_decide_eq_true (by first | (with_reducible assumption) | assumption)
           obtain ⟨ad403, e403, hx403_0, hx403_1⟩ := at_T32 (Kd.R_reads' HO_4.out).2.2 x6_1 p403 q403
           cases e403
           replace p403 := eq_true p403
           replace q403 := eq_true q403
           have hcz23_0 : wc.cell? ⟨gb396, 0, none⟩ = some (.int .i64 t390) := (blk_cell BK396.out 0).trans rfl
           have hcz23_1 : wc.cell? ⟨gb396, 1, none⟩ = some (.int .i64 t391) := (blk_cell BK396.out 1).trans rfl
           have hcz23_2 : wc.cell? ⟨gb396, 2, none⟩ = some (.int .i64 t392) := (blk_cell BK396.out 2).trans rfl
           have hfz23_0 := blk_frozen BK396.out 0
           have hfz23_1 := blk_frozen BK396.out 1
           have hfz23_2 := blk_frozen BK396.out 2
           go_wp2_with (first | ((with_reducible refine gate_dst (N := 47) rfl ?_); (try (refine gate_guard (by rfl) ?_; dsimp only)); refine Kd.R_lit (Kd.int .i64) _ 3 ?hg (N := 47) ?hd (xs := ([] : List Int)) (inner := []) (ok := fun _ => True) (okp := fun _ => True) ?hr ?hp (fun _ hk => hk) trivial (Below.refl _ _) (Nat.le_refl _) (by simp) ?_; (case hd => rfl); (case hg => rfl); (case hr => first | (go_simp; done) | (go_simp; rfl)); (case hp => exact (Reps.none _ _)); intro v405 w24 ho25 hb hg_ hnew_; clear hg_ hnew_; (first | rw [← Ny404.out] at ho25 | (simp only [Int.reduceToNat] at ho25; rw [← Ny404.out] at ho25)); have n0_ := Aside0.mk (Kd.R_below (rq HO_4.out) hb); have n1_ := Aside0.mk (Kd.R_below (rq HO_5.out) hb); have n2_ := Aside0.mk (Kd.R_lower ho25 (below_size (lq HB.out))); have n3_ := Aside0.mk (blk_below (bq BK396.out) hb); have n4_ := Aside0.mk (below_step (lq HB.out) hb); clear HO_4; clear HO_5; clear BK396; clear HB; have HO_4 := n0_; have HO_5 := n1_; have HO406 := n2_; have BK396 := n3_; have HB := n4_; clear n0_ n1_ n2_ n3_ n4_; clear hb ho25))
           repeat (go_quiet (first | ((with_reducible refine gate_dst (N := 47) rfl ?_); (try (refine gate_guard (by rfl) ?_; dsimp only)); refine Kd.R_lit (Kd.int .i64) _ 3 ?hg (N := 47) ?hd (xs := ([] : List Int)) (inner := []) (ok := fun _ => True) (okp := fun _ => True) ?hr ?hp (fun _ hk => hk) trivial (Below.refl _ _) (Nat.le_refl _) (by simp) ?_; (case hd => rfl); (case hg => rfl); (case hr => first | (go_simp; done) | (go_simp; rfl)); (case hp => exact (Reps.none _ _)); intro v405 w24 ho25 hb hg_ hnew_; clear hg_ hnew_; (first | rw [← Ny404.out] at ho25 | (simp only [Int.reduceToNat] at ho25; rw [← Ny404.out] at ho25)); have n0_ := Aside0.mk (Kd.R_below (rq HO_4.out) hb); have n1_ := Aside0.mk (Kd.R_below (rq HO_5.out) hb); have n2_ := Aside0.mk (Kd.R_lower ho25 (below_size (lq HB.out))); have n3_ := Aside0.mk (blk_below (bq BK396.out) hb); have n4_ := Aside0.mk (below_step (lq HB.out) hb); clear HO_4; clear HO_5; clear BK396; clear HB; have HO_4 := n0_; have HO_5 := n1_; have HO406 := n2_; have BK396 := n3_; have HB := n4_; clear n0_ n1_ n2_ n3_ n4_; clear hb ho25)); try go_wp2_with (first | ((with_reducible refine gate_dst (N := 47) rfl ?_); (try (refine gate_guard (by rfl) ?_; dsimp only)); refine Kd.R_lit (Kd.int .i64) _ 3 ?hg (N := 47) ?hd (xs := ([] : List Int)) (inner := []) (ok := fun _ => True) (okp := fun _ => True) ?hr ?hp (fun _ hk => hk) trivial (Below.refl _ _) (Nat.le_refl _) (by simp) ?_; (case hd => rfl); (case hg => rfl); (case hr => first | (go_simp; done) | (go_simp; rfl)); (case hp => exact (Reps.none _ _)); intro v405 w24 ho25 hb hg_ hnew_; clear hg_ hnew_; (first | rw [← Ny404.out] at ho25 | (simp only [Int.reduceToNat] at ho25; rw [← Ny404.out] at ho25)); have n0_ := Aside0.mk (Kd.R_below (rq HO_4.out) hb); have n1_ := Aside0.mk (Kd.R_below (rq HO_5.out) hb); have n2_ := Aside0.mk (Kd.R_lower ho25 (below_size (lq HB.out))); have n3_ := Aside0.mk (blk_below (bq BK396.out) hb); have n4_ := Aside0.mk (below_step (lq HB.out) hb); clear HO_4; clear HO_5; clear BK396; clear HB; have HO_4 := n0_; have HO_5 := n1_; have HO406 := n2_; have BK396 := n3_; have HB := n4_; clear n0_ n1_ n2_ n3_ n4_; clear hb ho25)))
           go_loopg [8, 9, 10] kj16 (fun kq v8 v9 v10 w' => ∃ (x8_3 : Bool) (x9_3 : List Int) (x10_3 : Int), v8 = .bool x8_3 ∧ v10 = .int .i64 x10_3 ∧ Aside0 (laws_FnRecent.l1 kq t393 t397 x6_1 (wrap64 (Int.tdiv ((rd_T32 t393 x6_1).f0) t392)) x8_3 x9_3 x10_3 t390 t391 t392 = some true) ∧ Aside0 (kq ≤ kj16) ∧ Aside0 (Kd.R k32 32 w' w.heap.size (fun _ => True) (.slice (some ad403) t393.length co11) t393) ∧ Aside0 (Kd.R k36 36 w' w.heap.size (fun _ => True) (.slice Ao13 t397.length co13) t397) ∧ Aside0 (Kd.R (Kd.int .i64) 3 w' w.heap.size (fun _ => True) v9 x9_3) ∧ Aside0 (w'.heap[gb396]? = some (.cells #[.int .i64 t390, .int .i64 t391, .int .i64 t392] 25 (0, 0))) ∧ Aside0 (Below w.heap.size w w'))
           case atStart => exact ⟨(false), (y404), (wrap64 (x6_1 - 1)), (by first | rfl | (simp; done) | (simp [*]; done)), (by first | rfl | (simp; done) | (simp [*]; done)), H', ⟨Nat.le_refl _⟩, ⟨by (with_reducible repeat (first | apply Kd.R_alloc | apply Kd.R_drewN | apply Kd.R_drew)); exact HO_4.out⟩, ⟨by (with_reducible repeat (first | apply Kd.R_alloc | apply Kd.R_drewN | apply Kd.R_drew)); exact HO_5.out⟩, ⟨by (with_reducible repeat (first | apply Kd.R_alloc | apply Kd.R_drewN | apply Kd.R_drew)); exact HO406.out⟩, ⟨by (with_reducible repeat (first | refine blk_drewN ?_ _ | refine blk_drew ?_ | refine blk_alloc ?_ _)); exact BK396.out⟩, ⟨by exact lq HB.out⟩⟩
           case round =>
            clear H'
            try clear c1
            try clear c2
            try clear p2
            try clear c3
            try clear p4
            try clear q4
            try clear hx4
            try clear p6
            try clear c7
            try clear c7b0
            try clear c7b1
            try clear c7b2
            try clear c18
            try clear c18b0
            try clear c19
            try clear c20
            try clear c20b0
            try clear c21
            try clear c21b0
            try clear c22
            try clear c22b0
            try clear c22b1
            try clear hcz10_0
            try clear hcz10_1
            try clear hcz10_2
            try clear hcz14_0
            try clear hcz14_1
            try clear hcz14_2
            try clear hcz23_0
            try clear hcz23_1
            try clear hcz23_2
            try clear hfz10_0
            try clear hfz10_1
            try clear hfz10_2
            try clear hfz14_0
            try clear hfz14_1
            try clear hfz14_2
            try clear hfz23_0
            try clear hfz23_1
            try clear hfz23_2
            try clear hx403_0
            try clear hx403_1
            try clear p2
            try clear p403
            try clear q403
            obtain ⟨x8_3, x9_3, x10_3, rfl, rfl, HA, HK3, HO_4, HO_5, HO_9, BK396, HB⟩ := hrel
            cases gk with
            | zero => exact absurd HA.out (by simp [laws_FnRecent.l1])
            | succ k3 =>
             have H := HA.out
             clear HA
             simp only [laws_FnRecent.l1] at H
             by_cases c26 : x10_3 ≥ 0
             ·rw [if_pos c26] at H
              have c26b0 : decide (0 ≤ x10_3) = true := decide_eq_true c26
              clear c26
              by_cases c27 : 0 ≤ x10_3
              ·rw [if_pos c27] at H
               have c27b0 : decide (0 ≤ x10_3) = true := decide_eq_true c27
               clear c27
               by_cases c28 : x10_3 < (t393.length : Int)
               ·rw [if_pos c28] at H
                have c28b0 : decide (x10_3 < (t393.length : Int)) = true := decide_eq_true c28
                clear c28
                by_cases c29 : t392 = 0
                ·rw [if_pos c29] at H
                 exact absurd H (by simp)
                ·rw [if_neg c29] at H
                 have c29b0 : (t392 == 0) = false := beq_eq_false_iff_ne.mpr c29
                 have c29b1 : (t392 != 0) = true := bne_iff_ne.mpr c29
                 by_cases c30 : (wrap64 (Int.tdiv ((rd_T32 t393 x10_3).f0) t392)) = (wrap64 (Int.tdiv ((rd_T32 t393 x6_1).f0) t392))
                 ·rw [if_pos c30] at H
                  have c30b0 : ((wrap64 (Int.tdiv ((rd_T32 t393 x10_3).f0) t392)) == (wrap64 (Int.tdiv ((rd_T32 t393 x6_1).f0) t392))) = true := beq_iff_eq.mpr c30
                  have c30b1 : ((wrap64 (Int.tdiv ((rd_T32 t393 x10_3).f0) t392)) != (wrap64 (Int.tdiv ((rd_T32 t393 x6_1).f0) t392))) = false := bne_eq_false_iff_eq.mpr c30
                  clear c30
                  by_cases c31 : 0 ≤ x6_1
                  ·rw [if_pos c31] at H
                   have c31b0 : decide (0 ≤ x6_1) = true := decide_eq_true c31
                   clear c31
                   by_cases c32 : x6_1 < (t397.length : Int)
                   ·rw [if_pos c32] at H
                    have c32b0 : decide (x6_1 < (t397.length : Int)) = true := decide_eq_true c32
                    clear c32
                    by_cases c33 : (((rd_T36 t397 x6_1).f0) != (decide ((x9_3.length : Int) < t391))) = true
                    ·rw [if_pos c33] at H
                     have c33b0 : (((rd_T36 t397 x6_1).f0) != (decide ((x9_3.length : Int) < t391))) = true := c33
                     (try (have c33b1 : decide (((rd_T36 t397 x6_1).f0) = (decide ((x9_3.length : Int) < t391))) = false := by simpa using c33))
                     (try (have c33b2 : (((rd_T36 t397 x6_1).f0) == (decide ((x9_3.length : Int) < t391))) = false := by simpa using c33))
                     (try (have c33b3 : ¬ (((rd_T36 t397 x6_1).f0) = (decide ((x9_3.length : Int) < t391))) := by simpa using c33))
                     clear c33
                     exact absurd H (by simp)
                    ·rw [if_neg c33] at H
                     have c33b0 : (((rd_T36 t397 x6_1).f0) != (decide ((x9_3.length : Int) < t391))) = false := by simpa using c33
                     (try (have c33b1 : decide (((rd_T36 t397 x6_1).f0) = (decide ((x9_3.length : Int) < t391))) = true := by simpa using c33))
                     (try (have c33b2 : (((rd_T36 t397 x6_1).f0) == (decide ((x9_3.length : Int) < t391))) = true := by simpa using c33))
                     clear c33
                     obtain ⟨bq34, hbq34⟩ : ∃ b_ : Bool, b_ = ((rd_T36 t397 x6_1).f1) := ⟨_, rfl⟩
                     replace H : (if bq34 = true then (some false) else (laws_FnRecent.l0 k3 t393 t397 (wrap64 (x6_1 + 1)) t390 t391 t392)) = some true := by rw [← hbq34] at H; exact H
                     have Nbq34 := Aside0.mk hbq34
                     clear hbq34
                     by_cases c35 : bq34 = true
                     ·subst c35
                      rw [if_pos rfl] at H
                      exact absurd H (by simp)
                     ·replace c35 := Bool.eq_false_iff.mpr c35
                      subst c35
                      rw [if_neg (show ¬ (false = true) by decide)] at H
                      have H' := Aside0.mk H
                      clear H
                      have p410 : 0 ≤ (x10_3 : Int) := of_decide_eq_true (by first | (with_reducible assumption) | assumption)
                      have q410 : x10_3 < (t393.length : Int) := of_decide_eq_true (by first | (with_reducible assumption) | assumption)
                      obtain ⟨ad410, e410, hx410_0, hx410_1⟩ := at_T32 (Kd.R_reads' HO_4.out).2.2 x10_3 p410 q410
                      (try rw [← Nbq34.out] at hx410_1)
                      obtain rfl : ad403 = ad410 := (by injection e410)
                      replace p410 := eq_true p410
                      replace q410 := eq_true q410
                      have hcz36_0 : wr.cell? ⟨gb396, 0, none⟩ = some (.int .i64 t390) := (blk_cell BK396.out 0).trans rfl
                      have hcz36_1 : wr.cell? ⟨gb396, 1, none⟩ = some (.int .i64 t391) := (blk_cell BK396.out 1).trans rfl
                      have hcz36_2 : wr.cell? ⟨gb396, 2, none⟩ = some (.int .i64 t392) := (blk_cell BK396.out 2).trans rfl
                      have hfz36_0 := blk_frozen BK396.out 0
                      have hfz36_1 := blk_frozen BK396.out 1
                      have hfz36_2 := blk_frozen BK396.out 2
                      have p411 : 0 ≤ (x6_1 : Int) := of_decide_eq_true (by first | (with_reducible assumption) | assumption)
                      have q411 : x6_1 < (t397.length : Int) := of_decide_eq_true (by first | (with_reducible assumption) | assumption)
                      obtain ⟨ad411, e411, hx411_0, hx411_1, hx411_2⟩ := at_T36 (Kd.R_reads' HO_5.out).2.2 x6_1 p411 q411
                      (try rw [← Nbq34.out] at hx411_0)
                      (try rw [← Nbq34.out] at hx411_1)
                      (try rw [← Nbq34.out] at hx411_2)
                      cases e411
                      replace p411 := eq_true p411
                      replace q411 := eq_true q411
                      obtain ⟨Ao37, co37, eo37⟩ := Kd.R_slice HO_9.out
                      subst eo37
                      have p412 : 0 ≤ (x6_1 : Int) := of_decide_eq_true (by first | (with_reducible assumption) | assumption)
                      have q412 : x6_1 < (t397.length : Int) := of_decide_eq_true (by first | (with_reducible assumption) | assumption)
                      obtain ⟨ad412, e412, hx412_0, hx412_1, hx412_2⟩ := at_T36 (Kd.R_reads' HO_5.out).2.2 x6_1 p412 q412
                      (try rw [← Nbq34.out] at hx412_0)
                      (try rw [← Nbq34.out] at hx412_1)
                      (try rw [← Nbq34.out] at hx412_2)
                      obtain rfl : ad411 = ad412 := (by injection e412)
                      replace p412 := eq_true p412
                      replace q412 := eq_true q412
                      go_wp2
                      repeat (go_quiet (fail); try go_wp2)
                      go_roundg k3
                      case measure => have := HK1.out; have := HJ16.out; have := HK3.out; omega
                      case rel => exact ⟨(wrap64 (x6_1 + 1)), (by first | rfl | (simp; done) | (simp [*]; done)), H', ⟨by have := HK1.out; have := HJ16.out; have := HK3.out; omega⟩, ⟨by (with_reducible repeat (first | apply Kd.R_alloc | apply Kd.R_drewN | apply Kd.R_drew)); exact HO_4.out⟩, ⟨by (with_reducible repeat (first | apply Kd.R_alloc | apply Kd.R_drewN | apply Kd.R_drew)); exact HO_5.out⟩, ⟨by (with_reducible repeat (first | refine blk_drewN ?_ _ | refine blk_drew ?_ | refine blk_alloc ?_ _)); exact BK396.out⟩, ⟨by exact lq HB.out⟩⟩
                   ·rw [if_neg c32] at H
                    exact absurd H (by simp)
                  ·rw [if_neg c31] at H
                   exact absurd H (by simp)
                 ·rw [if_neg c30] at H
                  have c30b0 : ((wrap64 (Int.tdiv ((rd_T32 t393 x10_3).f0) t392)) == (wrap64 (Int.tdiv ((rd_T32 t393 x6_1).f0) t392))) = false := beq_eq_false_iff_ne.mpr c30
                  have c30b1 : ((wrap64 (Int.tdiv ((rd_T32 t393 x10_3).f0) t392)) != (wrap64 (Int.tdiv ((rd_T32 t393 x6_1).f0) t392))) = true := bne_iff_ne.mpr c30
                  by_cases c38 : t390 = 0
                  ·rw [if_pos c38] at H
                   exact absurd H (by simp)
                  ·rw [if_neg c38] at H
                   have c38b0 : (t390 == 0) = false := beq_eq_false_iff_ne.mpr c38
                   have c38b1 : (t390 != 0) = true := bne_iff_ne.mpr c38
                   by_cases c39 : (Int.tmod (wrap64 (Int.tdiv ((rd_T32 t393 x10_3).f0) t392)) t390) = (Int.tmod (wrap64 (Int.tdiv ((rd_T32 t393 x6_1).f0) t392)) t390)
                   ·rw [if_pos c39] at H
                    have c39b0 : ((Int.tmod (wrap64 (Int.tdiv ((rd_T32 t393 x10_3).f0) t392)) t390) == (Int.tmod (wrap64 (Int.tdiv ((rd_T32 t393 x6_1).f0) t392)) t390)) = true := beq_iff_eq.mpr c39
                    have c39b1 : ((Int.tmod (wrap64 (Int.tdiv ((rd_T32 t393 x10_3).f0) t392)) t390) != (Int.tmod (wrap64 (Int.tdiv ((rd_T32 t393 x6_1).f0) t392)) t390)) = false := bne_eq_false_iff_eq.mpr c39
                    clear c39
                    replace H := Option.bind_eq_some_iff.mp H
                    obtain ⟨t413, A400, H⟩ := H
                    (try dsimp only at H)
                    have A40 := Aside0.mk A400
                    clear A400
                    by_cases c41 : t413 = true
                    ·subst c41
                     rw [if_pos rfl] at H
                     have H' := Aside0.mk H
                     clear H
                     have p410 : 0 ≤ (x10_3 : Int) := of_decide_eq_true (by first | (with_reducible assumption) | assumption)
                     have q410 : x10_3 < (t393.length : Int) := of_decide_eq_true (by first | (with_reducible assumption) | assumption)
                     obtain ⟨ad410, e410, hx410_0, hx410_1⟩ := at_T32 (Kd.R_reads' HO_4.out).2.2 x10_3 p410 q410
                     obtain rfl : ad403 = ad410 := (by injection e410)
                     replace p410 := eq_true p410
                     replace q410 := eq_true q410
                     have hcz42_0 : wr.cell? ⟨gb396, 0, none⟩ = some (.int .i64 t390) := (blk_cell BK396.out 0).trans rfl
                     have hcz42_1 : wr.cell? ⟨gb396, 1, none⟩ = some (.int .i64 t391) := (blk_cell BK396.out 1).trans rfl
                     have hcz42_2 : wr.cell? ⟨gb396, 2, none⟩ = some (.int .i64 t392) := (blk_cell BK396.out 2).trans rfl
                     have hfz42_0 := blk_frozen BK396.out 0
                     have hfz42_1 := blk_frozen BK396.out 1
                     have hfz42_2 := blk_frozen BK396.out 2
                     obtain ⟨Ao43, co43, eo43⟩ := Kd.R_slice HO_9.out
                     subst eo43
                     go_wp2_with (first | (go_at_call 14; (with_reducible refine (laws_has.calls k3 _ _ x9_3 (wrap64 (Int.tdiv ((rd_T32 t393 x10_3).f0) t392)) true _ ?side1 ?side2 A40.out).mono ?_); (case side1 => repeat (first | exact (Kd.R_reads' HO_9.out).2.2 | (with_reducible refine Kd.C_alloc ?_ _) | (with_reducible refine Kd.C_drewN ?_ _) | (with_reducible refine Kd.C_drew ?_))); (case side2 => exact (Kd.R_reads' HO_9.out).2.1); rintro e w' ⟨rfl, ⟨nd, rfl⟩⟩; (try first | exact ⟨rfl, _, World.drewN_drewN _ _ _⟩ | exact ⟨rfl, _, Eq.trans (World.drewN_drewN _ _ _) (congrArg (World.drewN _) (Nat.add_assoc _ _ _))⟩)))
                     repeat (go_quiet (first | (go_at_call 14; (with_reducible refine (laws_has.calls k3 _ _ x9_3 (wrap64 (Int.tdiv ((rd_T32 t393 x10_3).f0) t392)) true _ ?side1 ?side2 A40.out).mono ?_); (case side1 => repeat (first | exact (Kd.R_reads' HO_9.out).2.2 | (with_reducible refine Kd.C_alloc ?_ _) | (with_reducible refine Kd.C_drewN ?_ _) | (with_reducible refine Kd.C_drew ?_))); (case side2 => exact (Kd.R_reads' HO_9.out).2.1); rintro e w' ⟨rfl, ⟨nd, rfl⟩⟩; (try first | exact ⟨rfl, _, World.drewN_drewN _ _ _⟩ | exact ⟨rfl, _, Eq.trans (World.drewN_drewN _ _ _) (congrArg (World.drewN _) (Nat.add_assoc _ _ _))⟩))); try go_wp2_with (first | (go_at_call 14; (with_reducible refine (laws_has.calls k3 _ _ x9_3 (wrap64 (Int.tdiv ((rd_T32 t393 x10_3).f0) t392)) true _ ?side1 ?side2 A40.out).mono ?_); (case side1 => repeat (first | exact (Kd.R_reads' HO_9.out).2.2 | (with_reducible refine Kd.C_alloc ?_ _) | (with_reducible refine Kd.C_drewN ?_ _) | (with_reducible refine Kd.C_drew ?_))); (case side2 => exact (Kd.R_reads' HO_9.out).2.1); rintro e w' ⟨rfl, ⟨nd, rfl⟩⟩; (try first | exact ⟨rfl, _, World.drewN_drewN _ _ _⟩ | exact ⟨rfl, _, Eq.trans (World.drewN_drewN _ _ _) (congrArg (World.drewN _) (Nat.add_assoc _ _ _))⟩))))
                     go_roundg k3
                     case measure => have := HK1.out; have := HJ16.out; have := HK3.out; omega
                     case rel => exact ⟨(x8_3), (x9_3), (wrap64 (x10_3 - 1)), (by first | rfl | (simp; done) | (simp [*]; done)), (by first | rfl | (simp; done) | (simp [*]; done)), H', ⟨by have := HK1.out; have := HJ16.out; have := HK3.out; omega⟩, ⟨by (with_reducible repeat (first | apply Kd.R_alloc | apply Kd.R_drewN | apply Kd.R_drew)); exact HO_4.out⟩, ⟨by (with_reducible repeat (first | apply Kd.R_alloc | apply Kd.R_drewN | apply Kd.R_drew)); exact HO_5.out⟩, ⟨by (with_reducible repeat (first | apply Kd.R_alloc | apply Kd.R_drewN | apply Kd.R_drew)); exact HO_9.out⟩, ⟨by (with_reducible repeat (first | refine blk_drewN ?_ _ | refine blk_drew ?_ | refine blk_alloc ?_ _)); exact BK396.out⟩, ⟨by exact lq HB.out⟩⟩
                    ·replace c41 := Bool.eq_false_iff.mpr c41
                     subst c41
                     rw [if_neg (show ¬ (false = true) by decide)] at H
                     by_cases c44 : x9_3.length < 17592186044416
                     ·rw [if_pos c44] at H
                      have LMc44 := Aside0.mk c44
                      clear c44
                      obtain ⟨y414, hy414⟩ : ∃ y_ : List Int, y_ = (x9_3 ++ [wrap64 (Int.tdiv ((rd_T32 t393 x10_3).f0) t392)]) := ⟨_, rfl⟩
                      replace H : (laws_FnRecent.l1 k3 t393 t397 x6_1 (wrap64 (Int.tdiv ((rd_T32 t393 x6_1).f0) t392)) x8_3 y414 (wrap64 (x10_3 - 1)) t390 t391 t392) = some true := by first | (rw [hy414]; with_reducible exact H) | (have H2_ := (Option.bind_some _ _).symm.trans H; rw [hy414]; with_reducible exact H2_) | (have H2_ := (Option.bind_some _ _).symm.trans H; with_reducible exact H2_) | with_reducible exact H | (rw [hy414]; exact H) | exact H
                      have Ny414 := Aside0.mk hy414
                      clear hy414
                      have H' := Aside0.mk H
                      clear H
                      have p410 : 0 ≤ (x10_3 : Int) := of_decide_eq_true (by first | (with_reducible assumption) | assumption)
                      have q410 : x10_3 < (t393.length : Int) := of_decide_eq_true (by first | (with_reducible assumption) | assumption)
                      obtain ⟨ad410, e410, hx410_0, hx410_1⟩ := at_T32 (Kd.R_reads' HO_4.out).2.2 x10_3 p410 q410
                      obtain rfl : ad403 = ad410 := (by injection e410)
                      replace p410 := eq_true p410
                      replace q410 := eq_true q410
                      have hcz45_0 : wr.cell? ⟨gb396, 0, none⟩ = some (.int .i64 t390) := (blk_cell BK396.out 0).trans rfl
                      have hcz45_1 : wr.cell? ⟨gb396, 1, none⟩ = some (.int .i64 t391) := (blk_cell BK396.out 1).trans rfl
                      have hcz45_2 : wr.cell? ⟨gb396, 2, none⟩ = some (.int .i64 t392) := (blk_cell BK396.out 2).trans rfl
                      have hfz45_0 := blk_frozen BK396.out 0
                      have hfz45_1 := blk_frozen BK396.out 1
                      have hfz45_2 := blk_frozen BK396.out 2
                      obtain ⟨Ao46, co46, eo46⟩ := Kd.R_slice HO_9.out
                      subst eo46
                      go_wp2_with (first | (go_at_call 14; (with_reducible refine (laws_has.calls k3 _ _ x9_3 (wrap64 (Int.tdiv ((rd_T32 t393 x10_3).f0) t392)) false _ ?side1 ?side2 A40.out).mono ?_); (case side1 => repeat (first | exact (Kd.R_reads' HO_9.out).2.2 | (with_reducible refine Kd.C_alloc ?_ _) | (with_reducible refine Kd.C_drewN ?_ _) | (with_reducible refine Kd.C_drew ?_))); (case side2 => exact (Kd.R_reads' HO_9.out).2.1); rintro e w' ⟨rfl, ⟨nd, rfl⟩⟩; (try first | exact ⟨rfl, _, World.drewN_drewN _ _ _⟩ | exact ⟨rfl, _, Eq.trans (World.drewN_drewN _ _ _) (congrArg (World.drewN _) (Nat.add_assoc _ _ _))⟩)) | ((with_reducible refine gate_builtin (b := .append) (xs := #[.tmp 80, .tmp 82]) rfl ?_); (try (refine gate_guard (by rfl) ?_; dsimp only)); at_builtin; refine Kd.R_append (Kd.int .i64) (w0 := w) w.heap.size rfl (.tmp 80) (.tmp 82) 33 3 (.int .i64 0) 8 rfl Try.underlying33 info3 rfl (by decide) (by omega) (.slice Ao46 x9_3.length co46) x9_3 (wrap64 (Int.tdiv ((rd_T32 t393 x10_3).f0) t392)) [.int .i64 (wrap64 (Int.tdiv ((rd_T32 t393 x10_3).f0) t392))] (fun _ => True) (fun _ => False) rfl rfl ?aP (fun _ hk => hk.elim) ?aF ?aO ?aB ?aS ?aL ?_; (case aP => exact rfl); (case aB => exact (lq HB.out)); (case aF => exact (fun _ _ => trivial)); (case aO => exact (rq HO_9.out)); (case aS => exact (below_size (lq HB.out))); (case aL => have := LMc44.out; omega); intro v415 w47 ho hb hg hat; rw [← Ny414.out] at ho; have n0_ := Aside0.mk (Kd.R_over' (rq HO_4.out) (Kd.R_typed (rq HO_9.out)) (by decide) hg); have n1_ := Aside0.mk (Kd.R_over' (rq HO_5.out) (Kd.R_typed (rq HO_9.out)) (by decide) hg); have n2_ := Aside0.mk (blk_grown (g := gb396) (o := .cells #[.int .i64 t390, .int .i64 t391, .int .i64 t392] 25 (0, 0)) (bq BK396.out) hg (Kd.R_ne HO_9.out BK396.out (by decide))); have n3_ := Aside0.mk (hb); have n4_ := Aside0.mk (ho); clear HO_4; clear HO_5; clear BK396; clear HB; clear HO_9; have HO_4 := n0_; have HO_5 := n1_; have BK396 := n2_; have HB := n3_; have HO416 := n4_; clear n0_ n1_ n2_ n3_ n4_; clear ho hb hg hat))
                      repeat (go_quiet (first | (go_at_call 14; (with_reducible refine (laws_has.calls k3 _ _ x9_3 (wrap64 (Int.tdiv ((rd_T32 t393 x10_3).f0) t392)) false _ ?side1 ?side2 A40.out).mono ?_); (case side1 => repeat (first | exact (Kd.R_reads' HO_9.out).2.2 | (with_reducible refine Kd.C_alloc ?_ _) | (with_reducible refine Kd.C_drewN ?_ _) | (with_reducible refine Kd.C_drew ?_))); (case side2 => exact (Kd.R_reads' HO_9.out).2.1); rintro e w' ⟨rfl, ⟨nd, rfl⟩⟩; (try first | exact ⟨rfl, _, World.drewN_drewN _ _ _⟩ | exact ⟨rfl, _, Eq.trans (World.drewN_drewN _ _ _) (congrArg (World.drewN _) (Nat.add_assoc _ _ _))⟩)) | ((with_reducible refine gate_builtin (b := .append) (xs := #[.tmp 80, .tmp 82]) rfl ?_); (try (refine gate_guard (by rfl) ?_; dsimp only)); at_builtin; refine Kd.R_append (Kd.int .i64) (w0 := w) w.heap.size rfl (.tmp 80) (.tmp 82) 33 3 (.int .i64 0) 8 rfl Try.underlying33 info3 rfl (by decide) (by omega) (.slice Ao46 x9_3.length co46) x9_3 (wrap64 (Int.tdiv ((rd_T32 t393 x10_3).f0) t392)) [.int .i64 (wrap64 (Int.tdiv ((rd_T32 t393 x10_3).f0) t392))] (fun _ => True) (fun _ => False) rfl rfl ?aP (fun _ hk => hk.elim) ?aF ?aO ?aB ?aS ?aL ?_; (case aP => exact rfl); (case aB => exact (lq HB.out)); (case aF => exact (fun _ _ => trivial)); (case aO => exact (rq HO_9.out)); (case aS => exact (below_size (lq HB.out))); (case aL => have := LMc44.out; omega); intro v415 w47 ho hb hg hat; rw [← Ny414.out] at ho; have n0_ := Aside0.mk (Kd.R_over' (rq HO_4.out) (Kd.R_typed (rq HO_9.out)) (by decide) hg); have n1_ := Aside0.mk (Kd.R_over' (rq HO_5.out) (Kd.R_typed (rq HO_9.out)) (by decide) hg); have n2_ := Aside0.mk (blk_grown (g := gb396) (o := .cells #[.int .i64 t390, .int .i64 t391, .int .i64 t392] 25 (0, 0)) (bq BK396.out) hg (Kd.R_ne HO_9.out BK396.out (by decide))); have n3_ := Aside0.mk (hb); have n4_ := Aside0.mk (ho); clear HO_4; clear HO_5; clear BK396; clear HB; clear HO_9; have HO_4 := n0_; have HO_5 := n1_; have BK396 := n2_; have HB := n3_; have HO416 := n4_; clear n0_ n1_ n2_ n3_ n4_; clear ho hb hg hat)); try go_wp2_with (first | (go_at_call 14; (with_reducible refine (laws_has.calls k3 _ _ x9_3 (wrap64 (Int.tdiv ((rd_T32 t393 x10_3).f0) t392)) false _ ?side1 ?side2 A40.out).mono ?_); (case side1 => repeat (first | exact (Kd.R_reads' HO_9.out).2.2 | (with_reducible refine Kd.C_alloc ?_ _) | (with_reducible refine Kd.C_drewN ?_ _) | (with_reducible refine Kd.C_drew ?_))); (case side2 => exact (Kd.R_reads' HO_9.out).2.1); rintro e w' ⟨rfl, ⟨nd, rfl⟩⟩; (try first | exact ⟨rfl, _, World.drewN_drewN _ _ _⟩ | exact ⟨rfl, _, Eq.trans (World.drewN_drewN _ _ _) (congrArg (World.drewN _) (Nat.add_assoc _ _ _))⟩)) | ((with_reducible refine gate_builtin (b := .append) (xs := #[.tmp 80, .tmp 82]) rfl ?_); (try (refine gate_guard (by rfl) ?_; dsimp only)); at_builtin; refine Kd.R_append (Kd.int .i64) (w0 := w) w.heap.size rfl (.tmp 80) (.tmp 82) 33 3 (.int .i64 0) 8 rfl Try.underlying33 info3 rfl (by decide) (by omega) (.slice Ao46 x9_3.length co46) x9_3 (wrap64 (Int.tdiv ((rd_T32 t393 x10_3).f0) t392)) [.int .i64 (wrap64 (Int.tdiv ((rd_T32 t393 x10_3).f0) t392))] (fun _ => True) (fun _ => False) rfl rfl ?aP (fun _ hk => hk.elim) ?aF ?aO ?aB ?aS ?aL ?_; (case aP => exact rfl); (case aB => exact (lq HB.out)); (case aF => exact (fun _ _ => trivial)); (case aO => exact (rq HO_9.out)); (case aS => exact (below_size (lq HB.out))); (case aL => have := LMc44.out; omega); intro v415 w47 ho hb hg hat; rw [← Ny414.out] at ho; have n0_ := Aside0.mk (Kd.R_over' (rq HO_4.out) (Kd.R_typed (rq HO_9.out)) (by decide) hg); have n1_ := Aside0.mk (Kd.R_over' (rq HO_5.out) (Kd.R_typed (rq HO_9.out)) (by decide) hg); have n2_ := Aside0.mk (blk_grown (g := gb396) (o := .cells #[.int .i64 t390, .int .i64 t391, .int .i64 t392] 25 (0, 0)) (bq BK396.out) hg (Kd.R_ne HO_9.out BK396.out (by decide))); have n3_ := Aside0.mk (hb); have n4_ := Aside0.mk (ho); clear HO_4; clear HO_5; clear BK396; clear HB; clear HO_9; have HO_4 := n0_; have HO_5 := n1_; have BK396 := n2_; have HB := n3_; have HO416 := n4_; clear n0_ n1_ n2_ n3_ n4_; clear ho hb hg hat)))
                      go_roundg k3
                      case measure => have := HK1.out; have := HJ16.out; have := HK3.out; omega
                      case rel => exact ⟨(x8_3), (y414), (wrap64 (x10_3 - 1)), (by first | rfl | (simp; done) | (simp [*]; done)), (by first | rfl | (simp; done) | (simp [*]; done)), H', ⟨by have := HK1.out; have := HJ16.out; have := HK3.out; omega⟩, ⟨by (with_reducible repeat (first | apply Kd.R_alloc | apply Kd.R_drewN | apply Kd.R_drew)); exact HO_4.out⟩, ⟨by (with_reducible repeat (first | apply Kd.R_alloc | apply Kd.R_drewN | apply Kd.R_drew)); exact HO_5.out⟩, ⟨by (with_reducible repeat (first | apply Kd.R_alloc | apply Kd.R_drewN | apply Kd.R_drew)); exact HO416.out⟩, ⟨by (with_reducible repeat (first | refine blk_drewN ?_ _ | refine blk_drew ?_ | refine blk_alloc ?_ _)); exact BK396.out⟩, ⟨by exact lq HB.out⟩⟩
                     ·rw [if_neg c44] at H
                      exact absurd H (by simp)
                   ·rw [if_neg c39] at H
                    have c39b0 : ((Int.tmod (wrap64 (Int.tdiv ((rd_T32 t393 x10_3).f0) t392)) t390) == (Int.tmod (wrap64 (Int.tdiv ((rd_T32 t393 x6_1).f0) t392)) t390)) = false := beq_eq_false_iff_ne.mpr c39
                    have c39b1 : ((Int.tmod (wrap64 (Int.tdiv ((rd_T32 t393 x10_3).f0) t392)) t390) != (Int.tmod (wrap64 (Int.tdiv ((rd_T32 t393 x6_1).f0) t392)) t390)) = true := bne_iff_ne.mpr c39
                    have H' := Aside0.mk H
                    clear H
                    have p410 : 0 ≤ (x10_3 : Int) := of_decide_eq_true (by first | (with_reducible assumption) | assumption)
                    have q410 : x10_3 < (t393.length : Int) := of_decide_eq_true (by first | (with_reducible assumption) | assumption)
                    obtain ⟨ad410, e410, hx410_0, hx410_1⟩ := at_T32 (Kd.R_reads' HO_4.out).2.2 x10_3 p410 q410
                    obtain rfl : ad403 = ad410 := (by injection e410)
                    replace p410 := eq_true p410
                    replace q410 := eq_true q410
                    have hcz48_0 : wr.cell? ⟨gb396, 0, none⟩ = some (.int .i64 t390) := (blk_cell BK396.out 0).trans rfl
                    have hcz48_1 : wr.cell? ⟨gb396, 1, none⟩ = some (.int .i64 t391) := (blk_cell BK396.out 1).trans rfl
                    have hcz48_2 : wr.cell? ⟨gb396, 2, none⟩ = some (.int .i64 t392) := (blk_cell BK396.out 2).trans rfl
                    have hfz48_0 := blk_frozen BK396.out 0
                    have hfz48_1 := blk_frozen BK396.out 1
                    have hfz48_2 := blk_frozen BK396.out 2
                    go_wp2
                    repeat (go_quiet (fail); try go_wp2)
                    go_roundg k3
                    case measure => have := HK1.out; have := HJ16.out; have := HK3.out; omega
                    case rel => exact ⟨(x8_3), (x9_3), (wrap64 (x10_3 - 1)), (by first | rfl | (simp; done) | (simp [*]; done)), (by first | rfl | (simp; done) | (simp [*]; done)), H', ⟨by have := HK1.out; have := HJ16.out; have := HK3.out; omega⟩, ⟨by (with_reducible repeat (first | apply Kd.R_alloc | apply Kd.R_drewN | apply Kd.R_drew)); exact HO_4.out⟩, ⟨by (with_reducible repeat (first | apply Kd.R_alloc | apply Kd.R_drewN | apply Kd.R_drew)); exact HO_5.out⟩, ⟨by (with_reducible repeat (first | apply Kd.R_alloc | apply Kd.R_drewN | apply Kd.R_drew)); exact HO_9.out⟩, ⟨by (with_reducible repeat (first | refine blk_drewN ?_ _ | refine blk_drew ?_ | refine blk_alloc ?_ _)); exact BK396.out⟩, ⟨by exact lq HB.out⟩⟩
               ·rw [if_neg c28] at H
                exact absurd H (by simp)
              ·rw [if_neg c27] at H
               exact absurd H (by simp)
             ·rw [if_neg c26] at H
              have c26b0 : decide (0 ≤ x10_3) = false := decide_eq_false c26
              clear c26
              by_cases c49 : 0 ≤ x6_1
              ·rw [if_pos c49] at H
               have c49b0 : decide (0 ≤ x6_1) = true := decide_eq_true c49
               clear c49
               by_cases c50 : x6_1 < (t397.length : Int)
               ·rw [if_pos c50] at H
                have c50b0 : decide (x6_1 < (t397.length : Int)) = true := decide_eq_true c50
                clear c50
                by_cases c51 : x8_3 = true
                ·subst c51
                 rw [if_pos rfl] at H
                 by_cases c52 : (((rd_T36 t397 x6_1).f0) != (decide ((x9_3.length : Int) < t391))) = true
                 ·rw [if_pos c52] at H
                  have c52b0 : (((rd_T36 t397 x6_1).f0) != (decide ((x9_3.length : Int) < t391))) = true := c52
                  (try (have c52b1 : decide (((rd_T36 t397 x6_1).f0) = (decide ((x9_3.length : Int) < t391))) = false := by simpa using c52))
                  (try (have c52b2 : (((rd_T36 t397 x6_1).f0) == (decide ((x9_3.length : Int) < t391))) = false := by simpa using c52))
                  (try (have c52b3 : ¬ (((rd_T36 t397 x6_1).f0) = (decide ((x9_3.length : Int) < t391))) := by simpa using c52))
                  clear c52
                  exact absurd H (by simp)
                 ·rw [if_neg c52] at H
                  have c52b0 : (((rd_T36 t397 x6_1).f0) != (decide ((x9_3.length : Int) < t391))) = false := by simpa using c52
                  (try (have c52b1 : decide (((rd_T36 t397 x6_1).f0) = (decide ((x9_3.length : Int) < t391))) = true := by simpa using c52))
                  (try (have c52b2 : (((rd_T36 t397 x6_1).f0) == (decide ((x9_3.length : Int) < t391))) = true := by simpa using c52))
                  clear c52
                  obtain ⟨bq53, hbq53⟩ : ∃ b_ : Bool, b_ = ((rd_T36 t397 x6_1).f1) := ⟨_, rfl⟩
                  replace H : (if bq53 = true then (some false) else (laws_FnRecent.l0 k3 t393 t397 (wrap64 (x6_1 + 1)) t390 t391 t392)) = some true := by rw [← hbq53] at H; exact H
                  have Nbq53 := Aside0.mk hbq53
                  clear hbq53
                  by_cases c54 : bq53 = true
                  ·subst c54
                   rw [if_pos rfl] at H
                   exact absurd H (by simp)
                  ·replace c54 := Bool.eq_false_iff.mpr c54
                   subst c54
                   rw [if_neg (show ¬ (false = true) by decide)] at H
                   have H' := Aside0.mk H
                   clear H
                   have p407 : 0 ≤ (x6_1 : Int) := of_decide_eq_true (by first | (with_reducible assumption) | assumption)
                   have q407 : x6_1 < (t397.length : Int) := of_decide_eq_true (by first | (with_reducible assumption) | assumption)
                   obtain ⟨ad407, e407, hx407_0, hx407_1, hx407_2⟩ := at_T36 (Kd.R_reads' HO_5.out).2.2 x6_1 p407 q407
                   (try rw [← Nbq53.out] at hx407_0)
                   (try rw [← Nbq53.out] at hx407_1)
                   (try rw [← Nbq53.out] at hx407_2)
                   cases e407
                   replace p407 := eq_true p407
                   replace q407 := eq_true q407
                   obtain ⟨Ao55, co55, eo55⟩ := Kd.R_slice HO_9.out
                   subst eo55
                   have hcz56_0 : wr.cell? ⟨gb396, 0, none⟩ = some (.int .i64 t390) := (blk_cell BK396.out 0).trans rfl
                   have hcz56_1 : wr.cell? ⟨gb396, 1, none⟩ = some (.int .i64 t391) := (blk_cell BK396.out 1).trans rfl
                   have hcz56_2 : wr.cell? ⟨gb396, 2, none⟩ = some (.int .i64 t392) := (blk_cell BK396.out 2).trans rfl
                   have hfz56_0 := blk_frozen BK396.out 0
                   have hfz56_1 := blk_frozen BK396.out 1
                   have hfz56_2 := blk_frozen BK396.out 2
                   have p408 : 0 ≤ (x6_1 : Int) := of_decide_eq_true (by first | (with_reducible assumption) | assumption)
                   have q408 : x6_1 < (t397.length : Int) := of_decide_eq_true (by first | (with_reducible assumption) | assumption)
                   obtain ⟨ad408, e408, hx408_0, hx408_1, hx408_2⟩ := at_T36 (Kd.R_reads' HO_5.out).2.2 x6_1 p408 q408
                   (try rw [← Nbq53.out] at hx408_0)
                   (try rw [← Nbq53.out] at hx408_1)
                   (try rw [← Nbq53.out] at hx408_2)
                   obtain rfl : ad407 = ad408 := (by injection e408)
                   replace p408 := eq_true p408
                   replace q408 := eq_true q408
                   go_wp2
                   repeat (go_quiet (fail); try go_wp2)
                   go_roundg k3
                   case measure => have := HK1.out; have := HJ16.out; have := HK3.out; omega
                   case rel => exact ⟨(wrap64 (x6_1 + 1)), (by first | rfl | (simp; done) | (simp [*]; done)), H', ⟨by have := HK1.out; have := HJ16.out; have := HK3.out; omega⟩, ⟨by (with_reducible repeat (first | apply Kd.R_alloc | apply Kd.R_drewN | apply Kd.R_drew)); exact HO_4.out⟩, ⟨by (with_reducible repeat (first | apply Kd.R_alloc | apply Kd.R_drewN | apply Kd.R_drew)); exact HO_5.out⟩, ⟨by (with_reducible repeat (first | refine blk_drewN ?_ _ | refine blk_drew ?_ | refine blk_alloc ?_ _)); exact BK396.out⟩, ⟨by exact lq HB.out⟩⟩
                ·replace c51 := Bool.eq_false_iff.mpr c51
                 subst c51
                 rw [if_neg (show ¬ (false = true) by decide)] at H
                 by_cases c57 : (((rd_T36 t397 x6_1).f0) != false) = true
                 ·rw [if_pos c57] at H
                  have c57b0 : (((rd_T36 t397 x6_1).f0) != false) = true := c57
                  (try (have c57b1 : decide (((rd_T36 t397 x6_1).f0) = false) = false := by simpa using c57))
                  (try (have c57b2 : (((rd_T36 t397 x6_1).f0) == false) = false := by simpa using c57))
                  (try (have c57b3 : ¬ (((rd_T36 t397 x6_1).f0) = false) := by simpa using c57))
                  clear c57
                  exact absurd H (by simp)
                 ·rw [if_neg c57] at H
                  have c57b0 : (((rd_T36 t397 x6_1).f0) != false) = false := by simpa using c57
                  (try (have c57b1 : decide (((rd_T36 t397 x6_1).f0) = false) = true := by simpa using c57))
                  (try (have c57b2 : (((rd_T36 t397 x6_1).f0) == false) = true := by simpa using c57))
                  clear c57
                  obtain ⟨bq58, hbq58⟩ : ∃ b_ : Bool, b_ = ((rd_T36 t397 x6_1).f1) := ⟨_, rfl⟩
                  replace H : (if bq58 = true then (some false) else (laws_FnRecent.l0 k3 t393 t397 (wrap64 (x6_1 + 1)) t390 t391 t392)) = some true := by rw [← hbq58] at H; exact H
                  have Nbq58 := Aside0.mk hbq58
                  clear hbq58
                  by_cases c59 : bq58 = true
                  ·subst c59
                   rw [if_pos rfl] at H
                   exact absurd H (by simp)
                  ·replace c59 := Bool.eq_false_iff.mpr c59
                   subst c59
                   rw [if_neg (show ¬ (false = true) by decide)] at H
                   have H' := Aside0.mk H
                   clear H
                   have p407 : 0 ≤ (x6_1 : Int) := of_decide_eq_true (by first | (with_reducible assumption) | assumption)
                   have q407 : x6_1 < (t397.length : Int) := of_decide_eq_true (by first | (with_reducible assumption) | assumption)
                   obtain ⟨ad407, e407, hx407_0, hx407_1, hx407_2⟩ := at_T36 (Kd.R_reads' HO_5.out).2.2 x6_1 p407 q407
                   (try rw [← Nbq58.out] at hx407_0)
                   (try rw [← Nbq58.out] at hx407_1)
                   (try rw [← Nbq58.out] at hx407_2)
                   cases e407
                   replace p407 := eq_true p407
                   replace q407 := eq_true q407
                   have p409 : 0 ≤ (x6_1 : Int) := of_decide_eq_true (by first | (with_reducible assumption) | assumption)
                   have q409 : x6_1 < (t397.length : Int) := of_decide_eq_true (by first | (with_reducible assumption) | assumption)
                   obtain ⟨ad409, e409, hx409_0, hx409_1, hx409_2⟩ := at_T36 (Kd.R_reads' HO_5.out).2.2 x6_1 p409 q409
                   (try rw [← Nbq58.out] at hx409_0)
                   (try rw [← Nbq58.out] at hx409_1)
                   (try rw [← Nbq58.out] at hx409_2)
                   obtain rfl : ad407 = ad409 := (by injection e409)
                   replace p409 := eq_true p409
                   replace q409 := eq_true q409
                   go_wp2
                   repeat (go_quiet (fail); try go_wp2)
                   go_roundg k3
                   case measure => have := HK1.out; have := HJ16.out; have := HK3.out; omega
                   case rel => exact ⟨(wrap64 (x6_1 + 1)), (by first | rfl | (simp; done) | (simp [*]; done)), H', ⟨by have := HK1.out; have := HJ16.out; have := HK3.out; omega⟩, ⟨by (with_reducible repeat (first | apply Kd.R_alloc | apply Kd.R_drewN | apply Kd.R_drew)); exact HO_4.out⟩, ⟨by (with_reducible repeat (first | apply Kd.R_alloc | apply Kd.R_drewN | apply Kd.R_drew)); exact HO_5.out⟩, ⟨by (with_reducible repeat (first | refine blk_drewN ?_ _ | refine blk_drew ?_ | refine blk_alloc ?_ _)); exact BK396.out⟩, ⟨by exact lq HB.out⟩⟩
               ·rw [if_neg c50] at H
                exact absurd H (by simp)
              ·rw [if_neg c49] at H
               exact absurd H (by simp)
         ·rw [if_neg c21] at H
          exact absurd H (by simp)
        ·rw [if_neg c20] at H
         exact absurd H (by simp)
       ·replace c19 := Bool.eq_false_iff.mpr c19
        subst c19
        rw [if_neg (show ¬ (false = true) by decide)] at H
        clear H
        go_wp2
        repeat (go_quiet (fail); try go_wp2)
        go_ret
        exact ⟨by first | rfl | (simp [errW_none, errW_some] <;> rfl) | (simp [*, errW_none, errW_some] <;> rfl), by exact lq HB.out⟩
  ·rw [if_neg c7] at H
   have c7b0 : ((t397.length : Int) == (t400.length : Int)) = false := beq_eq_false_iff_ne.mpr c7
   have c7b1 : ((t397.length : Int) != (t400.length : Int)) = true := bne_iff_ne.mpr c7
   have c7b2 : (t397.length == t400.length) = false := by first | simpa using c7 | (simp at c7 ⊢; omega)
   exact absurd H (by simp)

/-- THE ONE PURE STATEMENT of laws_FnRecent: yours. -/
def laws_FnRecent.Pure : Prop := ∀ (l0 : List Int), l0.length ≤ maxLen → l0.length * 1 ≤ 140737488351232 → (∀ x ∈ l0, (Lit.int .u8 x).wf = true) → ∃ k, laws_FnRecent.f k l0 = some true
theorem laws_FnRecent.walk (P : laws_FnRecent.Pure) (a0 : Option Addr) (len0 cap0 : Nat) (z0 : List Int) (w : World) (w0 : (a0 = none ∧ len0 = 0 ∧ cap0 = 0 ∧ z0 = []) ∨ ∃ x, a0 = some x ∧ len0 ≤ cap0 ∧ cap0 ≤ maxLen ∧ z0.length = cap0 ∧ (∀ i, i < z0.length → w.cell? (x.add i) = some (.int .u8 (z0.getD i 0))) ∧ ∀ n ∈ z0, (Lit.int .u8 n).wf = true) (y0 : len0 * 1 ≤ 140737488351232) :
  Calls Try.prog 3 #[.slice a0 len0 cap0] w fun e w' => e = .returned (.bool true) ∧ Below w.heap.size w w' := by
 obtain ⟨l0, rfl, hr0, hm0, hw0, hc0⟩ := ReadsInt.ofRowC w0
 obtain ⟨k, h⟩ := P l0 hm0 y0 hw0
 refine (laws_FnRecent.calls k _ _ l0 w (Kd.C_of_reads (d := (0 : Int)) (h1 := fun _ => rfl) hr0) hc0 h).mono ?_
 rintro e w' ⟨rfl, hd⟩
 exact ⟨rfl, hd⟩

end Go.Proofs.Ytglehilfemfiiaa.GR
