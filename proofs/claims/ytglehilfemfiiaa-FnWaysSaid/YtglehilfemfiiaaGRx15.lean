/- Told by a program of this session, out of the translation: each function of the group as a plain Lean function, and that Go's call comes to just its answer. Lean checks it. -/
import Derived.Test.YtglehilfemfiiaaGRx0
import Derived.Test.YtglehilfemfiiaaGRx5
import Derived.Test.YtglehilfemfiiaaGRx7
import Derived.Test.YtglehilfemfiiaaGRx12
import Derived.Test.YtglehilfemfiiaaCcrR
namespace Go.Proofs.Ytglehilfemfiiaa.GR
open Go.RowKit Go.Proofs.YtglehilfemfiiaaW.PrintWords Go.Proofs.YtglehilfemfiiaaW.PrintLast Go.Proofs.YtglehilfemfiiaaW.PrintMore Go.Proofs.Ytglehilfemfiiaa.Q
attribute [local go_sem] max2_int min2_int max_two min_two max_three min_three max_four min_four   -- for this text's walks alone
set_option linter.unusedVariables false
set_option linter.unusedSimpArgs false

/-! ### laws_FnWays: function 6 -/
mutual
def laws_FnWays.j0 : Nat → List (S32) → List (S36) → Bool → Int → Int → Int → Option (Bool)
 | 0, _, _, _, _, _, _ => none
 | k + 1, x4, x5, x32, x425000, x425001, x425002 => if x32 = true then (some true) else ((impl_CacheRun.f x425000 (wrap64 (x425001 + 1)) x425002 x4).bind fun t431 => (if (t431.length : Int) = (x5.length : Int) then (laws_FnWays.l0 k x5 t431 0) else (some false)))
def laws_FnWays.l0 : Nat → List (S36) → List (S36) → Int → Option (Bool)
 | 0, _, _, _ => none
 | k + 1, x5, x6, x7 => if x7 < (x5.length : Int) then (if 0 ≤ x7 then (if (rd_T36 x5 x7).f0 = true then (if x7 < (x6.length : Int) then (if ((rd_T36 x6 x7).f0 = true) then (laws_FnWays.l0 k x5 x6 (wrap64 (x7 + 1))) else (some false)) else (none)) else (laws_FnWays.l0 k x5 x6 (wrap64 (x7 + 1)))) else (none)) else (some true)
end
def laws_FnWays.f (k : Nat) (l0 : List Int) : Option (Bool) := (laws_big.f l0).bind fun t417 => (if t417 = true then (some true) else ((spec_DrawCacheRun.f k l0).bind fun bt418 => ((impl_CacheRun.f bt418.1 bt418.2.1 bt418.2.2.1 bt418.2.2.2).bind fun t425 => ((spec_CacheRun.f k bt418.1 bt418.2.1 bt418.2.2.1 bt418.2.2.2).bind fun t428 => (if (t425.length : Int) = (t428.length : Int) then (if (t425.length : Int) = 0 then (laws_FnWays.j0 k bt418.2.2.2 t425 true bt418.1 bt418.2.1 bt418.2.2.1) else (laws_FnWays.j0 k bt418.2.2.2 t425 (bt418.2.1 == 4) bt418.1 bt418.2.1 bt418.2.2.1)) else (some false))))))
theorem laws_FnWays.mono_l : ∀ k, (∀ y0 y1 y2 y3 y4 y5, LeO (laws_FnWays.j0 k y0 y1 y2 y3 y4 y5) (laws_FnWays.j0 (k + 1) y0 y1 y2 y3 y4 y5)) ∧ (∀ y0 y1 y2, LeO (laws_FnWays.l0 k y0 y1 y2) (laws_FnWays.l0 (k + 1) y0 y1 y2))
 | 0 => ⟨fun _ _ _ _ _ _ r h => by simp [laws_FnWays.j0] at h, fun _ _ _ r h => by simp [laws_FnWays.l0] at h⟩
 | k + 1 => by
  obtain ⟨ih0, ih1⟩ := laws_FnWays.mono_l k
  refine ⟨?_, ?_⟩
  ·intro y0 y1 y2 y3 y4 y5
   unfold laws_FnWays.j0
   repeat' first
   | (with_reducible exact ih0 _ _ _ _ _ _)
   | (with_reducible exact ih1 _ _ _)
   | (with_reducible exact spec_CacheRun.mono _ _ _ _ _)
   | (with_reducible exact spec_DrawCacheRun.mono _ _)
   | (with_reducible exact LeO.refl _)
   | (with_reducible exact LeO.none _)
   | (with_reducible refine LeO.ite ?_ ?_)
   | (with_reducible refine LeO.bind ?_ (fun _ => ?_))
   | exact ih0 _ _ _ _ _ _
   | exact ih1 _ _ _
   | exact spec_CacheRun.mono _ _ _ _ _
   | exact spec_DrawCacheRun.mono _ _
   | exact LeO.none _
   | refine LeO.ite ?_ ?_
   | refine LeO.bind ?_ (fun _ => ?_)
  ·intro y0 y1 y2
   unfold laws_FnWays.l0
   repeat' first
   | (with_reducible exact ih0 _ _ _ _ _ _)
   | (with_reducible exact ih1 _ _ _)
   | (with_reducible exact spec_CacheRun.mono _ _ _ _ _)
   | (with_reducible exact spec_DrawCacheRun.mono _ _)
   | (with_reducible exact LeO.refl _)
   | (with_reducible exact LeO.none _)
   | (with_reducible refine LeO.ite ?_ ?_)
   | (with_reducible refine LeO.bind ?_ (fun _ => ?_))
   | exact ih0 _ _ _ _ _ _
   | exact ih1 _ _ _
   | exact spec_CacheRun.mono _ _ _ _ _
   | exact spec_DrawCacheRun.mono _ _
   | exact LeO.none _
   | refine LeO.ite ?_ ?_
   | refine LeO.bind ?_ (fun _ => ?_)
theorem laws_FnWays.mono : ∀ a0 k, LeO (laws_FnWays.f k a0) (laws_FnWays.f (k + 1) a0) := by
 intro a0 k
 obtain ⟨ih0, ih1⟩ := laws_FnWays.mono_l k
 unfold laws_FnWays.f
 repeat' first
   | (with_reducible exact ih0 _ _ _ _ _ _)
   | (with_reducible exact ih1 _ _ _)
   | (with_reducible exact spec_CacheRun.mono _ _ _ _ _)
   | (with_reducible exact spec_DrawCacheRun.mono _ _)
   | (with_reducible exact LeO.refl _)
   | (with_reducible exact LeO.none _)
   | (with_reducible refine LeO.ite ?_ ?_)
   | (with_reducible refine LeO.bind ?_ (fun _ => ?_))
   | exact ih0 _ _ _ _ _ _
   | exact ih1 _ _ _
   | exact spec_CacheRun.mono _ _ _ _ _
   | exact spec_DrawCacheRun.mono _ _
   | exact LeO.none _
   | refine LeO.ite ?_ ?_
   | refine LeO.bind ?_ (fun _ => ?_)
set_option maxHeartbeats 8000000 in
set_option maxRecDepth 100000 in
theorem laws_FnWays.calls (k : Nat) (A0 : Option Addr) (c0 : Nat) (l0 : List Int) (w : World) (hr0 : Kd.C (Kd.int .u8) w A0 l0.length l0) (hc0 : l0.length ≤ c0) (h : laws_FnWays.f k l0 = some true) :
  Calls Try.prog 6 #[.slice A0 l0.length c0] w fun e w' => e = .returned (.bool true) ∧ Below w.heap.size w w' := by
 have hu25 := Try.underlying25
 have HR0 := Aside0.mk hr0
 have HC0 := Aside0.mk hc0
 clear hr0 hc0
 have HB := Aside0.mk (Below.refl w.heap.size w)
 have H : ((laws_big.f l0).bind fun t417 => (if t417 = true then (some true) else ((spec_DrawCacheRun.f k l0).bind fun bt418 => ((impl_CacheRun.f bt418.1 bt418.2.1 bt418.2.2.1 bt418.2.2.2).bind fun t425 => ((spec_CacheRun.f k bt418.1 bt418.2.1 bt418.2.2.1 bt418.2.2.2).bind fun t428 => (if (t425.length : Int) = (t428.length : Int) then (if (t425.length : Int) = 0 then (laws_FnWays.j0 k bt418.2.2.2 t425 true bt418.1 bt418.2.1 bt418.2.2.1) else (laws_FnWays.j0 k bt418.2.2.2 t425 (bt418.2.1 == 4) bt418.1 bt418.2.1 bt418.2.2.1)) else (some false))))))) = some true := h
 clear h
 replace H := Option.bind_eq_some_iff.mp H
 obtain ⟨t417, A20, H⟩ := H
 (try dsimp only at H)
 have A2 := Aside0.mk A20
 clear A20
 by_cases c3 : t417 = true
 ·subst c3
  rw [if_pos rfl] at H
  clear H
  go_enter Try.func6, Try.ntmps6
  go_wp2_with (first | ((with_reducible refine gate_callee (f := 10) rfl ?_); refine goesL_ (some 9) rfl rfl Try.func10 (by kernel_rfl) rfl #[.slice A0 l0.length c0] rfl (by (try simp only [List.map_toArray, List.map_cons, List.map_nil]); first | done | rfl | (simp only [List.length_drop, List.length_take]; rfl)) ?_; (with_reducible refine (laws_big.calls _ _ l0 true _ ?side1 ?side2 A2.out).mono ?_); (case side1 => repeat (first | exact HR0.out | (with_reducible refine Kd.C_alloc ?_ _) | (with_reducible refine Kd.C_drewN ?_ _) | (with_reducible refine Kd.C_drew ?_))); (case side2 => exact HC0.out); rintro e w' ⟨rfl, ⟨nd, rfl⟩⟩; refine ⟨_, rfl, ?_⟩))
  go_ret
  exact ⟨by first | rfl | (simp [errW_none, errW_some] <;> rfl) | (simp [*, errW_none, errW_some] <;> rfl), by exact lq HB.out⟩
 ·replace c3 := Bool.eq_false_iff.mpr c3
  subst c3
  rw [if_neg (show ¬ (false = true) by decide)] at H
  replace H := Option.bind_eq_some_iff.mp H
  obtain ⟨⟨t418, t419, t420, t421⟩, A40, H⟩ := H
  (try dsimp only at H)
  have A4 := Aside0.mk A40
  clear A40
  replace H := Option.bind_eq_some_iff.mp H
  obtain ⟨t425, A50, H⟩ := H
  (try dsimp only at H)
  have A5 := Aside0.mk A50
  clear A50
  replace H := Option.bind_eq_some_iff.mp H
  obtain ⟨t428, A60, H⟩ := H
  (try dsimp only at H)
  have A6 := Aside0.mk A60
  clear A60
  by_cases c7 : (t425.length : Int) = (t428.length : Int)
  ·rw [if_pos c7] at H
   have c7b0 : ((t425.length : Int) == (t428.length : Int)) = true := beq_iff_eq.mpr c7
   have c7b1 : ((t425.length : Int) != (t428.length : Int)) = false := bne_eq_false_iff_eq.mpr c7
   have c7b2 : (t425.length == t428.length) = true := by first | simpa using c7 | (simp at c7 ⊢; omega)
   clear c7
   have HC8 := Aside0.mk H
   clear H
   go_enter Try.func6, Try.ntmps6
   go_upto_region 7 with (first | ((with_reducible refine gate_callee (f := 10) rfl ?_); refine goesL_ (some 9) rfl rfl Try.func10 (by kernel_rfl) rfl #[.slice A0 l0.length c0] rfl (by (try simp only [List.map_toArray, List.map_cons, List.map_nil]); first | done | rfl | (simp only [List.length_drop, List.length_take]; rfl)) ?_; (with_reducible refine (laws_big.calls _ _ l0 false _ ?side1 ?side2 A2.out).mono ?_); (case side1 => repeat (first | exact HR0.out | (with_reducible refine Kd.C_alloc ?_ _) | (with_reducible refine Kd.C_drewN ?_ _) | (with_reducible refine Kd.C_drew ?_))); (case side2 => exact HC0.out); rintro e w' ⟨rfl, ⟨nd, rfl⟩⟩; refine ⟨_, rfl, ?_⟩) | ((with_reducible refine gate_callee (f := 11) rfl ?_); refine goesL_ (some 12) rfl rfl Try.func11 (by kernel_rfl) rfl #[.slice A0 l0.length c0] rfl (by (try simp only [List.map_toArray, List.map_cons, List.map_nil]); first | done | rfl | (simp only [List.length_drop, List.length_take]; rfl)) ?_; (with_reducible refine (spec_DrawCacheRun.calls k _ _ l0 t418 t419 t420 t421 _ ?side1 ?side2 A4.out).mono ?_); (case side1 => repeat (first | exact HR0.out | (with_reducible refine Kd.C_alloc ?_ _) | (with_reducible refine Kd.C_drewN ?_ _) | (with_reducible refine Kd.C_drew ?_))); (case side2 => exact HC0.out); rintro e w9 ⟨v422, rfl, ho0, hb⟩; refine ⟨_, rfl, ?_⟩; have n0_ := Aside0.mk (Kd.R_lower ho0 (below_size (lq HB.out))); have n1_ := Aside0.mk (below_step (lq HB.out) hb); clear HB; have HO423 := n0_; have HB := n1_; clear n0_ n1_; (try clear hb); (try clear hb2); (try clear hk); (try clear hi); (try clear ho0)) | ((with_reducible refine gate_dst (N := 3) rfl ?_); refine box_event ?hg (N := 3) ?hd (cs := #[.int .i64 0, .int .i64 0, .int .i64 0]) (t := 25) ?hr ?_; (case hd => rfl); (case hg => rfl); (case hr => first | (go_simp; done) | (go_simp; rfl)); intro gb424 hg w10 hbox hb; have n0_ := Aside0.mk (Kd.R_below (rq HO423.out) hb); have n1_ := Aside0.mk (below_step (lq HB.out) hb); have n2_ := Aside0.mk (hbox); have n3_ := Aside0.mk ((ge_new hg (lq HB.out) : w.heap.size ≤ gb424)); have n4_ := Aside0.mk ((ge_new hg (lq HB.out) : w.heap.size ≤ gb424)); clear HO423; clear HB; have HO423 := n0_; have HB := n1_; have BK424 := n2_; have GW424 := n3_; have GE424 := n4_; clear n0_ n1_ n2_ n3_ n4_; clear hb hbox hg; have hcz11_0 : w10.cell? ⟨gb424, 0, none⟩ = some (.int .i64 0) := (blk_cell BK424.out 0).trans rfl; have hcz11_1 : w10.cell? ⟨gb424, 1, none⟩ = some (.int .i64 0) := (blk_cell BK424.out 1).trans rfl; have hcz11_2 : w10.cell? ⟨gb424, 2, none⟩ = some (.int .i64 0) := (blk_cell BK424.out 2).trans rfl; have hfz11_0 := blk_frozen BK424.out 0; have hfz11_1 := blk_frozen BK424.out 1; have hfz11_2 := blk_frozen BK424.out 2; obtain ⟨Ao12, co12, eo12⟩ := Kd.R_slice HO423.out; subst eo12) | ((with_reducible refine gate_callee (f := 12) rfl ?_); refine goesL_ (some 17) rfl rfl Try.func12 (by kernel_rfl) rfl #[.agg #[.int .i64 t418, .int .i64 t419, .int .i64 t420], .slice Ao12 t421.length co12] rfl (by (try simp only [List.map_toArray, List.map_cons, List.map_nil]); first | done | rfl | (simp only [List.length_drop, List.length_take]; rfl)) ?_; (with_reducible refine (impl_CacheRun.calls t418 t419 t420 _ _ t421 t425 _ ?side1 ?side2 A5.out).mono ?_); (case side1 => refine (Kd.R_reads' (e := 32) (base := w.heap.size) (ok := fun k_ => True) (n := t421.length) (c := co12) ?_).2.2; exact (rq (Kd.R_mono (Kd.R_far (p := ⟨gb424, 2, none⟩) (Kd.R_far (p := ⟨gb424, 1, none⟩) (Kd.R_far (p := ⟨gb424, 0, none⟩) (Kd.R_types HO423.out BK424.out (by decide)) (fun _ hk => hk.2) (.int .i64 t418)) (fun _ hk => hk.2) (.int .i64 t419)) (fun _ hk => hk.2) (.int .i64 t420)) (fun _ h_ => h_.1)))); (case side2 => exact (Kd.R_reads' HO423.out).2.1); rintro e w13 ⟨v426, rfl, ho0, hb⟩; refine ⟨_, rfl, ?_⟩; have n0_ := Aside0.mk (Kd.R_below (rq (Kd.R_mono (Kd.R_far (p := ⟨gb424, 2, none⟩) (Kd.R_far (p := ⟨gb424, 1, none⟩) (Kd.R_far (p := ⟨gb424, 0, none⟩) (Kd.R_types HO423.out BK424.out (by decide)) (fun _ hk => hk.2) (.int .i64 t418)) (fun _ hk => hk.2) (.int .i64 t419)) (fun _ hk => hk.2) (.int .i64 t420)) (fun _ h_ => h_.1))) hb); have n1_ := Aside0.mk (Kd.R_lower ho0 (below_size (by repeat (first | (with_reducible first | exact HB.out | apply below_alloc | apply pw_below_drewN | apply below_drew1 | refine below_set ?_ GE424.out) | exact HB.out)))); have n2_ := Aside0.mk (blk_below (g := gb424) (o := .cells #[.int .i64 t418, .int .i64 t419, .int .i64 t420] 25 (0, 0)) (by (with_reducible repeat (first | refine blk_drewN ?_ _ | refine blk_drew ?_ | refine blk_alloc ?_ _)); refine blk_put (cs := #[.int .i64 t418, .int .i64 t419, .int .i64 0]) ?_ 2 _ rfl; (with_reducible repeat (first | refine blk_drewN ?_ _ | refine blk_drew ?_ | refine blk_alloc ?_ _)); refine blk_put (cs := #[.int .i64 t418, .int .i64 0, .int .i64 0]) ?_ 1 _ rfl; (with_reducible repeat (first | refine blk_drewN ?_ _ | refine blk_drew ?_ | refine blk_alloc ?_ _)); refine blk_put (cs := #[.int .i64 0, .int .i64 0, .int .i64 0]) ?_ 0 _ rfl; (with_reducible repeat (first | refine blk_drewN ?_ _ | refine blk_drew ?_ | refine blk_alloc ?_ _)); exact BK424.out) hb); have n3_ := Aside0.mk (below_step (by repeat (first | (with_reducible first | exact HB.out | apply below_alloc | apply pw_below_drewN | apply below_drew1 | refine below_set ?_ GE424.out) | exact HB.out)) hb); clear HO423; clear BK424; clear HB; have HO423 := n0_; have HO427 := n1_; have BK424 := n2_; have HB := n3_; clear n0_ n1_ n2_ n3_; (try clear hb); (try clear hb2); (try clear hk); (try clear hi); (try clear ho0); obtain ⟨Ao14, co14, eo14⟩ := Kd.R_slice HO427.out; subst eo14; have hcz15_0 : w13.cell? ⟨gb424, 0, none⟩ = some (.int .i64 t418) := (blk_cell BK424.out 0).trans rfl; have hcz15_1 : w13.cell? ⟨gb424, 1, none⟩ = some (.int .i64 t419) := (blk_cell BK424.out 1).trans rfl; have hcz15_2 : w13.cell? ⟨gb424, 2, none⟩ = some (.int .i64 t420) := (blk_cell BK424.out 2).trans rfl; have hfz15_0 := blk_frozen BK424.out 0; have hfz15_1 := blk_frozen BK424.out 1; have hfz15_2 := blk_frozen BK424.out 2) | ((with_reducible refine gate_callee (f := 13) rfl ?_); refine goesL_ (some 22) rfl rfl Try.func13 (by kernel_rfl) rfl #[.agg #[.int .i64 t418, .int .i64 t419, .int .i64 t420], .slice Ao12 t421.length co12] rfl (by (try simp only [List.map_toArray, List.map_cons, List.map_nil]); first | done | rfl | (simp only [List.length_drop, List.length_take]; rfl)) ?_; (with_reducible refine (spec_CacheRun.calls k t418 t419 t420 _ _ t421 t428 _ ?side1 ?side2 A6.out).mono ?_); (case side1 => repeat (first | exact (Kd.R_reads' HO423.out).2.2 | (with_reducible refine Kd.C_alloc ?_ _) | (with_reducible refine Kd.C_drewN ?_ _) | (with_reducible refine Kd.C_drew ?_))); (case side2 => exact (Kd.R_reads' HO423.out).2.1); rintro e w16 ⟨v429, rfl, ho0, hb⟩; refine ⟨_, rfl, ?_⟩; have n0_ := Aside0.mk (Kd.R_below (rq HO423.out) hb); have n1_ := Aside0.mk (Kd.R_elder' (rq HO427.out) (Kd.R_base ho0) hb); have n2_ := Aside0.mk (Kd.R_lower (Kd.R_new' ho0 (Kd.R_lt (rq HO427.out))) (below_size (lq HB.out))); have n3_ := Aside0.mk (blk_below (bq BK424.out) hb); have n4_ := Aside0.mk (below_step (lq HB.out) hb); clear HO423; clear HO427; clear BK424; clear HB; have HO423 := n0_; have HO427 := n1_; have HO430 := n2_; have BK424 := n3_; have HB := n4_; clear n0_ n1_ n2_ n3_ n4_; (try clear hb); (try clear hb2); (try clear hk); (try clear hi); (try clear ho0); obtain ⟨Ao17, co17, eo17⟩ := Kd.R_slice HO430.out; subst eo17))
   (try simp only [Act.put, List.setIfInBounds_toArray, List.set_cons_zero, List.set_cons_succ])
   go_cut [32] (fun v32 wc => ∃ (kq : Nat) (x32_7 : Bool), v32 = .bool x32_7 ∧ Aside0 (laws_FnWays.j0 kq t421 t425 x32_7 t418 t419 t420 = some true) ∧ Aside0 (kq ≤ k) ∧ Aside0 (Kd.R k32 32 wc w.heap.size (fun _ => True) (.slice Ao12 t421.length co12) t421) ∧ Aside0 (Kd.R k36 36 wc w.heap.size (fun _ => True) (.slice Ao14 t425.length co14) t425) ∧ Aside0 (wc.heap[gb424]? = some (.cells #[.int .i64 t418, .int .i64 t419, .int .i64 t420] 25 (0, 0))) ∧ Aside0 (Below w.heap.size w wc))
   case first =>
    have H := HC8.out
    clear HC8
    by_cases c18 : (t425.length : Int) = 0
    ·rw [if_pos c18] at H
     have c18b0 : ((t425.length : Int) == 0) = true := beq_iff_eq.mpr c18
     have c18b1 : ((t425.length : Int) != 0) = false := bne_eq_false_iff_eq.mpr c18
     clear c18
     (first | rw [c18b0] | (simp only [i64_w, i32_w]; rw [c18b0]) | skip)
     have H' := Aside0.mk H
     clear H
     go_wp2
     go_meet
     case rel => exact ⟨_, (true), (by first | rfl | (simp; done) | (simp [*]; done)), H', ⟨by first | omega | exact Nat.le_refl _⟩, ⟨by (with_reducible repeat (first | apply Kd.R_alloc | apply Kd.R_drewN | apply Kd.R_drew)); exact HO423.out⟩, ⟨by (with_reducible repeat (first | apply Kd.R_alloc | apply Kd.R_drewN | apply Kd.R_drew)); exact Kd.R_mono HO427.out (fun _ hk => trivial)⟩, ⟨by (with_reducible repeat (first | refine blk_drewN ?_ _ | refine blk_drew ?_ | refine blk_alloc ?_ _)); exact BK424.out⟩, ⟨by exact lq HB.out⟩⟩
    ·rw [if_neg c18] at H
     have c18b0 : ((t425.length : Int) == 0) = false := beq_eq_false_iff_ne.mpr c18
     have c18b1 : ((t425.length : Int) != 0) = true := bne_iff_ne.mpr c18
     have c18b2 : ¬ (t425 = []) := fun h_ => c18 (by rw [h_]; rfl)
     (first | rw [c18b0] | (simp only [i64_w, i32_w]; rw [c18b0]) | skip)
     have H' := Aside0.mk H
     clear H
     have hcz19_0 : w16.cell? ⟨gb424, 0, none⟩ = some (.int .i64 t418) := (blk_cell BK424.out 0).trans rfl
     have hcz19_1 : w16.cell? ⟨gb424, 1, none⟩ = some (.int .i64 t419) := (blk_cell BK424.out 1).trans rfl
     have hcz19_2 : w16.cell? ⟨gb424, 2, none⟩ = some (.int .i64 t420) := (blk_cell BK424.out 2).trans rfl
     have hfz19_0 := blk_frozen BK424.out 0
     have hfz19_1 := blk_frozen BK424.out 1
     have hfz19_2 := blk_frozen BK424.out 2
     go_wp2
     go_meet
     case rel => exact ⟨_, ((t419 == 4)), (by first | rfl | (simp; done) | (simp [*]; done)), H', ⟨by first | omega | exact Nat.le_refl _⟩, ⟨by (with_reducible repeat (first | apply Kd.R_alloc | apply Kd.R_drewN | apply Kd.R_drew)); exact HO423.out⟩, ⟨by (with_reducible repeat (first | apply Kd.R_alloc | apply Kd.R_drewN | apply Kd.R_drew)); exact Kd.R_mono HO427.out (fun _ hk => trivial)⟩, ⟨by (with_reducible repeat (first | refine blk_drewN ?_ _ | refine blk_drew ?_ | refine blk_alloc ?_ _)); exact BK424.out⟩, ⟨by exact lq HB.out⟩⟩
   case rest =>
    clear HC8
    try clear c1
    try clear p2
    try clear c3
    try clear c6
    try clear c7
    try clear c7b0
    try clear c7b1
    try clear c7b2
    try clear c10
    try clear c11
    try clear c12
    try clear c13
    try clear c18
    try clear c18b0
    try clear c18b1
    try clear c18b2
    try clear hcz11_0
    try clear hcz11_1
    try clear hcz11_2
    try clear hcz15_0
    try clear hcz15_1
    try clear hcz15_2
    try clear hcz19_0
    try clear hcz19_1
    try clear hcz19_2
    try clear hfz11_0
    try clear hfz11_1
    try clear hfz11_2
    try clear hfz15_0
    try clear hfz15_1
    try clear hfz15_2
    try clear hfz19_0
    try clear hfz19_1
    try clear hfz19_2
    obtain ⟨kq, x32_7, rfl, HA, HJ7, HO_4, HO_5, BK424, HB⟩ := hcut
    cases kq with
    | zero => exact absurd HA.out (by simp [laws_FnWays.j0])
    | succ kj7 =>
     have H := HA.out
     clear HA
     simp only [laws_FnWays.j0] at H
     by_cases c20 : x32_7 = true
     ·subst c20
      rw [if_pos rfl] at H
      clear H
      go_wp2
      go_ret
      exact ⟨by first | rfl | (simp [errW_none, errW_some] <;> rfl) | (simp [*, errW_none, errW_some] <;> rfl), by exact lq HB.out⟩
     ·replace c20 := Bool.eq_false_iff.mpr c20
      subst c20
      rw [if_neg (show ¬ (false = true) by decide)] at H
      replace H := Option.bind_eq_some_iff.mp H
      obtain ⟨t431, A210, H⟩ := H
      (try dsimp only at H)
      have A21 := Aside0.mk A210
      clear A210
      by_cases c22 : (t431.length : Int) = (t425.length : Int)
      ·rw [if_pos c22] at H
       have c22b0 : ((t431.length : Int) == (t425.length : Int)) = true := beq_iff_eq.mpr c22
       have c22b1 : ((t431.length : Int) != (t425.length : Int)) = false := bne_eq_false_iff_eq.mpr c22
       have c22b2 : (t431.length == t425.length) = true := by first | simpa using c22 | (simp at c22 ⊢; omega)
       clear c22
       have H' := Aside0.mk H
       clear H
       have hcz23_0 : wc.cell? ⟨gb424, 0, none⟩ = some (.int .i64 t418) := (blk_cell BK424.out 0).trans rfl
       have hcz23_1 : wc.cell? ⟨gb424, 1, none⟩ = some (.int .i64 t419) := (blk_cell BK424.out 1).trans rfl
       have hcz23_2 : wc.cell? ⟨gb424, 2, none⟩ = some (.int .i64 t420) := (blk_cell BK424.out 2).trans rfl
       have hfz23_0 := blk_frozen BK424.out 0
       have hfz23_1 := blk_frozen BK424.out 1
       have hfz23_2 := blk_frozen BK424.out 2
       go_wp2_with (first | ((with_reducible refine gate_callee (f := 12) rfl ?_); refine goesL_ (some 42) rfl rfl Try.func12 (by kernel_rfl) rfl #[.agg #[.int .i64 t418, .int .i64 (wrap64 (t419 + 1)), .int .i64 t420], .slice Ao12 t421.length co12] rfl (by (try simp only [List.map_toArray, List.map_cons, List.map_nil]); first | done | rfl | (simp only [List.length_drop, List.length_take]; rfl)) ?_; (with_reducible refine (impl_CacheRun.calls t418 (wrap64 (t419 + 1)) t420 _ _ t421 t431 _ ?side1 ?side2 A21.out).mono ?_); (case side1 => repeat (first | exact (Kd.R_reads' HO_4.out).2.2 | (with_reducible refine Kd.C_alloc ?_ _) | (with_reducible refine Kd.C_drewN ?_ _) | (with_reducible refine Kd.C_drew ?_))); (case side2 => exact (Kd.R_reads' HO_4.out).2.1); rintro e w24 ⟨v432, rfl, ho0, hb⟩; refine ⟨_, rfl, ?_⟩; have n0_ := Aside0.mk (Kd.R_below (rq HO_4.out) hb); have n1_ := Aside0.mk (Kd.R_elder' (rq HO_5.out) (Kd.R_base ho0) hb); have n2_ := Aside0.mk (Kd.R_lower (Kd.R_new' ho0 (Kd.R_lt (rq HO_5.out))) (below_size (lq HB.out))); have n3_ := Aside0.mk (blk_below (bq BK424.out) hb); have n4_ := Aside0.mk (below_step (lq HB.out) hb); clear HO_4; clear HO_5; clear BK424; clear HB; have HO_4 := n0_; have HO_5 := n1_; have HO433 := n2_; have BK424 := n3_; have HB := n4_; clear n0_ n1_ n2_ n3_ n4_; (try clear hb); (try clear hb2); (try clear hk); (try clear hi); (try clear ho0); obtain ⟨Ao25, co25, eo25⟩ := Kd.R_slice HO433.out; subst eo25))
       go_loopg [7] kj7 (fun kq v7 w' => ∃ (x7_2 : Int), v7 = .int .i64 x7_2 ∧ Aside0 (laws_FnWays.l0 kq t425 t431 x7_2 = some true) ∧ Aside0 (kq ≤ kj7) ∧ Aside0 (Kd.R k36 36 w' w.heap.size (fun k_ => some k_ ≠ ((.slice Ao25 t431.length co25) : Value).ownBlock) (.slice Ao14 t425.length co14) t425) ∧ Aside0 (Kd.R k36 36 w' w.heap.size (fun k_ => some k_ ≠ ((.slice Ao14 t425.length co14) : Value).ownBlock) (.slice Ao25 t431.length co25) t431) ∧ Aside0 (w'.heap[gb424]? = some (.cells #[.int .i64 t418, .int .i64 t419, .int .i64 t420] 25 (0, 0))) ∧ Aside0 (Below w.heap.size w w'))
       case atStart => exact ⟨(0), (by first | rfl | (simp; done) | (simp [*]; done)), H', ⟨Nat.le_refl _⟩, ⟨by (with_reducible repeat (first | apply Kd.R_alloc | apply Kd.R_drewN | apply Kd.R_drew)); exact Kd.R_mono HO_5.out (fun _ hk => hk.2)⟩, ⟨by (with_reducible repeat (first | apply Kd.R_alloc | apply Kd.R_drewN | apply Kd.R_drew)); exact Kd.R_mono HO433.out (fun _ hk => hk.2)⟩, ⟨by (with_reducible repeat (first | refine blk_drewN ?_ _ | refine blk_drew ?_ | refine blk_alloc ?_ _)); exact BK424.out⟩, ⟨by exact lq HB.out⟩⟩
       case round =>
        clear H'
        try clear c1
        try clear c2
        try clear p2
        try clear c3
        try clear c6
        try clear p6
        try clear c7
        try clear c7b0
        try clear c7b1
        try clear c7b2
        try clear c10
        try clear c11
        try clear c12
        try clear c13
        try clear c18
        try clear c18b0
        try clear c18b1
        try clear c18b2
        try clear c20
        try clear c22
        try clear c22b0
        try clear c22b1
        try clear c22b2
        try clear hcz11_0
        try clear hcz11_1
        try clear hcz11_2
        try clear hcz15_0
        try clear hcz15_1
        try clear hcz15_2
        try clear hcz19_0
        try clear hcz19_1
        try clear hcz19_2
        try clear hcz23_0
        try clear hcz23_1
        try clear hcz23_2
        try clear hfz11_0
        try clear hfz11_1
        try clear hfz11_2
        try clear hfz15_0
        try clear hfz15_1
        try clear hfz15_2
        try clear hfz19_0
        try clear hfz19_1
        try clear hfz19_2
        try clear hfz23_0
        try clear hfz23_1
        try clear hfz23_2
        try clear p2
        obtain ⟨x7_2, rfl, HA, HK2, HO_5, HO_6, BK424, HB⟩ := hrel
        cases gk with
        | zero => exact absurd HA.out (by simp [laws_FnWays.l0])
        | succ k2 =>
         have H := HA.out
         clear HA
         simp only [laws_FnWays.l0] at H
         by_cases c26 : x7_2 < (t425.length : Int)
         ·rw [if_pos c26] at H
          have c26b0 : decide (x7_2 < (t425.length : Int)) = true := decide_eq_true c26
          clear c26
          by_cases c27 : 0 ≤ x7_2
          ·rw [if_pos c27] at H
           have c27b0 : decide (0 ≤ x7_2) = true := decide_eq_true c27
           clear c27
           obtain ⟨bq28, hbq28⟩ : ∃ b_ : Bool, b_ = ((rd_T36 t425 x7_2).f0) := ⟨_, rfl⟩
           replace H : (if bq28 = true then (if x7_2 < (t431.length : Int) then (if ((rd_T36 t431 x7_2).f0 = true) then (laws_FnWays.l0 k2 t425 t431 (wrap64 (x7_2 + 1))) else (some false)) else (none)) else (laws_FnWays.l0 k2 t425 t431 (wrap64 (x7_2 + 1)))) = some true := by rw [← hbq28] at H; exact H
           have Nbq28 := Aside0.mk hbq28
           clear hbq28
           by_cases c29 : bq28 = true
           ·subst c29
            rw [if_pos rfl] at H
            by_cases c30 : x7_2 < (t431.length : Int)
            ·rw [if_pos c30] at H
             have c30b0 : decide (x7_2 < (t431.length : Int)) = true := decide_eq_true c30
             clear c30
             obtain ⟨bq31, hbq31⟩ : ∃ b_ : Bool, b_ = ((rd_T36 t431 x7_2).f0) := ⟨_, rfl⟩
             replace H : (if (bq31 = true) then (laws_FnWays.l0 k2 t425 t431 (wrap64 (x7_2 + 1))) else (some false)) = some true := by rw [← hbq31] at H; exact H
             have Nbq31 := Aside0.mk hbq31
             clear hbq31
             by_cases c32 : (bq31 = true)
             ·subst c32
              rw [if_pos rfl] at H
              have H' := Aside0.mk H
              clear H
              have p434 : 0 ≤ (x7_2 : Int) := of_decide_eq_true (by first | (with_reducible assumption) | assumption)
              have q434 : x7_2 < (t425.length : Int) := of_decide_eq_true (by first | (with_reducible assumption) | assumption)
              obtain ⟨ad434, e434, hx434_0, hx434_1, hx434_2⟩ := at_T36 (Kd.R_reads' HO_5.out).2.2 x7_2 p434 q434
              (try rw [← Nbq28.out] at hx434_0)
              (try rw [← Nbq31.out] at hx434_0)
              (try rw [← Nbq28.out] at hx434_1)
              (try rw [← Nbq31.out] at hx434_1)
              (try rw [← Nbq28.out] at hx434_2)
              (try rw [← Nbq31.out] at hx434_2)
              cases e434
              replace p434 := eq_true p434
              replace q434 := eq_true q434
              have p435 : 0 ≤ (x7_2 : Int) := of_decide_eq_true (by first | (with_reducible assumption) | assumption)
              have q435 : x7_2 < (t431.length : Int) := of_decide_eq_true (by first | (with_reducible assumption) | assumption)
              obtain ⟨ad435, e435, hx435_0, hx435_1, hx435_2⟩ := at_T36 (Kd.R_reads' HO_6.out).2.2 x7_2 p435 q435
              (try rw [← Nbq28.out] at hx435_0)
              (try rw [← Nbq31.out] at hx435_0)
              (try rw [← Nbq28.out] at hx435_1)
              (try rw [← Nbq31.out] at hx435_1)
              (try rw [← Nbq28.out] at hx435_2)
              (try rw [← Nbq31.out] at hx435_2)
              cases e435
              replace p435 := eq_true p435
              replace q435 := eq_true q435
              go_wp2
              go_roundg k2
              case measure => have := HJ7.out; have := HK2.out; omega
              case rel => exact ⟨(wrap64 (x7_2 + 1)), (by first | rfl | (simp; done) | (simp [*]; done)), H', ⟨by have := HJ7.out; have := HK2.out; omega⟩, ⟨by (with_reducible repeat (first | apply Kd.R_alloc | apply Kd.R_drewN | apply Kd.R_drew)); exact HO_5.out⟩, ⟨by (with_reducible repeat (first | apply Kd.R_alloc | apply Kd.R_drewN | apply Kd.R_drew)); exact HO_6.out⟩, ⟨by (with_reducible repeat (first | refine blk_drewN ?_ _ | refine blk_drew ?_ | refine blk_alloc ?_ _)); exact BK424.out⟩, ⟨by exact lq HB.out⟩⟩
             ·replace c32 := Bool.eq_false_iff.mpr c32
              subst c32
              rw [if_neg (show ¬ (false = true) by decide)] at H
              exact absurd H (by simp)
            ·rw [if_neg c30] at H
             exact absurd H (by simp)
           ·replace c29 := Bool.eq_false_iff.mpr c29
            subst c29
            rw [if_neg (show ¬ (false = true) by decide)] at H
            have H' := Aside0.mk H
            clear H
            have p434 : 0 ≤ (x7_2 : Int) := of_decide_eq_true (by first | (with_reducible assumption) | assumption)
            have q434 : x7_2 < (t425.length : Int) := of_decide_eq_true (by first | (with_reducible assumption) | assumption)
            obtain ⟨ad434, e434, hx434_0, hx434_1, hx434_2⟩ := at_T36 (Kd.R_reads' HO_5.out).2.2 x7_2 p434 q434
            (try rw [← Nbq28.out] at hx434_0)
            (try rw [← Nbq28.out] at hx434_1)
            (try rw [← Nbq28.out] at hx434_2)
            cases e434
            replace p434 := eq_true p434
            replace q434 := eq_true q434
            go_wp2
            go_roundg k2
            case measure => have := HJ7.out; have := HK2.out; omega
            case rel => exact ⟨(wrap64 (x7_2 + 1)), (by first | rfl | (simp; done) | (simp [*]; done)), H', ⟨by have := HJ7.out; have := HK2.out; omega⟩, ⟨by (with_reducible repeat (first | apply Kd.R_alloc | apply Kd.R_drewN | apply Kd.R_drew)); exact HO_5.out⟩, ⟨by (with_reducible repeat (first | apply Kd.R_alloc | apply Kd.R_drewN | apply Kd.R_drew)); exact HO_6.out⟩, ⟨by (with_reducible repeat (first | refine blk_drewN ?_ _ | refine blk_drew ?_ | refine blk_alloc ?_ _)); exact BK424.out⟩, ⟨by exact lq HB.out⟩⟩
          ·rw [if_neg c27] at H
           exact absurd H (by simp)
         ·rw [if_neg c26] at H
          have c26b0 : decide (x7_2 < (t425.length : Int)) = false := decide_eq_false c26
          clear c26
          clear H
          go_wp2
          go_ret
          exact ⟨by first | rfl | (simp [errW_none, errW_some] <;> rfl) | (simp [*, errW_none, errW_some] <;> rfl), by exact lq HB.out⟩
      ·rw [if_neg c22] at H
       have c22b0 : ((t431.length : Int) == (t425.length : Int)) = false := beq_eq_false_iff_ne.mpr c22
       have c22b1 : ((t431.length : Int) != (t425.length : Int)) = true := bne_iff_ne.mpr c22
       have c22b2 : (t431.length == t425.length) = false := by first | simpa using c22 | (simp at c22 ⊢; omega)
       exact absurd H (by simp)
  ·rw [if_neg c7] at H
   have c7b0 : ((t425.length : Int) == (t428.length : Int)) = false := beq_eq_false_iff_ne.mpr c7
   have c7b1 : ((t425.length : Int) != (t428.length : Int)) = true := bne_iff_ne.mpr c7
   have c7b2 : (t425.length == t428.length) = false := by first | simpa using c7 | (simp at c7 ⊢; omega)
   exact absurd H (by simp)

/-- THE ONE PURE STATEMENT of laws_FnWays: yours. -/
def laws_FnWays.Pure : Prop := ∀ (l0 : List Int), l0.length ≤ maxLen → l0.length * 1 ≤ 140737488351232 → (∀ x ∈ l0, (Lit.int .u8 x).wf = true) → ∃ k, laws_FnWays.f k l0 = some true
theorem laws_FnWays.walk (P : laws_FnWays.Pure) (a0 : Option Addr) (len0 cap0 : Nat) (z0 : List Int) (w : World) (w0 : (a0 = none ∧ len0 = 0 ∧ cap0 = 0 ∧ z0 = []) ∨ ∃ x, a0 = some x ∧ len0 ≤ cap0 ∧ cap0 ≤ maxLen ∧ z0.length = cap0 ∧ (∀ i, i < z0.length → w.cell? (x.add i) = some (.int .u8 (z0.getD i 0))) ∧ ∀ n ∈ z0, (Lit.int .u8 n).wf = true) (y0 : len0 * 1 ≤ 140737488351232) :
  Calls Try.prog 6 #[.slice a0 len0 cap0] w fun e w' => e = .returned (.bool true) ∧ Below w.heap.size w w' := by
 obtain ⟨l0, rfl, hr0, hm0, hw0, hc0⟩ := ReadsInt.ofRowC w0
 obtain ⟨k, h⟩ := P l0 hm0 y0 hw0
 refine (laws_FnWays.calls k _ _ l0 w (Kd.C_of_reads (d := (0 : Int)) (h1 := fun _ => rfl) hr0) hc0 h).mono ?_
 rintro e w' ⟨rfl, hd⟩
 exact ⟨rfl, hd⟩

end Go.Proofs.Ytglehilfemfiiaa.GR
