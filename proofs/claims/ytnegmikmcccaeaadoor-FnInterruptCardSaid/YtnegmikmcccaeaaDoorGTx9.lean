/- Told by a program of this session, out of the translation: each function of the group as a plain Lean function, and that Go's call comes to just its answer. Lean checks it. -/
import Derived.Test.YtnegmikmcccaeaaDoorGTx0
import Derived.Test.YtnegmikmcccaeaaDoorGTx7
import Derived.Test.YtnegmikmcccaeaaDoorGTx8
namespace Go.Proofs.YtnegmikmcccaeaaDoor.GT
open Go.RowKit Go.Proofs.YtnegmikmcccaeaaDoorW.PrintWords Go.Proofs.YtnegmikmcccaeaaDoorW.PrintLast Go.Proofs.YtnegmikmcccaeaaDoorW.PrintMore Go.Proofs.YtnegmikmcccaeaaDoor.Q
attribute [local go_sem] max2_int min2_int max_two min_two max_three min_three max_four min_four   -- for this text's walks alone
set_option linter.unusedVariables false
set_option linter.unusedSimpArgs false

/-! ### spec_DrawHold: function 15 -/
def spec_DrawHold.f (k : Nat) (l0 : List Int) : Option (Bool × Int × Int × Int × Int × Bool × Bool × Int × Int) := (spec_l01New.f k l0).bind fun bt290 => ((spec_l09Virt.f k bt290.1 bt290.2.1 bt290.2.2).bind fun bt294 => ((spec_l01Below.f bt290.1 bt294.2.2.2.2.2.2.2.2.1 bt294.2.2.2.2.2.2.2.2.2 35).bind fun bt305 => (some (bt294.1, bt294.2.1, bt294.2.2.1, bt294.2.2.2.1, bt294.2.2.2.2.1, bt294.2.2.2.2.2.1, bt294.2.2.2.2.2.2.1, bt294.2.2.2.2.2.2.2.1, wrap64 (bt305.1 - 1)))))
theorem spec_DrawHold.mono : ∀ a0 k, LeO (spec_DrawHold.f k a0) (spec_DrawHold.f (k + 1) a0) := by
 intro a0 k
 unfold spec_DrawHold.f
 repeat' first
   | (with_reducible exact spec_l01New.mono _ _)
   | (with_reducible exact spec_l09Virt.mono _ _ _ _)
   | (with_reducible exact LeO.refl _)
   | (with_reducible exact LeO.none _)
   | (with_reducible refine LeO.ite ?_ ?_)
   | (with_reducible refine LeO.bind ?_ (fun _ => ?_))
   | exact spec_l01New.mono _ _
   | exact spec_l09Virt.mono _ _ _ _
   | exact LeO.none _
   | refine LeO.ite ?_ ?_
   | refine LeO.bind ?_ (fun _ => ?_)
set_option maxHeartbeats 8000000 in
set_option maxRecDepth 100000 in
theorem spec_DrawHold.calls (k : Nat) (A0 : Option Addr) (c0 : Nat) (l0 : List Int) (r1 : Bool) (r2 : Int) (r3 : Int) (r4 : Int) (r5 : Int) (r6 : Bool) (r7 : Bool) (r8 : Int) (r9 : Int) (w : World) (hr0 : Kd.C (Kd.int .u8) w A0 l0.length l0) (hc0 : l0.length ≤ c0) (h : spec_DrawHold.f k l0 = some (r1, r2, r3, r4, r5, r6, r7, r8, r9)) :
  Calls Tryd.prog 15 #[.slice A0 l0.length c0] w fun e w' => e = .returned (.tuple #[.agg #[.bool r1, .int .u32 r2, .int .u32 r3, .int .u32 r4, .int .u32 r5, .bool r6, .bool r7, .int .u32 r8], .int .i64 r9]) ∧ Below w.heap.size w w' := by
 have hu26 := Tryd.underlying26
 have HR0 := Aside0.mk hr0
 have HC0 := Aside0.mk hc0
 clear hr0 hc0
 have HB := Aside0.mk (Below.refl w.heap.size w)
 have H : ((spec_l01New.f k l0).bind fun bt290 => ((spec_l09Virt.f k bt290.1 bt290.2.1 bt290.2.2).bind fun bt294 => ((spec_l01Below.f bt290.1 bt294.2.2.2.2.2.2.2.2.1 bt294.2.2.2.2.2.2.2.2.2 35).bind fun bt305 => (some (bt294.1, bt294.2.1, bt294.2.2.1, bt294.2.2.2.1, bt294.2.2.2.2.1, bt294.2.2.2.2.2.1, bt294.2.2.2.2.2.2.1, bt294.2.2.2.2.2.2.2.1, wrap64 (bt305.1 - 1)))))) = some (r1, r2, r3, r4, r5, r6, r7, r8, r9) := h
 clear h
 replace H := Option.bind_eq_some_iff.mp H
 obtain ⟨⟨t290, t291, t292⟩, A20, H⟩ := H
 (try dsimp only at H)
 have A2 := Aside0.mk A20
 clear A20
 replace H := Option.bind_eq_some_iff.mp H
 obtain ⟨⟨t294, t295, t296, t297, t298, t299, t300, t301, t302, t303⟩, A30, H⟩ := H
 (try dsimp only at H)
 have A3 := Aside0.mk A30
 clear A30
 replace H := Option.bind_eq_some_iff.mp H
 obtain ⟨⟨t305, t306, t307⟩, A40, H⟩ := H
 (try dsimp only at H)
 have A4 := Aside0.mk A40
 clear A40
 simp only [Option.some.injEq, Prod.mk.injEq] at H
 obtain ⟨rfl, rfl, rfl, rfl, rfl, rfl, rfl, rfl, rfl⟩ := H
 go_enter Tryd.func15, Tryd.ntmps15
 try go_wp2_with (first | ((with_reducible refine gate_dst (N := 2) rfl ?_); refine box_event ?hg (N := 2) ?hd (cs := #[.bool false, .int .u32 0, .int .u32 0, .int .u32 0, .int .u32 0, .bool false, .bool false, .int .u32 0]) (t := 26) ?hr ?_; (case hd => rfl); (case hg => rfl); (case hr => first | (go_simp; done) | (go_simp; rfl)); intro gb289 hg w5 hbox hb; have n0_ := Aside0.mk (below_step (lq HB.out) hb); have n1_ := Aside0.mk (hbox); have n2_ := Aside0.mk ((ge_new hg (lq HB.out) : w.heap.size ≤ gb289)); have n3_ := Aside0.mk ((ge_new hg (lq HB.out) : w.heap.size ≤ gb289)); clear HB; have HB := n0_; have BK289 := n1_; have GW289 := n2_; have GE289 := n3_; clear n0_ n1_ n2_ n3_; clear hb hbox hg) | ((with_reducible refine gate_callee (f := 22) rfl ?_); refine goesL_ (some 7) rfl rfl Tryd.func22 (by kernel_rfl) rfl #[.slice A0 l0.length c0] rfl (by (try simp only [List.map_toArray, List.map_cons, List.map_nil]); first | done | rfl | (simp only [List.length_drop, List.length_take]; rfl)) ?_; (with_reducible refine (spec_l01New.calls k _ _ l0 t290 t291 t292 w _ ?side1 ?side2 ?side3 A2.out).mono ?_); (case side1 => exact lq HB.out); (case side2 => exact HR0.out); (case side3 => exact HC0.out); rintro e w6 ⟨g293, rfl, hi, hb, hb2⟩; refine ⟨_, rfl, ?_⟩; have n0_ := Aside0.mk (blk_below (bq BK289.out) hb2); have n1_ := Aside0.mk (hb); have n2_ := Aside0.mk (hi); have n3_ := Aside0.mk (IsS56.ne_blk hi (blk_below (bq BK289.out) hb2) (by decide)); have n4_ := Aside0.mk (Ne.symm (IsS56.ne_blk hi (blk_below (bq BK289.out) hb2) (by decide))); clear BK289; clear HB; have BK289 := n0_; have HB := n1_; have HI293 := n2_; have NB293_289 := n3_; have NB289_293 := n4_; clear n0_ n1_ n2_ n3_ n4_; (try clear hb); (try clear hb2); (try clear hk); (try clear hi)) | ((with_reducible refine gate_callee (f := 23) rfl ?_); refine goesL_ (some 9) rfl rfl Tryd.func23 (by kernel_rfl) rfl #[.pointer (some ⟨g293, 0, none⟩)] rfl (by (try simp only [List.map_toArray, List.map_cons, List.map_nil]); first | done | rfl | (simp only [List.length_drop, List.length_take]; rfl)) ?_; (with_reducible refine (spec_l09Virt.calls k g293 t290 t291 t292 t294 t295 t296 t297 t298 t299 t300 t301 t302 t303 w _ ?side1 ?side2 A3.out).mono ?_); (case side1 => repeat (first | (with_reducible first | exact HI293.out | apply IsS56.alloc | apply IsS56.drewN | apply IsS56.drew | apply IsS56.set_1 | apply IsS56.set_2 | refine IsS56.far ?_ NB293_289.out _) | exact HI293.out)); (case side2 => repeat (first | (with_reducible first | exact HB.out | apply below_alloc | apply pw_below_drewN | apply below_drew1 | refine below_set ?_ (IsS56.ge HI293.out) | refine below_set ?_ GE289.out) | exact HB.out)); rintro e w7 ⟨rfl, hi, hb, hk⟩; refine ⟨_, rfl, ?_⟩; have n0_ := Aside0.mk (KeepBut.blk hk (g' := gb289) (o := .cells #[.bool false, .int .u32 0, .int .u32 0, .int .u32 0, .int .u32 0, .bool false, .bool false, .int .u32 0] 26 (0, 0)) (bq BK289.out) NB289_293.out (by simp)); have n1_ := Aside0.mk (hb); have n2_ := Aside0.mk (hi); clear BK289; clear HB; clear HI293; have BK289 := n0_; have HB := n1_; have HI293 := n2_; clear n0_ n1_ n2_; (try clear hb); (try clear hb2); (try clear hk); (try clear hi)) | ((with_reducible refine gate_dst (N := 5) rfl ?_); refine box_event ?hg (N := 5) ?hd (cs := #[.bool false, .int .u32 0, .int .u32 0, .int .u32 0, .int .u32 0, .bool false, .bool false, .int .u32 0]) (t := 26) ?hr ?_; (case hd => rfl); (case hg => rfl); (case hr => first | (go_simp; done) | (go_simp; rfl)); intro gb304 hg w8 hbox hb; have n0_ := Aside0.mk (blk_below (bq BK289.out) hb); have n1_ := Aside0.mk (IsS56.below (by repeat (first | (with_reducible first | exact HI293.out | apply IsS56.alloc | apply IsS56.drewN | apply IsS56.drew | apply IsS56.set_1 | apply IsS56.set_2 | refine IsS56.far ?_ NB293_289.out _) | exact HI293.out)) hb); have n2_ := Aside0.mk (below_step (by repeat (first | (with_reducible first | exact HB.out | apply below_alloc | apply pw_below_drewN | apply below_drew1 | refine below_set ?_ (IsS56.ge HI293.out) | refine below_set ?_ GE289.out) | exact HB.out)) hb); have n3_ := Aside0.mk (hbox); have n4_ := Aside0.mk ((by rw [hg]; exact (below_size (by repeat (first | (with_reducible first | exact HB.out | apply below_alloc | apply pw_below_drewN | apply below_drew1 | refine below_set ?_ (IsS56.ge HI293.out) | refine below_set ?_ GE289.out) | exact HB.out))) : w.heap.size ≤ gb304)); have n5_ := Aside0.mk ((by rw [hg]; exact (below_size (by repeat (first | (with_reducible first | exact HB.out | apply below_alloc | apply pw_below_drewN | apply below_drew1 | refine below_set ?_ (IsS56.ge HI293.out) | refine below_set ?_ GE289.out) | exact HB.out))) : w.heap.size ≤ gb304)); have n6_ := Aside0.mk ((ne_new hg (bq BK289.out) : gb289 ≠ gb304)); have n7_ := Aside0.mk ((new_ne hg (bq BK289.out) : gb304 ≠ gb289)); have n8_ := Aside0.mk ((by rw [hg]; exact Nat.ne_of_lt (IsS56.lt (show IsS56 w _ g293 t290 t302 t303 from by repeat (first | (with_reducible first | exact HI293.out | apply IsS56.alloc | apply IsS56.drewN | apply IsS56.drew | apply IsS56.set_1 | apply IsS56.set_2 | refine IsS56.far ?_ NB293_289.out _) | exact HI293.out))) : g293 ≠ gb304)); have n9_ := Aside0.mk ((by rw [hg]; exact Nat.ne_of_gt (IsS56.lt (show IsS56 w _ g293 t290 t302 t303 from by repeat (first | (with_reducible first | exact HI293.out | apply IsS56.alloc | apply IsS56.drewN | apply IsS56.drew | apply IsS56.set_1 | apply IsS56.set_2 | refine IsS56.far ?_ NB293_289.out _) | exact HI293.out))) : gb304 ≠ g293)); clear BK289; clear HI293; clear HB; have BK289 := n0_; have HI293 := n1_; have HB := n2_; have BK304 := n3_; have GW304 := n4_; have GE304 := n5_; have NB289_304 := n6_; have NB304_289 := n7_; have NB293_304 := n8_; have NB304_293 := n9_; clear n0_ n1_ n2_ n3_ n4_ n5_ n6_ n7_ n8_ n9_; clear hb hbox hg; have hnb9 := NB304_289.out; have hnc9 := NB289_304.out; have hnb10 := NB304_293.out; have hnc10 := NB293_304.out; have hcz11_0 : w8.cell? ⟨gb304, 0, none⟩ = some (.bool false) := (blk_cell BK304.out 0).trans rfl; have hcz11_1 : w8.cell? ⟨gb304, 1, none⟩ = some (.int .u32 0) := (blk_cell BK304.out 1).trans rfl; have hcz11_2 : w8.cell? ⟨gb304, 2, none⟩ = some (.int .u32 0) := (blk_cell BK304.out 2).trans rfl; have hcz11_3 : w8.cell? ⟨gb304, 3, none⟩ = some (.int .u32 0) := (blk_cell BK304.out 3).trans rfl; have hcz11_4 : w8.cell? ⟨gb304, 4, none⟩ = some (.int .u32 0) := (blk_cell BK304.out 4).trans rfl; have hcz11_5 : w8.cell? ⟨gb304, 5, none⟩ = some (.bool false) := (blk_cell BK304.out 5).trans rfl; have hcz11_6 : w8.cell? ⟨gb304, 6, none⟩ = some (.bool false) := (blk_cell BK304.out 6).trans rfl; have hcz11_7 : w8.cell? ⟨gb304, 7, none⟩ = some (.int .u32 0) := (blk_cell BK304.out 7).trans rfl; have hfz11_0 := blk_frozen BK304.out 0; have hfz11_1 := blk_frozen BK304.out 1; have hfz11_2 := blk_frozen BK304.out 2; have hfz11_3 := blk_frozen BK304.out 3; have hfz11_4 := blk_frozen BK304.out 4; have hfz11_5 := blk_frozen BK304.out 5; have hfz11_6 := blk_frozen BK304.out 6; have hfz11_7 := blk_frozen BK304.out 7))
 have n0_ : Aside0 (((((((((w8.setCell ⟨gb304, 0, none⟩ (.bool t294)).setCell ⟨gb304, 1, none⟩ (.int .u32 t295)).setCell ⟨gb304, 2, none⟩ (.int .u32 t296)).setCell ⟨gb304, 3, none⟩ (.int .u32 t297)).setCell ⟨gb304, 4, none⟩ (.int .u32 t298)).setCell ⟨gb304, 5, none⟩ (.bool t299)).setCell ⟨gb304, 6, none⟩ (.bool t300)).setCell ⟨gb304, 7, none⟩ (.int .u32 t301)).heap[gb289]? = some (.cells #[.bool false, .int .u32 0, .int .u32 0, .int .u32 0, .int .u32 0, .bool false, .bool false, .int .u32 0] 26 (0, 0))) := ⟨by (with_reducible repeat (first | refine blk_drewN ?_ _ | refine blk_drew ?_ | refine blk_alloc ?_ _)); refine blk_far ?_ NB289_304.out _; (with_reducible repeat (first | refine blk_drewN ?_ _ | refine blk_drew ?_ | refine blk_alloc ?_ _)); refine blk_far ?_ NB289_304.out _; (with_reducible repeat (first | refine blk_drewN ?_ _ | refine blk_drew ?_ | refine blk_alloc ?_ _)); refine blk_far ?_ NB289_304.out _; (with_reducible repeat (first | refine blk_drewN ?_ _ | refine blk_drew ?_ | refine blk_alloc ?_ _)); refine blk_far ?_ NB289_304.out _; (with_reducible repeat (first | refine blk_drewN ?_ _ | refine blk_drew ?_ | refine blk_alloc ?_ _)); refine blk_far ?_ NB289_304.out _; (with_reducible repeat (first | refine blk_drewN ?_ _ | refine blk_drew ?_ | refine blk_alloc ?_ _)); refine blk_far ?_ NB289_304.out _; (with_reducible repeat (first | refine blk_drewN ?_ _ | refine blk_drew ?_ | refine blk_alloc ?_ _)); refine blk_far ?_ NB289_304.out _; (with_reducible repeat (first | refine blk_drewN ?_ _ | refine blk_drew ?_ | refine blk_alloc ?_ _)); refine blk_far ?_ NB289_304.out _; (with_reducible repeat (first | refine blk_drewN ?_ _ | refine blk_drew ?_ | refine blk_alloc ?_ _)); exact BK289.out⟩
 have n1_ : Aside0 (((((((((w8.setCell ⟨gb304, 0, none⟩ (.bool t294)).setCell ⟨gb304, 1, none⟩ (.int .u32 t295)).setCell ⟨gb304, 2, none⟩ (.int .u32 t296)).setCell ⟨gb304, 3, none⟩ (.int .u32 t297)).setCell ⟨gb304, 4, none⟩ (.int .u32 t298)).setCell ⟨gb304, 5, none⟩ (.bool t299)).setCell ⟨gb304, 6, none⟩ (.bool t300)).setCell ⟨gb304, 7, none⟩ (.int .u32 t301)).heap[gb304]? = some (.cells #[.bool t294, .int .u32 t295, .int .u32 t296, .int .u32 t297, .int .u32 t298, .bool t299, .bool t300, .int .u32 t301] 26 (0, 0))) := ⟨by (with_reducible repeat (first | refine blk_drewN ?_ _ | refine blk_drew ?_ | refine blk_alloc ?_ _)); refine blk_put (cs := #[.bool t294, .int .u32 t295, .int .u32 t296, .int .u32 t297, .int .u32 t298, .bool t299, .bool t300, .int .u32 0]) ?_ 7 _ rfl; (with_reducible repeat (first | refine blk_drewN ?_ _ | refine blk_drew ?_ | refine blk_alloc ?_ _)); refine blk_put (cs := #[.bool t294, .int .u32 t295, .int .u32 t296, .int .u32 t297, .int .u32 t298, .bool t299, .bool false, .int .u32 0]) ?_ 6 _ rfl; (with_reducible repeat (first | refine blk_drewN ?_ _ | refine blk_drew ?_ | refine blk_alloc ?_ _)); refine blk_put (cs := #[.bool t294, .int .u32 t295, .int .u32 t296, .int .u32 t297, .int .u32 t298, .bool false, .bool false, .int .u32 0]) ?_ 5 _ rfl; (with_reducible repeat (first | refine blk_drewN ?_ _ | refine blk_drew ?_ | refine blk_alloc ?_ _)); refine blk_put (cs := #[.bool t294, .int .u32 t295, .int .u32 t296, .int .u32 t297, .int .u32 0, .bool false, .bool false, .int .u32 0]) ?_ 4 _ rfl; (with_reducible repeat (first | refine blk_drewN ?_ _ | refine blk_drew ?_ | refine blk_alloc ?_ _)); refine blk_put (cs := #[.bool t294, .int .u32 t295, .int .u32 t296, .int .u32 0, .int .u32 0, .bool false, .bool false, .int .u32 0]) ?_ 3 _ rfl; (with_reducible repeat (first | refine blk_drewN ?_ _ | refine blk_drew ?_ | refine blk_alloc ?_ _)); refine blk_put (cs := #[.bool t294, .int .u32 t295, .int .u32 0, .int .u32 0, .int .u32 0, .bool false, .bool false, .int .u32 0]) ?_ 2 _ rfl; (with_reducible repeat (first | refine blk_drewN ?_ _ | refine blk_drew ?_ | refine blk_alloc ?_ _)); refine blk_put (cs := #[.bool t294, .int .u32 0, .int .u32 0, .int .u32 0, .int .u32 0, .bool false, .bool false, .int .u32 0]) ?_ 1 _ rfl; (with_reducible repeat (first | refine blk_drewN ?_ _ | refine blk_drew ?_ | refine blk_alloc ?_ _)); refine blk_put (cs := #[.bool false, .int .u32 0, .int .u32 0, .int .u32 0, .int .u32 0, .bool false, .bool false, .int .u32 0]) ?_ 0 _ rfl; (with_reducible repeat (first | refine blk_drewN ?_ _ | refine blk_drew ?_ | refine blk_alloc ?_ _)); exact BK304.out⟩
 have n2_ : Aside0 (IsS56 w ((((((((w8.setCell ⟨gb304, 0, none⟩ (.bool t294)).setCell ⟨gb304, 1, none⟩ (.int .u32 t295)).setCell ⟨gb304, 2, none⟩ (.int .u32 t296)).setCell ⟨gb304, 3, none⟩ (.int .u32 t297)).setCell ⟨gb304, 4, none⟩ (.int .u32 t298)).setCell ⟨gb304, 5, none⟩ (.bool t299)).setCell ⟨gb304, 6, none⟩ (.bool t300)).setCell ⟨gb304, 7, none⟩ (.int .u32 t301)) g293 t290 t302 t303) := ⟨by repeat (first | (with_reducible first | exact HI293.out | apply IsS56.alloc | apply IsS56.drewN | apply IsS56.drew | apply IsS56.set_1 | apply IsS56.set_2 | refine IsS56.far ?_ NB293_289.out _ | refine IsS56.far ?_ NB293_304.out _) | exact HI293.out)⟩
 have n3_ : Aside0 (Below w.heap.size w ((((((((w8.setCell ⟨gb304, 0, none⟩ (.bool t294)).setCell ⟨gb304, 1, none⟩ (.int .u32 t295)).setCell ⟨gb304, 2, none⟩ (.int .u32 t296)).setCell ⟨gb304, 3, none⟩ (.int .u32 t297)).setCell ⟨gb304, 4, none⟩ (.int .u32 t298)).setCell ⟨gb304, 5, none⟩ (.bool t299)).setCell ⟨gb304, 6, none⟩ (.bool t300)).setCell ⟨gb304, 7, none⟩ (.int .u32 t301))) := ⟨by repeat (first | (with_reducible first | exact HB.out | apply below_alloc | apply pw_below_drewN | apply below_drew1 | refine below_set ?_ (IsS56.ge HI293.out) | refine below_set ?_ GE289.out | refine below_set ?_ GE304.out) | exact HB.out)⟩
 (try clear BK289)
 (try clear BK304)
 (try clear HI293)
 (try clear HB)
 generalize ((((((((w8.setCell ⟨gb304, 0, none⟩ (.bool t294)).setCell ⟨gb304, 1, none⟩ (.int .u32 t295)).setCell ⟨gb304, 2, none⟩ (.int .u32 t296)).setCell ⟨gb304, 3, none⟩ (.int .u32 t297)).setCell ⟨gb304, 4, none⟩ (.int .u32 t298)).setCell ⟨gb304, 5, none⟩ (.bool t299)).setCell ⟨gb304, 6, none⟩ (.bool t300)).setCell ⟨gb304, 7, none⟩ (.int .u32 t301)) = w12 at n0_ n1_ n2_ n3_ ⊢
 have BK289 := n0_
 have BK304 := n1_
 have HI293 := n2_
 have HB := n3_
 clear n0_ n1_ n2_ n3_
 have n0_ := Aside0.mk (blk_drew BK289.out)
 have n1_ := Aside0.mk (blk_drew BK304.out)
 have n2_ := Aside0.mk (IsS56.drew HI293.out)
 have n3_ := Aside0.mk (below_drew1 HB.out)
 clear BK289
 clear BK304
 clear HI293
 clear HB
 have BK289 := n0_
 have BK304 := n1_
 have HI293 := n2_
 have HB := n3_
 clear n0_ n1_ n2_ n3_
 refine start_ (n := 6) (S := fun w' => w'.cell? ⟨gb304, 0, none⟩ = some (.bool t294) ∧ w'.cell? ⟨gb304, 1, none⟩ = some (.int .u32 t295) ∧ w'.cell? ⟨gb304, 2, none⟩ = some (.int .u32 t296) ∧ w'.cell? ⟨gb304, 3, none⟩ = some (.int .u32 t297) ∧ w'.cell? ⟨gb304, 4, none⟩ = some (.int .u32 t298) ∧ w'.cell? ⟨gb304, 5, none⟩ = some (.bool t299) ∧ w'.cell? ⟨gb304, 6, none⟩ = some (.bool t300) ∧ w'.cell? ⟨gb304, 7, none⟩ = some (.int .u32 t301)) (ds := []) #[false, false, false, false, false, false] (by kernel_rfl) rfl rfl ⟨(blk_cell BK304.out 0).trans rfl, (blk_cell BK304.out 1).trans rfl, (blk_cell BK304.out 2).trans rfl, (blk_cell BK304.out 3).trans rfl, (blk_cell BK304.out 4).trans rfl, (blk_cell BK304.out 5).trans rfl, (blk_cell BK304.out 6).trans rfl, (blk_cell BK304.out 7).trans rfl⟩ (fun hHeld => ?_)
 generalize w12.drew = w13 at BK289 BK304 HI293 HB hHeld ⊢
 refine pure_ (i := 1) (N := some 11) (v := ?_) (a' := ?_) #[false, true, false, false, false, false] rfl rfl (by kernel_rfl) (fun _ _ _ h => h) (Or.inl ⟨by rfl, ?_⟩) ?_ ?_
 rotate_left
 ·intro w'
  go_simp
  with_reducible rfl
 rotate_left
 ·simp only [Act.put, List.setIfInBounds_toArray, List.set_cons_zero, List.set_cons_succ, i64_w, i32_w]
  rfl
 refine take_ (i := 0) (N := some 10) (v := ?_) (a' := ?_) #[true, true, false, false, false, false] rfl rfl (by kernel_rfl) (fun _ _ _ h => h) (Or.inl ⟨by rfl, ?_⟩) hHeld ?_ ?_
 rotate_left
 ·rintro w' ⟨s0, s1, s2, s3, s4, s5, s6, s7⟩
  go_simp
  with_reducible rfl
 rotate_left
 ·simp only [Act.put, List.setIfInBounds_toArray, List.set_cons_zero, List.set_cons_succ, i64_w, i32_w]
  rfl
 refine one_ (i := 2) (N := some 12) #[true, true, true, false, false, false] rfl rfl (by kernel_rfl) (by decide) (fun K hK => ?_)
 refine goes_ Tryd.func24 (by kernel_rfl) rfl #[.pointer (some ⟨g293, 0, none⟩), .int .i64 35] (by rfl) rfl rfl (by (try simp only [List.map_toArray, List.map_cons, List.map_nil]); first | done | rfl | (simp only [List.length_drop, List.length_take]; rfl)) ?_
 with_reducible refine (spec_l01Below.calls g293 t290 t302 t303 35 t305 t306 t307 w _ ?side1 ?side2 A4.out).mono ?_
 (case side1 => repeat (first | (with_reducible first | exact HI293.out | apply IsS56.alloc | apply IsS56.drewN | apply IsS56.drew | apply IsS56.set_1 | apply IsS56.set_2 | refine IsS56.far ?_ NB293_289.out _ | refine IsS56.far ?_ NB293_304.out _) | exact HI293.out))
 (case side2 => repeat (first | (with_reducible first | exact HB.out | apply below_alloc | apply pw_below_drewN | apply below_drew1 | refine below_set ?_ (IsS56.ge HI293.out) | refine below_set ?_ GE289.out | refine below_set ?_ GE304.out) | exact HB.out))
 rintro e w14 ⟨rfl, hi, hb, hk⟩
 refine ⟨_, rfl, ?_⟩
 have n0_ := Aside0.mk (KeepBut.blk hk (g' := gb289) (o := .cells #[.bool false, .int .u32 0, .int .u32 0, .int .u32 0, .int .u32 0, .bool false, .bool false, .int .u32 0] 26 (0, 0)) (bq BK289.out) NB289_293.out (by simp))
 have n1_ := Aside0.mk (KeepBut.blk hk (g' := gb304) (o := .cells #[.bool t294, .int .u32 t295, .int .u32 t296, .int .u32 t297, .int .u32 t298, .bool t299, .bool t300, .int .u32 t301] 26 (0, 0)) (bq BK304.out) NB304_293.out (by simp))
 have n2_ := Aside0.mk (hb)
 have n3_ := Aside0.mk (hi)
 clear BK289
 clear BK304
 clear HB
 clear HI293
 have BK289 := n0_
 have BK304 := n1_
 have HB := n2_
 have HI293 := n3_
 clear n0_ n1_ n2_ n3_
 (try clear hb)
 (try clear hb2)
 (try clear hk)
 (try clear hi)
 refine hK.out _ _ ⟨(blk_cell BK304.out 0).trans rfl, (blk_cell BK304.out 1).trans rfl, (blk_cell BK304.out 2).trans rfl, (blk_cell BK304.out 3).trans rfl, (blk_cell BK304.out 4).trans rfl, (blk_cell BK304.out 5).trans rfl, (blk_cell BK304.out 6).trans rfl, (blk_cell BK304.out 7).trans rfl⟩ (fun hHeld => ?_)
 clear hK K
 refine norm_ (a' := ?_) ?_ ?_
 rotate_left
 ·show Act.put _ (some 12) _ = _
  simp only [Act.put, List.setIfInBounds_toArray, List.set_cons_zero, List.set_cons_succ, i64_w, i32_w]
  rfl
 refine pure_ (i := 3) (N := some 13) (v := ?_) (a' := ?_) #[true, true, true, true, false, false] rfl rfl (by kernel_rfl) (fun _ _ _ h => h) (Or.inl ⟨by rfl, ?_⟩) ?_ ?_
 rotate_left
 ·intro w'
  go_simp
  with_reducible rfl
 rotate_left
 ·simp only [Act.put, List.setIfInBounds_toArray, List.set_cons_zero, List.set_cons_succ, i64_w, i32_w]
  rfl
 refine one_ (i := 4) (N := none) #[true, true, true, true, true, false] rfl rfl (by kernel_rfl) (by decide) (fun K hK => ?_)
 have hs15 : w14.cell? ⟨gb289, 0, none⟩ = some (.bool false) := (blk_cell BK289.out 0).trans rfl
 have hfs15 := blk_frozen BK289.out 0
 have hns15_1 := NB304_289.out
 have hms15_1 := NB289_304.out
 have hs16 : w14.cell? ⟨gb289, 1, none⟩ = some (.int .u32 0) := (blk_cell BK289.out 1).trans rfl
 have hfs16 := blk_frozen BK289.out 1
 have hns16_1 := NB304_289.out
 have hms16_1 := NB289_304.out
 have hs17 : w14.cell? ⟨gb289, 2, none⟩ = some (.int .u32 0) := (blk_cell BK289.out 2).trans rfl
 have hfs17 := blk_frozen BK289.out 2
 have hns17_1 := NB304_289.out
 have hms17_1 := NB289_304.out
 have hs18 : w14.cell? ⟨gb289, 3, none⟩ = some (.int .u32 0) := (blk_cell BK289.out 3).trans rfl
 have hfs18 := blk_frozen BK289.out 3
 have hns18_1 := NB304_289.out
 have hms18_1 := NB289_304.out
 have hs19 : w14.cell? ⟨gb289, 4, none⟩ = some (.int .u32 0) := (blk_cell BK289.out 4).trans rfl
 have hfs19 := blk_frozen BK289.out 4
 have hns19_1 := NB304_289.out
 have hms19_1 := NB289_304.out
 have hs20 : w14.cell? ⟨gb289, 5, none⟩ = some (.bool false) := (blk_cell BK289.out 5).trans rfl
 have hfs20 := blk_frozen BK289.out 5
 have hns20_1 := NB304_289.out
 have hms20_1 := NB289_304.out
 have hs21 : w14.cell? ⟨gb289, 6, none⟩ = some (.bool false) := (blk_cell BK289.out 6).trans rfl
 have hfs21 := blk_frozen BK289.out 6
 have hns21_1 := NB304_289.out
 have hms21_1 := NB289_304.out
 have hs22 : w14.cell? ⟨gb289, 7, none⟩ = some (.int .u32 0) := (blk_cell BK289.out 7).trans rfl
 have hfs22 := blk_frozen BK289.out 7
 have hns22_1 := NB304_289.out
 have hms22_1 := NB289_304.out
 refine skip_ (w1 := ?_) (by rfl) rfl ?_ ?_
 rotate_left
 ·go_simp
  rfl
 refine hK.out _ _ ⟨((cell_far (p := ⟨gb289, _, none⟩) NB304_289.out _).trans (((cell_far (p := ⟨gb289, _, none⟩) NB304_289.out _).trans (((cell_far (p := ⟨gb289, _, none⟩) NB304_289.out _).trans (((cell_far (p := ⟨gb289, _, none⟩) NB304_289.out _).trans (((cell_far (p := ⟨gb289, _, none⟩) NB304_289.out _).trans (((cell_far (p := ⟨gb289, _, none⟩) NB304_289.out _).trans (((cell_far (p := ⟨gb289, _, none⟩) NB304_289.out _).trans (((cell_far (p := ⟨gb289, _, none⟩) NB304_289.out _).trans (hHeld.1)))))))))))))))), ((cell_far (p := ⟨gb289, _, none⟩) NB304_289.out _).trans (((cell_far (p := ⟨gb289, _, none⟩) NB304_289.out _).trans (((cell_far (p := ⟨gb289, _, none⟩) NB304_289.out _).trans (((cell_far (p := ⟨gb289, _, none⟩) NB304_289.out _).trans (((cell_far (p := ⟨gb289, _, none⟩) NB304_289.out _).trans (((cell_far (p := ⟨gb289, _, none⟩) NB304_289.out _).trans (((cell_far (p := ⟨gb289, _, none⟩) NB304_289.out _).trans (((cell_far (p := ⟨gb289, _, none⟩) NB304_289.out _).trans (hHeld.2.1)))))))))))))))), ((cell_far (p := ⟨gb289, _, none⟩) NB304_289.out _).trans (((cell_far (p := ⟨gb289, _, none⟩) NB304_289.out _).trans (((cell_far (p := ⟨gb289, _, none⟩) NB304_289.out _).trans (((cell_far (p := ⟨gb289, _, none⟩) NB304_289.out _).trans (((cell_far (p := ⟨gb289, _, none⟩) NB304_289.out _).trans (((cell_far (p := ⟨gb289, _, none⟩) NB304_289.out _).trans (((cell_far (p := ⟨gb289, _, none⟩) NB304_289.out _).trans (((cell_far (p := ⟨gb289, _, none⟩) NB304_289.out _).trans (hHeld.2.2.1)))))))))))))))), ((cell_far (p := ⟨gb289, _, none⟩) NB304_289.out _).trans (((cell_far (p := ⟨gb289, _, none⟩) NB304_289.out _).trans (((cell_far (p := ⟨gb289, _, none⟩) NB304_289.out _).trans (((cell_far (p := ⟨gb289, _, none⟩) NB304_289.out _).trans (((cell_far (p := ⟨gb289, _, none⟩) NB304_289.out _).trans (((cell_far (p := ⟨gb289, _, none⟩) NB304_289.out _).trans (((cell_far (p := ⟨gb289, _, none⟩) NB304_289.out _).trans (((cell_far (p := ⟨gb289, _, none⟩) NB304_289.out _).trans (hHeld.2.2.2.1)))))))))))))))), ((cell_far (p := ⟨gb289, _, none⟩) NB304_289.out _).trans (((cell_far (p := ⟨gb289, _, none⟩) NB304_289.out _).trans (((cell_far (p := ⟨gb289, _, none⟩) NB304_289.out _).trans (((cell_far (p := ⟨gb289, _, none⟩) NB304_289.out _).trans (((cell_far (p := ⟨gb289, _, none⟩) NB304_289.out _).trans (((cell_far (p := ⟨gb289, _, none⟩) NB304_289.out _).trans (((cell_far (p := ⟨gb289, _, none⟩) NB304_289.out _).trans (((cell_far (p := ⟨gb289, _, none⟩) NB304_289.out _).trans (hHeld.2.2.2.2.1)))))))))))))))), ((cell_far (p := ⟨gb289, _, none⟩) NB304_289.out _).trans (((cell_far (p := ⟨gb289, _, none⟩) NB304_289.out _).trans (((cell_far (p := ⟨gb289, _, none⟩) NB304_289.out _).trans (((cell_far (p := ⟨gb289, _, none⟩) NB304_289.out _).trans (((cell_far (p := ⟨gb289, _, none⟩) NB304_289.out _).trans (((cell_far (p := ⟨gb289, _, none⟩) NB304_289.out _).trans (((cell_far (p := ⟨gb289, _, none⟩) NB304_289.out _).trans (((cell_far (p := ⟨gb289, _, none⟩) NB304_289.out _).trans (hHeld.2.2.2.2.2.1)))))))))))))))), ((cell_far (p := ⟨gb289, _, none⟩) NB304_289.out _).trans (((cell_far (p := ⟨gb289, _, none⟩) NB304_289.out _).trans (((cell_far (p := ⟨gb289, _, none⟩) NB304_289.out _).trans (((cell_far (p := ⟨gb289, _, none⟩) NB304_289.out _).trans (((cell_far (p := ⟨gb289, _, none⟩) NB304_289.out _).trans (((cell_far (p := ⟨gb289, _, none⟩) NB304_289.out _).trans (((cell_far (p := ⟨gb289, _, none⟩) NB304_289.out _).trans (((cell_far (p := ⟨gb289, _, none⟩) NB304_289.out _).trans (hHeld.2.2.2.2.2.2.1)))))))))))))))), ((cell_far (p := ⟨gb289, _, none⟩) NB304_289.out _).trans (((cell_far (p := ⟨gb289, _, none⟩) NB304_289.out _).trans (((cell_far (p := ⟨gb289, _, none⟩) NB304_289.out _).trans (((cell_far (p := ⟨gb289, _, none⟩) NB304_289.out _).trans (((cell_far (p := ⟨gb289, _, none⟩) NB304_289.out _).trans (((cell_far (p := ⟨gb289, _, none⟩) NB304_289.out _).trans (((cell_far (p := ⟨gb289, _, none⟩) NB304_289.out _).trans (((cell_far (p := ⟨gb289, _, none⟩) NB304_289.out _).trans (hHeld.2.2.2.2.2.2.2))))))))))))))))⟩ (fun hHeld => ?_)
 clear hK K
 refine pure_ (i := 5) (N := some 3) (v := ?_) (a' := ?_) #[true, true, true, true, true, true] rfl rfl (by kernel_rfl) (fun _ _ _ h => h) (Or.inl ⟨by rfl, ?_⟩) ?_ ?_
 rotate_left
 ·intro w'
  go_simp
  with_reducible rfl
 rotate_left
 ·simp only [Act.put, List.setIfInBounds_toArray, List.set_cons_zero, List.set_cons_succ, i64_w, i32_w]
  rfl
 refine done_ (by kernel_rfl) ?_
 try go_wp2
 refine bodyPost_ret (results_ct rfl _ _ gb289 26 #[.bool t294, .int .u32 t295, .int .u32 t296, .int .u32 t297, .int .u32 t298, .bool t299, .bool t300, .int .u32 t301] (0, 0) _ rfl (by (with_reducible repeat (first | refine blk_drewN ?_ _ | refine blk_drew ?_ | refine blk_alloc ?_ _)); refine blk_put (cs := #[.bool t294, .int .u32 t295, .int .u32 t296, .int .u32 t297, .int .u32 t298, .bool t299, .bool t300, .int .u32 0]) ?_ 7 _ rfl; (with_reducible repeat (first | refine blk_drewN ?_ _ | refine blk_drew ?_ | refine blk_alloc ?_ _)); refine blk_put (cs := #[.bool t294, .int .u32 t295, .int .u32 t296, .int .u32 t297, .int .u32 t298, .bool t299, .bool false, .int .u32 0]) ?_ 6 _ rfl; (with_reducible repeat (first | refine blk_drewN ?_ _ | refine blk_drew ?_ | refine blk_alloc ?_ _)); refine blk_put (cs := #[.bool t294, .int .u32 t295, .int .u32 t296, .int .u32 t297, .int .u32 t298, .bool false, .bool false, .int .u32 0]) ?_ 5 _ rfl; (with_reducible repeat (first | refine blk_drewN ?_ _ | refine blk_drew ?_ | refine blk_alloc ?_ _)); refine blk_put (cs := #[.bool t294, .int .u32 t295, .int .u32 t296, .int .u32 t297, .int .u32 0, .bool false, .bool false, .int .u32 0]) ?_ 4 _ rfl; (with_reducible repeat (first | refine blk_drewN ?_ _ | refine blk_drew ?_ | refine blk_alloc ?_ _)); refine blk_put (cs := #[.bool t294, .int .u32 t295, .int .u32 t296, .int .u32 0, .int .u32 0, .bool false, .bool false, .int .u32 0]) ?_ 3 _ rfl; (with_reducible repeat (first | refine blk_drewN ?_ _ | refine blk_drew ?_ | refine blk_alloc ?_ _)); refine blk_put (cs := #[.bool t294, .int .u32 t295, .int .u32 0, .int .u32 0, .int .u32 0, .bool false, .bool false, .int .u32 0]) ?_ 2 _ rfl; (with_reducible repeat (first | refine blk_drewN ?_ _ | refine blk_drew ?_ | refine blk_alloc ?_ _)); refine blk_put (cs := #[.bool t294, .int .u32 0, .int .u32 0, .int .u32 0, .int .u32 0, .bool false, .bool false, .int .u32 0]) ?_ 1 _ rfl; (with_reducible repeat (first | refine blk_drewN ?_ _ | refine blk_drew ?_ | refine blk_alloc ?_ _)); refine blk_put (cs := #[.bool false, .int .u32 0, .int .u32 0, .int .u32 0, .int .u32 0, .bool false, .bool false, .int .u32 0]) ?_ 0 _ rfl; (with_reducible repeat (first | refine blk_drewN ?_ _ | refine blk_drew ?_ | refine blk_alloc ?_ _)); exact BK289.out) Tryd.underlying26 rfl (by kernel_rfl)) rfl ?_
 exact ⟨by first | rfl | (simp [errW_none, errW_some] <;> rfl) | (simp [*, errW_none, errW_some] <;> rfl), by repeat (first | (with_reducible first | exact HB.out | apply below_alloc | apply pw_below_drewN | apply below_drew1 | refine below_set ?_ (IsS56.ge HI293.out) | refine below_set ?_ GE289.out | refine below_set ?_ GE304.out) | exact HB.out)⟩

end Go.Proofs.YtnegmikmcccaeaaDoor.GT
