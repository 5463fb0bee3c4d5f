/- Told by a program of this session, out of the translation: each function of the group as a plain Lean function, and that Go's call comes to just its answer. Lean checks it. -/
import Derived.Test.YtioifcanipijhaaGCx0T
import Derived.Test.YtioifcanipijhaaGCx14T
import Derived.Test.YtioifcanipijhaaGCx17T
import Derived.Test.YtioifcanipijhaaGCx19T
namespace Go.Proofs.Ytioifcanipijhaa.GC
open Go.RowKit Go.Proofs.YtioifcanipijhaaW.PrintWords Go.Proofs.YtioifcanipijhaaW.PrintLast Go.Proofs.YtioifcanipijhaaW.PrintMore Go.Proofs.Ytioifcanipijhaa.Q
attribute [local go_sem] max2_int min2_int max_two min_two max_three min_three max_four min_four   -- for this text's walks alone
set_option linter.unusedVariables false
set_option linter.unusedSimpArgs false

/-! ### spec_DrawBorder: function 43 -/
def spec_DrawBorder.f (k : Nat) (l0 : List Int) : Option (Int × Int × Int × Int × Int × List Int × List Int) := (spec_l01New.f k l0).bind fun bt722 => ((spec_l11Any.f bt722.1 bt722.2.1 bt722.2.2).bind fun bt726 => ((spec_l11Out.f k bt722.1 bt726.2.2.2.2.1 bt726.2.2.2.2.2 bt726.1 bt726.2.1 bt726.2.2.1 bt726.2.2.2.1).bind fun bt733 => ((spec_l11In.f k bt722.1 bt733.2.2.1 bt733.2.2.2 bt726.1 bt726.2.1 bt726.2.2.1 bt726.2.2.2.1 bt733.1).bind fun bt740 => (some (bt726.1, bt726.2.1, bt726.2.2.1, bt726.2.2.2.1, bt733.1, bt733.2.1, bt740.1)))))
def spec_DrawBorder.T4 : Bool × List (List Nat × List Nat) := (true, [([], []), ([], []), ([], []), ([], []), ([], []), ([4], [4]), ([2, 3, 5], [2, 3, 5]), ([0, 6, 0], [0]), ([1, 7, 0, 1, 7], [1]), ([6, 8, 0, 1, 2, 3, 4, 5, 6, 7, 8], [6])])
def spec_DrawBorder.B4 : List Nat := [0, 0, 0, 0, 0, 16, 60, 125, 255, 511]
theorem spec_DrawBorder.tab4 : rtab .any (opsOf Try.f43 4) = spec_DrawBorder.T4 := by kernel_rfl
theorem spec_DrawBorder.bits4 : waitsOk spec_DrawBorder.T4.2 spec_DrawBorder.B4 = true := by kernel_rfl
set_option maxHeartbeats 8000000 in
set_option maxRecDepth 100000 in
theorem spec_DrawBorder.calls (k : Nat) (A0 : Option Addr) (c0 : Nat) (l0 : List Int) (r1 : Int) (r2 : Int) (r3 : Int) (r4 : Int) (r5 : Int) (r6 : List Int) (r7 : List Int) (w : World) (hr0 : Kd.C (Kd.int .u8) w A0 l0.length l0) (hc0 : l0.length ≤ c0) (h : spec_DrawBorder.f k l0 = some (r1, r2, r3, r4, r5, r6, r7)) :
  Calls Try.prog 43 #[.slice A0 l0.length c0] w fun e w' => ∃ v5_ v6_ : Value, e = .returned (.tuple #[.agg #[.int .i64 r1, .int .i64 r2, .int .i64 r3, .int .i64 r4], .agg #[.int .i64 r5, v5_], .agg #[v6_]]) ∧ Kd.R (Kd.int .u32) 46 w' w.heap.size (fun k_ => some k_ ≠ (v6_ : Value).ownBlock) v5_ r6 ∧ Kd.R (Kd.int .u32) 46 w' w.heap.size (fun k_ => some k_ ≠ (v5_ : Value).ownBlock) v6_ r7 ∧ Below w.heap.size w w' := by
 have hu29 := Try.underlying29
 have hu39 := Try.underlying39
 have hu31 := Try.underlying31
 have HR0 := Aside0.mk hr0
 have HC0 := Aside0.mk hc0
 clear hr0 hc0
 have HB := Aside0.mk (Below.refl w.heap.size w)
 have H : ((spec_l01New.f k l0).bind fun bt722 => ((spec_l11Any.f bt722.1 bt722.2.1 bt722.2.2).bind fun bt726 => ((spec_l11Out.f k bt722.1 bt726.2.2.2.2.1 bt726.2.2.2.2.2 bt726.1 bt726.2.1 bt726.2.2.1 bt726.2.2.2.1).bind fun bt733 => ((spec_l11In.f k bt722.1 bt733.2.2.1 bt733.2.2.2 bt726.1 bt726.2.1 bt726.2.2.1 bt726.2.2.2.1 bt733.1).bind fun bt740 => (some (bt726.1, bt726.2.1, bt726.2.2.1, bt726.2.2.2.1, bt733.1, bt733.2.1, bt740.1)))))) = some (r1, r2, r3, r4, r5, r6, r7) := h
 clear h
 replace H := Option.bind_eq_some_iff.mp H
 obtain ⟨⟨t722, t723, t724⟩, A20, H⟩ := H
 (try dsimp only at H)
 have A2 := Aside0.mk A20
 clear A20
 replace H := Option.bind_eq_some_iff.mp H
 obtain ⟨⟨t726, t727, t728, t729, t730, t731⟩, A30, H⟩ := H
 (try dsimp only at H)
 have A3 := Aside0.mk A30
 clear A30
 replace H := Option.bind_eq_some_iff.mp H
 obtain ⟨⟨t733, t734, t737, t738⟩, A40, H⟩ := H
 (try dsimp only at H)
 have A4 := Aside0.mk A40
 clear A40
 replace H := Option.bind_eq_some_iff.mp H
 obtain ⟨⟨t740, t743, t744⟩, A50, H⟩ := H
 (try dsimp only at H)
 have A5 := Aside0.mk A50
 clear A50
 simp only [Option.some.injEq, Prod.mk.injEq] at H
 obtain ⟨rfl, rfl, rfl, rfl, rfl, rfl, rfl⟩ := H
 go_enter Try.func43, Try.ntmps43
 try go_wp2_with (first | ((with_reducible refine gate_dst (N := 2) rfl ?_); refine box_event ?hg (N := 2) ?hd (cs := #[.int .i64 0, .int .i64 0, .int .i64 0, .int .i64 0]) (t := 29) ?hr ?_; (case hd => rfl); (case hg => rfl); (case hr => first | (go_simp; done) | (go_simp; rfl)); intro gb719 hg w6 hbox hb; have n0_ := Aside0.mk (below_step (lq HB.out) hb); have n1_ := Aside0.mk (hbox); have n2_ := Aside0.mk ((ge_new hg (lq HB.out) : w.heap.size ≤ gb719)); have n3_ := Aside0.mk ((ge_new hg (lq HB.out) : w.heap.size ≤ gb719)); clear HB; have HB := n0_; have BK719 := n1_; have GW719 := n2_; have GE719 := n3_; clear n0_ n1_ n2_ n3_; clear hb hbox hg) | ((with_reducible refine gate_dst (N := 3) rfl ?_); refine box_event ?hg (N := 3) ?hd (cs := #[.int .i64 0, .slice none 0 0]) (t := 39) ?hr ?_; (case hd => rfl); (case hg => rfl); (case hr => first | (go_simp; done) | (go_simp; rfl)); intro gb720 hg w7 hbox hb; have n0_ := Aside0.mk (blk_below (bq BK719.out) hb); have n1_ := Aside0.mk (below_step (lq HB.out) hb); have n2_ := Aside0.mk (hbox); have n3_ := Aside0.mk ((ge_new hg (lq HB.out) : w.heap.size ≤ gb720)); have n4_ := Aside0.mk ((ge_new hg (lq HB.out) : w.heap.size ≤ gb720)); have n5_ := Aside0.mk ((ne_new hg (bq BK719.out) : gb719 ≠ gb720)); have n6_ := Aside0.mk ((new_ne hg (bq BK719.out) : gb720 ≠ gb719)); clear BK719; clear HB; have BK719 := n0_; have HB := n1_; have BK720 := n2_; have GW720 := n3_; have GE720 := n4_; have NB719_720 := n5_; have NB720_719 := n6_; clear n0_ n1_ n2_ n3_ n4_ n5_ n6_; clear hb hbox hg) | ((with_reducible refine gate_dst (N := 4) rfl ?_); refine box_event ?hg (N := 4) ?hd (cs := #[.slice none 0 0]) (t := 31) ?hr ?_; (case hd => rfl); (case hg => rfl); (case hr => first | (go_simp; done) | (go_simp; rfl)); intro gb721 hg w8 hbox hb; have n0_ := Aside0.mk (blk_below (bq BK719.out) hb); have n1_ := Aside0.mk (blk_below (bq BK720.out) hb); have n2_ := Aside0.mk (below_step (lq HB.out) hb); have n3_ := Aside0.mk (hbox); have n4_ := Aside0.mk ((ge_new hg (lq HB.out) : w.heap.size ≤ gb721)); have n5_ := Aside0.mk ((ge_new hg (lq HB.out) : w.heap.size ≤ gb721)); have n6_ := Aside0.mk ((ne_new hg (bq BK719.out) : gb719 ≠ gb721)); have n7_ := Aside0.mk ((new_ne hg (bq BK719.out) : gb721 ≠ gb719)); have n8_ := Aside0.mk ((ne_new hg (bq BK720.out) : gb720 ≠ gb721)); have n9_ := Aside0.mk ((new_ne hg (bq BK720.out) : gb721 ≠ gb720)); clear BK719; clear BK720; clear HB; have BK719 := n0_; have BK720 := n1_; have HB := n2_; have BK721 := n3_; have GW721 := n4_; have GE721 := n5_; have NB719_721 := n6_; have NB721_719 := n7_; have NB720_721 := n8_; have NB721_720 := n9_; clear n0_ n1_ n2_ n3_ n4_ n5_ n6_ n7_ n8_ n9_; clear hb hbox hg) | ((with_reducible refine gate_callee (f := 69) rfl ?_); refine goesL_ (some 9) rfl rfl Try.func69 (by kernel_rfl) rfl #[.slice A0 l0.length c0] rfl (by (try simp only [List.map_toArray, List.map_cons, List.map_nil]); first | done | rfl | (simp only [List.length_drop, List.length_take]; rfl)) ?_; (with_reducible refine (spec_l01New.calls k _ _ l0 t722 t723 t724 w _ ?side1 ?side2 ?side3 A2.out).mono ?_); (case side1 => exact lq HB.out); (case side2 => exact HR0.out); (case side3 => exact HC0.out); rintro e w9 ⟨g725, rfl, hi, hb, hb2⟩; refine ⟨_, rfl, ?_⟩; have n0_ := Aside0.mk (blk_below (bq BK719.out) hb2); have n1_ := Aside0.mk (blk_below (bq BK720.out) hb2); have n2_ := Aside0.mk (blk_below (bq BK721.out) hb2); have n3_ := Aside0.mk (hb); have n4_ := Aside0.mk (hi); have n5_ := Aside0.mk (IsS110.ne_blk hi (blk_below (bq BK719.out) hb2) (by decide)); have n6_ := Aside0.mk (Ne.symm (IsS110.ne_blk hi (blk_below (bq BK719.out) hb2) (by decide))); have n7_ := Aside0.mk (IsS110.ne_blk hi (blk_below (bq BK720.out) hb2) (by decide)); have n8_ := Aside0.mk (Ne.symm (IsS110.ne_blk hi (blk_below (bq BK720.out) hb2) (by decide))); have n9_ := Aside0.mk (IsS110.ne_blk hi (blk_below (bq BK721.out) hb2) (by decide)); have n10_ := Aside0.mk (Ne.symm (IsS110.ne_blk hi (blk_below (bq BK721.out) hb2) (by decide))); clear BK719; clear BK720; clear BK721; clear HB; have BK719 := n0_; have BK720 := n1_; have BK721 := n2_; have HB := n3_; have HI725 := n4_; have NB725_719 := n5_; have NB719_725 := n6_; have NB725_720 := n7_; have NB720_725 := n8_; have NB725_721 := n9_; have NB721_725 := n10_; clear n0_ n1_ n2_ n3_ n4_ n5_ n6_ n7_ n8_ n9_ n10_; (try clear hb); (try clear hb2); (try clear hk); (try clear hi)) | ((with_reducible refine gate_callee (f := 70) rfl ?_); refine goesL_ (some 11) rfl rfl Try.func70 (by kernel_rfl) rfl #[.pointer (some ⟨g725, 0, none⟩)] rfl (by (try simp only [List.map_toArray, List.map_cons, List.map_nil]); first | done | rfl | (simp only [List.length_drop, List.length_take]; rfl)) ?_; (with_reducible refine (spec_l11Any.calls g725 t722 t723 t724 t726 t727 t728 t729 t730 t731 w _ ?side1 ?side2 A3.out).mono ?_); (case side1 => repeat (first | (with_reducible first | exact HI725.out | apply IsS110.alloc | apply IsS110.drewN | apply IsS110.drew | refine IsS110.far ?_ NB725_719.out _ | refine IsS110.far ?_ NB725_720.out _ | refine IsS110.far ?_ NB725_721.out _ | apply IsS110.set_1 | apply IsS110.set_2) | exact HI725.out)); (case side2 => repeat (first | (with_reducible first | exact HB.out | apply below_alloc | apply pw_below_drewN | apply below_drew1 | refine below_set ?_ (IsS110.ge HI725.out) | refine below_set ?_ GE719.out | refine below_set ?_ GE720.out | refine below_set ?_ GE721.out) | exact HB.out)); rintro e w10 ⟨rfl, hi, hb, hk⟩; refine ⟨_, rfl, ?_⟩; have n0_ := Aside0.mk (KeepBut.blk hk (g' := gb719) (o := .cells #[.int .i64 0, .int .i64 0, .int .i64 0, .int .i64 0] 29 (0, 0)) (bq BK719.out) NB719_725.out (by simp)); have n1_ := Aside0.mk (KeepBut.blk hk (g' := gb720) (o := .cells #[.int .i64 0, .slice none 0 0] 39 (0, 0)) (bq BK720.out) NB720_725.out (by simp)); have n2_ := Aside0.mk (KeepBut.blk hk (g' := gb721) (o := .cells #[.slice none 0 0] 31 (0, 0)) (bq BK721.out) NB721_725.out (by simp)); have n3_ := Aside0.mk (hb); have n4_ := Aside0.mk (hi); clear BK719; clear BK720; clear BK721; clear HB; clear HI725; have BK719 := n0_; have BK720 := n1_; have BK721 := n2_; have HB := n3_; have HI725 := n4_; clear n0_ n1_ n2_ n3_ n4_; (try clear hb); (try clear hb2); (try clear hk); (try clear hi)) | ((with_reducible refine gate_dst (N := 6) rfl ?_); refine box_event ?hg (N := 6) ?hd (cs := #[.int .i64 0, .int .i64 0, .int .i64 0, .int .i64 0]) (t := 29) ?hr ?_; (case hd => rfl); (case hg => rfl); (case hr => first | (go_simp; done) | (go_simp; rfl)); intro gb732 hg w11 hbox hb; have n0_ := Aside0.mk (blk_below (bq BK719.out) hb); have n1_ := Aside0.mk (blk_below (bq BK720.out) hb); have n2_ := Aside0.mk (blk_below (bq BK721.out) hb); have n3_ := Aside0.mk (IsS110.below (by repeat (first | (with_reducible first | exact HI725.out | apply IsS110.alloc | apply IsS110.drewN | apply IsS110.drew | refine IsS110.far ?_ NB725_719.out _ | refine IsS110.far ?_ NB725_720.out _ | refine IsS110.far ?_ NB725_721.out _ | apply IsS110.set_1 | apply IsS110.set_2) | exact HI725.out)) hb); have n4_ := Aside0.mk (below_step (by repeat (first | (with_reducible first | exact HB.out | apply below_alloc | apply pw_below_drewN | apply below_drew1 | refine below_set ?_ (IsS110.ge HI725.out) | refine below_set ?_ GE719.out | refine below_set ?_ GE720.out | refine below_set ?_ GE721.out) | exact HB.out)) hb); have n5_ := Aside0.mk (hbox); have n6_ := Aside0.mk ((by rw [hg]; exact (below_size (by repeat (first | (with_reducible first | exact HB.out | apply below_alloc | apply pw_below_drewN | apply below_drew1 | refine below_set ?_ (IsS110.ge HI725.out) | refine below_set ?_ GE719.out | refine below_set ?_ GE720.out | refine below_set ?_ GE721.out) | exact HB.out))) : w.heap.size ≤ gb732)); have n7_ := Aside0.mk ((by rw [hg]; exact (below_size (by repeat (first | (with_reducible first | exact HB.out | apply below_alloc | apply pw_below_drewN | apply below_drew1 | refine below_set ?_ (IsS110.ge HI725.out) | refine below_set ?_ GE719.out | refine below_set ?_ GE720.out | refine below_set ?_ GE721.out) | exact HB.out))) : w.heap.size ≤ gb732)); have n8_ := Aside0.mk ((ne_new hg (bq BK719.out) : gb719 ≠ gb732)); have n9_ := Aside0.mk ((new_ne hg (bq BK719.out) : gb732 ≠ gb719)); have n10_ := Aside0.mk ((ne_new hg (bq BK720.out) : gb720 ≠ gb732)); have n11_ := Aside0.mk ((new_ne hg (bq BK720.out) : gb732 ≠ gb720)); have n12_ := Aside0.mk ((ne_new hg (bq BK721.out) : gb721 ≠ gb732)); have n13_ := Aside0.mk ((new_ne hg (bq BK721.out) : gb732 ≠ gb721)); have n14_ := Aside0.mk ((by rw [hg]; exact Nat.ne_of_lt (IsS110.lt (show IsS110 w _ g725 t722 t730 t731 from by repeat (first | (with_reducible first | exact HI725.out | apply IsS110.alloc | apply IsS110.drewN | apply IsS110.drew | refine IsS110.far ?_ NB725_719.out _ | refine IsS110.far ?_ NB725_720.out _ | refine IsS110.far ?_ NB725_721.out _ | apply IsS110.set_1 | apply IsS110.set_2) | exact HI725.out))) : g725 ≠ gb732)); have n15_ := Aside0.mk ((by rw [hg]; exact Nat.ne_of_gt (IsS110.lt (show IsS110 w _ g725 t722 t730 t731 from by repeat (first | (with_reducible first | exact HI725.out | apply IsS110.alloc | apply IsS110.drewN | apply IsS110.drew | refine IsS110.far ?_ NB725_719.out _ | refine IsS110.far ?_ NB725_720.out _ | refine IsS110.far ?_ NB725_721.out _ | apply IsS110.set_1 | apply IsS110.set_2) | exact HI725.out))) : gb732 ≠ g725)); clear BK719; clear BK720; clear BK721; clear HI725; clear HB; have BK719 := n0_; have BK720 := n1_; have BK721 := n2_; have HI725 := n3_; have HB := n4_; have BK732 := n5_; have GW732 := n6_; have GE732 := n7_; have NB719_732 := n8_; have NB732_719 := n9_; have NB720_732 := n10_; have NB732_720 := n11_; have NB721_732 := n12_; have NB732_721 := n13_; have NB725_732 := n14_; have NB732_725 := n15_; clear n0_ n1_ n2_ n3_ n4_ n5_ n6_ n7_ n8_ n9_ n10_ n11_ n12_ n13_ n14_ n15_; clear hb hbox hg; have hnb12 := NB732_719.out; have hnc12 := NB719_732.out; have hnb13 := NB732_720.out; have hnc13 := NB720_732.out; have hnb14 := NB732_721.out; have hnc14 := NB721_732.out; have hnb15 := NB732_725.out; have hnc15 := NB725_732.out; have hcz16_0 : w11.cell? ⟨gb732, 0, none⟩ = some (.int .i64 0) := (blk_cell BK732.out 0).trans rfl; have hcz16_1 : w11.cell? ⟨gb732, 1, none⟩ = some (.int .i64 0) := (blk_cell BK732.out 1).trans rfl; have hcz16_2 : w11.cell? ⟨gb732, 2, none⟩ = some (.int .i64 0) := (blk_cell BK732.out 2).trans rfl; have hcz16_3 : w11.cell? ⟨gb732, 3, none⟩ = some (.int .i64 0) := (blk_cell BK732.out 3).trans rfl; have hfz16_0 := blk_frozen BK732.out 0; have hfz16_1 := blk_frozen BK732.out 1; have hfz16_2 := blk_frozen BK732.out 2; have hfz16_3 := blk_frozen BK732.out 3) | ((with_reducible refine gate_callee (f := 71) rfl ?_); refine goesL_ (some 14) rfl rfl Try.func71 (by kernel_rfl) rfl #[.pointer (some ⟨g725, 0, none⟩), .agg #[.int .i64 t726, .int .i64 t727, .int .i64 t728, .int .i64 t729]] rfl (by (try simp only [List.map_toArray, List.map_cons, List.map_nil]); first | done | rfl | (simp only [List.length_drop, List.length_take]; rfl)) ?_; (with_reducible refine (spec_l11Out.calls k g725 t722 t730 t731 t726 t727 t728 t729 t733 t734 t737 t738 w _ ?side1 ?side2 A4.out).mono ?_); (case side1 => repeat (first | (with_reducible first | exact HI725.out | apply IsS110.alloc | apply IsS110.drewN | apply IsS110.drew | refine IsS110.far ?_ NB725_719.out _ | refine IsS110.far ?_ NB725_720.out _ | refine IsS110.far ?_ NB725_721.out _ | refine IsS110.far ?_ NB725_732.out _ | apply IsS110.set_1 | apply IsS110.set_2) | exact HI725.out)); (case side2 => repeat (first | (with_reducible first | exact HB.out | apply below_alloc | apply pw_below_drewN | apply below_drew1 | refine below_set ?_ (IsS110.ge HI725.out) | refine below_set ?_ GE719.out | refine below_set ?_ GE720.out | refine below_set ?_ GE721.out | refine below_set ?_ GE732.out) | exact HB.out)); rintro e w17 ⟨v735, rfl, ho0, hi, hb, hk⟩; refine ⟨_, rfl, ?_⟩; have n0_ := Aside0.mk (KeepBut.blk hk (g' := gb719) (o := .cells #[.int .i64 0, .int .i64 0, .int .i64 0, .int .i64 0] 29 (0, 0)) (by (with_reducible repeat (first | refine blk_drewN ?_ _ | refine blk_drew ?_ | refine blk_alloc ?_ _)); refine blk_far ?_ NB719_732.out _; (with_reducible repeat (first | refine blk_drewN ?_ _ | refine blk_drew ?_ | refine blk_alloc ?_ _)); refine blk_far ?_ NB719_732.out _; (with_reducible repeat (first | refine blk_drewN ?_ _ | refine blk_drew ?_ | refine blk_alloc ?_ _)); refine blk_far ?_ NB719_732.out _; (with_reducible repeat (first | refine blk_drewN ?_ _ | refine blk_drew ?_ | refine blk_alloc ?_ _)); refine blk_far ?_ NB719_732.out _; (with_reducible repeat (first | refine blk_drewN ?_ _ | refine blk_drew ?_ | refine blk_alloc ?_ _)); exact BK719.out) NB719_725.out (by simp)); have n1_ := Aside0.mk (KeepBut.blk hk (g' := gb720) (o := .cells #[.int .i64 0, .slice none 0 0] 39 (0, 0)) (by (with_reducible repeat (first | refine blk_drewN ?_ _ | refine blk_drew ?_ | refine blk_alloc ?_ _)); refine blk_far ?_ NB720_732.out _; (with_reducible repeat (first | refine blk_drewN ?_ _ | refine blk_drew ?_ | refine blk_alloc ?_ _)); refine blk_far ?_ NB720_732.out _; (with_reducible repeat (first | refine blk_drewN ?_ _ | refine blk_drew ?_ | refine blk_alloc ?_ _)); refine blk_far ?_ NB720_732.out _; (with_reducible repeat (first | refine blk_drewN ?_ _ | refine blk_drew ?_ | refine blk_alloc ?_ _)); refine blk_far ?_ NB720_732.out _; (with_reducible repeat (first | refine blk_drewN ?_ _ | refine blk_drew ?_ | refine blk_alloc ?_ _)); exact BK720.out) NB720_725.out (by simp)); have n2_ := Aside0.mk (KeepBut.blk hk (g' := gb721) (o := .cells #[.slice none 0 0] 31 (0, 0)) (by (with_reducible repeat (first | refine blk_drewN ?_ _ | refine blk_drew ?_ | refine blk_alloc ?_ _)); refine blk_far ?_ NB721_732.out _; (with_reducible repeat (first | refine blk_drewN ?_ _ | refine blk_drew ?_ | refine blk_alloc ?_ _)); refine blk_far ?_ NB721_732.out _; (with_reducible repeat (first | refine blk_drewN ?_ _ | refine blk_drew ?_ | refine blk_alloc ?_ _)); refine blk_far ?_ NB721_732.out _; (with_reducible repeat (first | refine blk_drewN ?_ _ | refine blk_drew ?_ | refine blk_alloc ?_ _)); refine blk_far ?_ NB721_732.out _; (with_reducible repeat (first | refine blk_drewN ?_ _ | refine blk_drew ?_ | refine blk_alloc ?_ _)); exact BK721.out) NB721_725.out (by simp)); have n3_ := Aside0.mk (KeepBut.blk hk (g' := gb732) (o := .cells #[.int .i64 t726, .int .i64 t727, .int .i64 t728, .int .i64 t729] 29 (0, 0)) (by (with_reducible repeat (first | refine blk_drewN ?_ _ | refine blk_drew ?_ | refine blk_alloc ?_ _)); refine blk_put (cs := #[.int .i64 t726, .int .i64 t727, .int .i64 t728, .int .i64 0]) ?_ 3 _ rfl; (with_reducible repeat (first | refine blk_drewN ?_ _ | refine blk_drew ?_ | refine blk_alloc ?_ _)); refine blk_put (cs := #[.int .i64 t726, .int .i64 t727, .int .i64 0, .int .i64 0]) ?_ 2 _ rfl; (with_reducible repeat (first | refine blk_drewN ?_ _ | refine blk_drew ?_ | refine blk_alloc ?_ _)); refine blk_put (cs := #[.int .i64 t726, .int .i64 0, .int .i64 0, .int .i64 0]) ?_ 1 _ rfl; (with_reducible repeat (first | refine blk_drewN ?_ _ | refine blk_drew ?_ | refine blk_alloc ?_ _)); refine blk_put (cs := #[.int .i64 0, .int .i64 0, .int .i64 0, .int .i64 0]) ?_ 0 _ rfl; (with_reducible repeat (first | refine blk_drewN ?_ _ | refine blk_drew ?_ | refine blk_alloc ?_ _)); exact BK732.out) NB732_725.out (by simp)); have n4_ := Aside0.mk (Kd.R_lower ho0 (below_size (by repeat (first | (with_reducible first | exact HB.out | apply below_alloc | apply pw_below_drewN | apply below_drew1 | refine below_set ?_ (IsS110.ge HI725.out) | refine below_set ?_ GE719.out | refine below_set ?_ GE720.out | refine below_set ?_ GE721.out | refine below_set ?_ GE732.out) | exact HB.out)))); have n5_ := Aside0.mk (hb); have n6_ := Aside0.mk (hi); clear BK719; clear BK720; clear BK721; clear BK732; clear HB; clear HI725; have BK719 := n0_; have BK720 := n1_; have BK721 := n2_; have BK732 := n3_; have HO736 := n4_; have HB := n5_; have HI725 := n6_; clear n0_ n1_ n2_ n3_ n4_ n5_ n6_; (try clear hb); (try clear hb2); (try clear hk); (try clear hi); (try clear ho0)) | ((with_reducible refine gate_dst (N := 7) rfl ?_); refine box_event ?hg (N := 7) ?hd (cs := #[.int .i64 0, .slice none 0 0]) (t := 39) ?hr ?_; (case hd => rfl); (case hg => rfl); (case hr => first | (go_simp; done) | (go_simp; rfl)); intro gb739 hg w18 hbox hb; have n0_ := Aside0.mk (Kd.R_below (rq HO736.out) hb); have n1_ := Aside0.mk (blk_below (bq BK719.out) hb); have n2_ := Aside0.mk (blk_below (bq BK720.out) hb); have n3_ := Aside0.mk (blk_below (bq BK721.out) hb); have n4_ := Aside0.mk (IsS110.below (by repeat (first | (with_reducible first | exact HI725.out | apply IsS110.alloc | apply IsS110.drewN | apply IsS110.drew | refine IsS110.far ?_ NB725_719.out _ | refine IsS110.far ?_ NB725_720.out _ | refine IsS110.far ?_ NB725_721.out _ | refine IsS110.far ?_ NB725_732.out _ | apply IsS110.set_1 | apply IsS110.set_2) | exact HI725.out)) hb); have n5_ := Aside0.mk (blk_below (bq BK732.out) hb); have n6_ := Aside0.mk (below_step (by repeat (first | (with_reducible first | exact HB.out | apply below_alloc | apply pw_below_drewN | apply below_drew1 | refine below_set ?_ (IsS110.ge HI725.out) | refine below_set ?_ GE719.out | refine below_set ?_ GE720.out | refine below_set ?_ GE721.out | refine below_set ?_ GE732.out) | exact HB.out)) hb); have n7_ := Aside0.mk (hbox); have n8_ := Aside0.mk ((by rw [hg]; exact (below_size (by repeat (first | (with_reducible first | exact HB.out | apply below_alloc | apply pw_below_drewN | apply below_drew1 | refine below_set ?_ (IsS110.ge HI725.out) | refine below_set ?_ GE719.out | refine below_set ?_ GE720.out | refine below_set ?_ GE721.out | refine below_set ?_ GE732.out) | exact HB.out))) : w.heap.size ≤ gb739)); have n9_ := Aside0.mk ((by rw [hg]; exact (below_size (by repeat (first | (with_reducible first | exact HB.out | apply below_alloc | apply pw_below_drewN | apply below_drew1 | refine below_set ?_ (IsS110.ge HI725.out) | refine below_set ?_ GE719.out | refine below_set ?_ GE720.out | refine below_set ?_ GE721.out | refine below_set ?_ GE732.out) | exact HB.out))) : w.heap.size ≤ gb739)); have n10_ := Aside0.mk ((ne_new hg (bq BK719.out) : gb719 ≠ gb739)); have n11_ := Aside0.mk ((new_ne hg (bq BK719.out) : gb739 ≠ gb719)); have n12_ := Aside0.mk ((ne_new hg (bq BK720.out) : gb720 ≠ gb739)); have n13_ := Aside0.mk ((new_ne hg (bq BK720.out) : gb739 ≠ gb720)); have n14_ := Aside0.mk ((ne_new hg (bq BK721.out) : gb721 ≠ gb739)); have n15_ := Aside0.mk ((new_ne hg (bq BK721.out) : gb739 ≠ gb721)); have n16_ := Aside0.mk ((ne_new hg (bq BK732.out) : gb732 ≠ gb739)); have n17_ := Aside0.mk ((new_ne hg (bq BK732.out) : gb739 ≠ gb732)); have n18_ := Aside0.mk ((by rw [hg]; exact Nat.ne_of_lt (IsS110.lt (show IsS110 w _ g725 t722 t737 t738 from by repeat (first | (with_reducible first | exact HI725.out | apply IsS110.alloc | apply IsS110.drewN | apply IsS110.drew | refine IsS110.far ?_ NB725_719.out _ | refine IsS110.far ?_ NB725_720.out _ | refine IsS110.far ?_ NB725_721.out _ | refine IsS110.far ?_ NB725_732.out _ | apply IsS110.set_1 | apply IsS110.set_2) | exact HI725.out))) : g725 ≠ gb739)); have n19_ := Aside0.mk ((by rw [hg]; exact Nat.ne_of_gt (IsS110.lt (show IsS110 w _ g725 t722 t737 t738 from by repeat (first | (with_reducible first | exact HI725.out | apply IsS110.alloc | apply IsS110.drewN | apply IsS110.drew | refine IsS110.far ?_ NB725_719.out _ | refine IsS110.far ?_ NB725_720.out _ | refine IsS110.far ?_ NB725_721.out _ | refine IsS110.far ?_ NB725_732.out _ | apply IsS110.set_1 | apply IsS110.set_2) | exact HI725.out))) : gb739 ≠ g725)); clear HO736; clear BK719; clear BK720; clear BK721; clear HI725; clear BK732; clear HB; have HO736 := n0_; have BK719 := n1_; have BK720 := n2_; have BK721 := n3_; have HI725 := n4_; have BK732 := n5_; have HB := n6_; have BK739 := n7_; have GW739 := n8_; have GE739 := n9_; have NB719_739 := n10_; have NB739_719 := n11_; have NB720_739 := n12_; have NB739_720 := n13_; have NB721_739 := n14_; have NB739_721 := n15_; have NB732_739 := n16_; have NB739_732 := n17_; have NB725_739 := n18_; have NB739_725 := n19_; clear n0_ n1_ n2_ n3_ n4_ n5_ n6_ n7_ n8_ n9_ n10_ n11_ n12_ n13_ n14_ n15_ n16_ n17_ n18_ n19_; clear hb hbox hg; have hnb19 := NB739_719.out; have hnc19 := NB719_739.out; have hnb20 := NB739_720.out; have hnc20 := NB720_739.out; have hnb21 := NB739_721.out; have hnc21 := NB721_739.out; have hnb22 := NB739_732.out; have hnc22 := NB732_739.out; have hnb23 := NB739_725.out; have hnc23 := NB725_739.out; have hcz24_0 : w18.cell? ⟨gb739, 0, none⟩ = some (.int .i64 0) := (blk_cell BK739.out 0).trans rfl; have hcz24_1 : w18.cell? ⟨gb739, 1, none⟩ = some (.slice none 0 0) := (blk_cell BK739.out 1).trans rfl; have hfz24_0 := blk_frozen BK739.out 0; have hfz24_1 := blk_frozen BK739.out 1; obtain ⟨Ao25, co25, eo25⟩ := Kd.R_slice HO736.out; subst eo25))
 have n0_ : Aside0 (Kd.R (Kd.int .u32) 46 ((w18.setCell ⟨gb739, 0, none⟩ (.int .i64 t733)).setCell ⟨gb739, 1, none⟩ (.slice Ao25 t734.length co25)) w.heap.size (fun _ => True) (.slice Ao25 t734.length co25) t734) := ⟨by (with_reducible repeat (first | apply Kd.R_alloc | apply Kd.R_drewN | apply Kd.R_drew)); exact Kd.R_mono (Kd.R_far (p := ⟨gb739, 1, none⟩) (Kd.R_far (p := ⟨gb739, 0, none⟩) (Kd.R_types HO736.out BK739.out (by decide)) (fun _ hk => hk.2) (.int .i64 t733)) (fun _ hk => hk.2) (.slice Ao25 t734.length co25)) (fun _ hk => trivial)⟩
 have n1_ : Aside0 (((w18.setCell ⟨gb739, 0, none⟩ (.int .i64 t733)).setCell ⟨gb739, 1, none⟩ (.slice Ao25 t734.length co25)).heap[gb719]? = some (.cells #[.int .i64 0, .int .i64 0, .int .i64 0, .int .i64 0] 29 (0, 0))) := ⟨by (with_reducible repeat (first | refine blk_drewN ?_ _ | refine blk_drew ?_ | refine blk_alloc ?_ _)); refine blk_far ?_ NB719_739.out _; (with_reducible repeat (first | refine blk_drewN ?_ _ | refine blk_drew ?_ | refine blk_alloc ?_ _)); refine blk_far ?_ NB719_739.out _; (with_reducible repeat (first | refine blk_drewN ?_ _ | refine blk_drew ?_ | refine blk_alloc ?_ _)); exact BK719.out⟩
 have n2_ : Aside0 (((w18.setCell ⟨gb739, 0, none⟩ (.int .i64 t733)).setCell ⟨gb739, 1, none⟩ (.slice Ao25 t734.length co25)).heap[gb720]? = some (.cells #[.int .i64 0, .slice none 0 0] 39 (0, 0))) := ⟨by (with_reducible repeat (first | refine blk_drewN ?_ _ | refine blk_drew ?_ | refine blk_alloc ?_ _)); refine blk_far ?_ NB720_739.out _; (with_reducible repeat (first | refine blk_drewN ?_ _ | refine blk_drew ?_ | refine blk_alloc ?_ _)); refine blk_far ?_ NB720_739.out _; (with_reducible repeat (first | refine blk_drewN ?_ _ | refine blk_drew ?_ | refine blk_alloc ?_ _)); exact BK720.out⟩
 have n3_ : Aside0 (((w18.setCell ⟨gb739, 0, none⟩ (.int .i64 t733)).setCell ⟨gb739, 1, none⟩ (.slice Ao25 t734.length co25)).heap[gb721]? = some (.cells #[.slice none 0 0] 31 (0, 0))) := ⟨by (with_reducible repeat (first | refine blk_drewN ?_ _ | refine blk_drew ?_ | refine blk_alloc ?_ _)); refine blk_far ?_ NB721_739.out _; (with_reducible repeat (first | refine blk_drewN ?_ _ | refine blk_drew ?_ | refine blk_alloc ?_ _)); refine blk_far ?_ NB721_739.out _; (with_reducible repeat (first | refine blk_drewN ?_ _ | refine blk_drew ?_ | refine blk_alloc ?_ _)); exact BK721.out⟩
 have n4_ : Aside0 (((w18.setCell ⟨gb739, 0, none⟩ (.int .i64 t733)).setCell ⟨gb739, 1, none⟩ (.slice Ao25 t734.length co25)).heap[gb732]? = some (.cells #[.int .i64 t726, .int .i64 t727, .int .i64 t728, .int .i64 t729] 29 (0, 0))) := ⟨by (with_reducible repeat (first | refine blk_drewN ?_ _ | refine blk_drew ?_ | refine blk_alloc ?_ _)); refine blk_far ?_ NB732_739.out _; (with_reducible repeat (first | refine blk_drewN ?_ _ | refine blk_drew ?_ | refine blk_alloc ?_ _)); refine blk_far ?_ NB732_739.out _; (with_reducible repeat (first | refine blk_drewN ?_ _ | refine blk_drew ?_ | refine blk_alloc ?_ _)); exact BK732.out⟩
 have n5_ : Aside0 (((w18.setCell ⟨gb739, 0, none⟩ (.int .i64 t733)).setCell ⟨gb739, 1, none⟩ (.slice Ao25 t734.length co25)).heap[gb739]? = some (.cells #[.int .i64 t733, .slice Ao25 t734.length co25] 39 (0, 0))) := ⟨by (with_reducible repeat (first | refine blk_drewN ?_ _ | refine blk_drew ?_ | refine blk_alloc ?_ _)); refine blk_put (cs := #[.int .i64 t733, .slice none 0 0]) ?_ 1 _ rfl; (with_reducible repeat (first | refine blk_drewN ?_ _ | refine blk_drew ?_ | refine blk_alloc ?_ _)); refine blk_put (cs := #[.int .i64 0, .slice none 0 0]) ?_ 0 _ rfl; (with_reducible repeat (first | refine blk_drewN ?_ _ | refine blk_drew ?_ | refine blk_alloc ?_ _)); exact BK739.out⟩
 have n6_ : Aside0 (IsS110 w ((w18.setCell ⟨gb739, 0, none⟩ (.int .i64 t733)).setCell ⟨gb739, 1, none⟩ (.slice Ao25 t734.length co25)) g725 t722 t737 t738) := ⟨by repeat (first | (with_reducible first | exact HI725.out | apply IsS110.alloc | apply IsS110.drewN | apply IsS110.drew | refine IsS110.far ?_ NB725_719.out _ | refine IsS110.far ?_ NB725_720.out _ | refine IsS110.far ?_ NB725_721.out _ | refine IsS110.far ?_ NB725_732.out _ | refine IsS110.far ?_ NB725_739.out _ | apply IsS110.set_1 | apply IsS110.set_2) | exact HI725.out)⟩
 have n7_ : Aside0 (Below w.heap.size w ((w18.setCell ⟨gb739, 0, none⟩ (.int .i64 t733)).setCell ⟨gb739, 1, none⟩ (.slice Ao25 t734.length co25))) := ⟨by repeat (first | (with_reducible first | exact HB.out | apply below_alloc | apply pw_below_drewN | apply below_drew1 | refine below_set ?_ (IsS110.ge HI725.out) | refine below_set ?_ GE719.out | refine below_set ?_ GE720.out | refine below_set ?_ GE721.out | refine below_set ?_ GE732.out | refine below_set ?_ GE739.out) | exact HB.out)⟩
 (try clear HO736)
 (try clear BK719)
 (try clear BK720)
 (try clear BK721)
 (try clear BK732)
 (try clear BK739)
 (try clear HI725)
 (try clear HB)
 generalize ((w18.setCell ⟨gb739, 0, none⟩ (.int .i64 t733)).setCell ⟨gb739, 1, none⟩ (.slice Ao25 t734.length co25)) = w26 at n0_ n1_ n2_ n3_ n4_ n5_ n6_ n7_ ⊢
 have HO736 := n0_
 have BK719 := n1_
 have BK720 := n2_
 have BK721 := n3_
 have BK732 := n4_
 have BK739 := n5_
 have HI725 := n6_
 have HB := n7_
 clear n0_ n1_ n2_ n3_ n4_ n5_ n6_ n7_
 have n0_ := Aside0.mk (Kd.R_drew HO736.out)
 have n1_ := Aside0.mk (blk_drew BK719.out)
 have n2_ := Aside0.mk (blk_drew BK720.out)
 have n3_ := Aside0.mk (blk_drew BK721.out)
 have n4_ := Aside0.mk (blk_drew BK732.out)
 have n5_ := Aside0.mk (blk_drew BK739.out)
 have n6_ := Aside0.mk (IsS110.drew HI725.out)
 have n7_ := Aside0.mk (below_drew1 HB.out)
 clear HO736
 clear BK719
 clear BK720
 clear BK721
 clear BK732
 clear BK739
 clear HI725
 clear HB
 have HO736 := n0_
 have BK719 := n1_
 have BK720 := n2_
 have BK721 := n3_
 have BK732 := n4_
 have BK739 := n5_
 have HI725 := n6_
 have HB := n7_
 clear n0_ n1_ n2_ n3_ n4_ n5_ n6_ n7_
 refine start_ (n := 10) (S := fun w' => w'.cell? ⟨gb732, 0, none⟩ = some (.int .i64 t726) ∧ w'.cell? ⟨gb732, 1, none⟩ = some (.int .i64 t727) ∧ w'.cell? ⟨gb732, 2, none⟩ = some (.int .i64 t728) ∧ w'.cell? ⟨gb732, 3, none⟩ = some (.int .i64 t729) ∧ w'.cell? ⟨gb739, 0, none⟩ = some (.int .i64 t733) ∧ w'.cell? ⟨gb739, 1, none⟩ = some (.slice Ao25 t734.length co25)) (ds := []) #[false, false, false, false, false, false, false, false, false, false] (by kernel_rfl) rfl rfl ⟨(blk_cell BK732.out 0).trans rfl, (blk_cell BK732.out 1).trans rfl, (blk_cell BK732.out 2).trans rfl, (blk_cell BK732.out 3).trans rfl, (blk_cell BK739.out 0).trans rfl, (blk_cell BK739.out 1).trans rfl⟩ (fun hHeld => ?_); refine with_tabW spec_DrawBorder.tab4 spec_DrawBorder.bits4 (fun HT_ HW_ => ?_)
 generalize w26.drew = w27 at HO736 BK719 BK720 BK721 BK732 BK739 HI725 HB hHeld ⊢
 refine pure_ (i := 2) (N := some 17) (v := ?_) (a' := ?_) #[false, false, true, false, false, false, false, false, false, false] rfl rfl (any_of HT_.out (by kernel_rfl)) (fun _ _ _ h => h) (Or.inl ⟨by rfl, ?_⟩) ?_ ?_
 rotate_left
 ·intro w'
  go_simp
  with_reducible rfl
 rotate_left
 ·simp only [Act.put, List.setIfInBounds_toArray, List.set_cons_zero, List.set_cons_succ, i64_w, i32_w]
  rfl
 refine pure_ (i := 4) (N := some 19) (v := ?_) (a' := ?_) #[false, false, true, false, true, false, false, false, false, false] rfl rfl (any_of HT_.out (by kernel_rfl)) (fun _ _ _ h => h) (Or.inl ⟨by rfl, ?_⟩) ?_ ?_
 rotate_left
 ·intro w'
  go_simp
  with_reducible rfl
 rotate_left
 ·simp only [Act.put, List.setIfInBounds_toArray, List.set_cons_zero, List.set_cons_succ, i64_w, i32_w]
  rfl
 refine take_ (i := 0) (N := some 15) (v := ?_) (a' := ?_) #[true, false, true, false, true, false, false, false, false, false] rfl rfl (take_ofW HT_.out HW_.out (by kernel_rfl)) (fun _ _ _ h => h) (Or.inl ⟨by rfl, ?_⟩) hHeld ?_ ?_
 rotate_left
 ·rintro w' ⟨s0, s1, s2, s3, s4, s5⟩
  go_simp
  with_reducible rfl
 rotate_left
 ·simp only [Act.put, List.setIfInBounds_toArray, List.set_cons_zero, List.set_cons_succ, i64_w, i32_w]
  rfl
 refine take_ (i := 1) (N := some 16) (v := ?_) (a' := ?_) #[true, true, true, false, true, false, false, false, false, false] rfl rfl (take_ofW HT_.out HW_.out (by kernel_rfl)) (fun _ _ _ h => h) (Or.inl ⟨by rfl, ?_⟩) hHeld ?_ ?_
 rotate_left
 ·rintro w' ⟨s0, s1, s2, s3, s4, s5⟩
  go_simp
  with_reducible rfl
 rotate_left
 ·simp only [Act.put, List.setIfInBounds_toArray, List.set_cons_zero, List.set_cons_succ, i64_w, i32_w]
  rfl
 refine take_ (i := 3) (N := some 18) (v := ?_) (a' := ?_) #[true, true, true, true, true, false, false, false, false, false] rfl rfl (take_ofW HT_.out HW_.out (by kernel_rfl)) (fun _ _ _ h => h) (Or.inl ⟨by rfl, ?_⟩) hHeld ?_ ?_
 rotate_left
 ·rintro w' ⟨s0, s1, s2, s3, s4, s5⟩
  go_simp
  with_reducible rfl
 rotate_left
 ·simp only [Act.put, List.setIfInBounds_toArray, List.set_cons_zero, List.set_cons_succ, i64_w, i32_w]
  rfl
 refine take_ (i := 5) (N := some 20) (v := ?_) (a' := ?_) #[true, true, true, true, true, true, false, false, false, false] rfl rfl (take_ofW HT_.out HW_.out (by kernel_rfl)) (fun _ _ _ h => h) (Or.inl ⟨by rfl, ?_⟩) hHeld ?_ ?_
 rotate_left
 ·rintro w' ⟨s0, s1, s2, s3, s4, s5⟩
  go_simp
  with_reducible rfl
 rotate_left
 ·simp only [Act.put, List.setIfInBounds_toArray, List.set_cons_zero, List.set_cons_succ, i64_w, i32_w]
  rfl
 refine one_ (i := 6) (N := some 21) #[true, true, true, true, true, true, true, false, false, false] rfl rfl (one_of HT_.out (by kernel_rfl)) (by decide) (fun K hK => ?_)
 refine goes_ Try.func72 (by kernel_rfl) rfl #[.pointer (some ⟨g725, 0, none⟩), .agg #[.int .i64 t726, .int .i64 t727, .int .i64 t728, .int .i64 t729], .int .i64 t733] (by rfl) rfl rfl (by (try simp only [List.map_toArray, List.map_cons, List.map_nil]); first | done | rfl | (simp only [List.length_drop, List.length_take]; rfl)) ?_
 with_reducible refine (spec_l11In.calls k g725 t722 t737 t738 t726 t727 t728 t729 t733 t740 t743 t744 w _ ?side1 ?side2 A5.out).mono ?_
 (case side1 => repeat (first | (with_reducible first | exact HI725.out | apply IsS110.alloc | apply IsS110.drewN | apply IsS110.drew | refine IsS110.far ?_ NB725_719.out _ | refine IsS110.far ?_ NB725_720.out _ | refine IsS110.far ?_ NB725_721.out _ | refine IsS110.far ?_ NB725_732.out _ | refine IsS110.far ?_ NB725_739.out _ | apply IsS110.set_1 | apply IsS110.set_2) | exact HI725.out))
 (case side2 => repeat (first | (with_reducible first | exact HB.out | apply below_alloc | apply pw_below_drewN | apply below_drew1 | refine below_set ?_ (IsS110.ge HI725.out) | refine below_set ?_ GE719.out | refine below_set ?_ GE720.out | refine below_set ?_ GE721.out | refine below_set ?_ GE732.out | refine below_set ?_ GE739.out) | exact HB.out))
 rintro e w28 ⟨v741, rfl, ho0, hi, hb, hk⟩
 refine ⟨_, rfl, ?_⟩
 have n0_ := Aside0.mk (KeepBut.blk hk (g' := gb719) (o := .cells #[.int .i64 0, .int .i64 0, .int .i64 0, .int .i64 0] 29 (0, 0)) (bq BK719.out) NB719_725.out (by simp))
 have n1_ := Aside0.mk (KeepBut.blk hk (g' := gb720) (o := .cells #[.int .i64 0, .slice none 0 0] 39 (0, 0)) (bq BK720.out) NB720_725.out (by simp))
 have n2_ := Aside0.mk (KeepBut.blk hk (g' := gb721) (o := .cells #[.slice none 0 0] 31 (0, 0)) (bq BK721.out) NB721_725.out (by simp))
 have n3_ := Aside0.mk (KeepBut.blk hk (g' := gb732) (o := .cells #[.int .i64 t726, .int .i64 t727, .int .i64 t728, .int .i64 t729] 29 (0, 0)) (bq BK732.out) NB732_725.out (by simp))
 have n4_ := Aside0.mk (Kd.R_mono (Kd.R_told (Kd.R_oldK (IsS110.apart (show IsS110 w _ g725 t722 t737 t738 from by repeat (first | (with_reducible first | exact HI725.out | apply IsS110.alloc | apply IsS110.drewN | apply IsS110.drew | refine IsS110.far ?_ NB725_719.out _ | refine IsS110.far ?_ NB725_720.out _ | refine IsS110.far ?_ NB725_721.out _ | refine IsS110.far ?_ NB725_732.out _ | refine IsS110.far ?_ NB725_739.out _ | apply IsS110.set_1 | apply IsS110.set_2) | exact HI725.out)) (rq HO736.out) (by decide)) hk) (Kd.R_base ho0)) (fun _ h_ => h_.1))
 have n5_ := Aside0.mk (KeepBut.blk hk (g' := gb739) (o := .cells #[.int .i64 t733, .slice Ao25 t734.length co25] 39 (0, 0)) (bq BK739.out) NB739_725.out (by simp))
 have n6_ := Aside0.mk (Kd.R_lower (Kd.R_new' ho0 (Kd.R_lt (rq HO736.out))) (below_size (by repeat (first | (with_reducible first | exact HB.out | apply below_alloc | apply pw_below_drewN | apply below_drew1 | refine below_set ?_ (IsS110.ge HI725.out) | refine below_set ?_ GE719.out | refine below_set ?_ GE720.out | refine below_set ?_ GE721.out | refine below_set ?_ GE732.out | refine below_set ?_ GE739.out) | exact HB.out))))
 have n7_ := Aside0.mk (hb)
 have n8_ := Aside0.mk (hi)
 clear BK719
 clear BK720
 clear BK721
 clear BK732
 clear HO736
 clear BK739
 clear HB
 clear HI725
 have BK719 := n0_
 have BK720 := n1_
 have BK721 := n2_
 have BK732 := n3_
 have HO736 := n4_
 have BK739 := n5_
 have HO742 := n6_
 have HB := n7_
 have HI725 := n8_
 clear n0_ n1_ n2_ n3_ n4_ n5_ n6_ n7_ n8_
 (try clear hb)
 (try clear hb2)
 (try clear hk)
 (try clear hi)
 (try clear ho0)
 obtain ⟨Ao35, co35, eo35⟩ := Kd.R_slice HO742.out
 (first | subst eo35 | (injection eo35 with f1_ f2_ f3_; have f4_ := f1_.symm; have f5_ := f3_.symm; clear f1_ f2_ f3_; subst f4_; subst f5_))
 refine hK.out _ _ ⟨(blk_cell BK732.out 0).trans rfl, (blk_cell BK732.out 1).trans rfl, (blk_cell BK732.out 2).trans rfl, (blk_cell BK732.out 3).trans rfl, (blk_cell BK739.out 0).trans rfl, (blk_cell BK739.out 1).trans rfl⟩ (fun hHeld => ?_)
 clear hK K
 refine norm_ (a' := ?_) ?_ ?_
 rotate_left
 ·show Act.put _ (some 21) _ = _
  simp only [Act.put, List.setIfInBounds_toArray, List.set_cons_zero, List.set_cons_succ, i64_w, i32_w]
  rfl
 refine one_ (i := 7) (N := none) #[true, true, true, true, true, true, true, true, false, false] rfl rfl (one_of HT_.out (by kernel_rfl)) (by decide) (fun K hK => ?_)
 have hs29 : w28.cell? ⟨gb719, 0, none⟩ = some (.int .i64 0) := (blk_cell BK719.out 0).trans rfl
 have hfs29 := blk_frozen BK719.out 0
 have hns29_1 := NB720_719.out
 have hns29_2 := NB721_719.out
 have hns29_3 := NB732_719.out
 have hns29_4 := NB739_719.out
 have hms29_1 := NB719_720.out
 have hms29_2 := NB719_721.out
 have hms29_3 := NB719_732.out
 have hms29_4 := NB719_739.out
 have hs30 : w28.cell? ⟨gb719, 1, none⟩ = some (.int .i64 0) := (blk_cell BK719.out 1).trans rfl
 have hfs30 := blk_frozen BK719.out 1
 have hns30_1 := NB720_719.out
 have hns30_2 := NB721_719.out
 have hns30_3 := NB732_719.out
 have hns30_4 := NB739_719.out
 have hms30_1 := NB719_720.out
 have hms30_2 := NB719_721.out
 have hms30_3 := NB719_732.out
 have hms30_4 := NB719_739.out
 have hs31 : w28.cell? ⟨gb719, 2, none⟩ = some (.int .i64 0) := (blk_cell BK719.out 2).trans rfl
 have hfs31 := blk_frozen BK719.out 2
 have hns31_1 := NB720_719.out
 have hns31_2 := NB721_719.out
 have hns31_3 := NB732_719.out
 have hns31_4 := NB739_719.out
 have hms31_1 := NB719_720.out
 have hms31_2 := NB719_721.out
 have hms31_3 := NB719_732.out
 have hms31_4 := NB719_739.out
 have hs32 : w28.cell? ⟨gb719, 3, none⟩ = some (.int .i64 0) := (blk_cell BK719.out 3).trans rfl
 have hfs32 := blk_frozen BK719.out 3
 have hns32_1 := NB720_719.out
 have hns32_2 := NB721_719.out
 have hns32_3 := NB732_719.out
 have hns32_4 := NB739_719.out
 have hms32_1 := NB719_720.out
 have hms32_2 := NB719_721.out
 have hms32_3 := NB719_732.out
 have hms32_4 := NB719_739.out
 refine skip_ (w1 := ?_) (by rfl) rfl ?_ ?_
 rotate_left
 ·go_simp
  rfl
 refine hK.out _ _ ⟨((cell_far (p := ⟨gb719, _, none⟩) NB732_719.out _).trans (((cell_far (p := ⟨gb719, _, none⟩) NB732_719.out _).trans (((cell_far (p := ⟨gb719, _, none⟩) NB732_719.out _).trans (((cell_far (p := ⟨gb719, _, none⟩) NB732_719.out _).trans (hHeld.1)))))))), ((cell_far (p := ⟨gb719, _, none⟩) NB732_719.out _).trans (((cell_far (p := ⟨gb719, _, none⟩) NB732_719.out _).trans (((cell_far (p := ⟨gb719, _, none⟩) NB732_719.out _).trans (((cell_far (p := ⟨gb719, _, none⟩) NB732_719.out _).trans (hHeld.2.1)))))))), ((cell_far (p := ⟨gb719, _, none⟩) NB732_719.out _).trans (((cell_far (p := ⟨gb719, _, none⟩) NB732_719.out _).trans (((cell_far (p := ⟨gb719, _, none⟩) NB732_719.out _).trans (((cell_far (p := ⟨gb719, _, none⟩) NB732_719.out _).trans (hHeld.2.2.1)))))))), ((cell_far (p := ⟨gb719, _, none⟩) NB732_719.out _).trans (((cell_far (p := ⟨gb719, _, none⟩) NB732_719.out _).trans (((cell_far (p := ⟨gb719, _, none⟩) NB732_719.out _).trans (((cell_far (p := ⟨gb719, _, none⟩) NB732_719.out _).trans (hHeld.2.2.2.1)))))))), ((cell_far (p := ⟨gb719, _, none⟩) NB739_719.out _).trans (((cell_far (p := ⟨gb719, _, none⟩) NB739_719.out _).trans (((cell_far (p := ⟨gb719, _, none⟩) NB739_719.out _).trans (((cell_far (p := ⟨gb719, _, none⟩) NB739_719.out _).trans (hHeld.2.2.2.2.1)))))))), ((cell_far (p := ⟨gb719, _, none⟩) NB739_719.out _).trans (((cell_far (p := ⟨gb719, _, none⟩) NB739_719.out _).trans (((cell_far (p := ⟨gb719, _, none⟩) NB739_719.out _).trans (((cell_far (p := ⟨gb719, _, none⟩) NB739_719.out _).trans (hHeld.2.2.2.2.2))))))))⟩ (fun hHeld => ?_)
 clear hK K
 refine one_ (i := 8) (N := none) #[true, true, true, true, true, true, true, true, true, false] rfl rfl (one_of HT_.out (by kernel_rfl)) (by decide) (fun K hK => ?_)
 have hs33 : w28.cell? ⟨gb720, 0, none⟩ = some (.int .i64 0) := (blk_cell BK720.out 0).trans rfl
 have hfs33 := blk_frozen BK720.out 0
 have hns33_0 := NB719_720.out
 have hns33_2 := NB721_720.out
 have hns33_3 := NB732_720.out
 have hns33_4 := NB739_720.out
 have hms33_0 := NB720_719.out
 have hms33_2 := NB720_721.out
 have hms33_3 := NB720_732.out
 have hms33_4 := NB720_739.out
 have hs34 : w28.cell? ⟨gb720, 1, none⟩ = some (.slice none 0 0) := (blk_cell BK720.out 1).trans rfl
 have hfs34 := blk_frozen BK720.out 1
 have hns34_0 := NB719_720.out
 have hns34_2 := NB721_720.out
 have hns34_3 := NB732_720.out
 have hns34_4 := NB739_720.out
 have hms34_0 := NB720_719.out
 have hms34_2 := NB720_721.out
 have hms34_3 := NB720_732.out
 have hms34_4 := NB720_739.out
 refine skip_ (w1 := ?_) (by rfl) rfl ?_ ?_
 rotate_left
 ·go_simp
  rfl
 refine hK.out _ _ ⟨((cell_far (p := ⟨gb720, _, none⟩) NB732_720.out _).trans (((cell_far (p := ⟨gb720, _, none⟩) NB732_720.out _).trans (hHeld.1)))), ((cell_far (p := ⟨gb720, _, none⟩) NB732_720.out _).trans (((cell_far (p := ⟨gb720, _, none⟩) NB732_720.out _).trans (hHeld.2.1)))), ((cell_far (p := ⟨gb720, _, none⟩) NB732_720.out _).trans (((cell_far (p := ⟨gb720, _, none⟩) NB732_720.out _).trans (hHeld.2.2.1)))), ((cell_far (p := ⟨gb720, _, none⟩) NB732_720.out _).trans (((cell_far (p := ⟨gb720, _, none⟩) NB732_720.out _).trans (hHeld.2.2.2.1)))), ((cell_far (p := ⟨gb720, _, none⟩) NB739_720.out _).trans (((cell_far (p := ⟨gb720, _, none⟩) NB739_720.out _).trans (hHeld.2.2.2.2.1)))), ((cell_far (p := ⟨gb720, _, none⟩) NB739_720.out _).trans (((cell_far (p := ⟨gb720, _, none⟩) NB739_720.out _).trans (hHeld.2.2.2.2.2))))⟩ (fun hHeld => ?_)
 clear hK K
 refine one_ (i := 9) (N := none) #[true, true, true, true, true, true, true, true, true, true] rfl rfl (one_of HT_.out (by kernel_rfl)) (by decide) (fun K hK => ?_)
 have hs36 : w28.cell? ⟨gb721, 0, none⟩ = some (.slice none 0 0) := (blk_cell BK721.out 0).trans rfl
 have hfs36 := blk_frozen BK721.out 0
 have hns36_0 := NB719_721.out
 have hns36_1 := NB720_721.out
 have hns36_3 := NB732_721.out
 have hns36_4 := NB739_721.out
 have hms36_0 := NB721_719.out
 have hms36_1 := NB721_720.out
 have hms36_3 := NB721_732.out
 have hms36_4 := NB721_739.out
 refine skip_ (w1 := ?_) (by rfl) rfl ?_ ?_
 rotate_left
 ·go_simp
  rfl
 refine hK.out _ _ ⟨((cell_far (p := ⟨gb721, _, none⟩) NB732_721.out _).trans (hHeld.1)), ((cell_far (p := ⟨gb721, _, none⟩) NB732_721.out _).trans (hHeld.2.1)), ((cell_far (p := ⟨gb721, _, none⟩) NB732_721.out _).trans (hHeld.2.2.1)), ((cell_far (p := ⟨gb721, _, none⟩) NB732_721.out _).trans (hHeld.2.2.2.1)), ((cell_far (p := ⟨gb721, _, none⟩) NB739_721.out _).trans (hHeld.2.2.2.2.1)), ((cell_far (p := ⟨gb721, _, none⟩) NB739_721.out _).trans (hHeld.2.2.2.2.2))⟩ (fun hHeld => ?_)
 clear hK K
 refine done_ (done_of HT_.out (by kernel_rfl)) ?_
 try go_wp2
 refine bodyPost_ret (results_list (rs := [.cell 2 29, .cell 3 39, .cell 4 31]) rfl (by simp) (.cell gb719 29 #[.int .i64 t726, .int .i64 t727, .int .i64 t728, .int .i64 t729] (0, 0) _ rfl (by (with_reducible repeat (first | refine blk_drewN ?_ _ | refine blk_drew ?_ | refine blk_alloc ?_ _)); refine blk_far ?_ NB719_721.out _; (with_reducible repeat (first | refine blk_drewN ?_ _ | refine blk_drew ?_ | refine blk_alloc ?_ _)); refine blk_far ?_ NB719_720.out _; (with_reducible repeat (first | refine blk_drewN ?_ _ | refine blk_drew ?_ | refine blk_alloc ?_ _)); refine blk_far ?_ NB719_720.out _; (with_reducible repeat (first | refine blk_drewN ?_ _ | refine blk_drew ?_ | refine blk_alloc ?_ _)); refine blk_put (cs := #[.int .i64 t726, .int .i64 t727, .int .i64 t728, .int .i64 0]) ?_ 3 _ rfl; (with_reducible repeat (first | refine blk_drewN ?_ _ | refine blk_drew ?_ | refine blk_alloc ?_ _)); refine blk_put (cs := #[.int .i64 t726, .int .i64 t727, .int .i64 0, .int .i64 0]) ?_ 2 _ rfl; (with_reducible repeat (first | refine blk_drewN ?_ _ | refine blk_drew ?_ | refine blk_alloc ?_ _)); refine blk_put (cs := #[.int .i64 t726, .int .i64 0, .int .i64 0, .int .i64 0]) ?_ 1 _ rfl; (with_reducible repeat (first | refine blk_drewN ?_ _ | refine blk_drew ?_ | refine blk_alloc ?_ _)); refine blk_put (cs := #[.int .i64 0, .int .i64 0, .int .i64 0, .int .i64 0]) ?_ 0 _ rfl; (with_reducible repeat (first | refine blk_drewN ?_ _ | refine blk_drew ?_ | refine blk_alloc ?_ _)); exact BK719.out) Try.underlying29 rfl (by kernel_rfl) (.cell gb720 39 #[.int .i64 t733, .slice Ao25 t734.length co25] (0, 0) _ rfl (by (with_reducible repeat (first | refine blk_drewN ?_ _ | refine blk_drew ?_ | refine blk_alloc ?_ _)); refine blk_far ?_ NB720_721.out _; (with_reducible repeat (first | refine blk_drewN ?_ _ | refine blk_drew ?_ | refine blk_alloc ?_ _)); refine blk_put (cs := #[.int .i64 t733, .slice none 0 0]) ?_ 1 _ rfl; (with_reducible repeat (first | refine blk_drewN ?_ _ | refine blk_drew ?_ | refine blk_alloc ?_ _)); refine blk_put (cs := #[.int .i64 0, .slice none 0 0]) ?_ 0 _ rfl; (with_reducible repeat (first | refine blk_drewN ?_ _ | refine blk_drew ?_ | refine blk_alloc ?_ _)); refine blk_far ?_ NB720_719.out _; (with_reducible repeat (first | refine blk_drewN ?_ _ | refine blk_drew ?_ | refine blk_alloc ?_ _)); refine blk_far ?_ NB720_719.out _; (with_reducible repeat (first | refine blk_drewN ?_ _ | refine blk_drew ?_ | refine blk_alloc ?_ _)); refine blk_far ?_ NB720_719.out _; (with_reducible repeat (first | refine blk_drewN ?_ _ | refine blk_drew ?_ | refine blk_alloc ?_ _)); refine blk_far ?_ NB720_719.out _; (with_reducible repeat (first | refine blk_drewN ?_ _ | refine blk_drew ?_ | refine blk_alloc ?_ _)); exact BK720.out) Try.underlying39 rfl (by kernel_rfl) (.cell gb721 31 #[.slice Ao35 t740.length co35] (0, 0) _ rfl (by (with_reducible repeat (first | refine blk_drewN ?_ _ | refine blk_drew ?_ | refine blk_alloc ?_ _)); refine blk_put (cs := #[.slice none 0 0]) ?_ 0 _ rfl; (with_reducible repeat (first | refine blk_drewN ?_ _ | refine blk_drew ?_ | refine blk_alloc ?_ _)); refine blk_far ?_ NB721_720.out _; (with_reducible repeat (first | refine blk_drewN ?_ _ | refine blk_drew ?_ | refine blk_alloc ?_ _)); refine blk_far ?_ NB721_720.out _; (with_reducible repeat (first | refine blk_drewN ?_ _ | refine blk_drew ?_ | refine blk_alloc ?_ _)); refine blk_far ?_ NB721_719.out _; (with_reducible repeat (first | refine blk_drewN ?_ _ | refine blk_drew ?_ | refine blk_alloc ?_ _)); refine blk_far ?_ NB721_719.out _; (with_reducible repeat (first | refine blk_drewN ?_ _ | refine blk_drew ?_ | refine blk_alloc ?_ _)); refine blk_far ?_ NB721_719.out _; (with_reducible repeat (first | refine blk_drewN ?_ _ | refine blk_drew ?_ | refine blk_alloc ?_ _)); refine blk_far ?_ NB721_719.out _; (with_reducible repeat (first | refine blk_drewN ?_ _ | refine blk_drew ?_ | refine blk_alloc ?_ _)); exact BK721.out) Try.underlying31 rfl (by kernel_rfl) .nil)))) rfl ?_
 exact ⟨_, _, by first | rfl | (simp [errW_none, errW_some] <;> rfl) | (simp [*, errW_none, errW_some] <;> rfl), by (with_reducible repeat (first | apply Kd.R_alloc | apply Kd.R_drewN | apply Kd.R_drew)); exact Kd.R_mono (Kd.R_far (p := ⟨gb721, 0, none⟩) (Kd.R_far (p := ⟨gb720, 1, none⟩) (Kd.R_far (p := ⟨gb720, 0, none⟩) (Kd.R_far (p := ⟨gb719, 3, none⟩) (Kd.R_far (p := ⟨gb719, 2, none⟩) (Kd.R_far (p := ⟨gb719, 1, none⟩) (Kd.R_far (p := ⟨gb719, 0, none⟩) (Kd.R_types (Kd.R_types (Kd.R_types HO736.out BK719.out (by decide)) BK720.out (by decide)) BK721.out (by decide)) (fun _ hk => hk.1.1.2) (.int .i64 t726)) (fun _ hk => hk.1.1.2) (.int .i64 t727)) (fun _ hk => hk.1.1.2) (.int .i64 t728)) (fun _ hk => hk.1.1.2) (.int .i64 t729)) (fun _ hk => hk.1.2) (.int .i64 t733)) (fun _ hk => hk.1.2) (.slice Ao25 t734.length co25)) (fun _ hk => hk.2) (.slice Ao35 t740.length co35)) (fun _ hk => hk.1.1.1.2), by (with_reducible repeat (first | apply Kd.R_alloc | apply Kd.R_drewN | apply Kd.R_drew)); exact Kd.R_mono (Kd.R_far (p := ⟨gb721, 0, none⟩) (Kd.R_far (p := ⟨gb720, 1, none⟩) (Kd.R_far (p := ⟨gb720, 0, none⟩) (Kd.R_far (p := ⟨gb719, 3, none⟩) (Kd.R_far (p := ⟨gb719, 2, none⟩) (Kd.R_far (p := ⟨gb719, 1, none⟩) (Kd.R_far (p := ⟨gb719, 0, none⟩) (Kd.R_types (Kd.R_types (Kd.R_types HO742.out BK719.out (by decide)) BK720.out (by decide)) BK721.out (by decide)) (fun _ hk => hk.1.1.2) (.int .i64 t726)) (fun _ hk => hk.1.1.2) (.int .i64 t727)) (fun _ hk => hk.1.1.2) (.int .i64 t728)) (fun _ hk => hk.1.1.2) (.int .i64 t729)) (fun _ hk => hk.1.2) (.int .i64 t733)) (fun _ hk => hk.1.2) (.slice Ao25 t734.length co25)) (fun _ hk => hk.2) (.slice Ao35 t740.length co35)) (fun _ hk => hk.1.1.1.2), by repeat (first | (with_reducible first | exact HB.out | apply below_alloc | apply pw_below_drewN | apply below_drew1 | refine below_set ?_ (IsS110.ge HI725.out) | refine below_set ?_ GE719.out | refine below_set ?_ GE720.out | refine below_set ?_ GE721.out | refine below_set ?_ GE732.out | refine below_set ?_ GE739.out) | exact HB.out)⟩

/-! ### laws_at: function 73 -/
def laws_at.f (l0 : List Int) (a1 : Int) : Option (Int) := if a1 < (l0.length : Int) then (if 0 ≤ a1 then (some (wrap64 (rd l0 a1))) else (none)) else (some (Int.tmod (wrap64 ((wrap64 (a1 * 7)) + (l0.length : Int))) 256))
set_option maxHeartbeats 8000000 in
set_option maxRecDepth 100000 in
theorem laws_at.calls (A0 : Option Addr) (c0 : Nat) (l0 : List Int) (a1 : Int) (r : Int) (w : World) (hr0 : Kd.C (Kd.int .u8) w A0 l0.length l0) (hc0 : l0.length ≤ c0) (h : laws_at.f l0 a1 = some r) :
  Calls Try.prog 73 #[.slice A0 l0.length c0, .int .i64 a1] w fun e w' => e = .returned (.int .i64 r) ∧ Drawn0 w w' := by
 have HR0 := Aside0.mk hr0
 have HC0 := Aside0.mk hc0
 clear hr0 hc0
 have H : (if a1 < (l0.length : Int) then (if 0 ≤ a1 then (some (wrap64 (rd l0 a1))) else (none)) else (some (Int.tmod (wrap64 ((wrap64 (a1 * 7)) + (l0.length : Int))) 256))) = some r := h
 clear h
 by_cases c3 : a1 < (l0.length : Int)
 ·rw [if_pos c3] at H
  have c3b0 : decide (a1 < (l0.length : Int)) = true := decide_eq_true c3
  clear c3
  by_cases c4 : 0 ≤ a1
  ·rw [if_pos c4] at H
   have c4b0 : decide (0 ≤ a1) = true := decide_eq_true c4
   clear c4
   obtain rfl := Option.some.inj H
   have p745 : 0 ≤ (a1 : Int) := of_decide_eq_true (by first | (with_reducible assumption) | assumption)
   have q745 : a1 < (l0.length : Int) := of_decide_eq_true (by first | (with_reducible assumption) | assumption)
   obtain ⟨ad745, e745, hx745_0⟩ := Kd.at_int HR0.out a1 p745 q745
   cases e745
   replace p745 := eq_true p745
   replace q745 := eq_true q745
   go_enter Try.func73, Try.ntmps73
   go_wp2
   go_ret
   exact ⟨by first | rfl | (simp; done) | (simp [*]; done), by repeat (first | exact Drawn0.refl _ | apply Drawn0.step)⟩
  ·rw [if_neg c4] at H
   exact absurd H (by simp)
 ·rw [if_neg c3] at H
  have c3b0 : decide (a1 < (l0.length : Int)) = false := decide_eq_false c3
  clear c3
  obtain rfl := Option.some.inj H
  go_enter Try.func73, Try.ntmps73
  go_wp2
  go_ret
  exact ⟨by first | rfl | (simp; done) | (simp [*]; done), by repeat (first | exact Drawn0.refl _ | apply Drawn0.step)⟩

/-! ### laws_word: function 44 -/
def laws_word.f (l0 : List Int) (a1 : Int) : Option (Int) := (laws_at.f l0 a1).bind fun t746 => ((laws_at.f l0 (wrap64 (a1 + 1))).bind fun t747 => ((laws_at.f l0 (wrap64 (a1 + 2))).bind fun t748 => ((laws_at.f l0 (wrap64 (a1 + 3))).bind fun t749 => (some ((((((((t746) % 4294967296) + ((256 * ((t747) % 4294967296)) % 4294967296)) % 4294967296) + ((65536 * ((t748) % 4294967296)) % 4294967296)) % 4294967296) + ((16777216 * ((t749) % 4294967296)) % 4294967296)) % 4294967296)))))
set_option maxHeartbeats 8000000 in
set_option maxRecDepth 100000 in
theorem laws_word.calls (A0 : Option Addr) (c0 : Nat) (l0 : List Int) (a1 : Int) (r : Int) (w : World) (hr0 : Kd.C (Kd.int .u8) w A0 l0.length l0) (hc0 : l0.length ≤ c0) (h : laws_word.f l0 a1 = some r) :
  Calls Try.prog 44 #[.slice A0 l0.length c0, .int .i64 a1] w fun e w' => e = .returned (.int .u32 r) ∧ Drawn0 w w' := by
 have HR0 := Aside0.mk hr0
 have HC0 := Aside0.mk hc0
 clear hr0 hc0
 have H : ((laws_at.f l0 a1).bind fun t746 => ((laws_at.f l0 (wrap64 (a1 + 1))).bind fun t747 => ((laws_at.f l0 (wrap64 (a1 + 2))).bind fun t748 => ((laws_at.f l0 (wrap64 (a1 + 3))).bind fun t749 => (some ((((((((t746) % 4294967296) + ((256 * ((t747) % 4294967296)) % 4294967296)) % 4294967296) + ((65536 * ((t748) % 4294967296)) % 4294967296)) % 4294967296) + ((16777216 * ((t749) % 4294967296)) % 4294967296)) % 4294967296)))))) = some r := h
 clear h
 replace H := Option.bind_eq_some_iff.mp H
 obtain ⟨t746, A30, H⟩ := H
 (try dsimp only at H)
 have A3 := Aside0.mk A30
 clear A30
 replace H := Option.bind_eq_some_iff.mp H
 obtain ⟨t747, A40, H⟩ := H
 (try dsimp only at H)
 have A4 := Aside0.mk A40
 clear A40
 replace H := Option.bind_eq_some_iff.mp H
 obtain ⟨t748, A50, H⟩ := H
 (try dsimp only at H)
 have A5 := Aside0.mk A50
 clear A50
 replace H := Option.bind_eq_some_iff.mp H
 obtain ⟨t749, A60, H⟩ := H
 (try dsimp only at H)
 have A6 := Aside0.mk A60
 clear A60
 obtain rfl := Option.some.inj H
 go_enter Try.func44, Try.ntmps44
 go_wp2_with (first | ((with_reducible refine gate_callee (f := 73) rfl ?_); refine goesL_ (some 7) rfl rfl Try.func73 (by kernel_rfl) rfl #[.slice A0 l0.length c0, .int .i64 a1] rfl (by (try simp only [List.map_toArray, List.map_cons, List.map_nil]); first | done | rfl | (simp only [List.length_drop, List.length_take]; rfl)) ?_; (with_reducible refine (laws_at.calls _ _ l0 a1 t746 _ ?side1 ?side2 A3.out).mono ?_); (case side1 => repeat (first | exact HR0.out | (with_reducible refine Kd.C_alloc ?_ _) | (with_reducible refine Kd.C_drewN ?_ _) | (with_reducible refine Kd.C_drew ?_))); (case side2 => exact HC0.out); rintro e w' ⟨rfl, ⟨nd, rfl⟩⟩; refine ⟨_, rfl, ?_⟩) | ((with_reducible refine gate_callee (f := 73) rfl ?_); refine goesL_ (some 12) rfl rfl Try.func73 (by kernel_rfl) rfl #[.slice A0 l0.length c0, .int .i64 (wrap64 (a1 + 1))] rfl (by (try simp only [List.map_toArray, List.map_cons, List.map_nil]); first | done | rfl | (simp only [List.length_drop, List.length_take]; rfl)) ?_; (with_reducible refine (laws_at.calls _ _ l0 (wrap64 (a1 + 1)) t747 _ ?side1 ?side2 A4.out).mono ?_); (case side1 => repeat (first | exact HR0.out | (with_reducible refine Kd.C_alloc ?_ _) | (with_reducible refine Kd.C_drewN ?_ _) | (with_reducible refine Kd.C_drew ?_))); (case side2 => exact HC0.out); rintro e w' ⟨rfl, ⟨nd, rfl⟩⟩; refine ⟨_, rfl, ?_⟩) | ((with_reducible refine gate_callee (f := 73) rfl ?_); refine goesL_ (some 19) rfl rfl Try.func73 (by kernel_rfl) rfl #[.slice A0 l0.length c0, .int .i64 (wrap64 (a1 + 2))] rfl (by (try simp only [List.map_toArray, List.map_cons, List.map_nil]); first | done | rfl | (simp only [List.length_drop, List.length_take]; rfl)) ?_; (with_reducible refine (laws_at.calls _ _ l0 (wrap64 (a1 + 2)) t748 _ ?side1 ?side2 A5.out).mono ?_); (case side1 => repeat (first | exact HR0.out | (with_reducible refine Kd.C_alloc ?_ _) | (with_reducible refine Kd.C_drewN ?_ _) | (with_reducible refine Kd.C_drew ?_))); (case side2 => exact HC0.out); rintro e w' ⟨rfl, ⟨nd, rfl⟩⟩; refine ⟨_, rfl, ?_⟩) | ((with_reducible refine gate_callee (f := 73) rfl ?_); refine goesL_ (some 26) rfl rfl Try.func73 (by kernel_rfl) rfl #[.slice A0 l0.length c0, .int .i64 (wrap64 (a1 + 3))] rfl (by (try simp only [List.map_toArray, List.map_cons, List.map_nil]); first | done | rfl | (simp only [List.length_drop, List.length_take]; rfl)) ?_; (with_reducible refine (laws_at.calls _ _ l0 (wrap64 (a1 + 3)) t749 _ ?side1 ?side2 A6.out).mono ?_); (case side1 => repeat (first | exact HR0.out | (with_reducible refine Kd.C_alloc ?_ _) | (with_reducible refine Kd.C_drewN ?_ _) | (with_reducible refine Kd.C_drew ?_))); (case side2 => exact HC0.out); rintro e w' ⟨rfl, ⟨nd, rfl⟩⟩; refine ⟨_, rfl, ?_⟩))
 go_ret
 exact ⟨by first | rfl | (simp; done) | (simp [*]; done), by repeat (first | exact Drawn0.refl _ | apply Drawn0.step)⟩

end Go.Proofs.Ytioifcanipijhaa.GC
