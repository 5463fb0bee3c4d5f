/- Told by a program of this session, out of the translation: each function of the group as a plain Lean function, and that Go's call comes to just its answer. Lean checks it. -/
import Derived.Test.YtioifcanipijhaaGCx0
import Derived.Test.YtioifcanipijhaaGCx5
namespace Go.Proofs.Ytioifcanipijhaa.GC
open Go.RowKit Go.Proofs.YtioifcanipijhaaW.PrintWords Go.Proofs.YtioifcanipijhaaW.PrintLast Go.Proofs.YtioifcanipijhaaW.PrintMore Go.Proofs.Ytioifcanipijhaa.Q
attribute [local go_sem] max2_int min2_int max_two min_two max_three min_three max_four min_four   -- for this text's walks alone
set_option linter.unusedVariables false
set_option linter.unusedSimpArgs false

/-! ### spec_Border: function 37 -/
def spec_Border.j0 : Nat → Bool → Int → Int → Int → Int → Int → List Int → List Int → Option (Int × List Int × List Int × List Int)
 | 0, _, _, _, _, _, _, _, _ => none
 | k + 1, x32, x163000, x163001, x163002, x163003, x164000, x164001, x165000 => if x32 = true then (some (0, ([] : List Int), ([] : List Int), (([] : List Int)))) else (if x163000 = 0 then (if (x164001.length : Int) = 0 then ((spec_l11List.f x165000).bind fun t172 => (some (0, ([] : List Int), t172, (([] : List Int))))) else ((spec_l11List.f x164001).bind fun t178 => ((spec_l11List.f x164001).bind fun t181 => (some (0, ([] : List Int), t178, t181))))) else ((spec_l11List.f x165000).bind fun t184 => (if t184.length + x164001.length < 35184372088832 then ((some (t184 ++ x164001 : List Int)).bind fun y187 => ((spec_l11List.f x164001).bind fun t190 => (some ((y187.length : Int), ([] : List Int), y187, t190)))) else (none))))
def spec_Border.f (k : Nat) (a0_0 : Int) (a0_1 : Int) (a0_2 : Int) (a0_3 : Int) (a1_0 : Int) (l1_1 : List Int) (l2_0 : List Int) : Option (Int × List Int × List Int × List Int) := (spec_OutOk.f a0_0 a0_1 a0_2 a0_3 a1_0 l1_1).bind fun t167 => (if t167 = true then ((spec_InOk.f a0_0 a0_1 a0_2 a0_3 l2_0).bind fun t168 => (if t168 = true then (if a0_0 = 1 then (spec_Border.j0 k (decide ((l2_0.length : Int) > a1_0)) a0_0 a0_1 a0_2 a0_3 a1_0 l1_1 l2_0) else (spec_Border.j0 k false a0_0 a0_1 a0_2 a0_3 a1_0 l1_1 l2_0)) else (spec_Border.j0 k true a0_0 a0_1 a0_2 a0_3 a1_0 l1_1 l2_0))) else (spec_Border.j0 k true a0_0 a0_1 a0_2 a0_3 a1_0 l1_1 l2_0))
theorem spec_Border.mono_l : ∀ k, (∀ y0 y1 y2 y3 y4 y5 y6 y7, LeO (spec_Border.j0 k y0 y1 y2 y3 y4 y5 y6 y7) (spec_Border.j0 (k + 1) y0 y1 y2 y3 y4 y5 y6 y7))
 | 0 => fun _ _ _ _ _ _ _ _ r h => by simp [spec_Border.j0] at h
 | k + 1 => by
  have ih0 := spec_Border.mono_l k
  ·intro y0 y1 y2 y3 y4 y5 y6 y7
   unfold spec_Border.j0
   repeat' first
   | (with_reducible exact ih0 _ _ _ _ _ _ _ _)
   | (with_reducible exact LeO.refl _)
   | (with_reducible exact LeO.none _)
   | (with_reducible refine LeO.ite ?_ ?_)
   | (with_reducible refine LeO.bind ?_ (fun _ => ?_))
   | exact ih0 _ _ _ _ _ _ _ _
   | exact LeO.none _
   | refine LeO.ite ?_ ?_
   | refine LeO.bind ?_ (fun _ => ?_)
theorem spec_Border.mono : ∀ a0 a1 a2 a3 a4 a5 a6 k, LeO (spec_Border.f k a0 a1 a2 a3 a4 a5 a6) (spec_Border.f (k + 1) a0 a1 a2 a3 a4 a5 a6) := by
 intro a0 a1 a2 a3 a4 a5 a6 k
 have ih0 := spec_Border.mono_l k
 unfold spec_Border.f
 repeat' first
   | (with_reducible exact ih0 _ _ _ _ _ _ _ _)
   | (with_reducible exact LeO.refl _)
   | (with_reducible exact LeO.none _)
   | (with_reducible refine LeO.ite ?_ ?_)
   | (with_reducible refine LeO.bind ?_ (fun _ => ?_))
   | exact ih0 _ _ _ _ _ _ _ _
   | exact LeO.none _
   | refine LeO.ite ?_ ?_
   | refine LeO.bind ?_ (fun _ => ?_)
def spec_Border.T6 : Bool × List (List Nat × List Nat) := (true, [([], []), ([], []), ([1], [1]), ([2], [2]), ([3], [3]), ([], []), ([5], [5]), ([6, 3], [6]), ([0, 7, 0], [0]), ([4, 8, 0, 1, 2, 3, 4, 8], [4]), ([7, 9, 0, 1, 2, 3, 4, 5, 6, 7, 8, 9], [7])])
def spec_Border.B6 : List Nat := [0, 0, 2, 6, 14, 0, 32, 110, 239, 511, 1023]
theorem spec_Border.tab6 : rtab .any (opsOf Try.f37 6) = spec_Border.T6 := by kernel_rfl
theorem spec_Border.bits6 : waitsOk spec_Border.T6.2 spec_Border.B6 = true := by kernel_rfl
set_option maxHeartbeats 8000000 in
set_option maxRecDepth 100000 in
theorem spec_Border.calls (k : Nat) (a0_0 : Int) (a0_1 : Int) (a0_2 : Int) (a0_3 : Int) (a1_0 : Int) (A1_1 : Option Addr) (c1_1 : Nat) (l1_1 : List Int) (A2_0 : Option Addr) (c2_0 : Nat) (l2_0 : List Int) (r1 : Int) (r2 : List Int) (r3 : List Int) (r4 : List Int) (w : World) (hr1_1 : Kd.C (Kd.int .u32) w A1_1 l1_1.length l1_1) (hc1_1 : l1_1.length ≤ c1_1) (hr2_0 : Kd.C (Kd.int .u32) w A2_0 l2_0.length l2_0) (hc2_0 : l2_0.length ≤ c2_0) (h : spec_Border.f k a0_0 a0_1 a0_2 a0_3 a1_0 l1_1 l2_0 = some (r1, r2, r3, r4)) :
  Calls Try.prog 37 #[.agg #[.int .i64 a0_0, .int .i64 a0_1, .int .i64 a0_2, .int .i64 a0_3], .agg #[.int .i64 a1_0, .slice A1_1 l1_1.length c1_1], .agg #[.slice A2_0 l2_0.length c2_0]] w fun e w' => ∃ v1_ v2_ v3_ : Value, e = .returned (.tuple #[.agg #[.int .i64 r1, v1_], .agg #[v2_], v3_]) ∧ Kd.R (Kd.int .u32) 46 w' w.heap.size (fun k_ => some k_ ≠ (v2_ : Value).ownBlock ∧ some k_ ≠ (v3_ : Value).ownBlock) v1_ r2 ∧ Kd.R (Kd.int .u32) 46 w' w.heap.size (fun k_ => some k_ ≠ (v1_ : Value).ownBlock ∧ some k_ ≠ (v3_ : Value).ownBlock) v2_ r3 ∧ Kd.R (Kd.int .u32) 46 w' w.heap.size (fun k_ => some k_ ≠ (v1_ : Value).ownBlock ∧ some k_ ≠ (v2_ : Value).ownBlock) v3_ r4 ∧ Below w.heap.size w w' := by
 have hu29 := Try.underlying29
 have hu39 := Try.underlying39
 have hu31 := Try.underlying31
 have HR1_1 := Aside0.mk hr1_1
 have HC1_1 := Aside0.mk hc1_1
 clear hr1_1 hc1_1
 have HR2_0 := Aside0.mk hr2_0
 have HC2_0 := Aside0.mk hc2_0
 clear hr2_0 hc2_0
 have HB := Aside0.mk (Below.refl w.heap.size w)
 have H : ((spec_OutOk.f a0_0 a0_1 a0_2 a0_3 a1_0 l1_1).bind fun t167 => (if t167 = true then ((spec_InOk.f a0_0 a0_1 a0_2 a0_3 l2_0).bind fun t168 => (if t168 = true then (if a0_0 = 1 then (spec_Border.j0 k (decide ((l2_0.length : Int) > a1_0)) a0_0 a0_1 a0_2 a0_3 a1_0 l1_1 l2_0) else (spec_Border.j0 k false a0_0 a0_1 a0_2 a0_3 a1_0 l1_1 l2_0)) else (spec_Border.j0 k true a0_0 a0_1 a0_2 a0_3 a1_0 l1_1 l2_0))) else (spec_Border.j0 k true a0_0 a0_1 a0_2 a0_3 a1_0 l1_1 l2_0))) = some (r1, r2, r3, r4) := h
 clear h
 have HC4 := Aside0.mk H
 clear H
 go_enter Try.func37, Try.ntmps37
 go_upto_region 1 with (first | ((with_reducible refine gate_dst (N := 3) rfl ?_); (try (refine gate_guard (by rfl) ?_; dsimp only)); refine box_event ?hg (N := 3) ?hd (cs := #[.int .i64 a0_0, .int .i64 a0_1, .int .i64 a0_2, .int .i64 a0_3]) (t := 29) ?hr ?_; (case hd => rfl); (case hg => rfl); (case hr => first | (go_simp; done) | (go_simp; rfl)); intro gb162 hg w5 hbox hb; have n0_ := Aside0.mk (below_step (lq HB.out) hb); have n1_ := Aside0.mk (hbox); have n2_ := Aside0.mk ((ge_new hg (lq HB.out) : w.heap.size ≤ gb162)); have n3_ := Aside0.mk ((ge_new hg (lq HB.out) : w.heap.size ≤ gb162)); clear HB; have HB := n0_; have BK162 := n1_; have GW162 := n2_; have GE162 := n3_; clear n0_ n1_ n2_ n3_; clear hb hbox hg) | ((with_reducible refine gate_dst (N := 4) rfl ?_); (try (refine gate_guard (by rfl) ?_; dsimp only)); refine box_event ?hg (N := 4) ?hd (cs := #[.int .i64 a1_0, .slice A1_1 l1_1.length c1_1]) (t := 39) ?hr ?_; (case hd => rfl); (case hg => rfl); (case hr => first | (go_simp; done) | (go_simp; rfl)); intro gb163 hg w6 hbox hb; have n0_ := Aside0.mk (blk_below (bq BK162.out) hb); have n1_ := Aside0.mk (below_step (lq HB.out) hb); have n2_ := Aside0.mk (hbox); have n3_ := Aside0.mk ((ge_new hg (lq HB.out) : w.heap.size ≤ gb163)); have n4_ := Aside0.mk ((ge_new hg (lq HB.out) : w.heap.size ≤ gb163)); have n5_ := Aside0.mk ((ne_new hg (bq BK162.out) : gb162 ≠ gb163)); have n6_ := Aside0.mk ((new_ne hg (bq BK162.out) : gb163 ≠ gb162)); clear BK162; clear HB; have BK162 := n0_; have HB := n1_; have BK163 := n2_; have GW163 := n3_; have GE163 := n4_; have NB162_163 := n5_; have NB163_162 := n6_; clear n0_ n1_ n2_ n3_ n4_ n5_ n6_; clear hb hbox hg) | ((with_reducible refine gate_dst (N := 5) rfl ?_); (try (refine gate_guard (by rfl) ?_; dsimp only)); refine box_event ?hg (N := 5) ?hd (cs := #[.slice A2_0 l2_0.length c2_0]) (t := 31) ?hr ?_; (case hd => rfl); (case hg => rfl); (case hr => first | (go_simp; done) | (go_simp; rfl)); intro gb164 hg w7 hbox hb; have n0_ := Aside0.mk (blk_below (bq BK162.out) hb); have n1_ := Aside0.mk (blk_below (bq BK163.out) hb); have n2_ := Aside0.mk (below_step (lq HB.out) hb); have n3_ := Aside0.mk (hbox); have n4_ := Aside0.mk ((ge_new hg (lq HB.out) : w.heap.size ≤ gb164)); have n5_ := Aside0.mk ((ge_new hg (lq HB.out) : w.heap.size ≤ gb164)); have n6_ := Aside0.mk ((ne_new hg (bq BK162.out) : gb162 ≠ gb164)); have n7_ := Aside0.mk ((new_ne hg (bq BK162.out) : gb164 ≠ gb162)); have n8_ := Aside0.mk ((ne_new hg (bq BK163.out) : gb163 ≠ gb164)); have n9_ := Aside0.mk ((new_ne hg (bq BK163.out) : gb164 ≠ gb163)); clear BK162; clear BK163; clear HB; have BK162 := n0_; have BK163 := n1_; have HB := n2_; have BK164 := n3_; have GW164 := n4_; have GE164 := n5_; have NB162_164 := n6_; have NB164_162 := n7_; have NB163_164 := n8_; have NB164_163 := n9_; clear n0_ n1_ n2_ n3_ n4_ n5_ n6_ n7_ n8_ n9_; clear hb hbox hg) | ((with_reducible refine gate_dst (N := 6) rfl ?_); (try (refine gate_guard (by rfl) ?_; dsimp only)); refine box_event ?hg (N := 6) ?hd (cs := #[.int .i64 0, .slice none 0 0]) (t := 39) ?hr ?_; (case hd => rfl); (case hg => rfl); (case hr => first | (go_simp; done) | (go_simp; rfl)); intro gb165 hg w8 hbox hb; have n0_ := Aside0.mk (blk_below (bq BK162.out) hb); have n1_ := Aside0.mk (blk_below (bq BK163.out) hb); have n2_ := Aside0.mk (blk_below (bq BK164.out) hb); have n3_ := Aside0.mk (below_step (lq HB.out) hb); have n4_ := Aside0.mk (hbox); have n5_ := Aside0.mk ((ge_new hg (lq HB.out) : w.heap.size ≤ gb165)); have n6_ := Aside0.mk ((ge_new hg (lq HB.out) : w.heap.size ≤ gb165)); have n7_ := Aside0.mk ((ne_new hg (bq BK162.out) : gb162 ≠ gb165)); have n8_ := Aside0.mk ((new_ne hg (bq BK162.out) : gb165 ≠ gb162)); have n9_ := Aside0.mk ((ne_new hg (bq BK163.out) : gb163 ≠ gb165)); have n10_ := Aside0.mk ((new_ne hg (bq BK163.out) : gb165 ≠ gb163)); have n11_ := Aside0.mk ((ne_new hg (bq BK164.out) : gb164 ≠ gb165)); have n12_ := Aside0.mk ((new_ne hg (bq BK164.out) : gb165 ≠ gb164)); clear BK162; clear BK163; clear BK164; clear HB; have BK162 := n0_; have BK163 := n1_; have BK164 := n2_; have HB := n3_; have BK165 := n4_; have GW165 := n5_; have GE165 := n6_; have NB162_165 := n7_; have NB165_162 := n8_; have NB163_165 := n9_; have NB165_163 := n10_; have NB164_165 := n11_; have NB165_164 := n12_; clear n0_ n1_ n2_ n3_ n4_ n5_ n6_ n7_ n8_ n9_ n10_ n11_ n12_; clear hb hbox hg) | ((with_reducible refine gate_dst (N := 7) rfl ?_); (try (refine gate_guard (by rfl) ?_; dsimp only)); refine box_event ?hg (N := 7) ?hd (cs := #[.slice none 0 0]) (t := 31) ?hr ?_; (case hd => rfl); (case hg => rfl); (case hr => first | (go_simp; done) | (go_simp; rfl)); intro gb166 hg w9 hbox hb; have n0_ := Aside0.mk (blk_below (bq BK162.out) hb); have n1_ := Aside0.mk (blk_below (bq BK163.out) hb); have n2_ := Aside0.mk (blk_below (bq BK164.out) hb); have n3_ := Aside0.mk (blk_below (bq BK165.out) hb); have n4_ := Aside0.mk (below_step (lq HB.out) hb); have n5_ := Aside0.mk (hbox); have n6_ := Aside0.mk ((ge_new hg (lq HB.out) : w.heap.size ≤ gb166)); have n7_ := Aside0.mk ((ge_new hg (lq HB.out) : w.heap.size ≤ gb166)); have n8_ := Aside0.mk ((ne_new hg (bq BK162.out) : gb162 ≠ gb166)); have n9_ := Aside0.mk ((new_ne hg (bq BK162.out) : gb166 ≠ gb162)); have n10_ := Aside0.mk ((ne_new hg (bq BK163.out) : gb163 ≠ gb166)); have n11_ := Aside0.mk ((new_ne hg (bq BK163.out) : gb166 ≠ gb163)); have n12_ := Aside0.mk ((ne_new hg (bq BK164.out) : gb164 ≠ gb166)); have n13_ := Aside0.mk ((new_ne hg (bq BK164.out) : gb166 ≠ gb164)); have n14_ := Aside0.mk ((ne_new hg (bq BK165.out) : gb165 ≠ gb166)); have n15_ := Aside0.mk ((new_ne hg (bq BK165.out) : gb166 ≠ gb165)); clear BK162; clear BK163; clear BK164; clear BK165; clear HB; have BK162 := n0_; have BK163 := n1_; have BK164 := n2_; have BK165 := n3_; have HB := n4_; have BK166 := n5_; have GW166 := n6_; have GE166 := n7_; have NB162_166 := n8_; have NB166_162 := n9_; have NB163_166 := n10_; have NB166_163 := n11_; have NB164_166 := n12_; have NB166_164 := n13_; have NB165_166 := n14_; have NB166_165 := n15_; clear n0_ n1_ n2_ n3_ n4_ n5_ n6_ n7_ n8_ n9_ n10_ n11_ n12_ n13_ n14_ n15_; clear hb hbox hg))
 (try simp only [Act.put, List.setIfInBounds_toArray, List.set_cons_zero, List.set_cons_succ])
 go_cut [32] (fun v32 wc => ∃ (kq : Nat) (x32_3 : Bool), v32 = .bool x32_3 ∧ Aside0 (spec_Border.j0 kq x32_3 a0_0 a0_1 a0_2 a0_3 a1_0 l1_1 l2_0 = some (r1, r2, r3, r4)) ∧ Aside0 (kq ≤ k) ∧ Aside0 (wc.heap[gb162]? = some (.cells #[.int .i64 a0_0, .int .i64 a0_1, .int .i64 a0_2, .int .i64 a0_3] 29 (0, 0))) ∧ Aside0 (wc.heap[gb163]? = some (.cells #[.int .i64 a1_0, (.slice A1_1 l1_1.length c1_1)] 39 (0, 0))) ∧ Aside0 (wc.heap[gb164]? = some (.cells #[(.slice A2_0 l2_0.length c2_0)] 31 (0, 0))) ∧ Aside0 (wc.heap[gb165]? = some (.cells #[.int .i64 0, (.slice none 0 0)] 39 (0, 0))) ∧ Aside0 (wc.heap[gb166]? = some (.cells #[(.slice none 0 0)] 31 (0, 0))) ∧ Aside0 (Below w.heap.size w wc))
 case first =>
  have H := HC4.out
  clear HC4
  replace H := Option.bind_eq_some_iff.mp H
  obtain ⟨t167, A100, H⟩ := H
  (try dsimp only at H)
  have A10 := Aside0.mk A100
  clear A100
  by_cases c11 : t167 = true
  ·subst c11
   rw [if_pos rfl] at H
   replace H := Option.bind_eq_some_iff.mp H
   obtain ⟨t168, A120, H⟩ := H
   (try dsimp only at H)
   have A12 := Aside0.mk A120
   clear A120
   by_cases c13 : t168 = true
   ·subst c13
    rw [if_pos rfl] at H
    by_cases c14 : a0_0 = 1
    ·rw [if_pos c14] at H
     have c14b0 : (a0_0 == 1) = true := beq_iff_eq.mpr c14
     have c14b1 : (a0_0 != 1) = false := bne_eq_false_iff_eq.mpr c14
     clear c14
     (first | rw [c14b0] | (simp only [i64_w, i32_w]; rw [c14b0]) | skip)
     have H' := Aside0.mk H
     clear H
     have hnb15 := NB162_163.out
     have hnc15 := NB163_162.out
     have hnb16 := NB162_164.out
     have hnc16 := NB164_162.out
     have hnb17 := NB162_165.out
     have hnc17 := NB165_162.out
     have hnb18 := NB162_166.out
     have hnc18 := NB166_162.out
     have hcz19_0 : w9.cell? ⟨gb162, 0, none⟩ = some (.int .i64 a0_0) := (blk_cell BK162.out 0).trans rfl
     have hcz19_1 : w9.cell? ⟨gb162, 1, none⟩ = some (.int .i64 a0_1) := (blk_cell BK162.out 1).trans rfl
     have hcz19_2 : w9.cell? ⟨gb162, 2, none⟩ = some (.int .i64 a0_2) := (blk_cell BK162.out 2).trans rfl
     have hcz19_3 : w9.cell? ⟨gb162, 3, none⟩ = some (.int .i64 a0_3) := (blk_cell BK162.out 3).trans rfl
     have hfz19_0 := blk_frozen BK162.out 0
     have hfz19_1 := blk_frozen BK162.out 1
     have hfz19_2 := blk_frozen BK162.out 2
     have hfz19_3 := blk_frozen BK162.out 3
     have hnb20 := NB163_164.out
     have hnc20 := NB164_163.out
     have hnb21 := NB163_165.out
     have hnc21 := NB165_163.out
     have hnb22 := NB163_166.out
     have hnc22 := NB166_163.out
     have hcz23_0 : w9.cell? ⟨gb163, 0, none⟩ = some (.int .i64 a1_0) := (blk_cell BK163.out 0).trans rfl
     have hcz23_1 : w9.cell? ⟨gb163, 1, none⟩ = some (.slice A1_1 l1_1.length c1_1) := (blk_cell BK163.out 1).trans rfl
     have hfz23_0 := blk_frozen BK163.out 0
     have hfz23_1 := blk_frozen BK163.out 1
     go_wp2_with (first | ((with_reducible refine gate_callee (f := 21) rfl ?_); refine goesL_ (some 12) rfl rfl Try.func21 (by kernel_rfl) rfl #[.agg #[.int .i64 a0_0, .int .i64 a0_1, .int .i64 a0_2, .int .i64 a0_3], .agg #[.int .i64 a1_0, .slice A1_1 l1_1.length c1_1]] rfl (by (try simp only [List.map_toArray, List.map_cons, List.map_nil]); first | done | rfl | (simp only [List.length_drop, List.length_take]; rfl)) ?_; (with_reducible refine (spec_OutOk.calls a0_0 a0_1 a0_2 a0_3 a1_0 _ _ l1_1 true _ ?side1 ?side2 A10.out).mono ?_); (case side1 => repeat (first | exact (Kd.C_below HR1_1.out HB.out) | (with_reducible refine Kd.C_alloc ?_ _) | (with_reducible refine Kd.C_drewN ?_ _) | (with_reducible refine Kd.C_drew ?_))); (case side2 => exact HC1_1.out); rintro e w24 ⟨rfl, hb⟩; refine ⟨_, rfl, ?_⟩; have n0_ := Aside0.mk (blk_below (bq BK162.out) hb); have n1_ := Aside0.mk (blk_below (bq BK163.out) hb); have n2_ := Aside0.mk (blk_below (bq BK164.out) hb); have n3_ := Aside0.mk (blk_below (bq BK165.out) hb); have n4_ := Aside0.mk (blk_below (bq BK166.out) hb); have n5_ := Aside0.mk (below_step (lq HB.out) hb); clear BK162; clear BK163; clear BK164; clear BK165; clear BK166; clear HB; have BK162 := n0_; have BK163 := n1_; have BK164 := n2_; have BK165 := n3_; have BK166 := n4_; have HB := n5_; clear n0_ n1_ n2_ n3_ n4_ n5_; (try clear hb); (try clear hb2); (try clear hk); (try clear hi); have hcz25_0 : w24.cell? ⟨gb162, 0, none⟩ = some (.int .i64 a0_0) := (blk_cell BK162.out 0).trans rfl; have hcz25_1 : w24.cell? ⟨gb162, 1, none⟩ = some (.int .i64 a0_1) := (blk_cell BK162.out 1).trans rfl; have hcz25_2 : w24.cell? ⟨gb162, 2, none⟩ = some (.int .i64 a0_2) := (blk_cell BK162.out 2).trans rfl; have hcz25_3 : w24.cell? ⟨gb162, 3, none⟩ = some (.int .i64 a0_3) := (blk_cell BK162.out 3).trans rfl; have hfz25_0 := blk_frozen BK162.out 0; have hfz25_1 := blk_frozen BK162.out 1; have hfz25_2 := blk_frozen BK162.out 2; have hfz25_3 := blk_frozen BK162.out 3; have hnb26 := NB164_165.out; have hnc26 := NB165_164.out; have hnb27 := NB164_166.out; have hnc27 := NB166_164.out; have hcz28_0 : w24.cell? ⟨gb164, 0, none⟩ = some (.slice A2_0 l2_0.length c2_0) := (blk_cell BK164.out 0).trans rfl; have hfz28_0 := blk_frozen BK164.out 0) | (go_at_call 15; (with_reducible refine (spec_InOk.calls a0_0 a0_1 a0_2 a0_3 _ _ l2_0 true _ ?side1 ?side2 A12.out).mono ?_); (case side1 => repeat (first | exact (Kd.C_below HR2_0.out HB.out) | (with_reducible refine Kd.C_alloc ?_ _) | (with_reducible refine Kd.C_drewN ?_ _) | (with_reducible refine Kd.C_drew ?_))); (case side2 => exact HC2_0.out); rintro e w29 ⟨rfl, hb⟩; have n0_ := Aside0.mk (blk_below (bq BK162.out) hb); have n1_ := Aside0.mk (blk_below (bq BK163.out) hb); have n2_ := Aside0.mk (blk_below (bq BK164.out) hb); have n3_ := Aside0.mk (blk_below (bq BK165.out) hb); have n4_ := Aside0.mk (blk_below (bq BK166.out) hb); have n5_ := Aside0.mk (below_step (lq HB.out) hb); clear BK162; clear BK163; clear BK164; clear BK165; clear BK166; clear HB; have BK162 := n0_; have BK163 := n1_; have BK164 := n2_; have BK165 := n3_; have BK166 := n4_; have HB := n5_; clear n0_ n1_ n2_ n3_ n4_ n5_; (try clear hb); (try clear hb2); (try clear hk); (try clear hi); have hcz30_0 : w29.cell? ⟨gb162, 0, none⟩ = some (.int .i64 a0_0) := (blk_cell BK162.out 0).trans rfl; have hcz30_1 : w29.cell? ⟨gb162, 1, none⟩ = some (.int .i64 a0_1) := (blk_cell BK162.out 1).trans rfl; have hcz30_2 : w29.cell? ⟨gb162, 2, none⟩ = some (.int .i64 a0_2) := (blk_cell BK162.out 2).trans rfl; have hcz30_3 : w29.cell? ⟨gb162, 3, none⟩ = some (.int .i64 a0_3) := (blk_cell BK162.out 3).trans rfl; have hfz30_0 := blk_frozen BK162.out 0; have hfz30_1 := blk_frozen BK162.out 1; have hfz30_2 := blk_frozen BK162.out 2; have hfz30_3 := blk_frozen BK162.out 3; have hcz31_0 : w29.cell? ⟨gb164, 0, none⟩ = some (.slice A2_0 l2_0.length c2_0) := (blk_cell BK164.out 0).trans rfl; have hfz31_0 := blk_frozen BK164.out 0; have hcz32_0 : w29.cell? ⟨gb163, 0, none⟩ = some (.int .i64 a1_0) := (blk_cell BK163.out 0).trans rfl; have hcz32_1 : w29.cell? ⟨gb163, 1, none⟩ = some (.slice A1_1 l1_1.length c1_1) := (blk_cell BK163.out 1).trans rfl; have hfz32_0 := blk_frozen BK163.out 0; have hfz32_1 := blk_frozen BK163.out 1))
     go_meet
     case rel => exact ⟨_, (decide ((l2_0.length : Int) > a1_0)), (by first | rfl | (simp; done) | (simp [*]; done)), H', ⟨by first | omega | exact Nat.le_refl _⟩, ⟨by (with_reducible repeat (first | refine blk_drewN ?_ _ | refine blk_drew ?_ | refine blk_alloc ?_ _)); exact BK162.out⟩, ⟨by (with_reducible repeat (first | refine blk_drewN ?_ _ | refine blk_drew ?_ | refine blk_alloc ?_ _)); exact BK163.out⟩, ⟨by (with_reducible repeat (first | refine blk_drewN ?_ _ | refine blk_drew ?_ | refine blk_alloc ?_ _)); exact BK164.out⟩, ⟨by (with_reducible repeat (first | refine blk_drewN ?_ _ | refine blk_drew ?_ | refine blk_alloc ?_ _)); exact BK165.out⟩, ⟨by (with_reducible repeat (first | refine blk_drewN ?_ _ | refine blk_drew ?_ | refine blk_alloc ?_ _)); exact BK166.out⟩, ⟨by exact lq HB.out⟩⟩
    ·rw [if_neg c14] at H
     have c14b0 : (a0_0 == 1) = false := beq_eq_false_iff_ne.mpr c14
     have c14b1 : (a0_0 != 1) = true := bne_iff_ne.mpr c14
     (first | rw [c14b0] | (simp only [i64_w, i32_w]; rw [c14b0]) | skip)
     have H' := Aside0.mk H
     clear H
     have hnb33 := NB162_163.out
     have hnc33 := NB163_162.out
     have hnb34 := NB162_164.out
     have hnc34 := NB164_162.out
     have hnb35 := NB162_165.out
     have hnc35 := NB165_162.out
     have hnb36 := NB162_166.out
     have hnc36 := NB166_162.out
     have hcz37_0 : w9.cell? ⟨gb162, 0, none⟩ = some (.int .i64 a0_0) := (blk_cell BK162.out 0).trans rfl
     have hcz37_1 : w9.cell? ⟨gb162, 1, none⟩ = some (.int .i64 a0_1) := (blk_cell BK162.out 1).trans rfl
     have hcz37_2 : w9.cell? ⟨gb162, 2, none⟩ = some (.int .i64 a0_2) := (blk_cell BK162.out 2).trans rfl
     have hcz37_3 : w9.cell? ⟨gb162, 3, none⟩ = some (.int .i64 a0_3) := (blk_cell BK162.out 3).trans rfl
     have hfz37_0 := blk_frozen BK162.out 0
     have hfz37_1 := blk_frozen BK162.out 1
     have hfz37_2 := blk_frozen BK162.out 2
     have hfz37_3 := blk_frozen BK162.out 3
     have hnb38 := NB163_164.out
     have hnc38 := NB164_163.out
     have hnb39 := NB163_165.out
     have hnc39 := NB165_163.out
     have hnb40 := NB163_166.out
     have hnc40 := NB166_163.out
     have hcz41_0 : w9.cell? ⟨gb163, 0, none⟩ = some (.int .i64 a1_0) := (blk_cell BK163.out 0).trans rfl
     have hcz41_1 : w9.cell? ⟨gb163, 1, none⟩ = some (.slice A1_1 l1_1.length c1_1) := (blk_cell BK163.out 1).trans rfl
     have hfz41_0 := blk_frozen BK163.out 0
     have hfz41_1 := blk_frozen BK163.out 1
     go_wp2_with (first | ((with_reducible refine gate_callee (f := 21) rfl ?_); refine goesL_ (some 12) rfl rfl Try.func21 (by kernel_rfl) rfl #[.agg #[.int .i64 a0_0, .int .i64 a0_1, .int .i64 a0_2, .int .i64 a0_3], .agg #[.int .i64 a1_0, .slice A1_1 l1_1.length c1_1]] rfl (by (try simp only [List.map_toArray, List.map_cons, List.map_nil]); first | done | rfl | (simp only [List.length_drop, List.length_take]; rfl)) ?_; (with_reducible refine (spec_OutOk.calls a0_0 a0_1 a0_2 a0_3 a1_0 _ _ l1_1 true _ ?side1 ?side2 A10.out).mono ?_); (case side1 => repeat (first | exact (Kd.C_below HR1_1.out HB.out) | (with_reducible refine Kd.C_alloc ?_ _) | (with_reducible refine Kd.C_drewN ?_ _) | (with_reducible refine Kd.C_drew ?_))); (case side2 => exact HC1_1.out); rintro e w42 ⟨rfl, hb⟩; refine ⟨_, rfl, ?_⟩; have n0_ := Aside0.mk (blk_below (bq BK162.out) hb); have n1_ := Aside0.mk (blk_below (bq BK163.out) hb); have n2_ := Aside0.mk (blk_below (bq BK164.out) hb); have n3_ := Aside0.mk (blk_below (bq BK165.out) hb); have n4_ := Aside0.mk (blk_below (bq BK166.out) hb); have n5_ := Aside0.mk (below_step (lq HB.out) hb); clear BK162; clear BK163; clear BK164; clear BK165; clear BK166; clear HB; have BK162 := n0_; have BK163 := n1_; have BK164 := n2_; have BK165 := n3_; have BK166 := n4_; have HB := n5_; clear n0_ n1_ n2_ n3_ n4_ n5_; (try clear hb); (try clear hb2); (try clear hk); (try clear hi); have hcz43_0 : w42.cell? ⟨gb162, 0, none⟩ = some (.int .i64 a0_0) := (blk_cell BK162.out 0).trans rfl; have hcz43_1 : w42.cell? ⟨gb162, 1, none⟩ = some (.int .i64 a0_1) := (blk_cell BK162.out 1).trans rfl; have hcz43_2 : w42.cell? ⟨gb162, 2, none⟩ = some (.int .i64 a0_2) := (blk_cell BK162.out 2).trans rfl; have hcz43_3 : w42.cell? ⟨gb162, 3, none⟩ = some (.int .i64 a0_3) := (blk_cell BK162.out 3).trans rfl; have hfz43_0 := blk_frozen BK162.out 0; have hfz43_1 := blk_frozen BK162.out 1; have hfz43_2 := blk_frozen BK162.out 2; have hfz43_3 := blk_frozen BK162.out 3; have hnb44 := NB164_165.out; have hnc44 := NB165_164.out; have hnb45 := NB164_166.out; have hnc45 := NB166_164.out; have hcz46_0 : w42.cell? ⟨gb164, 0, none⟩ = some (.slice A2_0 l2_0.length c2_0) := (blk_cell BK164.out 0).trans rfl; have hfz46_0 := blk_frozen BK164.out 0) | (go_at_call 15; (with_reducible refine (spec_InOk.calls a0_0 a0_1 a0_2 a0_3 _ _ l2_0 true _ ?side1 ?side2 A12.out).mono ?_); (case side1 => repeat (first | exact (Kd.C_below HR2_0.out HB.out) | (with_reducible refine Kd.C_alloc ?_ _) | (with_reducible refine Kd.C_drewN ?_ _) | (with_reducible refine Kd.C_drew ?_))); (case side2 => exact HC2_0.out); rintro e w47 ⟨rfl, hb⟩; have n0_ := Aside0.mk (blk_below (bq BK162.out) hb); have n1_ := Aside0.mk (blk_below (bq BK163.out) hb); have n2_ := Aside0.mk (blk_below (bq BK164.out) hb); have n3_ := Aside0.mk (blk_below (bq BK165.out) hb); have n4_ := Aside0.mk (blk_below (bq BK166.out) hb); have n5_ := Aside0.mk (below_step (lq HB.out) hb); clear BK162; clear BK163; clear BK164; clear BK165; clear BK166; clear HB; have BK162 := n0_; have BK163 := n1_; have BK164 := n2_; have BK165 := n3_; have BK166 := n4_; have HB := n5_; clear n0_ n1_ n2_ n3_ n4_ n5_; (try clear hb); (try clear hb2); (try clear hk); (try clear hi); have hcz48_0 : w47.cell? ⟨gb162, 0, none⟩ = some (.int .i64 a0_0) := (blk_cell BK162.out 0).trans rfl; have hcz48_1 : w47.cell? ⟨gb162, 1, none⟩ = some (.int .i64 a0_1) := (blk_cell BK162.out 1).trans rfl; have hcz48_2 : w47.cell? ⟨gb162, 2, none⟩ = some (.int .i64 a0_2) := (blk_cell BK162.out 2).trans rfl; have hcz48_3 : w47.cell? ⟨gb162, 3, none⟩ = some (.int .i64 a0_3) := (blk_cell BK162.out 3).trans rfl; have hfz48_0 := blk_frozen BK162.out 0; have hfz48_1 := blk_frozen BK162.out 1; have hfz48_2 := blk_frozen BK162.out 2; have hfz48_3 := blk_frozen BK162.out 3))
     go_meet
     case rel => exact ⟨_, (false), (by first | rfl | (simp; done) | (simp [*]; done)), H', ⟨by first | omega | exact Nat.le_refl _⟩, ⟨by (with_reducible repeat (first | refine blk_drewN ?_ _ | refine blk_drew ?_ | refine blk_alloc ?_ _)); exact BK162.out⟩, ⟨by (with_reducible repeat (first | refine blk_drewN ?_ _ | refine blk_drew ?_ | refine blk_alloc ?_ _)); exact BK163.out⟩, ⟨by (with_reducible repeat (first | refine blk_drewN ?_ _ | refine blk_drew ?_ | refine blk_alloc ?_ _)); exact BK164.out⟩, ⟨by (with_reducible repeat (first | refine blk_drewN ?_ _ | refine blk_drew ?_ | refine blk_alloc ?_ _)); exact BK165.out⟩, ⟨by (with_reducible repeat (first | refine blk_drewN ?_ _ | refine blk_drew ?_ | refine blk_alloc ?_ _)); exact BK166.out⟩, ⟨by exact lq HB.out⟩⟩
   ·replace c13 := Bool.eq_false_iff.mpr c13
    subst c13
    rw [if_neg (show ¬ (false = true) by decide)] at H
    have H' := Aside0.mk H
    clear H
    have hnb49 := NB162_163.out
    have hnc49 := NB163_162.out
    have hnb50 := NB162_164.out
    have hnc50 := NB164_162.out
    have hnb51 := NB162_165.out
    have hnc51 := NB165_162.out
    have hnb52 := NB162_166.out
    have hnc52 := NB166_162.out
    have hcz53_0 : w9.cell? ⟨gb162, 0, none⟩ = some (.int .i64 a0_0) := (blk_cell BK162.out 0).trans rfl
    have hcz53_1 : w9.cell? ⟨gb162, 1, none⟩ = some (.int .i64 a0_1) := (blk_cell BK162.out 1).trans rfl
    have hcz53_2 : w9.cell? ⟨gb162, 2, none⟩ = some (.int .i64 a0_2) := (blk_cell BK162.out 2).trans rfl
    have hcz53_3 : w9.cell? ⟨gb162, 3, none⟩ = some (.int .i64 a0_3) := (blk_cell BK162.out 3).trans rfl
    have hfz53_0 := blk_frozen BK162.out 0
    have hfz53_1 := blk_frozen BK162.out 1
    have hfz53_2 := blk_frozen BK162.out 2
    have hfz53_3 := blk_frozen BK162.out 3
    have hnb54 := NB163_164.out
    have hnc54 := NB164_163.out
    have hnb55 := NB163_165.out
    have hnc55 := NB165_163.out
    have hnb56 := NB163_166.out
    have hnc56 := NB166_163.out
    have hcz57_0 : w9.cell? ⟨gb163, 0, none⟩ = some (.int .i64 a1_0) := (blk_cell BK163.out 0).trans rfl
    have hcz57_1 : w9.cell? ⟨gb163, 1, none⟩ = some (.slice A1_1 l1_1.length c1_1) := (blk_cell BK163.out 1).trans rfl
    have hfz57_0 := blk_frozen BK163.out 0
    have hfz57_1 := blk_frozen BK163.out 1
    go_wp2_with (first | ((with_reducible refine gate_callee (f := 21) rfl ?_); refine goesL_ (some 12) rfl rfl Try.func21 (by kernel_rfl) rfl #[.agg #[.int .i64 a0_0, .int .i64 a0_1, .int .i64 a0_2, .int .i64 a0_3], .agg #[.int .i64 a1_0, .slice A1_1 l1_1.length c1_1]] rfl (by (try simp only [List.map_toArray, List.map_cons, List.map_nil]); first | done | rfl | (simp only [List.length_drop, List.length_take]; rfl)) ?_; (with_reducible refine (spec_OutOk.calls a0_0 a0_1 a0_2 a0_3 a1_0 _ _ l1_1 true _ ?side1 ?side2 A10.out).mono ?_); (case side1 => repeat (first | exact (Kd.C_below HR1_1.out HB.out) | (with_reducible refine Kd.C_alloc ?_ _) | (with_reducible refine Kd.C_drewN ?_ _) | (with_reducible refine Kd.C_drew ?_))); (case side2 => exact HC1_1.out); rintro e w58 ⟨rfl, hb⟩; refine ⟨_, rfl, ?_⟩; have n0_ := Aside0.mk (blk_below (bq BK162.out) hb); have n1_ := Aside0.mk (blk_below (bq BK163.out) hb); have n2_ := Aside0.mk (blk_below (bq BK164.out) hb); have n3_ := Aside0.mk (blk_below (bq BK165.out) hb); have n4_ := Aside0.mk (blk_below (bq BK166.out) hb); have n5_ := Aside0.mk (below_step (lq HB.out) hb); clear BK162; clear BK163; clear BK164; clear BK165; clear BK166; clear HB; have BK162 := n0_; have BK163 := n1_; have BK164 := n2_; have BK165 := n3_; have BK166 := n4_; have HB := n5_; clear n0_ n1_ n2_ n3_ n4_ n5_; (try clear hb); (try clear hb2); (try clear hk); (try clear hi); have hcz59_0 : w58.cell? ⟨gb162, 0, none⟩ = some (.int .i64 a0_0) := (blk_cell BK162.out 0).trans rfl; have hcz59_1 : w58.cell? ⟨gb162, 1, none⟩ = some (.int .i64 a0_1) := (blk_cell BK162.out 1).trans rfl; have hcz59_2 : w58.cell? ⟨gb162, 2, none⟩ = some (.int .i64 a0_2) := (blk_cell BK162.out 2).trans rfl; have hcz59_3 : w58.cell? ⟨gb162, 3, none⟩ = some (.int .i64 a0_3) := (blk_cell BK162.out 3).trans rfl; have hfz59_0 := blk_frozen BK162.out 0; have hfz59_1 := blk_frozen BK162.out 1; have hfz59_2 := blk_frozen BK162.out 2; have hfz59_3 := blk_frozen BK162.out 3; have hnb60 := NB164_165.out; have hnc60 := NB165_164.out; have hnb61 := NB164_166.out; have hnc61 := NB166_164.out; have hcz62_0 : w58.cell? ⟨gb164, 0, none⟩ = some (.slice A2_0 l2_0.length c2_0) := (blk_cell BK164.out 0).trans rfl; have hfz62_0 := blk_frozen BK164.out 0) | (go_at_call 15; (with_reducible refine (spec_InOk.calls a0_0 a0_1 a0_2 a0_3 _ _ l2_0 false _ ?side1 ?side2 A12.out).mono ?_); (case side1 => repeat (first | exact (Kd.C_below HR2_0.out HB.out) | (with_reducible refine Kd.C_alloc ?_ _) | (with_reducible refine Kd.C_drewN ?_ _) | (with_reducible refine Kd.C_drew ?_))); (case side2 => exact HC2_0.out); rintro e w63 ⟨rfl, hb⟩; have n0_ := Aside0.mk (blk_below (bq BK162.out) hb); have n1_ := Aside0.mk (blk_below (bq BK163.out) hb); have n2_ := Aside0.mk (blk_below (bq BK164.out) hb); have n3_ := Aside0.mk (blk_below (bq BK165.out) hb); have n4_ := Aside0.mk (blk_below (bq BK166.out) hb); have n5_ := Aside0.mk (below_step (lq HB.out) hb); clear BK162; clear BK163; clear BK164; clear BK165; clear BK166; clear HB; have BK162 := n0_; have BK163 := n1_; have BK164 := n2_; have BK165 := n3_; have BK166 := n4_; have HB := n5_; clear n0_ n1_ n2_ n3_ n4_ n5_; (try clear hb); (try clear hb2); (try clear hk); (try clear hi)))
    go_meet
    case rel => exact ⟨_, (true), (by first | rfl | (simp; done) | (simp [*]; done)), H', ⟨by first | omega | exact Nat.le_refl _⟩, ⟨by (with_reducible repeat (first | refine blk_drewN ?_ _ | refine blk_drew ?_ | refine blk_alloc ?_ _)); exact BK162.out⟩, ⟨by (with_reducible repeat (first | refine blk_drewN ?_ _ | refine blk_drew ?_ | refine blk_alloc ?_ _)); exact BK163.out⟩, ⟨by (with_reducible repeat (first | refine blk_drewN ?_ _ | refine blk_drew ?_ | refine blk_alloc ?_ _)); exact BK164.out⟩, ⟨by (with_reducible repeat (first | refine blk_drewN ?_ _ | refine blk_drew ?_ | refine blk_alloc ?_ _)); exact BK165.out⟩, ⟨by (with_reducible repeat (first | refine blk_drewN ?_ _ | refine blk_drew ?_ | refine blk_alloc ?_ _)); exact BK166.out⟩, ⟨by exact lq HB.out⟩⟩
  ·replace c11 := Bool.eq_false_iff.mpr c11
   subst c11
   rw [if_neg (show ¬ (false = true) by decide)] at H
   have H' := Aside0.mk H
   clear H
   have hnb64 := NB162_163.out
   have hnc64 := NB163_162.out
   have hnb65 := NB162_164.out
   have hnc65 := NB164_162.out
   have hnb66 := NB162_165.out
   have hnc66 := NB165_162.out
   have hnb67 := NB162_166.out
   have hnc67 := NB166_162.out
   have hcz68_0 : w9.cell? ⟨gb162, 0, none⟩ = some (.int .i64 a0_0) := (blk_cell BK162.out 0).trans rfl
   have hcz68_1 : w9.cell? ⟨gb162, 1, none⟩ = some (.int .i64 a0_1) := (blk_cell BK162.out 1).trans rfl
   have hcz68_2 : w9.cell? ⟨gb162, 2, none⟩ = some (.int .i64 a0_2) := (blk_cell BK162.out 2).trans rfl
   have hcz68_3 : w9.cell? ⟨gb162, 3, none⟩ = some (.int .i64 a0_3) := (blk_cell BK162.out 3).trans rfl
   have hfz68_0 := blk_frozen BK162.out 0
   have hfz68_1 := blk_frozen BK162.out 1
   have hfz68_2 := blk_frozen BK162.out 2
   have hfz68_3 := blk_frozen BK162.out 3
   have hnb69 := NB163_164.out
   have hnc69 := NB164_163.out
   have hnb70 := NB163_165.out
   have hnc70 := NB165_163.out
   have hnb71 := NB163_166.out
   have hnc71 := NB166_163.out
   have hcz72_0 : w9.cell? ⟨gb163, 0, none⟩ = some (.int .i64 a1_0) := (blk_cell BK163.out 0).trans rfl
   have hcz72_1 : w9.cell? ⟨gb163, 1, none⟩ = some (.slice A1_1 l1_1.length c1_1) := (blk_cell BK163.out 1).trans rfl
   have hfz72_0 := blk_frozen BK163.out 0
   have hfz72_1 := blk_frozen BK163.out 1
   go_wp2_with (first | ((with_reducible refine gate_callee (f := 21) rfl ?_); refine goesL_ (some 12) rfl rfl Try.func21 (by kernel_rfl) rfl #[.agg #[.int .i64 a0_0, .int .i64 a0_1, .int .i64 a0_2, .int .i64 a0_3], .agg #[.int .i64 a1_0, .slice A1_1 l1_1.length c1_1]] rfl (by (try simp only [List.map_toArray, List.map_cons, List.map_nil]); first | done | rfl | (simp only [List.length_drop, List.length_take]; rfl)) ?_; (with_reducible refine (spec_OutOk.calls a0_0 a0_1 a0_2 a0_3 a1_0 _ _ l1_1 false _ ?side1 ?side2 A10.out).mono ?_); (case side1 => repeat (first | exact (Kd.C_below HR1_1.out HB.out) | (with_reducible refine Kd.C_alloc ?_ _) | (with_reducible refine Kd.C_drewN ?_ _) | (with_reducible refine Kd.C_drew ?_))); (case side2 => exact HC1_1.out); rintro e w73 ⟨rfl, hb⟩; refine ⟨_, rfl, ?_⟩; have n0_ := Aside0.mk (blk_below (bq BK162.out) hb); have n1_ := Aside0.mk (blk_below (bq BK163.out) hb); have n2_ := Aside0.mk (blk_below (bq BK164.out) hb); have n3_ := Aside0.mk (blk_below (bq BK165.out) hb); have n4_ := Aside0.mk (blk_below (bq BK166.out) hb); have n5_ := Aside0.mk (below_step (lq HB.out) hb); clear BK162; clear BK163; clear BK164; clear BK165; clear BK166; clear HB; have BK162 := n0_; have BK163 := n1_; have BK164 := n2_; have BK165 := n3_; have BK166 := n4_; have HB := n5_; clear n0_ n1_ n2_ n3_ n4_ n5_; (try clear hb); (try clear hb2); (try clear hk); (try clear hi)))
   go_meet
   case rel => exact ⟨_, (true), (by first | rfl | (simp; done) | (simp [*]; done)), H', ⟨by first | omega | exact Nat.le_refl _⟩, ⟨by (with_reducible repeat (first | refine blk_drewN ?_ _ | refine blk_drew ?_ | refine blk_alloc ?_ _)); exact BK162.out⟩, ⟨by (with_reducible repeat (first | refine blk_drewN ?_ _ | refine blk_drew ?_ | refine blk_alloc ?_ _)); exact BK163.out⟩, ⟨by (with_reducible repeat (first | refine blk_drewN ?_ _ | refine blk_drew ?_ | refine blk_alloc ?_ _)); exact BK164.out⟩, ⟨by (with_reducible repeat (first | refine blk_drewN ?_ _ | refine blk_drew ?_ | refine blk_alloc ?_ _)); exact BK165.out⟩, ⟨by (with_reducible repeat (first | refine blk_drewN ?_ _ | refine blk_drew ?_ | refine blk_alloc ?_ _)); exact BK166.out⟩, ⟨by exact lq HB.out⟩⟩
 case rest =>
  clear HC4
  try clear c1
  try clear c2
  try clear p2
  try clear c3
  try clear c4
  try clear c5
  try clear c6
  try clear c7
  try clear c11
  try clear c13
  try clear c14
  try clear c14b0
  try clear c14b1
  try clear c15
  try clear c16
  try clear c17
  try clear c18
  try clear c20
  try clear c21
  try clear c22
  try clear c26
  try clear c27
  try clear c33
  try clear c34
  try clear c35
  try clear c36
  try clear c37
  try clear c38
  try clear c39
  try clear c40
  try clear c44
  try clear c45
  try clear c49
  try clear c50
  try clear c51
  try clear c52
  try clear c54
  try clear c55
  try clear c56
  try clear c60
  try clear c61
  try clear c64
  try clear c65
  try clear c66
  try clear c67
  try clear c69
  try clear c70
  try clear c71
  try clear hcz19_0
  try clear hcz19_1
  try clear hcz19_2
  try clear hcz19_3
  try clear hcz23_0
  try clear hcz23_1
  try clear hcz25_0
  try clear hcz25_1
  try clear hcz25_2
  try clear hcz25_3
  try clear hcz28_0
  try clear hcz30_0
  try clear hcz30_1
  try clear hcz30_2
  try clear hcz30_3
  try clear hcz31_0
  try clear hcz32_0
  try clear hcz32_1
  try clear hcz37_0
  try clear hcz37_1
  try clear hcz37_2
  try clear hcz37_3
  try clear hcz41_0
  try clear hcz41_1
  try clear hcz43_0
  try clear hcz43_1
  try clear hcz43_2
  try clear hcz43_3
  try clear hcz46_0
  try clear hcz48_0
  try clear hcz48_1
  try clear hcz48_2
  try clear hcz48_3
  try clear hcz53_0
  try clear hcz53_1
  try clear hcz53_2
  try clear hcz53_3
  try clear hcz57_0
  try clear hcz57_1
  try clear hcz59_0
  try clear hcz59_1
  try clear hcz59_2
  try clear hcz59_3
  try clear hcz62_0
  try clear hcz68_0
  try clear hcz68_1
  try clear hcz68_2
  try clear hcz68_3
  try clear hcz72_0
  try clear hcz72_1
  try clear hfz19_0
  try clear hfz19_1
  try clear hfz19_2
  try clear hfz19_3
  try clear hfz23_0
  try clear hfz23_1
  try clear hfz25_0
  try clear hfz25_1
  try clear hfz25_2
  try clear hfz25_3
  try clear hfz28_0
  try clear hfz30_0
  try clear hfz30_1
  try clear hfz30_2
  try clear hfz30_3
  try clear hfz31_0
  try clear hfz32_0
  try clear hfz32_1
  try clear hfz37_0
  try clear hfz37_1
  try clear hfz37_2
  try clear hfz37_3
  try clear hfz41_0
  try clear hfz41_1
  try clear hfz43_0
  try clear hfz43_1
  try clear hfz43_2
  try clear hfz43_3
  try clear hfz46_0
  try clear hfz48_0
  try clear hfz48_1
  try clear hfz48_2
  try clear hfz48_3
  try clear hfz53_0
  try clear hfz53_1
  try clear hfz53_2
  try clear hfz53_3
  try clear hfz57_0
  try clear hfz57_1
  try clear hfz59_0
  try clear hfz59_1
  try clear hfz59_2
  try clear hfz59_3
  try clear hfz62_0
  try clear hfz68_0
  try clear hfz68_1
  try clear hfz68_2
  try clear hfz68_3
  try clear hfz72_0
  try clear hfz72_1
  obtain ⟨kq, x32_3, rfl, HA, HJ3, BK162, BK163, BK164, BK165, BK166, HB⟩ := hcut
  cases kq with
  | zero => exact absurd HA.out (by simp [spec_Border.j0])
  | succ kj3 =>
   have H := HA.out
   clear HA
   simp only [spec_Border.j0] at H
   by_cases c74 : x32_3 = true
   ·subst c74
    rw [if_pos rfl] at H
    obtain ⟨y169, hy169⟩ : ∃ y_ : List Int, y_ = (([] : List Int)) := ⟨_, rfl⟩
    replace H : (some (0, ([] : List Int), ([] : List Int), y169)) = some (r1, r2, r3, r4) := by first | (rw [hy169]; with_reducible exact H) | (have H2_ := (Option.bind_some _ _).symm.trans H; rw [hy169]; with_reducible exact H2_) | (have H2_ := (Option.bind_some _ _).symm.trans H; with_reducible exact H2_) | with_reducible exact H | (rw [hy169]; exact H) | exact H
    have Ny169 := Aside0.mk hy169
    clear hy169
    simp only [Option.some.injEq, Prod.mk.injEq] at H
    obtain ⟨rfl, rfl, rfl, rfl⟩ := H
    go_wp2_with (first | ((with_reducible refine gate_dst (N := 35) rfl ?_); (try (refine gate_guard (by rfl) ?_; dsimp only)); refine Kd.R_lit (Kd.int .u32) _ 46 ?hg (N := 35) ?hd (xs := ([] : List Int)) (inner := []) (ok := fun _ => True) (okp := fun _ => True) ?hr ?hp (fun _ hk => hk) trivial (Below.refl _ _) (Nat.le_refl _) (by simp) ?_; (case hd => rfl); (case hg => rfl); (case hr => first | (go_simp; done) | (go_simp; rfl)); (case hp => exact (Reps.none _ _)); intro v170 w75 ho76 hb hg_ hnew_; clear hg_ hnew_; (first | rw [← Ny169.out] at ho76 | (simp only [Int.reduceToNat] at ho76; rw [← Ny169.out] at ho76)); have n0_ := Aside0.mk (Kd.R_lower ho76 (below_size (lq HB.out))); have n1_ := Aside0.mk (blk_below (bq BK162.out) hb); have n2_ := Aside0.mk (blk_below (bq BK163.out) hb); have n3_ := Aside0.mk (blk_below (bq BK164.out) hb); have n4_ := Aside0.mk (blk_below (bq BK165.out) hb); have n5_ := Aside0.mk (blk_below (bq BK166.out) hb); have n6_ := Aside0.mk (below_step (lq HB.out) hb); clear BK162; clear BK163; clear BK164; clear BK165; clear BK166; clear HB; have HO171 := n0_; have BK162 := n1_; have BK163 := n2_; have BK164 := n3_; have BK165 := n4_; have BK166 := n5_; have HB := n6_; clear n0_ n1_ n2_ n3_ n4_ n5_ n6_; clear hb ho76; have hnb77 := NB165_162.out; have hnc77 := NB162_165.out; have hnb78 := NB165_163.out; have hnc78 := NB163_165.out; have hnb79 := NB165_164.out; have hnc79 := NB164_165.out; have hnb80 := NB165_166.out; have hnc80 := NB166_165.out; have hcz81_0 : w75.cell? ⟨gb165, 0, none⟩ = some (.int .i64 0) := (blk_cell BK165.out 0).trans rfl; have hcz81_1 : w75.cell? ⟨gb165, 1, none⟩ = some (.slice none 0 0) := (blk_cell BK165.out 1).trans rfl; have hfz81_0 := blk_frozen BK165.out 0; have hfz81_1 := blk_frozen BK165.out 1; have hnb82 := NB166_162.out; have hnc82 := NB162_166.out; have hnb83 := NB166_163.out; have hnc83 := NB163_166.out; have hnb84 := NB166_164.out; have hnc84 := NB164_166.out; have hcz85_0 : w75.cell? ⟨gb166, 0, none⟩ = some (.slice none 0 0) := (blk_cell BK166.out 0).trans rfl; have hfz85_0 := blk_frozen BK166.out 0))
    refine bodyPost_ret (results_list (rs := [.cell 6 39, .cell 7 31, .tmp 8]) rfl (by simp) (.cell gb165 39 #[.int .i64 0, .slice none 0 0] (0, 0) _ rfl (by (with_reducible repeat (first | refine blk_drewN ?_ _ | refine blk_drew ?_ | refine blk_alloc ?_ _)); refine blk_far ?_ NB165_166.out _; (with_reducible repeat (first | refine blk_drewN ?_ _ | refine blk_drew ?_ | refine blk_alloc ?_ _)); refine blk_put (cs := #[.int .i64 0, .slice none 0 0]) ?_ 1 _ rfl; (with_reducible repeat (first | refine blk_drewN ?_ _ | refine blk_drew ?_ | refine blk_alloc ?_ _)); refine blk_put (cs := #[.int .i64 0, .slice none 0 0]) ?_ 0 _ rfl; (with_reducible repeat (first | refine blk_drewN ?_ _ | refine blk_drew ?_ | refine blk_alloc ?_ _)); exact BK165.out) Try.underlying39 rfl (by kernel_rfl) (.cell gb166 31 #[.slice none 0 0] (0, 0) _ rfl (by (with_reducible repeat (first | refine blk_drewN ?_ _ | refine blk_drew ?_ | refine blk_alloc ?_ _)); refine blk_put (cs := #[.slice none 0 0]) ?_ 0 _ rfl; (with_reducible repeat (first | refine blk_drewN ?_ _ | refine blk_drew ?_ | refine blk_alloc ?_ _)); refine blk_far ?_ NB166_165.out _; (with_reducible repeat (first | refine blk_drewN ?_ _ | refine blk_drew ?_ | refine blk_alloc ?_ _)); refine blk_far ?_ NB166_165.out _; (with_reducible repeat (first | refine blk_drewN ?_ _ | refine blk_drew ?_ | refine blk_alloc ?_ _)); exact BK166.out) Try.underlying31 rfl (by kernel_rfl) (.tmp .nil)))) rfl ?_
    exact ⟨_, _, _, by first | rfl | (simp [errW_none, errW_some] <;> rfl) | (simp [*, errW_none, errW_some] <;> rfl), by first | exact Kd.R_nil _ _ _ _ _ | exact Kd.N_nil _ _ _ _ _ | exact Kd.V_nil _ _ _ _ _ | exact Kd.Q_nil _ _ _ _ _ | exact Kd.S_nil _ _ _ _ _, by first | exact Kd.R_nil _ _ _ _ _ | exact Kd.N_nil _ _ _ _ _ | exact Kd.V_nil _ _ _ _ _ | exact Kd.Q_nil _ _ _ _ _ | exact Kd.S_nil _ _ _ _ _, by (with_reducible repeat (first | apply Kd.R_alloc | apply Kd.R_drewN | apply Kd.R_drew)); exact Kd.R_mono (Kd.R_far (p := ⟨gb166, 0, none⟩) (Kd.R_far (p := ⟨gb165, 1, none⟩) (Kd.R_far (p := ⟨gb165, 0, none⟩) (Kd.R_types (Kd.R_types HO171.out BK165.out (by decide)) BK166.out (by decide)) (fun _ hk => hk.1.2) (.int .i64 0)) (fun _ hk => hk.1.2) (.slice none 0 0)) (fun _ hk => hk.2) (.slice none 0 0)) (fun _ hk => ⟨(by simp [Value.ownBlock]), (by simp [Value.ownBlock])⟩), by repeat (first | (with_reducible first | exact HB.out | apply below_alloc | apply pw_below_drewN | apply below_drew1 | refine below_set ?_ GE165.out | refine below_set ?_ GE166.out) | exact HB.out)⟩
   ·replace c74 := Bool.eq_false_iff.mpr c74
    subst c74
    rw [if_neg (show ¬ (false = true) by decide)] at H
    by_cases c86 : a0_0 = 0
    ·rw [if_pos c86] at H
     have c86b0 : (a0_0 == 0) = true := beq_iff_eq.mpr c86
     have c86b1 : (a0_0 != 0) = false := bne_eq_false_iff_eq.mpr c86
     clear c86
     by_cases c87 : (l1_1.length : Int) = 0
     ·rw [if_pos c87] at H
      have c87b0 : ((l1_1.length : Int) == 0) = true := beq_iff_eq.mpr c87
      have c87b1 : ((l1_1.length : Int) != 0) = false := bne_eq_false_iff_eq.mpr c87
      clear c87
      replace H := Option.bind_eq_some_iff.mp H
      obtain ⟨t172, A880, H⟩ := H
      (try dsimp only at H)
      have A88 := Aside0.mk A880
      clear A880
      obtain ⟨y175, hy175⟩ : ∃ y_ : List Int, y_ = (([] : List Int)) := ⟨_, rfl⟩
      replace H : (some (0, ([] : List Int), t172, y175)) = some (r1, r2, r3, r4) := by first | (rw [hy175]; with_reducible exact H) | (have H2_ := (Option.bind_some _ _).symm.trans H; rw [hy175]; with_reducible exact H2_) | (have H2_ := (Option.bind_some _ _).symm.trans H; with_reducible exact H2_) | with_reducible exact H | (rw [hy175]; exact H) | exact H
      have Ny175 := Aside0.mk hy175
      clear hy175
      simp only [Option.some.injEq, Prod.mk.injEq] at H
      obtain ⟨rfl, rfl, rfl, rfl⟩ := H
      have hnb89 := NB162_163.out
      have hnc89 := NB163_162.out
      have hnb90 := NB162_164.out
      have hnc90 := NB164_162.out
      have hnb91 := NB162_165.out
      have hnc91 := NB165_162.out
      have hnb92 := NB162_166.out
      have hnc92 := NB166_162.out
      have hcz93_0 : wc.cell? ⟨gb162, 0, none⟩ = some (.int .i64 a0_0) := (blk_cell BK162.out 0).trans rfl
      have hcz93_1 : wc.cell? ⟨gb162, 1, none⟩ = some (.int .i64 a0_1) := (blk_cell BK162.out 1).trans rfl
      have hcz93_2 : wc.cell? ⟨gb162, 2, none⟩ = some (.int .i64 a0_2) := (blk_cell BK162.out 2).trans rfl
      have hcz93_3 : wc.cell? ⟨gb162, 3, none⟩ = some (.int .i64 a0_3) := (blk_cell BK162.out 3).trans rfl
      have hfz93_0 := blk_frozen BK162.out 0
      have hfz93_1 := blk_frozen BK162.out 1
      have hfz93_2 := blk_frozen BK162.out 2
      have hfz93_3 := blk_frozen BK162.out 3
      have hnb94 := NB163_164.out
      have hnc94 := NB164_163.out
      have hnb95 := NB163_165.out
      have hnc95 := NB165_163.out
      have hnb96 := NB163_166.out
      have hnc96 := NB166_163.out
      have hcz97_0 : wc.cell? ⟨gb163, 0, none⟩ = some (.int .i64 a1_0) := (blk_cell BK163.out 0).trans rfl
      have hcz97_1 : wc.cell? ⟨gb163, 1, none⟩ = some (.slice A1_1 l1_1.length c1_1) := (blk_cell BK163.out 1).trans rfl
      have hfz97_0 := blk_frozen BK163.out 0
      have hfz97_1 := blk_frozen BK163.out 1
      have hnb98 := NB164_165.out
      have hnc98 := NB165_164.out
      have hnb99 := NB164_166.out
      have hnc99 := NB166_164.out
      have hcz100_0 : wc.cell? ⟨gb164, 0, none⟩ = some (.slice A2_0 l2_0.length c2_0) := (blk_cell BK164.out 0).trans rfl
      have hfz100_0 := blk_frozen BK164.out 0
      go_wp2_with (first | ((with_reducible refine gate_callee (f := 63) rfl ?_); refine goesL_ (some 46) rfl rfl Try.func63 (by kernel_rfl) rfl #[.slice A2_0 l2_0.length c2_0] rfl (by (try simp only [List.map_toArray, List.map_cons, List.map_nil]); first | done | rfl | (simp only [List.length_drop, List.length_take]; rfl)) ?_; (with_reducible refine (spec_l11List.calls _ _ l2_0 t172 _ ?side1 ?side2 A88.out).mono ?_); (case side1 => repeat (first | exact (Kd.C_below HR2_0.out HB.out) | (with_reducible refine Kd.C_alloc ?_ _) | (with_reducible refine Kd.C_drewN ?_ _) | (with_reducible refine Kd.C_drew ?_))); (case side2 => exact HC2_0.out); rintro e w101 ⟨v173, rfl, ho0, hb⟩; refine ⟨_, rfl, ?_⟩; have n0_ := Aside0.mk (Kd.R_lower ho0 (below_size (lq HB.out))); have n1_ := Aside0.mk (blk_below (bq BK162.out) hb); have n2_ := Aside0.mk (blk_below (bq BK163.out) hb); have n3_ := Aside0.mk (blk_below (bq BK164.out) hb); have n4_ := Aside0.mk (blk_below (bq BK165.out) hb); have n5_ := Aside0.mk (blk_below (bq BK166.out) hb); have n6_ := Aside0.mk (below_step (lq HB.out) hb); clear BK162; clear BK163; clear BK164; clear BK165; clear BK166; clear HB; have HO174 := n0_; have BK162 := n1_; have BK163 := n2_; have BK164 := n3_; have BK165 := n4_; have BK166 := n5_; have HB := n6_; clear n0_ n1_ n2_ n3_ n4_ n5_ n6_; (try clear hb); (try clear hb2); (try clear hk); (try clear hi); (try clear ho0); obtain ⟨Ao102, co102, eo102⟩ := Kd.R_slice HO174.out; subst eo102) | ((with_reducible refine gate_dst (N := 48) rfl ?_); (try (refine gate_guard (by rfl) ?_; dsimp only)); refine Kd.R_lit (Kd.int .u32) _ 46 ?hg (N := 48) ?hd (xs := ([] : List Int)) (inner := []) (ok := fun _ => True) (okp := fun _ => True) ?hr ?hp (fun _ hk => hk) trivial (Below.refl _ _) (Nat.le_refl _) (by simp) ?_; (case hd => rfl); (case hg => rfl); (case hr => first | (go_simp; done) | (go_simp; rfl)); (case hp => exact (Reps.none _ _)); intro v176 w103 ho104 hb hg_ hnew_; clear hg_ hnew_; (first | rw [← Ny175.out] at ho104 | (simp only [Int.reduceToNat] at ho104; rw [← Ny175.out] at ho104)); have n0_ := Aside0.mk (Kd.R_elder' (rq HO174.out) (Kd.R_base ho104) hb); have n1_ := Aside0.mk (Kd.R_lower (Kd.R_new' ho104 (Kd.R_lt (rq HO174.out))) (below_size (lq HB.out))); have n2_ := Aside0.mk (blk_below (bq BK162.out) hb); have n3_ := Aside0.mk (blk_below (bq BK163.out) hb); have n4_ := Aside0.mk (blk_below (bq BK164.out) hb); have n5_ := Aside0.mk (blk_below (bq BK165.out) hb); have n6_ := Aside0.mk (blk_below (bq BK166.out) hb); have n7_ := Aside0.mk (below_step (lq HB.out) hb); clear HO174; clear BK162; clear BK163; clear BK164; clear BK165; clear BK166; clear HB; have HO174 := n0_; have HO177 := n1_; have BK162 := n2_; have BK163 := n3_; have BK164 := n4_; have BK165 := n5_; have BK166 := n6_; have HB := n7_; clear n0_ n1_ n2_ n3_ n4_ n5_ n6_ n7_; clear hb ho104; have hnb105 := NB165_166.out; have hnc105 := NB166_165.out; have hcz106_0 : w103.cell? ⟨gb165, 0, none⟩ = some (.int .i64 0) := (blk_cell BK165.out 0).trans rfl; have hcz106_1 : w103.cell? ⟨gb165, 1, none⟩ = some (.slice none 0 0) := (blk_cell BK165.out 1).trans rfl; have hfz106_0 := blk_frozen BK165.out 0; have hfz106_1 := blk_frozen BK165.out 1; have hcz107_0 : w103.cell? ⟨gb166, 0, none⟩ = some (.slice none 0 0) := (blk_cell BK166.out 0).trans rfl; have hfz107_0 := blk_frozen BK166.out 0))
      refine bodyPost_ret (results_list (rs := [.cell 6 39, .cell 7 31, .tmp 8]) rfl (by simp) (.cell gb165 39 #[.int .i64 0, .slice none 0 0] (0, 0) _ rfl (by (with_reducible repeat (first | refine blk_drewN ?_ _ | refine blk_drew ?_ | refine blk_alloc ?_ _)); refine blk_far ?_ NB165_166.out _; (with_reducible repeat (first | refine blk_drewN ?_ _ | refine blk_drew ?_ | refine blk_alloc ?_ _)); refine blk_put (cs := #[.int .i64 0, .slice none 0 0]) ?_ 1 _ rfl; (with_reducible repeat (first | refine blk_drewN ?_ _ | refine blk_drew ?_ | refine blk_alloc ?_ _)); refine blk_put (cs := #[.int .i64 0, .slice none 0 0]) ?_ 0 _ rfl; (with_reducible repeat (first | refine blk_drewN ?_ _ | refine blk_drew ?_ | refine blk_alloc ?_ _)); exact BK165.out) Try.underlying39 rfl (by kernel_rfl) (.cell gb166 31 #[.slice Ao102 t172.length co102] (0, 0) _ rfl (by (with_reducible repeat (first | refine blk_drewN ?_ _ | refine blk_drew ?_ | refine blk_alloc ?_ _)); refine blk_put (cs := #[.slice none 0 0]) ?_ 0 _ rfl; (with_reducible repeat (first | refine blk_drewN ?_ _ | refine blk_drew ?_ | refine blk_alloc ?_ _)); refine blk_far ?_ NB166_165.out _; (with_reducible repeat (first | refine blk_drewN ?_ _ | refine blk_drew ?_ | refine blk_alloc ?_ _)); refine blk_far ?_ NB166_165.out _; (with_reducible repeat (first | refine blk_drewN ?_ _ | refine blk_drew ?_ | refine blk_alloc ?_ _)); exact BK166.out) Try.underlying31 rfl (by kernel_rfl) (.tmp .nil)))) rfl ?_
      exact ⟨_, _, _, by first | rfl | (simp [errW_none, errW_some] <;> rfl) | (simp [*, errW_none, errW_some] <;> rfl), by first | exact Kd.R_nil _ _ _ _ _ | exact Kd.N_nil _ _ _ _ _ | exact Kd.V_nil _ _ _ _ _ | exact Kd.Q_nil _ _ _ _ _ | exact Kd.S_nil _ _ _ _ _, by (with_reducible repeat (first | apply Kd.R_alloc | apply Kd.R_drewN | apply Kd.R_drew)); exact Kd.R_mono (Kd.R_far (p := ⟨gb166, 0, none⟩) (Kd.R_far (p := ⟨gb165, 1, none⟩) (Kd.R_far (p := ⟨gb165, 0, none⟩) (Kd.R_types (Kd.R_types HO174.out BK165.out (by decide)) BK166.out (by decide)) (fun _ hk => hk.1.2) (.int .i64 0)) (fun _ hk => hk.1.2) (.slice none 0 0)) (fun _ hk => hk.2) (.slice Ao102 t172.length co102)) (fun _ hk => ⟨(by simp [Value.ownBlock]), hk.1.1.2⟩), by (with_reducible repeat (first | apply Kd.R_alloc | apply Kd.R_drewN | apply Kd.R_drew)); exact Kd.R_mono (Kd.R_far (p := ⟨gb166, 0, none⟩) (Kd.R_far (p := ⟨gb165, 1, none⟩) (Kd.R_far (p := ⟨gb165, 0, none⟩) (Kd.R_types (Kd.R_types HO177.out BK165.out (by decide)) BK166.out (by decide)) (fun _ hk => hk.1.2) (.int .i64 0)) (fun _ hk => hk.1.2) (.slice none 0 0)) (fun _ hk => hk.2) (.slice Ao102 t172.length co102)) (fun _ hk => ⟨(by simp [Value.ownBlock]), hk.1.1.2⟩), by repeat (first | (with_reducible first | exact HB.out | apply below_alloc | apply pw_below_drewN | apply below_drew1 | refine below_set ?_ GE165.out | refine below_set ?_ GE166.out) | exact HB.out)⟩
     ·rw [if_neg c87] at H
      have c87b0 : ((l1_1.length : Int) == 0) = false := beq_eq_false_iff_ne.mpr c87
      have c87b1 : ((l1_1.length : Int) != 0) = true := bne_iff_ne.mpr c87
      have c87b2 : ¬ (l1_1 = []) := fun h_ => c87 (by rw [h_]; rfl)
      replace H := Option.bind_eq_some_iff.mp H
      obtain ⟨t178, A1080, H⟩ := H
      (try dsimp only at H)
      have A108 := Aside0.mk A1080
      clear A1080
      replace H := Option.bind_eq_some_iff.mp H
      obtain ⟨t181, A1090, H⟩ := H
      (try dsimp only at H)
      have A109 := Aside0.mk A1090
      clear A1090
      simp only [Option.some.injEq, Prod.mk.injEq] at H
      obtain ⟨rfl, rfl, rfl, rfl⟩ := H
      have hnb110 := NB162_163.out
      have hnc110 := NB163_162.out
      have hnb111 := NB162_164.out
      have hnc111 := NB164_162.out
      have hnb112 := NB162_165.out
      have hnc112 := NB165_162.out
      have hnb113 := NB162_166.out
      have hnc113 := NB166_162.out
      have hcz114_0 : wc.cell? ⟨gb162, 0, none⟩ = some (.int .i64 a0_0) := (blk_cell BK162.out 0).trans rfl
      have hcz114_1 : wc.cell? ⟨gb162, 1, none⟩ = some (.int .i64 a0_1) := (blk_cell BK162.out 1).trans rfl
      have hcz114_2 : wc.cell? ⟨gb162, 2, none⟩ = some (.int .i64 a0_2) := (blk_cell BK162.out 2).trans rfl
      have hcz114_3 : wc.cell? ⟨gb162, 3, none⟩ = some (.int .i64 a0_3) := (blk_cell BK162.out 3).trans rfl
      have hfz114_0 := blk_frozen BK162.out 0
      have hfz114_1 := blk_frozen BK162.out 1
      have hfz114_2 := blk_frozen BK162.out 2
      have hfz114_3 := blk_frozen BK162.out 3
      have hnb115 := NB163_164.out
      have hnc115 := NB164_163.out
      have hnb116 := NB163_165.out
      have hnc116 := NB165_163.out
      have hnb117 := NB163_166.out
      have hnc117 := NB166_163.out
      have hcz118_0 : wc.cell? ⟨gb163, 0, none⟩ = some (.int .i64 a1_0) := (blk_cell BK163.out 0).trans rfl
      have hcz118_1 : wc.cell? ⟨gb163, 1, none⟩ = some (.slice A1_1 l1_1.length c1_1) := (blk_cell BK163.out 1).trans rfl
      have hfz118_0 := blk_frozen BK163.out 0
      have hfz118_1 := blk_frozen BK163.out 1
      try go_wp2
      have n0_ := Aside0.mk (blk_drew BK162.out)
      have n1_ := Aside0.mk (blk_drew BK163.out)
      have n2_ := Aside0.mk (blk_drew BK164.out)
      have n3_ := Aside0.mk (blk_drew BK165.out)
      have n4_ := Aside0.mk (blk_drew BK166.out)
      have n5_ := Aside0.mk (below_drew1 HB.out)
      clear BK162
      clear BK163
      clear BK164
      clear BK165
      clear BK166
      clear HB
      have BK162 := n0_
      have BK163 := n1_
      have BK164 := n2_
      have BK165 := n3_
      have BK166 := n4_
      have HB := n5_
      clear n0_ n1_ n2_ n3_ n4_ n5_
      refine start_ (n := 11) (S := fun w' => w'.cell? ⟨gb163, 0, none⟩ = some (.int .i64 a1_0) ∧ w'.cell? ⟨gb163, 1, none⟩ = some (.slice A1_1 l1_1.length c1_1)) (ds := []) #[false, false, false, false, false, false, false, false, false, false, false] (by kernel_rfl) rfl rfl ⟨(blk_cell BK163.out 0).trans rfl, (blk_cell BK163.out 1).trans rfl⟩ (fun hHeld => ?_); refine with_tabW spec_Border.tab6 spec_Border.bits6 (fun HT_ HW_ => ?_)
      generalize wc.drew = w119 at BK162 BK163 BK164 BK165 BK166 HB hHeld ⊢
      refine pure_ (i := 0) (N := some 49) (v := ?_) (a' := ?_) #[true, false, false, false, false, false, false, false, false, false, false] rfl rfl (any_of HT_.out (by kernel_rfl)) (fun _ _ _ h => h) (Or.inl ⟨by rfl, ?_⟩) ?_ ?_
      rotate_left
      ·intro w'
       go_simp
       with_reducible rfl
      rotate_left
      ·simp only [Act.put, List.setIfInBounds_toArray, List.set_cons_zero, List.set_cons_succ, i64_w, i32_w]
       rfl
      refine pure_ (i := 1) (N := some 50) (v := ?_) (a' := ?_) #[true, true, false, false, false, false, false, false, false, false, false] rfl rfl (any_of HT_.out (by kernel_rfl)) (fun _ _ _ h => h) (Or.inl ⟨by rfl, ?_⟩) ?_ ?_
      rotate_left
      ·intro w'
       go_simp
       with_reducible rfl
      rotate_left
      ·simp only [Act.put, List.setIfInBounds_toArray, List.set_cons_zero, List.set_cons_succ, i64_w, i32_w]
       rfl
      refine pure_ (i := 5) (N := some 54) (v := ?_) (a' := ?_) #[true, true, false, false, false, true, false, false, false, false, false] rfl rfl (any_of HT_.out (by kernel_rfl)) (fun _ _ _ h => h) (Or.inl ⟨by rfl, ?_⟩) ?_ ?_
      rotate_left
      ·intro w'
       go_simp
       with_reducible rfl
      rotate_left
      ·simp only [Act.put, List.setIfInBounds_toArray, List.set_cons_zero, List.set_cons_succ, i64_w, i32_w]
       rfl
      refine take_ (i := 2) (N := some 51) (v := ?_) (a' := ?_) #[true, true, true, false, false, true, false, false, false, false, false] rfl rfl (take_ofW HT_.out HW_.out (by kernel_rfl)) (fun _ _ _ h => h) (Or.inl ⟨by rfl, ?_⟩) hHeld ?_ ?_
      rotate_left
      ·rintro w' ⟨s0, s1⟩
       go_simp
       with_reducible rfl
      rotate_left
      ·simp only [Act.put, List.setIfInBounds_toArray, List.set_cons_zero, List.set_cons_succ, i64_w, i32_w]
       rfl
      refine take_ (i := 6) (N := some 55) (v := ?_) (a' := ?_) #[true, true, true, false, false, true, true, false, false, false, false] rfl rfl (take_ofW HT_.out HW_.out (by kernel_rfl)) (fun _ _ _ h => h) (Or.inl ⟨by rfl, ?_⟩) hHeld ?_ ?_
      rotate_left
      ·rintro w' ⟨s0, s1⟩
       go_simp
       with_reducible rfl
      rotate_left
      ·simp only [Act.put, List.setIfInBounds_toArray, List.set_cons_zero, List.set_cons_succ, i64_w, i32_w]
       rfl
      refine one_ (i := 3) (N := some 52) #[true, true, true, true, false, true, true, false, false, false, false] rfl rfl (one_of HT_.out (by kernel_rfl)) (by decide) (fun K hK => ?_)
      refine goes_ Try.func63 (by kernel_rfl) rfl #[.slice A1_1 l1_1.length c1_1] (by rfl) rfl rfl (by (try simp only [List.map_toArray, List.map_cons, List.map_nil]); first | done | rfl | (simp only [List.length_drop, List.length_take]; rfl)) ?_
      with_reducible refine (spec_l11List.calls _ _ l1_1 t178 _ ?side1 ?side2 A108.out).mono ?_
      (case side1 => repeat (first | exact (Kd.C_below HR1_1.out HB.out) | (with_reducible refine Kd.C_alloc ?_ _) | (with_reducible refine Kd.C_drewN ?_ _) | (with_reducible refine Kd.C_drew ?_)))
      (case side2 => exact HC1_1.out)
      rintro e w120 ⟨v179, rfl, ho0, hb⟩
      refine ⟨_, rfl, ?_⟩
      have n0_ := Aside0.mk (Kd.R_lower ho0 (below_size (lq HB.out)))
      have n1_ := Aside0.mk (blk_below (bq BK162.out) hb)
      have n2_ := Aside0.mk (blk_below (bq BK163.out) hb)
      have n3_ := Aside0.mk (blk_below (bq BK164.out) hb)
      have n4_ := Aside0.mk (blk_below (bq BK165.out) hb)
      have n5_ := Aside0.mk (blk_below (bq BK166.out) hb)
      have n6_ := Aside0.mk (below_step (lq HB.out) hb)
      clear BK162
      clear BK163
      clear BK164
      clear BK165
      clear BK166
      clear HB
      have HO180 := n0_
      have BK162 := n1_
      have BK163 := n2_
      have BK164 := n3_
      have BK165 := n4_
      have BK166 := n5_
      have HB := n6_
      clear n0_ n1_ n2_ n3_ n4_ n5_ n6_
      (try clear hb)
      (try clear hb2)
      (try clear hk)
      (try clear hi)
      (try clear ho0)
      obtain ⟨Ao121, co121, eo121⟩ := Kd.R_slice HO180.out
      (first | subst eo121 | (injection eo121 with f1_ f2_ f3_; have f4_ := f1_.symm; have f5_ := f3_.symm; clear f1_ f2_ f3_; subst f4_; subst f5_))
      refine hK.out _ _ ⟨(blk_cell BK163.out 0).trans rfl, (blk_cell BK163.out 1).trans rfl⟩ (fun hHeld => ?_)
      clear hK K
      refine norm_ (a' := ?_) ?_ ?_
      rotate_left
      ·show Act.put _ (some 52) _ = _
       simp only [Act.put, List.setIfInBounds_toArray, List.set_cons_zero, List.set_cons_succ, i64_w, i32_w]
       rfl
      refine pure_ (i := 4) (N := some 53) (v := ?_) (a' := ?_) #[true, true, true, true, true, true, true, false, false, false, false] rfl rfl (any_of HT_.out (by kernel_rfl)) (fun _ _ _ h => h) (Or.inl ⟨by rfl, ?_⟩) ?_ ?_
      rotate_left
      ·intro w'
       go_simp
       with_reducible rfl
      rotate_left
      ·simp only [Act.put, List.setIfInBounds_toArray, List.set_cons_zero, List.set_cons_succ, i64_w, i32_w]
       rfl
      refine one_ (i := 7) (N := some 56) #[true, true, true, true, true, true, true, true, false, false, false] rfl rfl (one_of HT_.out (by kernel_rfl)) (by decide) (fun K hK => ?_)
      refine goes_ Try.func63 (by kernel_rfl) rfl #[.slice A1_1 l1_1.length c1_1] (by rfl) rfl rfl (by (try simp only [List.map_toArray, List.map_cons, List.map_nil]); first | done | rfl | (simp only [List.length_drop, List.length_take]; rfl)) ?_
      with_reducible refine (spec_l11List.calls _ _ l1_1 t181 _ ?side1 ?side2 A109.out).mono ?_
      (case side1 => repeat (first | exact (Kd.C_below HR1_1.out HB.out) | (with_reducible refine Kd.C_alloc ?_ _) | (with_reducible refine Kd.C_drewN ?_ _) | (with_reducible refine Kd.C_drew ?_)))
      (case side2 => exact HC1_1.out)
      rintro e w122 ⟨v182, rfl, ho0, hb⟩
      refine ⟨_, rfl, ?_⟩
      have n0_ := Aside0.mk (Kd.R_elder' (rq HO180.out) (Kd.R_base ho0) hb)
      have n1_ := Aside0.mk (Kd.R_lower (Kd.R_new' ho0 (Kd.R_lt (rq HO180.out))) (below_size (lq HB.out)))
      have n2_ := Aside0.mk (blk_below (bq BK162.out) hb)
      have n3_ := Aside0.mk (blk_below (bq BK163.out) hb)
      have n4_ := Aside0.mk (blk_below (bq BK164.out) hb)
      have n5_ := Aside0.mk (blk_below (bq BK165.out) hb)
      have n6_ := Aside0.mk (blk_below (bq BK166.out) hb)
      have n7_ := Aside0.mk (below_step (lq HB.out) hb)
      clear HO180
      clear BK162
      clear BK163
      clear BK164
      clear BK165
      clear BK166
      clear HB
      have HO180 := n0_
      have HO183 := n1_
      have BK162 := n2_
      have BK163 := n3_
      have BK164 := n4_
      have BK165 := n5_
      have BK166 := n6_
      have HB := n7_
      clear n0_ n1_ n2_ n3_ n4_ n5_ n6_ n7_
      (try clear hb)
      (try clear hb2)
      (try clear hk)
      (try clear hi)
      (try clear ho0)
      refine hK.out _ _ ⟨(blk_cell BK163.out 0).trans rfl, (blk_cell BK163.out 1).trans rfl⟩ (fun hHeld => ?_)
      clear hK K
      refine norm_ (a' := ?_) ?_ ?_
      rotate_left
      ·show Act.put _ (some 56) _ = _
       simp only [Act.put, List.setIfInBounds_toArray, List.set_cons_zero, List.set_cons_succ, i64_w, i32_w]
       rfl
      refine one_ (i := 8) (N := none) #[true, true, true, true, true, true, true, true, true, false, false] rfl rfl (one_of HT_.out (by kernel_rfl)) (by decide) (fun K hK => ?_)
      have hs123 : w122.cell? ⟨gb165, 0, none⟩ = some (.int .i64 0) := (blk_cell BK165.out 0).trans rfl
      have hfs123 := blk_frozen BK165.out 0
      have hns123_0 := NB162_165.out
      have hns123_1 := NB163_165.out
      have hns123_2 := NB164_165.out
      have hns123_4 := NB166_165.out
      have hms123_0 := NB165_162.out
      have hms123_1 := NB165_163.out
      have hms123_2 := NB165_164.out
      have hms123_4 := NB165_166.out
      have hs124 : w122.cell? ⟨gb165, 1, none⟩ = some (.slice none 0 0) := (blk_cell BK165.out 1).trans rfl
      have hfs124 := blk_frozen BK165.out 1
      have hns124_0 := NB162_165.out
      have hns124_1 := NB163_165.out
      have hns124_2 := NB164_165.out
      have hns124_4 := NB166_165.out
      have hms124_0 := NB165_162.out
      have hms124_1 := NB165_163.out
      have hms124_2 := NB165_164.out
      have hms124_4 := NB165_166.out
      refine skip_ (w1 := ?_) (by rfl) rfl ?_ ?_
      rotate_left
      ·go_simp
       rfl
      refine hK.out _ _ ⟨((cell_far (p := ⟨gb165, _, none⟩) NB163_165.out _).trans (((cell_far (p := ⟨gb165, _, none⟩) NB163_165.out _).trans (hHeld.1)))), ((cell_far (p := ⟨gb165, _, none⟩) NB163_165.out _).trans (((cell_far (p := ⟨gb165, _, none⟩) NB163_165.out _).trans (hHeld.2))))⟩ (fun hHeld => ?_)
      clear hK K
      refine one_ (i := 9) (N := none) #[true, true, true, true, true, true, true, true, true, true, false] rfl rfl (one_of HT_.out (by kernel_rfl)) (by decide) (fun K hK => ?_)
      have hs125 : w122.cell? ⟨gb166, 0, none⟩ = some (.slice none 0 0) := (blk_cell BK166.out 0).trans rfl
      have hfs125 := blk_frozen BK166.out 0
      have hns125_0 := NB162_166.out
      have hns125_1 := NB163_166.out
      have hns125_2 := NB164_166.out
      have hns125_3 := NB165_166.out
      have hms125_0 := NB166_162.out
      have hms125_1 := NB166_163.out
      have hms125_2 := NB166_164.out
      have hms125_3 := NB166_165.out
      refine skip_ (w1 := ?_) (by rfl) rfl ?_ ?_
      rotate_left
      ·go_simp
       rfl
      refine hK.out _ _ ⟨((cell_far (p := ⟨gb166, _, none⟩) NB163_166.out _).trans (hHeld.1)), ((cell_far (p := ⟨gb166, _, none⟩) NB163_166.out _).trans (hHeld.2))⟩ (fun hHeld => ?_)
      clear hK K
      refine pure_ (i := 10) (N := some 8) (v := ?_) (a' := ?_) #[true, true, true, true, true, true, true, true, true, true, true] rfl rfl (any_of HT_.out (by kernel_rfl)) (fun _ _ _ h => h) (Or.inl ⟨by rfl, ?_⟩) ?_ ?_
      rotate_left
      ·intro w'
       go_simp
       with_reducible rfl
      rotate_left
      ·simp only [Act.put, List.setIfInBounds_toArray, List.set_cons_zero, List.set_cons_succ, i64_w, i32_w]
       rfl
      refine done_ (done_of HT_.out (by kernel_rfl)) ?_
      try go_wp2
      refine bodyPost_ret (results_list (rs := [.cell 6 39, .cell 7 31, .tmp 8]) rfl (by simp) (.cell gb165 39 #[.int .i64 0, .slice none 0 0] (0, 0) _ rfl (by (with_reducible repeat (first | refine blk_drewN ?_ _ | refine blk_drew ?_ | refine blk_alloc ?_ _)); refine blk_far ?_ NB165_166.out _; (with_reducible repeat (first | refine blk_drewN ?_ _ | refine blk_drew ?_ | refine blk_alloc ?_ _)); refine blk_put (cs := #[.int .i64 0, .slice none 0 0]) ?_ 1 _ rfl; (with_reducible repeat (first | refine blk_drewN ?_ _ | refine blk_drew ?_ | refine blk_alloc ?_ _)); refine blk_put (cs := #[.int .i64 0, .slice none 0 0]) ?_ 0 _ rfl; (with_reducible repeat (first | refine blk_drewN ?_ _ | refine blk_drew ?_ | refine blk_alloc ?_ _)); exact BK165.out) Try.underlying39 rfl (by kernel_rfl) (.cell gb166 31 #[.slice Ao121 t178.length co121] (0, 0) _ rfl (by (with_reducible repeat (first | refine blk_drewN ?_ _ | refine blk_drew ?_ | refine blk_alloc ?_ _)); refine blk_put (cs := #[.slice none 0 0]) ?_ 0 _ rfl; (with_reducible repeat (first | refine blk_drewN ?_ _ | refine blk_drew ?_ | refine blk_alloc ?_ _)); refine blk_far ?_ NB166_165.out _; (with_reducible repeat (first | refine blk_drewN ?_ _ | refine blk_drew ?_ | refine blk_alloc ?_ _)); refine blk_far ?_ NB166_165.out _; (with_reducible repeat (first | refine blk_drewN ?_ _ | refine blk_drew ?_ | refine blk_alloc ?_ _)); exact BK166.out) Try.underlying31 rfl (by kernel_rfl) (.tmp .nil)))) rfl ?_
      exact ⟨_, _, _, by first | rfl | (simp [errW_none, errW_some] <;> rfl) | (simp [*, errW_none, errW_some] <;> rfl), by first | exact Kd.R_nil _ _ _ _ _ | exact Kd.N_nil _ _ _ _ _ | exact Kd.V_nil _ _ _ _ _ | exact Kd.Q_nil _ _ _ _ _ | exact Kd.S_nil _ _ _ _ _, by (with_reducible repeat (first | apply Kd.R_alloc | apply Kd.R_drewN | apply Kd.R_drew)); exact Kd.R_mono (Kd.R_far (p := ⟨gb166, 0, none⟩) (Kd.R_far (p := ⟨gb165, 1, none⟩) (Kd.R_far (p := ⟨gb165, 0, none⟩) (Kd.R_types (Kd.R_types HO180.out BK165.out (by decide)) BK166.out (by decide)) (fun _ hk => hk.1.2) (.int .i64 0)) (fun _ hk => hk.1.2) (.slice none 0 0)) (fun _ hk => hk.2) (.slice Ao121 t178.length co121)) (fun _ hk => ⟨(by simp [Value.ownBlock]), hk.1.1.2⟩), by (with_reducible repeat (first | apply Kd.R_alloc | apply Kd.R_drewN | apply Kd.R_drew)); exact Kd.R_mono (Kd.R_far (p := ⟨gb166, 0, none⟩) (Kd.R_far (p := ⟨gb165, 1, none⟩) (Kd.R_far (p := ⟨gb165, 0, none⟩) (Kd.R_types (Kd.R_types HO183.out BK165.out (by decide)) BK166.out (by decide)) (fun _ hk => hk.1.2) (.int .i64 0)) (fun _ hk => hk.1.2) (.slice none 0 0)) (fun _ hk => hk.2) (.slice Ao121 t178.length co121)) (fun _ hk => ⟨(by simp [Value.ownBlock]), hk.1.1.2⟩), by repeat (first | (with_reducible first | exact HB.out | apply below_alloc | apply pw_below_drewN | apply below_drew1 | refine below_set ?_ GE165.out | refine below_set ?_ GE166.out) | exact HB.out)⟩
    ·rw [if_neg c86] at H
     have c86b0 : (a0_0 == 0) = false := beq_eq_false_iff_ne.mpr c86
     have c86b1 : (a0_0 != 0) = true := bne_iff_ne.mpr c86
     replace H := Option.bind_eq_some_iff.mp H
     obtain ⟨t184, A1260, H⟩ := H
     (try dsimp only at H)
     have A126 := Aside0.mk A1260
     clear A1260
     by_cases c127 : t184.length + l1_1.length < 35184372088832
     ·rw [if_pos c127] at H
      have LMc127 := Aside0.mk c127
      clear c127
      obtain ⟨y187, hy187⟩ : ∃ y_ : List Int, y_ = (t184 ++ l1_1) := ⟨_, rfl⟩
      replace H : ((spec_l11List.f l1_1).bind fun t190 => (some ((y187.length : Int), ([] : List Int), y187, t190))) = some (r1, r2, r3, r4) := by first | (rw [hy187]; with_reducible exact H) | (have H2_ := (Option.bind_some _ _).symm.trans H; rw [hy187]; with_reducible exact H2_) | (have H2_ := (Option.bind_some _ _).symm.trans H; with_reducible exact H2_) | with_reducible exact H | (rw [hy187]; exact H) | exact H
      have Ny187 := Aside0.mk hy187
      clear hy187
      replace H := Option.bind_eq_some_iff.mp H
      obtain ⟨t190, A1280, H⟩ := H
      (try dsimp only at H)
      have A128 := Aside0.mk A1280
      clear A1280
      simp only [Option.some.injEq, Prod.mk.injEq] at H
      obtain ⟨rfl, rfl, rfl, rfl⟩ := H
      have hnb129 := NB162_163.out
      have hnc129 := NB163_162.out
      have hnb130 := NB162_164.out
      have hnc130 := NB164_162.out
      have hnb131 := NB162_165.out
      have hnc131 := NB165_162.out
      have hnb132 := NB162_166.out
      have hnc132 := NB166_162.out
      have hcz133_0 : wc.cell? ⟨gb162, 0, none⟩ = some (.int .i64 a0_0) := (blk_cell BK162.out 0).trans rfl
      have hcz133_1 : wc.cell? ⟨gb162, 1, none⟩ = some (.int .i64 a0_1) := (blk_cell BK162.out 1).trans rfl
      have hcz133_2 : wc.cell? ⟨gb162, 2, none⟩ = some (.int .i64 a0_2) := (blk_cell BK162.out 2).trans rfl
      have hcz133_3 : wc.cell? ⟨gb162, 3, none⟩ = some (.int .i64 a0_3) := (blk_cell BK162.out 3).trans rfl
      have hfz133_0 := blk_frozen BK162.out 0
      have hfz133_1 := blk_frozen BK162.out 1
      have hfz133_2 := blk_frozen BK162.out 2
      have hfz133_3 := blk_frozen BK162.out 3
      try go_wp2
      have n0_ := Aside0.mk (blk_drew BK162.out)
      have n1_ := Aside0.mk (blk_drew BK163.out)
      have n2_ := Aside0.mk (blk_drew BK164.out)
      have n3_ := Aside0.mk (blk_drew BK165.out)
      have n4_ := Aside0.mk (blk_drew BK166.out)
      have n5_ := Aside0.mk (below_drew1 HB.out)
      clear BK162
      clear BK163
      clear BK164
      clear BK165
      clear BK166
      clear HB
      have BK162 := n0_
      have BK163 := n1_
      have BK164 := n2_
      have BK165 := n3_
      have BK166 := n4_
      have HB := n5_
      clear n0_ n1_ n2_ n3_ n4_ n5_
      refine start_ (n := 7) (S := fun w' => w'.cell? ⟨gb164, 0, none⟩ = some (.slice A2_0 l2_0.length c2_0) ∧ w'.cell? ⟨gb163, 0, none⟩ = some (.int .i64 a1_0) ∧ w'.cell? ⟨gb163, 1, none⟩ = some (.slice A1_1 l1_1.length c1_1)) (ds := []) #[false, false, false, false, false, false, false] (by kernel_rfl) rfl rfl ⟨(blk_cell BK164.out 0).trans rfl, (blk_cell BK163.out 0).trans rfl, (blk_cell BK163.out 1).trans rfl⟩ (fun hHeld => ?_)
      generalize wc.drew = w134 at BK162 BK163 BK164 BK165 BK166 HB hHeld ⊢
      refine pure_ (i := 0) (N := some 57) (v := ?_) (a' := ?_) #[true, false, false, false, false, false, false] rfl rfl (by kernel_rfl) (fun _ _ _ h => h) (Or.inl ⟨by rfl, ?_⟩) ?_ ?_
      rotate_left
      ·intro w'
       go_simp
       with_reducible rfl
      rotate_left
      ·simp only [Act.put, List.setIfInBounds_toArray, List.set_cons_zero, List.set_cons_succ, i64_w, i32_w]
       rfl
      refine pure_ (i := 3) (N := some 60) (v := ?_) (a' := ?_) #[true, false, false, true, false, false, false] rfl rfl (by kernel_rfl) (fun _ _ _ h => h) (Or.inl ⟨by rfl, ?_⟩) ?_ ?_
      rotate_left
      ·intro w'
       go_simp
       with_reducible rfl
      rotate_left
      ·simp only [Act.put, List.setIfInBounds_toArray, List.set_cons_zero, List.set_cons_succ, i64_w, i32_w]
       rfl
      refine take_ (i := 1) (N := some 58) (v := ?_) (a' := ?_) #[true, true, false, true, false, false, false] rfl rfl (by kernel_rfl) (fun _ _ _ h => h) (Or.inl ⟨by rfl, ?_⟩) hHeld ?_ ?_
      rotate_left
      ·rintro w' ⟨s0, s1, s2⟩
       go_simp
       with_reducible rfl
      rotate_left
      ·simp only [Act.put, List.setIfInBounds_toArray, List.set_cons_zero, List.set_cons_succ, i64_w, i32_w]
       rfl
      refine take_ (i := 4) (N := some 61) (v := ?_) (a' := ?_) #[true, true, false, true, true, false, false] rfl rfl (by kernel_rfl) (fun _ _ _ h => h) (Or.inl ⟨by rfl, ?_⟩) hHeld ?_ ?_
      rotate_left
      ·rintro w' ⟨s0, s1, s2⟩
       go_simp
       with_reducible rfl
      rotate_left
      ·simp only [Act.put, List.setIfInBounds_toArray, List.set_cons_zero, List.set_cons_succ, i64_w, i32_w]
       rfl
      refine one_ (i := 2) (N := some 59) #[true, true, true, true, true, false, false] rfl rfl (by kernel_rfl) (by decide) (fun K hK => ?_)
      refine goes_ Try.func63 (by kernel_rfl) rfl #[.slice A2_0 l2_0.length c2_0] (by rfl) rfl rfl (by (try simp only [List.map_toArray, List.map_cons, List.map_nil]); first | done | rfl | (simp only [List.length_drop, List.length_take]; rfl)) ?_
      with_reducible refine (spec_l11List.calls _ _ l2_0 t184 _ ?side1 ?side2 A126.out).mono ?_
      (case side1 => repeat (first | exact (Kd.C_below HR2_0.out HB.out) | (with_reducible refine Kd.C_alloc ?_ _) | (with_reducible refine Kd.C_drewN ?_ _) | (with_reducible refine Kd.C_drew ?_)))
      (case side2 => exact HC2_0.out)
      rintro e w135 ⟨v185, rfl, ho0, hb⟩
      refine ⟨_, rfl, ?_⟩
      have n0_ := Aside0.mk (Kd.R_lower ho0 (below_size (lq HB.out)))
      have n1_ := Aside0.mk (blk_below (bq BK162.out) hb)
      have n2_ := Aside0.mk (blk_below (bq BK163.out) hb)
      have n3_ := Aside0.mk (blk_below (bq BK164.out) hb)
      have n4_ := Aside0.mk (blk_below (bq BK165.out) hb)
      have n5_ := Aside0.mk (blk_below (bq BK166.out) hb)
      have n6_ := Aside0.mk (below_step (lq HB.out) hb)
      clear BK162
      clear BK163
      clear BK164
      clear BK165
      clear BK166
      clear HB
      have HO186 := n0_
      have BK162 := n1_
      have BK163 := n2_
      have BK164 := n3_
      have BK165 := n4_
      have BK166 := n5_
      have HB := n6_
      clear n0_ n1_ n2_ n3_ n4_ n5_ n6_
      (try clear hb)
      (try clear hb2)
      (try clear hk)
      (try clear hi)
      (try clear ho0)
      refine hK.out _ _ ⟨(blk_cell BK164.out 0).trans rfl, (blk_cell BK163.out 0).trans rfl, (blk_cell BK163.out 1).trans rfl⟩ (fun hHeld => ?_)
      clear hK K
      refine norm_ (a' := ?_) ?_ ?_
      rotate_left
      ·show Act.put _ (some 59) _ = _
       simp only [Act.put, List.setIfInBounds_toArray, List.set_cons_zero, List.set_cons_succ, i64_w, i32_w]
       rfl
      refine one_ (i := 5) (N := some 62) #[true, true, true, true, true, true, false] rfl rfl (by kernel_rfl) (by decide) (fun K hK => ?_)
      refine Kd.R_append_rows_step (Kd.int .u32) (w0 := w) w.heap.size (by rfl) (.tmp 59) (.tmp 61) 24 46 (.int .u32 0) 4 rfl Try.underlying24 info46 rfl (by decide) (by omega) v185 t184 l1_1 _ _ _ (fun _ => True) (fun _ => False) rfl rfl ?aO ?aR (fun _ _ h => h) (fun _ h => h.elim) ?aF ?aB ?aS ?aL ?_
      (case aR => repeat (first | exact (Kd.C_below HR1_1.out HB.out) | (with_reducible refine Kd.C_alloc ?_ _) | (with_reducible refine Kd.C_drewN ?_ _) | (with_reducible refine Kd.C_drew ?_)))
      (case aB => exact (lq HB.out))
      (case aF => exact (fun _ _ => trivial))
      (case aO => exact (rq HO186.out))
      (case aS => exact (below_size (lq HB.out)))
      (case aL => have := LMc127.out; omega)
      intro v188 w136 ho hb hg hat
      rw [← Ny187.out] at ho
      have n0_ := Aside0.mk (blk_grown (g := gb162) (o := .cells #[.int .i64 a0_0, .int .i64 a0_1, .int .i64 a0_2, .int .i64 a0_3] 29 (0, 0)) (bq BK162.out) hg (Kd.R_ne HO186.out BK162.out (by decide)))
      have n1_ := Aside0.mk (blk_grown (g := gb163) (o := .cells #[.int .i64 a1_0, .slice A1_1 l1_1.length c1_1] 39 (0, 0)) (bq BK163.out) hg (Kd.R_ne HO186.out BK163.out (by decide)))
      have n2_ := Aside0.mk (blk_grown (g := gb164) (o := .cells #[.slice A2_0 l2_0.length c2_0] 31 (0, 0)) (bq BK164.out) hg (Kd.R_ne HO186.out BK164.out (by decide)))
      have n3_ := Aside0.mk (blk_grown (g := gb165) (o := .cells #[.int .i64 0, .slice none 0 0] 39 (0, 0)) (bq BK165.out) hg (Kd.R_ne HO186.out BK165.out (by decide)))
      have n4_ := Aside0.mk (blk_grown (g := gb166) (o := .cells #[.slice none 0 0] 31 (0, 0)) (bq BK166.out) hg (Kd.R_ne HO186.out BK166.out (by decide)))
      have n5_ := Aside0.mk (hb)
      have n6_ := Aside0.mk (ho)
      clear BK162
      clear BK163
      clear BK164
      clear BK165
      clear BK166
      clear HB
      clear HO186
      have BK162 := n0_
      have BK163 := n1_
      have BK164 := n2_
      have BK165 := n3_
      have BK166 := n4_
      have HB := n5_
      have HO189 := n6_
      clear n0_ n1_ n2_ n3_ n4_ n5_ n6_
      clear ho hb hg hat
      refine hK.out _ _ ⟨(blk_cell BK164.out 0).trans rfl, (blk_cell BK163.out 0).trans rfl, (blk_cell BK163.out 1).trans rfl⟩ (fun hHeld => ?_)
      clear hK K
      refine norm_ (a' := ?_) ?_ ?_
      rotate_left
      ·show Act.put _ (some 62) _ = _
       simp only [Act.put, List.setIfInBounds_toArray, List.set_cons_zero, List.set_cons_succ, i64_w, i32_w]
       rfl
      refine pure_ (i := 6) (N := some 9) (v := ?_) (a' := ?_) #[true, true, true, true, true, true, true] rfl rfl (by kernel_rfl) (fun _ _ _ h => h) (Or.inl ⟨by rfl, ?_⟩) ?_ ?_
      rotate_left
      ·intro w'
       go_simp
       with_reducible rfl
      rotate_left
      ·simp only [Act.put, List.setIfInBounds_toArray, List.set_cons_zero, List.set_cons_succ, i64_w, i32_w]
       rfl
      refine done_ (by kernel_rfl) ?_
      obtain ⟨Ao137, co137, eo137⟩ := Kd.R_slice HO189.out
      subst eo137
      have hnb138 := NB163_164.out
      have hnc138 := NB164_163.out
      have hnb139 := NB163_165.out
      have hnc139 := NB165_163.out
      have hnb140 := NB163_166.out
      have hnc140 := NB166_163.out
      have hcz141_0 : w136.cell? ⟨gb163, 0, none⟩ = some (.int .i64 a1_0) := (blk_cell BK163.out 0).trans rfl
      have hcz141_1 : w136.cell? ⟨gb163, 1, none⟩ = some (.slice A1_1 l1_1.length c1_1) := (blk_cell BK163.out 1).trans rfl
      have hfz141_0 := blk_frozen BK163.out 0
      have hfz141_1 := blk_frozen BK163.out 1
      try go_wp2_with (first | ((with_reducible refine gate_callee (f := 63) rfl ?_); refine goesL_ (some 70) rfl rfl Try.func63 (by kernel_rfl) rfl #[.slice A1_1 l1_1.length c1_1] rfl (by (try simp only [List.map_toArray, List.map_cons, List.map_nil]); first | done | rfl | (simp only [List.length_drop, List.length_take]; rfl)) ?_; (with_reducible refine (spec_l11List.calls _ _ l1_1 t190 _ ?side1 ?side2 A128.out).mono ?_); (case side1 => repeat (first | exact (Kd.C_below HR1_1.out HB.out) | (with_reducible refine Kd.C_alloc ?_ _) | (with_reducible refine Kd.C_drewN ?_ _) | (with_reducible refine Kd.C_drew ?_))); (case side2 => exact HC1_1.out); rintro e w142 ⟨v191, rfl, ho0, hb⟩; refine ⟨_, rfl, ?_⟩; have n0_ := Aside0.mk (Kd.R_elder' (rq HO189.out) (Kd.R_base ho0) hb); have n1_ := Aside0.mk (Kd.R_lower (Kd.R_new' ho0 (Kd.R_lt (rq HO189.out))) (below_size (lq HB.out))); have n2_ := Aside0.mk (blk_below (bq BK162.out) hb); have n3_ := Aside0.mk (blk_below (bq BK163.out) hb); have n4_ := Aside0.mk (blk_below (bq BK164.out) hb); have n5_ := Aside0.mk (blk_below (bq BK165.out) hb); have n6_ := Aside0.mk (blk_below (bq BK166.out) hb); have n7_ := Aside0.mk (below_step (lq HB.out) hb); clear HO189; clear BK162; clear BK163; clear BK164; clear BK165; clear BK166; clear HB; have HO189 := n0_; have HO192 := n1_; have BK162 := n2_; have BK163 := n3_; have BK164 := n4_; have BK165 := n5_; have BK166 := n6_; have HB := n7_; clear n0_ n1_ n2_ n3_ n4_ n5_ n6_ n7_; (try clear hb); (try clear hb2); (try clear hk); (try clear hi); (try clear ho0); have hnb143 := NB165_164.out; have hnc143 := NB164_165.out; have hnb144 := NB165_166.out; have hnc144 := NB166_165.out; have hcz145_0 : w142.cell? ⟨gb165, 0, none⟩ = some (.int .i64 0) := (blk_cell BK165.out 0).trans rfl; have hcz145_1 : w142.cell? ⟨gb165, 1, none⟩ = some (.slice none 0 0) := (blk_cell BK165.out 1).trans rfl; have hfz145_0 := blk_frozen BK165.out 0; have hfz145_1 := blk_frozen BK165.out 1; have hnb146 := NB166_164.out; have hnc146 := NB164_166.out; have hcz147_0 : w142.cell? ⟨gb166, 0, none⟩ = some (.slice none 0 0) := (blk_cell BK166.out 0).trans rfl; have hfz147_0 := blk_frozen BK166.out 0))
      refine bodyPost_ret (results_list (rs := [.cell 6 39, .cell 7 31, .tmp 8]) rfl (by simp) (.cell gb165 39 #[.int .i64 (y187.length : Int), .slice none 0 0] (0, 0) _ rfl (by (with_reducible repeat (first | refine blk_drewN ?_ _ | refine blk_drew ?_ | refine blk_alloc ?_ _)); refine blk_far ?_ NB165_166.out _; (with_reducible repeat (first | refine blk_drewN ?_ _ | refine blk_drew ?_ | refine blk_alloc ?_ _)); refine blk_put (cs := #[.int .i64 (y187.length : Int), .slice none 0 0]) ?_ 1 _ rfl; (with_reducible repeat (first | refine blk_drewN ?_ _ | refine blk_drew ?_ | refine blk_alloc ?_ _)); refine blk_put (cs := #[.int .i64 0, .slice none 0 0]) ?_ 0 _ rfl; (with_reducible repeat (first | refine blk_drewN ?_ _ | refine blk_drew ?_ | refine blk_alloc ?_ _)); exact BK165.out) Try.underlying39 rfl (by kernel_rfl) (.cell gb166 31 #[.slice Ao137 y187.length co137] (0, 0) _ rfl (by (with_reducible repeat (first | refine blk_drewN ?_ _ | refine blk_drew ?_ | refine blk_alloc ?_ _)); refine blk_put (cs := #[.slice none 0 0]) ?_ 0 _ rfl; (with_reducible repeat (first | refine blk_drewN ?_ _ | refine blk_drew ?_ | refine blk_alloc ?_ _)); refine blk_far ?_ NB166_165.out _; (with_reducible repeat (first | refine blk_drewN ?_ _ | refine blk_drew ?_ | refine blk_alloc ?_ _)); refine blk_far ?_ NB166_165.out _; (with_reducible repeat (first | refine blk_drewN ?_ _ | refine blk_drew ?_ | refine blk_alloc ?_ _)); exact BK166.out) Try.underlying31 rfl (by kernel_rfl) (.tmp .nil)))) rfl ?_
      exact ⟨_, _, _, by first | rfl | (simp [errW_none, errW_some] <;> rfl) | (simp [*, errW_none, errW_some] <;> rfl), by first | exact Kd.R_nil _ _ _ _ _ | exact Kd.N_nil _ _ _ _ _ | exact Kd.V_nil _ _ _ _ _ | exact Kd.Q_nil _ _ _ _ _ | exact Kd.S_nil _ _ _ _ _, by (with_reducible repeat (first | apply Kd.R_alloc | apply Kd.R_drewN | apply Kd.R_drew)); exact Kd.R_mono (Kd.R_far (p := ⟨gb166, 0, none⟩) (Kd.R_far (p := ⟨gb165, 1, none⟩) (Kd.R_far (p := ⟨gb165, 0, none⟩) (Kd.R_types (Kd.R_types HO189.out BK165.out (by decide)) BK166.out (by decide)) (fun _ hk => hk.1.2) (.int .i64 (y187.length : Int))) (fun _ hk => hk.1.2) (.slice none 0 0)) (fun _ hk => hk.2) (.slice Ao137 y187.length co137)) (fun _ hk => ⟨(by simp [Value.ownBlock]), hk.1.1.2⟩), by (with_reducible repeat (first | apply Kd.R_alloc | apply Kd.R_drewN | apply Kd.R_drew)); exact Kd.R_mono (Kd.R_far (p := ⟨gb166, 0, none⟩) (Kd.R_far (p := ⟨gb165, 1, none⟩) (Kd.R_far (p := ⟨gb165, 0, none⟩) (Kd.R_types (Kd.R_types HO192.out BK165.out (by decide)) BK166.out (by decide)) (fun _ hk => hk.1.2) (.int .i64 (y187.length : Int))) (fun _ hk => hk.1.2) (.slice none 0 0)) (fun _ hk => hk.2) (.slice Ao137 y187.length co137)) (fun _ hk => ⟨(by simp [Value.ownBlock]), hk.1.1.2⟩), by repeat (first | (with_reducible first | exact HB.out | apply below_alloc | apply pw_below_drewN | apply below_drew1 | refine below_set ?_ GE165.out | refine below_set ?_ GE166.out) | exact HB.out)⟩
     ·rw [if_neg c127] at H
      exact absurd H (by simp)

end Go.Proofs.Ytioifcanipijhaa.GC
