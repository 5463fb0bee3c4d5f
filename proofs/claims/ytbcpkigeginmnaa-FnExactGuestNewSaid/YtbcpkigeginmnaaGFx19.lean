/- Told by a program of this session, out of the translation: each function of the group as a plain Lean function, and that Go's call comes to just its answer. Lean checks it. -/
import Derived.Test.YtbcpkigeginmnaaGFx0
import Derived.Test.YtbcpkigeginmnaaGFx4
import Derived.Test.YtbcpkigeginmnaaGFx18
namespace Go.Proofs.Ytbcpkigeginmnaa.GF
open Go.RowKit Go.Proofs.YtbcpkigeginmnaaW.PrintWords Go.Proofs.YtbcpkigeginmnaaW.PrintLast Go.Proofs.YtbcpkigeginmnaaW.PrintMore Go.Proofs.Ytbcpkigeginmnaa.Q
attribute [local go_sem] max2_int min2_int max_two min_two max_three min_three max_four min_four   -- for this text's walks alone
set_option linter.unusedVariables false
set_option linter.unusedSimpArgs false

/-! ### spec_RegSet: function 11 -/
def spec_RegSet.j0 : Nat → Int → Int → Bool → List Int → Int → List (List Int) → Option (List Int × Int × (List (List Int)))
 | 0, _, _, _, _, _, _ => none
 | k + 1, x1, x2, x16, x382000, x382001, x382002 => if x16 = true then (some (([] : List Int), 0, ([] : List (List Int)))) else ((spec_l08Copy.f k x382000 x382001 x382002).bind fun bt384 => ((spec_l08Set.f bt384.1 bt384.2.1 bt384.2.2 x1 x2).bind fun t392 => (some (t392, bt384.2.1, bt384.2.2))))
def spec_RegSet.f (k : Nat) (l0_0 : List Int) (a0_1 : Int) (l0_2 : List (List Int)) (a1 : Int) (a2 : Int) : Option (List Int × Int × (List (List Int))) := if (l0_0.length : Int) = 16 then ((spec_l01In.f a1 0 15).bind fun t383 => (spec_RegSet.j0 k a1 a2 (!t383) l0_0 a0_1 l0_2)) else (spec_RegSet.j0 k a1 a2 true l0_0 a0_1 l0_2)
theorem spec_RegSet.mono_l : ∀ k, (∀ y0 y1 y2 y3 y4 y5, LeO (spec_RegSet.j0 k y0 y1 y2 y3 y4 y5) (spec_RegSet.j0 (k + 1) y0 y1 y2 y3 y4 y5))
 | 0 => fun _ _ _ _ _ _ r h => by simp [spec_RegSet.j0] at h
 | k + 1 => by
  have ih0 := spec_RegSet.mono_l k
  ·intro y0 y1 y2 y3 y4 y5
   unfold spec_RegSet.j0
   repeat' first
   | (with_reducible exact ih0 _ _ _ _ _ _)
   | (with_reducible exact spec_l08Copy.mono _ _ _ _)
   | (with_reducible exact LeO.refl _)
   | (with_reducible exact LeO.none _)
   | (with_reducible refine LeO.ite ?_ ?_)
   | (with_reducible refine LeO.bind ?_ (fun _ => ?_))
   | exact ih0 _ _ _ _ _ _
   | exact spec_l08Copy.mono _ _ _ _
   | exact LeO.none _
   | refine LeO.ite ?_ ?_
   | refine LeO.bind ?_ (fun _ => ?_)
theorem spec_RegSet.mono : ∀ a0 a1 a2 a3 a4 k, LeO (spec_RegSet.f k a0 a1 a2 a3 a4) (spec_RegSet.f (k + 1) a0 a1 a2 a3 a4) := by
 intro a0 a1 a2 a3 a4 k
 have ih0 := spec_RegSet.mono_l k
 unfold spec_RegSet.f
 repeat' first
   | (with_reducible exact ih0 _ _ _ _ _ _)
   | (with_reducible exact spec_l08Copy.mono _ _ _ _)
   | (with_reducible exact LeO.refl _)
   | (with_reducible exact LeO.none _)
   | (with_reducible refine LeO.ite ?_ ?_)
   | (with_reducible refine LeO.bind ?_ (fun _ => ?_))
   | exact ih0 _ _ _ _ _ _
   | exact spec_l08Copy.mono _ _ _ _
   | exact LeO.none _
   | refine LeO.ite ?_ ?_
   | refine LeO.bind ?_ (fun _ => ?_)
set_option maxHeartbeats 8000000 in
set_option maxRecDepth 100000 in
theorem spec_RegSet.calls (k : Nat) (A0_0 : Option Addr) (c0_0 : Nat) (l0_0 : List Int) (a0_1 : Int) (A0_2 : Option Addr) (c0_2 : Nat) (l0_2 : List (List Int)) (a1 : Int) (a2 : Int) (r1 : List Int) (r2 : Int) (r3 : List (List Int)) (w : World) (hr0_0 : Kd.C (Kd.int .u32) w A0_0 l0_0.length l0_0) (hc0_0 : l0_0.length ≤ c0_0) (hr0_2 : Kd.C (Kd.slice 5 (Kd.int .u8)) w A0_2 l0_2.length l0_2) (hc0_2 : l0_2.length ≤ c0_2) (h : spec_RegSet.f k l0_0 a0_1 l0_2 a1 a2 = some (r1, r2, r3)) :
  Calls Try.prog 11 #[.agg #[.slice A0_0 l0_0.length c0_0, .int .u32 a0_1, .slice A0_2 l0_2.length c0_2], .int .i64 a1, .int .u32 a2] w fun e w' => ∃ v0_ v2_ : Value, e = .returned (.agg #[v0_, .int .u32 r2, v2_]) ∧ Kd.R (Kd.int .u32) 23 w' w.heap.size (fun _ => True) v0_ r1 ∧ Kd.S (Kd.slice 5 (Kd.int .u8)) 68 w' w.heap.size (fun _ => True) v2_ r3 ∧ Below w.heap.size w w' := by
 have hu28 := Try.underlying28
 have HR0_0 := Aside0.mk hr0_0
 have HC0_0 := Aside0.mk hc0_0
 clear hr0_0 hc0_0
 have HR0_2 := Aside0.mk hr0_2
 have HC0_2 := Aside0.mk hc0_2
 clear hr0_2 hc0_2
 have HB := Aside0.mk (Below.refl w.heap.size w)
 have H : (if (l0_0.length : Int) = 16 then ((spec_l01In.f a1 0 15).bind fun t383 => (spec_RegSet.j0 k a1 a2 (!t383) l0_0 a0_1 l0_2)) else (spec_RegSet.j0 k a1 a2 true l0_0 a0_1 l0_2)) = some (r1, r2, r3) := h
 clear h
 have HC4 := Aside0.mk H
 clear H
 go_enter Try.func11, Try.ntmps11
 go_upto_region 1 with (first | ((with_reducible refine gate_dst (N := 3) rfl ?_); refine box_event ?hg (N := 3) ?hd (cs := #[.slice A0_0 l0_0.length c0_0, .int .u32 a0_1, .slice A0_2 l0_2.length c0_2]) (t := 28) ?hr ?_; (case hd => rfl); (case hg => rfl); (case hr => first | (go_simp; done) | (go_simp; rfl)); intro gb381 hg w5 hbox hb; have n0_ := Aside0.mk (below_step (lq HB.out) hb); have n1_ := Aside0.mk (hbox); have n2_ := Aside0.mk ((ge_new hg (lq HB.out) : w.heap.size ≤ gb381)); have n3_ := Aside0.mk ((ge_new hg (lq HB.out) : w.heap.size ≤ gb381)); clear HB; have HB := n0_; have BK381 := n1_; have GW381 := n2_; have GE381 := n3_; clear n0_ n1_ n2_ n3_; clear hb hbox hg) | ((with_reducible refine gate_dst (N := 6) rfl ?_); refine box_event ?hg (N := 6) ?hd (cs := #[.slice none 0 0, .int .u32 0, .slice none 0 0]) (t := 28) ?hr ?_; (case hd => rfl); (case hg => rfl); (case hr => first | (go_simp; done) | (go_simp; rfl)); intro gb382 hg w6 hbox hb; have n0_ := Aside0.mk (blk_below (bq BK381.out) hb); have n1_ := Aside0.mk (below_step (lq HB.out) hb); have n2_ := Aside0.mk (hbox); have n3_ := Aside0.mk ((ge_new hg (lq HB.out) : w.heap.size ≤ gb382)); have n4_ := Aside0.mk ((ge_new hg (lq HB.out) : w.heap.size ≤ gb382)); have n5_ := Aside0.mk ((ne_new hg (bq BK381.out) : gb381 ≠ gb382)); have n6_ := Aside0.mk ((new_ne hg (bq BK381.out) : gb382 ≠ gb381)); clear BK381; clear HB; have BK381 := n0_; have HB := n1_; have BK382 := n2_; have GW382 := n3_; have GE382 := n4_; have NB381_382 := n5_; have NB382_381 := n6_; clear n0_ n1_ n2_ n3_ n4_ n5_ n6_; clear hb hbox hg))
 (try simp only [Act.put, List.setIfInBounds_toArray, List.set_cons_zero, List.set_cons_succ])
 go_cut [16] (fun v16 wc => ∃ (kq : Nat) (x16_3 : Bool), v16 = .bool x16_3 ∧ Aside0 (spec_RegSet.j0 kq a1 a2 x16_3 l0_0 a0_1 l0_2 = some (r1, r2, r3)) ∧ Aside0 (kq ≤ k) ∧ Aside0 (wc.heap[gb381]? = some (.cells #[(.slice A0_0 l0_0.length c0_0), .int .u32 a0_1, (.slice A0_2 l0_2.length c0_2)] 28 (0, 0))) ∧ Aside0 (wc.heap[gb382]? = some (.cells #[(.slice none 0 0), .int .u32 0, (.slice none 0 0)] 28 (0, 0))) ∧ Aside0 (Below w.heap.size w wc))
 case first =>
  have H := HC4.out
  clear HC4
  by_cases c7 : (l0_0.length : Int) = 16
  ·rw [if_pos c7] at H
   have c7b0 : ((l0_0.length : Int) == 16) = true := beq_iff_eq.mpr c7
   have c7b1 : ((l0_0.length : Int) != 16) = false := bne_eq_false_iff_eq.mpr c7
   clear c7
   (first | rw [c7b0] | (simp only [i64_w, i32_w]; rw [c7b0]) | skip)
   replace H := Option.bind_eq_some_iff.mp H
   obtain ⟨t383, A80, H⟩ := H
   (try dsimp only at H)
   have A8 := Aside0.mk A80
   clear A80
   have H' := Aside0.mk H
   clear H
   have hnb9 := NB381_382.out
   have hnc9 := NB382_381.out
   have hcz10_0 : w6.cell? ⟨gb381, 0, none⟩ = some (.slice A0_0 l0_0.length c0_0) := (blk_cell BK381.out 0).trans rfl
   have hcz10_1 : w6.cell? ⟨gb381, 1, none⟩ = some (.int .u32 a0_1) := (blk_cell BK381.out 1).trans rfl
   have hcz10_2 : w6.cell? ⟨gb381, 2, none⟩ = some (.slice A0_2 l0_2.length c0_2) := (blk_cell BK381.out 2).trans rfl
   have hfz10_0 := blk_frozen BK381.out 0
   have hfz10_1 := blk_frozen BK381.out 1
   have hfz10_2 := blk_frozen BK381.out 2
   go_wp2_with (first | (go_at_call 38; (with_reducible refine (spec_l01In.calls a1 0 15 t383 _ A8.out).mono ?_); rintro e w' ⟨rfl, ⟨nd, rfl⟩⟩))
   go_meet
   case rel => exact ⟨_, (!t383), (by first | rfl | (simp; done) | (simp [*]; done)), H', ⟨by first | omega | exact Nat.le_refl _⟩, ⟨by (with_reducible repeat (first | refine blk_drewN ?_ _ | refine blk_drew ?_ | refine blk_alloc ?_ _)); exact BK381.out⟩, ⟨by (with_reducible repeat (first | refine blk_drewN ?_ _ | refine blk_drew ?_ | refine blk_alloc ?_ _)); exact BK382.out⟩, ⟨by exact lq HB.out⟩⟩
  ·rw [if_neg c7] at H
   have c7b0 : ((l0_0.length : Int) == 16) = false := beq_eq_false_iff_ne.mpr c7
   have c7b1 : ((l0_0.length : Int) != 16) = true := bne_iff_ne.mpr c7
   (first | rw [c7b0] | (simp only [i64_w, i32_w]; rw [c7b0]) | skip)
   have H' := Aside0.mk H
   clear H
   have hnb11 := NB381_382.out
   have hnc11 := NB382_381.out
   have hcz12_0 : w6.cell? ⟨gb381, 0, none⟩ = some (.slice A0_0 l0_0.length c0_0) := (blk_cell BK381.out 0).trans rfl
   have hcz12_1 : w6.cell? ⟨gb381, 1, none⟩ = some (.int .u32 a0_1) := (blk_cell BK381.out 1).trans rfl
   have hcz12_2 : w6.cell? ⟨gb381, 2, none⟩ = some (.slice A0_2 l0_2.length c0_2) := (blk_cell BK381.out 2).trans rfl
   have hfz12_0 := blk_frozen BK381.out 0
   have hfz12_1 := blk_frozen BK381.out 1
   have hfz12_2 := blk_frozen BK381.out 2
   go_wp2
   go_meet
   case rel => exact ⟨_, (true), (by first | rfl | (simp; done) | (simp [*]; done)), H', ⟨by first | omega | exact Nat.le_refl _⟩, ⟨by (with_reducible repeat (first | refine blk_drewN ?_ _ | refine blk_drew ?_ | refine blk_alloc ?_ _)); exact BK381.out⟩, ⟨by (with_reducible repeat (first | refine blk_drewN ?_ _ | refine blk_drew ?_ | refine blk_alloc ?_ _)); exact BK382.out⟩, ⟨by exact lq HB.out⟩⟩
 case rest =>
  clear HC4
  try clear c1
  try clear p2
  try clear c7
  try clear c7b0
  try clear c7b1
  try clear c9
  try clear c11
  try clear hcz10_0
  try clear hcz10_1
  try clear hcz10_2
  try clear hcz12_0
  try clear hcz12_1
  try clear hcz12_2
  try clear hfz10_0
  try clear hfz10_1
  try clear hfz10_2
  try clear hfz12_0
  try clear hfz12_1
  try clear hfz12_2
  obtain ⟨kq, x16_3, rfl, HA, HJ3, BK381, BK382, HB⟩ := hcut
  cases kq with
  | zero => exact absurd HA.out (by simp [spec_RegSet.j0])
  | succ kj3 =>
   have H := HA.out
   clear HA
   simp only [spec_RegSet.j0] at H
   by_cases c13 : x16_3 = true
   ·subst c13
    rw [if_pos rfl] at H
    simp only [Option.some.injEq, Prod.mk.injEq] at H
    obtain ⟨rfl, rfl, rfl⟩ := H
    have hnb14 := NB382_381.out
    have hnc14 := NB381_382.out
    have hcz15_0 : wc.cell? ⟨gb382, 0, none⟩ = some (.slice none 0 0) := (blk_cell BK382.out 0).trans rfl
    have hcz15_1 : wc.cell? ⟨gb382, 1, none⟩ = some (.int .u32 0) := (blk_cell BK382.out 1).trans rfl
    have hcz15_2 : wc.cell? ⟨gb382, 2, none⟩ = some (.slice none 0 0) := (blk_cell BK382.out 2).trans rfl
    have hfz15_0 := blk_frozen BK382.out 0
    have hfz15_1 := blk_frozen BK382.out 1
    have hfz15_2 := blk_frozen BK382.out 2
    go_wp2
    refine bodyPost_ret (results_cell_row rfl _ _ gb382 28 #[.slice none 0 0, .int .u32 0, .slice none 0 0] (0, 0) _ rfl (by (with_reducible repeat (first | refine blk_drewN ?_ _ | refine blk_drew ?_ | refine blk_alloc ?_ _)); refine blk_put (cs := #[.slice none 0 0, .int .u32 0, .slice none 0 0]) ?_ 2 _ rfl; (with_reducible repeat (first | refine blk_drewN ?_ _ | refine blk_drew ?_ | refine blk_alloc ?_ _)); refine blk_put (cs := #[.slice none 0 0, .int .u32 0, .slice none 0 0]) ?_ 1 _ rfl; (with_reducible repeat (first | refine blk_drewN ?_ _ | refine blk_drew ?_ | refine blk_alloc ?_ _)); refine blk_put (cs := #[.slice none 0 0, .int .u32 0, .slice none 0 0]) ?_ 0 _ rfl; (with_reducible repeat (first | refine blk_drewN ?_ _ | refine blk_drew ?_ | refine blk_alloc ?_ _)); exact BK382.out) Try.underlying28 rfl (by kernel_rfl)) rfl ?_
    exact ⟨_, _, by first | rfl | (simp [errW_none, errW_some] <;> rfl) | (simp [*, errW_none, errW_some] <;> rfl), by first | exact Kd.R_nil _ _ _ _ _ | exact Kd.N_nil _ _ _ _ _ | exact Kd.V_nil _ _ _ _ _ | exact Kd.Q_nil _ _ _ _ _ | exact Kd.S_nil _ _ _ _ _, by first | exact Kd.S_nil _ _ _ _ _ | exact Kd.N_nil _ _ _ _ _ | exact Kd.V_nil _ _ _ _ _ | exact Kd.Q_nil _ _ _ _ _ | exact Kd.R_nil _ _ _ _ _, by repeat (first | (with_reducible first | exact HB.out | apply below_alloc | apply pw_below_drewN | apply below_drew1 | refine below_set ?_ GE382.out) | exact HB.out)⟩
   ·replace c13 := Bool.eq_false_iff.mpr c13
    subst c13
    rw [if_neg (show ¬ (false = true) by decide)] at H
    replace H := Option.bind_eq_some_iff.mp H
    obtain ⟨⟨t384, t387, t388⟩, A160, H⟩ := H
    (try dsimp only at H)
    have A16 := Aside0.mk A160
    clear A160
    replace H := Option.bind_eq_some_iff.mp H
    obtain ⟨t392, A170, H⟩ := H
    (try dsimp only at H)
    have A17 := Aside0.mk A170
    clear A170
    simp only [Option.some.injEq, Prod.mk.injEq] at H
    obtain ⟨rfl, rfl, rfl⟩ := H
    have hnb18 := NB381_382.out
    have hnc18 := NB382_381.out
    have hcz19_0 : wc.cell? ⟨gb381, 0, none⟩ = some (.slice A0_0 l0_0.length c0_0) := (blk_cell BK381.out 0).trans rfl
    have hcz19_1 : wc.cell? ⟨gb381, 1, none⟩ = some (.int .u32 a0_1) := (blk_cell BK381.out 1).trans rfl
    have hcz19_2 : wc.cell? ⟨gb381, 2, none⟩ = some (.slice A0_2 l0_2.length c0_2) := (blk_cell BK381.out 2).trans rfl
    have hfz19_0 := blk_frozen BK381.out 0
    have hfz19_1 := blk_frozen BK381.out 1
    have hfz19_2 := blk_frozen BK381.out 2
    go_wp2_with (first | ((with_reducible refine gate_callee (f := 39) rfl ?_); refine goesL_ (some 19) rfl rfl Try.func39 (by kernel_rfl) rfl #[.agg #[.slice A0_0 l0_0.length c0_0, .int .u32 a0_1, .slice A0_2 l0_2.length c0_2]] rfl (by (try simp only [List.map_toArray, List.map_cons, List.map_nil]); first | done | rfl | (simp only [List.length_drop, List.length_take]; rfl)) ?_; (with_reducible refine (spec_l08Copy.calls kj3 _ _ l0_0 a0_1 _ _ l0_2 t384 t387 t388 _ ?side1 ?side2 ?side3 ?side4 A16.out).mono ?_); (case side1 => repeat (first | exact (Kd.C_below HR0_0.out HB.out) | (with_reducible refine Kd.C_alloc ?_ _) | (with_reducible refine Kd.C_drewN ?_ _) | (with_reducible refine Kd.C_drew ?_))); (case side2 => exact HC0_0.out); (case side3 => repeat (first | exact (Kd.C_below HR0_2.out HB.out) | (with_reducible refine Kd.C_alloc ?_ _) | (with_reducible refine Kd.C_drewN ?_ _) | (with_reducible refine Kd.C_drew ?_))); (case side4 => exact HC0_2.out); rintro e w20 ⟨v385, v389, rfl, ho0, ho1, hb⟩; refine ⟨_, rfl, ?_⟩; have n0_ := Aside0.mk (Kd.R_lower ho0 (below_size (lq HB.out))); have n1_ := Aside0.mk (Kd.S_lower ho1 (below_size (lq HB.out))); have n2_ := Aside0.mk (blk_below (bq BK381.out) hb); have n3_ := Aside0.mk (blk_below (bq BK382.out) hb); have n4_ := Aside0.mk (below_step (lq HB.out) hb); clear BK381; clear BK382; clear HB; have HO386 := n0_; have HO390 := n1_; have BK381 := n2_; have BK382 := n3_; have HB := n4_; clear n0_ n1_ n2_ n3_ n4_; (try clear hb); (try clear hb2); (try clear hk); (try clear hi); (try clear ho0); (try clear ho1)) | ((with_reducible refine gate_dst (N := 7) rfl ?_); refine box_event ?hg (N := 7) ?hd (cs := #[.slice none 0 0, .int .u32 0, .slice none 0 0]) (t := 28) ?hr ?_; (case hd => rfl); (case hg => rfl); (case hr => first | (go_simp; done) | (go_simp; rfl)); intro gb391 hg w21 hbox hb; have n0_ := Aside0.mk (Kd.R_below (rq HO386.out) hb); have n1_ := Aside0.mk (Kd.S_below (by (with_reducible repeat (first | apply Kd.S_alloc | apply Kd.S_drewN | apply Kd.S_drew)); exact HO390.out) hb); have n2_ := Aside0.mk (blk_below (bq BK381.out) hb); have n3_ := Aside0.mk (blk_below (bq BK382.out) hb); have n4_ := Aside0.mk (below_step (lq HB.out) hb); have n5_ := Aside0.mk (hbox); have n6_ := Aside0.mk ((ge_new hg (lq HB.out) : w.heap.size ≤ gb391)); have n7_ := Aside0.mk ((ge_new hg (lq HB.out) : w.heap.size ≤ gb391)); have n8_ := Aside0.mk ((ne_new hg (bq BK381.out) : gb381 ≠ gb391)); have n9_ := Aside0.mk ((new_ne hg (bq BK381.out) : gb391 ≠ gb381)); have n10_ := Aside0.mk ((ne_new hg (bq BK382.out) : gb382 ≠ gb391)); have n11_ := Aside0.mk ((new_ne hg (bq BK382.out) : gb391 ≠ gb382)); clear HO386; clear HO390; clear BK381; clear BK382; clear HB; have HO386 := n0_; have HO390 := n1_; have BK381 := n2_; have BK382 := n3_; have HB := n4_; have BK391 := n5_; have GW391 := n6_; have GE391 := n7_; have NB381_391 := n8_; have NB391_381 := n9_; have NB382_391 := n10_; have NB391_382 := n11_; clear n0_ n1_ n2_ n3_ n4_ n5_ n6_ n7_ n8_ n9_ n10_ n11_; clear hb hbox hg; obtain ⟨Ao22, co22, eo22⟩ := Kd.R_slice HO386.out; subst eo22; have hnb23 := NB391_381.out; have hnc23 := NB381_391.out; have hnb24 := NB391_382.out; have hnc24 := NB382_391.out; have hcz25_0 : w21.cell? ⟨gb391, 0, none⟩ = some (.slice none 0 0) := (blk_cell BK391.out 0).trans rfl; have hcz25_1 : w21.cell? ⟨gb391, 1, none⟩ = some (.int .u32 0) := (blk_cell BK391.out 1).trans rfl; have hcz25_2 : w21.cell? ⟨gb391, 2, none⟩ = some (.slice none 0 0) := (blk_cell BK391.out 2).trans rfl; have hfz25_0 := blk_frozen BK391.out 0; have hfz25_1 := blk_frozen BK391.out 1; have hfz25_2 := blk_frozen BK391.out 2; obtain ⟨Ao26, co26, eo26⟩ := Kd.S_slice HO390.out; subst eo26) | ((with_reducible refine gate_store (t := 28) (p := 7) rfl ?_); refine store_event (t := 28) (p := 7) (v := ?vo_w27) (w1 := (((w21.setCell ⟨gb391, 0, none⟩ (.slice Ao22 t384.length co22)).setCell ⟨gb391, 1, none⟩ (.int .u32 t387)).setCell ⟨gb391, 2, none⟩ (.slice Ao26 t388.length co26))) ?hg ?ho ?hn ?hr ?_; (case ho => rfl); (case hg => rfl); (case hn => rfl); (case hr => first | (go_simp; done) | (go_simp; rfl)); intro w27 hw; have n0_ : Aside0 (Kd.R (Kd.int .u32) 23 w27 w.heap.size (fun _ => True) (.slice Ao22 t384.length co22) t384) := ⟨(by rw [hw]; exact (by (with_reducible repeat (first | apply Kd.R_alloc | apply Kd.R_drewN | apply Kd.R_drew)); exact Kd.R_mono (Kd.R_far (p := ⟨gb391, 2, none⟩) (Kd.R_far (p := ⟨gb391, 1, none⟩) (Kd.R_far (p := ⟨gb391, 0, none⟩) (Kd.R_types HO386.out BK391.out (by decide)) (fun _ hk => hk.2) (.slice Ao22 t384.length co22)) (fun _ hk => hk.2) (.int .u32 t387)) (fun _ hk => hk.2) (.slice Ao26 t388.length co26)) (fun _ hk => trivial)))⟩; have n1_ : Aside0 (Kd.S (Kd.slice 5 (Kd.int .u8)) 68 w27 w.heap.size (fun _ => True) (.slice Ao26 t388.length co26) t388) := ⟨(by rw [hw]; exact (by (with_reducible repeat (first | apply Kd.S_alloc | apply Kd.S_drewN | apply Kd.S_drew)); exact Kd.S_mono (Kd.S_far (p := ⟨gb391, 2, none⟩) (Kd.S_far (p := ⟨gb391, 1, none⟩) (Kd.S_far (p := ⟨gb391, 0, none⟩) (Kd.S_types HO390.out BK391.out (by decide)) (fun _ hk => hk.2) (.slice Ao22 t384.length co22)) (fun _ hk => hk.2) (.int .u32 t387)) (fun _ hk => hk.2) (.slice Ao26 t388.length co26)) (fun _ hk => trivial)))⟩; have n2_ : Aside0 (w27.heap[gb381]? = some (.cells #[.slice A0_0 l0_0.length c0_0, .int .u32 a0_1, .slice A0_2 l0_2.length c0_2] 28 (0, 0))) := ⟨(by rw [hw]; exact (by (with_reducible repeat (first | refine blk_drewN ?_ _ | refine blk_drew ?_ | refine blk_alloc ?_ _)); refine blk_far ?_ NB381_391.out _; (with_reducible repeat (first | refine blk_drewN ?_ _ | refine blk_drew ?_ | refine blk_alloc ?_ _)); refine blk_far ?_ NB381_391.out _; (with_reducible repeat (first | refine blk_drewN ?_ _ | refine blk_drew ?_ | refine blk_alloc ?_ _)); refine blk_far ?_ NB381_391.out _; (with_reducible repeat (first | refine blk_drewN ?_ _ | refine blk_drew ?_ | refine blk_alloc ?_ _)); exact BK381.out))⟩; have n3_ : Aside0 (w27.heap[gb382]? = some (.cells #[.slice none 0 0, .int .u32 0, .slice none 0 0] 28 (0, 0))) := ⟨(by rw [hw]; exact (by (with_reducible repeat (first | refine blk_drewN ?_ _ | refine blk_drew ?_ | refine blk_alloc ?_ _)); refine blk_far ?_ NB382_391.out _; (with_reducible repeat (first | refine blk_drewN ?_ _ | refine blk_drew ?_ | refine blk_alloc ?_ _)); refine blk_far ?_ NB382_391.out _; (with_reducible repeat (first | refine blk_drewN ?_ _ | refine blk_drew ?_ | refine blk_alloc ?_ _)); refine blk_far ?_ NB382_391.out _; (with_reducible repeat (first | refine blk_drewN ?_ _ | refine blk_drew ?_ | refine blk_alloc ?_ _)); exact BK382.out))⟩; have n4_ : Aside0 (w27.heap[gb391]? = some (.cells #[.slice Ao22 t384.length co22, .int .u32 t387, .slice Ao26 t388.length co26] 28 (0, 0))) := ⟨(by rw [hw]; exact (by (with_reducible repeat (first | refine blk_drewN ?_ _ | refine blk_drew ?_ | refine blk_alloc ?_ _)); refine blk_put (cs := #[.slice Ao22 t384.length co22, .int .u32 t387, .slice none 0 0]) ?_ 2 _ rfl; (with_reducible repeat (first | refine blk_drewN ?_ _ | refine blk_drew ?_ | refine blk_alloc ?_ _)); refine blk_put (cs := #[.slice Ao22 t384.length co22, .int .u32 0, .slice none 0 0]) ?_ 1 _ rfl; (with_reducible repeat (first | refine blk_drewN ?_ _ | refine blk_drew ?_ | refine blk_alloc ?_ _)); refine blk_put (cs := #[.slice none 0 0, .int .u32 0, .slice none 0 0]) ?_ 0 _ rfl; (with_reducible repeat (first | refine blk_drewN ?_ _ | refine blk_drew ?_ | refine blk_alloc ?_ _)); exact BK391.out))⟩; have n5_ : Aside0 (Below w.heap.size w w27) := ⟨(by rw [hw]; exact (by repeat (first | (with_reducible first | exact HB.out | apply below_alloc | apply pw_below_drewN | apply below_drew1 | refine below_set ?_ GE391.out) | exact HB.out)))⟩; clear hw; clear HO386; clear HO390; clear BK381; clear BK382; clear BK391; clear HB; have HO386 := n0_; have HO390 := n1_; have BK381 := n2_; have BK382 := n3_; have BK391 := n4_; have HB := n5_; clear n0_ n1_ n2_ n3_ n4_ n5_; have hcz28_0 : w27.cell? ⟨gb391, 0, none⟩ = some (.slice Ao22 t384.length co22) := (blk_cell BK391.out 0).trans rfl; have hcz28_1 : w27.cell? ⟨gb391, 1, none⟩ = some (.int .u32 t387) := (blk_cell BK391.out 1).trans rfl; have hcz28_2 : w27.cell? ⟨gb391, 2, none⟩ = some (.slice Ao26 t388.length co26) := (blk_cell BK391.out 2).trans rfl; have hfz28_0 := blk_frozen BK391.out 0; have hfz28_1 := blk_frozen BK391.out 1; have hfz28_2 := blk_frozen BK391.out 2) | ((with_reducible refine gate_callee (f := 40) rfl ?_); refine goesL_ (some 23) rfl rfl Try.func40 (by kernel_rfl) rfl #[.agg #[.slice Ao22 t384.length co22, .int .u32 t387, .slice Ao26 t388.length co26], .int .i64 a1, .int .u32 a2] rfl (by (try simp only [List.map_toArray, List.map_cons, List.map_nil]); first | done | rfl | (simp only [List.length_drop, List.length_take]; rfl)) ?_; (with_reducible refine (spec_l08Set.calls (fun k_ => some k_ = (.slice Ao22 t384.length co22 : Value).ownBlock) (.slice Ao22 t384.length co22) t384 t387 _ _ t388 a1 a2 t392 w _ ?side1 ?side2 ?side3 ?side4 A17.out).mono ?_); (case side1 => exact lq HB.out); (case side2 => exact Kd.R_tight rfl HO386.out); (case side3 => exact Kd.C_kept_own ((Kd.S_R (Kd.S_apart' HO390.out (Kd.R_typed HO386.out) (by decide)))) (fun k_ hk_ hs_ => (hk_.2) hs_)); (case side4 => exact (Kd.S_reads' HO390.out).2.1); rintro e w29 ⟨rfl, hy0, hb, hkp⟩; refine ⟨_, rfl, ?_⟩; have n0_ := Aside0.mk (blk_kept (bq BK381.out) hkp (fun hs_ => (fun e_ => (Kd.R_ne HO386.out BK381.out (by decide)) e_) hs_)); have n1_ := Aside0.mk (blk_kept (bq BK382.out) hkp (fun hs_ => (fun e_ => (Kd.R_ne HO386.out BK382.out (by decide)) e_) hs_)); have n2_ := Aside0.mk (Kd.R_reok rfl hy0 (fun k_ e_ => HO386.out.1 k_ e_)); have n3_ := Aside0.mk (Kd.S_mono (ok' := fun k_ => True) (Kd.S_keptB ((Kd.S_apart' HO390.out (Kd.R_typed HO386.out) (by decide))) hkp (fun k_ hk_ hs_ => (hk_.2) hs_)) (fun k_ hk_ => trivial)); have n4_ := Aside0.mk (blk_kept (bq BK391.out) hkp (fun hs_ => (fun e_ => (Kd.R_ne HO386.out BK391.out (by decide)) e_) hs_)); have n5_ := Aside0.mk (hb); clear BK381; clear BK382; clear HO386; clear HO390; clear BK391; clear HB; have BK381 := n0_; have BK382 := n1_; have HO386 := n2_; have HO390 := n3_; have BK391 := n4_; have HB := n5_; clear n0_ n1_ n2_ n3_ n4_ n5_; (try clear hb); (try clear hkp); (try clear hy0); have hcz30_0 : w29.cell? ⟨gb391, 0, none⟩ = some (.slice Ao22 t384.length co22) := (blk_cell BK391.out 0).trans rfl; have hcz30_1 : w29.cell? ⟨gb391, 1, none⟩ = some (.int .u32 t387) := (blk_cell BK391.out 1).trans rfl; have hcz30_2 : w29.cell? ⟨gb391, 2, none⟩ = some (.slice Ao26 t388.length co26) := (blk_cell BK391.out 2).trans rfl; have hfz30_0 := blk_frozen BK391.out 0; have hfz30_1 := blk_frozen BK391.out 1; have hfz30_2 := blk_frozen BK391.out 2; have hcz31_0 : w29.cell? ⟨gb382, 0, none⟩ = some (.slice none 0 0) := (blk_cell BK382.out 0).trans rfl; have hcz31_1 : w29.cell? ⟨gb382, 1, none⟩ = some (.int .u32 0) := (blk_cell BK382.out 1).trans rfl; have hcz31_2 : w29.cell? ⟨gb382, 2, none⟩ = some (.slice none 0 0) := (blk_cell BK382.out 2).trans rfl; have hfz31_0 := blk_frozen BK382.out 0; have hfz31_1 := blk_frozen BK382.out 1; have hfz31_2 := blk_frozen BK382.out 2))
    refine bodyPost_ret (results_cell_row rfl _ _ gb382 28 #[.slice Ao22 t384.length co22, .int .u32 t387, .slice Ao26 t388.length co26] (0, 0) _ rfl (by (with_reducible repeat (first | refine blk_drewN ?_ _ | refine blk_drew ?_ | refine blk_alloc ?_ _)); refine blk_put (cs := #[.slice Ao22 t384.length co22, .int .u32 t387, .slice none 0 0]) ?_ 2 _ rfl; (with_reducible repeat (first | refine blk_drewN ?_ _ | refine blk_drew ?_ | refine blk_alloc ?_ _)); refine blk_put (cs := #[.slice Ao22 t384.length co22, .int .u32 0, .slice none 0 0]) ?_ 1 _ rfl; (with_reducible repeat (first | refine blk_drewN ?_ _ | refine blk_drew ?_ | refine blk_alloc ?_ _)); refine blk_put (cs := #[.slice none 0 0, .int .u32 0, .slice none 0 0]) ?_ 0 _ rfl; (with_reducible repeat (first | refine blk_drewN ?_ _ | refine blk_drew ?_ | refine blk_alloc ?_ _)); exact BK382.out) Try.underlying28 rfl (by kernel_rfl)) rfl ?_
    exact ⟨_, _, by first | rfl | (simp [errW_none, errW_some] <;> rfl) | (simp [*, errW_none, errW_some] <;> rfl), by (with_reducible repeat (first | apply Kd.R_alloc | apply Kd.R_drewN | apply Kd.R_drew)); exact Kd.R_mono (Kd.R_far (p := ⟨gb382, 2, none⟩) (Kd.R_far (p := ⟨gb382, 1, none⟩) (Kd.R_far (p := ⟨gb382, 0, none⟩) (Kd.R_types HO386.out BK382.out (by decide)) (fun _ hk => hk.2) (.slice Ao22 t384.length co22)) (fun _ hk => hk.2) (.int .u32 t387)) (fun _ hk => hk.2) (.slice Ao26 t388.length co26)) (fun _ hk => trivial), by (with_reducible repeat (first | apply Kd.S_alloc | apply Kd.S_drewN | apply Kd.S_drew)); exact Kd.S_mono (Kd.S_far (p := ⟨gb382, 2, none⟩) (Kd.S_far (p := ⟨gb382, 1, none⟩) (Kd.S_far (p := ⟨gb382, 0, none⟩) (Kd.S_types HO390.out BK382.out (by decide)) (fun _ hk => hk.2) (.slice Ao22 t384.length co22)) (fun _ hk => hk.2) (.int .u32 t387)) (fun _ hk => hk.2) (.slice Ao26 t388.length co26)) (fun _ hk => trivial), by repeat (first | (with_reducible first | exact HB.out | apply below_alloc | apply pw_below_drewN | apply below_drew1 | refine below_set ?_ GE382.out) | exact HB.out)⟩

end Go.Proofs.Ytbcpkigeginmnaa.GF
