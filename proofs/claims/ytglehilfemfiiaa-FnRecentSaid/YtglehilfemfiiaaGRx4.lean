/- Told by a program of this session, out of the translation: each function of the group as a plain Lean function, and that Go's call comes to just its answer. Lean checks it. -/
import Derived.Test.YtglehilfemfiiaaGRx0
namespace Go.Proofs.Ytglehilfemfiiaa.GR
open Go.RowKit Go.Proofs.YtglehilfemfiiaaW.PrintWords Go.Proofs.YtglehilfemfiiaaW.PrintLast Go.Proofs.YtglehilfemfiiaaW.PrintMore Go.Proofs.Ytglehilfemfiiaa.Q
attribute [local go_sem] max2_int min2_int max_two min_two max_three min_three max_four min_four   -- for this text's walks alone
set_option linter.unusedVariables false
set_option linter.unusedSimpArgs false

/-! ### spec_l05Use: function 65 -/
mutual
def spec_l05Use.l0 : Nat → Bool → Int → Int → Bool → Bool → Int → Int → Int → Int → List (List (S118)) → Int → Int → Int → List (List (S118)) → Option (Int × Int × Int × (List (List (S118))) × Bool × Bool)
 | 0, _, _, _, _, _, _, _, _, _, _, _, _, _, _ => none
 | k + 1, x2, x10, x11, x13, x14, x15, x140000, x140001, x140002, x140003, x142000, x142001, x142002, x142003 => if x15 < (x140003.length : Int) then (if 0 ≤ x15 then (if x15 = x10 then (spec_l05Use.l1 k x2 x10 x11 x13 x14 x15 (rd_L3 x140003 x15) (([] : List (S118))) 0 x140000 x140001 x140002 x140003 x142000 x142001 x142002 x142003 x11 x2) else ((some (([] : List (S118)) : List (S118))).bind fun y143 => (if y143.length + (rd_L3 x140003 x15).length < 8796093022208 then (if x142003.length < 5864062014805 then (spec_l05Use.l0 k x2 x10 x11 x13 x14 (wrap64 (x15 + 1)) x140000 x140001 x140002 x140003 x142000 x142001 x142002 (x142003 ++ [(y143 ++ (rd_L3 x140003 x15))])) else (none)) else (none)))) else (none)) else (some (x142000, x142001, x142002, x142003, x13, x14))
def spec_l05Use.l1 : Nat → Bool → Int → Int → Bool → Bool → Int → List (S118) → List (S118) → Int → Int → Int → Int → List (List (S118)) → Int → Int → Int → List (List (S118)) → Int → Bool → Option (Int × Int × Int × (List (List (S118))) × Bool × Bool)
 | 0, _, _, _, _, _, _, _, _, _, _, _, _, _, _, _, _, _, _, _ => none
 | k + 1, x2, x10, x11, x13, x14, x15, x16, x18, x19, x140000, x140001, x140002, x140003, x142000, x142001, x142002, x142003, x153000, x153001 => if x19 < (x16.length : Int) then (if 0 ≤ x19 then (if ((rd_T118 x16 x19).f0) = x11 then (if x2 = true then (spec_l05Use.l1 k x2 x10 x11 true x14 x15 x16 x18 (wrap64 (x19 + 1)) x140000 x140001 x140002 x140003 x142000 x142001 x142002 x142003 x153000 true) else (spec_l05Use.l1 k x2 x10 x11 true x14 x15 x16 x18 (wrap64 (x19 + 1)) x140000 x140001 x140002 x140003 x142000 x142001 x142002 x142003 x153000 ((rd_T118 x16 x19).f1))) else (if x18.length < 8796093022208 then (spec_l05Use.l1 k x2 x10 x11 x13 x14 x15 x16 (x18 ++ [(⟨(rd_T118 x16 x19).f0, (rd_T118 x16 x19).f1⟩ : S118)]) (wrap64 (x19 + 1)) x140000 x140001 x140002 x140003 x142000 x142001 x142002 x142003 x153000 x153001) else (none))) else (none)) else (if (x18.length : Int) = x140001 then (if 0 ≤ (wrap64 ((x18.length : Int) - 1)) then (if (wrap64 ((x18.length : Int) - 1)) < (x18.length : Int) then (if (wrap64 ((x18.length : Int) - 1)) ≤ (x18.length : Int) then ((some (x18.take ((wrap64 ((x18.length : Int) - 1)) : Int).toNat : List (S118))).bind fun y163 => ((some (([(⟨x153000, x153001⟩ : S118)] : List (S118)) : List (S118))).bind fun y166 => (if y166.length + y163.length < 8796093022208 then (if x142003.length < 5864062014805 then (spec_l05Use.l0 k x2 x10 x11 x13 ((rd_T118 x18 (wrap64 ((x18.length : Int) - 1))).f1) (wrap64 (x15 + 1)) x140000 x140001 x140002 x140003 x142000 x142001 x142002 (x142003 ++ [(y166 ++ y163)])) else (none)) else (none)))) else (none)) else (none)) else (none)) else ((some (([(⟨x153000, x153001⟩ : S118)] : List (S118)) : List (S118))).bind fun y175 => (if y175.length + x18.length < 8796093022208 then (if x142003.length < 5864062014805 then (spec_l05Use.l0 k x2 x10 x11 x13 x14 (wrap64 (x15 + 1)) x140000 x140001 x140002 x140003 x142000 x142001 x142002 (x142003 ++ [(y175 ++ x18)])) else (none)) else (none))))
end
def spec_l05Use.f (k : Nat) (a0_0 : Int) (a0_1 : Int) (a0_2 : Int) (l0_3 : List (List (S118))) (a1 : Int) (a2 : Bool) : Option (Int × Int × Int × (List (List (S118))) × Bool × Bool) := if a0_2 = 0 then (none) else (if a0_0 = 0 then (none) else (spec_l05Use.l0 k a2 (Int.tmod (wrap64 (Int.tdiv a1 a0_2)) a0_0) (wrap64 (Int.tdiv (wrap64 (Int.tdiv a1 a0_2)) a0_0)) false false 0 a0_0 a0_1 a0_2 l0_3 a0_0 a0_1 a0_2 ([] : List (List (S118)))))
theorem spec_l05Use.mono_l : ∀ k, (∀ y0 y1 y2 y3 y4 y5 y6 y7 y8 y9 y10 y11 y12 y13, LeO (spec_l05Use.l0 k y0 y1 y2 y3 y4 y5 y6 y7 y8 y9 y10 y11 y12 y13) (spec_l05Use.l0 (k + 1) y0 y1 y2 y3 y4 y5 y6 y7 y8 y9 y10 y11 y12 y13)) ∧ (∀ y0 y1 y2 y3 y4 y5 y6 y7 y8 y9 y10 y11 y12 y13 y14 y15 y16 y17 y18, LeO (spec_l05Use.l1 k y0 y1 y2 y3 y4 y5 y6 y7 y8 y9 y10 y11 y12 y13 y14 y15 y16 y17 y18) (spec_l05Use.l1 (k + 1) y0 y1 y2 y3 y4 y5 y6 y7 y8 y9 y10 y11 y12 y13 y14 y15 y16 y17 y18))
 | 0 => ⟨fun _ _ _ _ _ _ _ _ _ _ _ _ _ _ r h => by simp [spec_l05Use.l0] at h, fun _ _ _ _ _ _ _ _ _ _ _ _ _ _ _ _ _ _ _ r h => by simp [spec_l05Use.l1] at h⟩
 | k + 1 => by
  obtain ⟨ih0, ih1⟩ := spec_l05Use.mono_l k
  refine ⟨?_, ?_⟩
  ·intro y0 y1 y2 y3 y4 y5 y6 y7 y8 y9 y10 y11 y12 y13
   unfold spec_l05Use.l0
   repeat' first
   | (with_reducible exact ih0 _ _ _ _ _ _ _ _ _ _ _ _ _ _)
   | (with_reducible exact ih1 _ _ _ _ _ _ _ _ _ _ _ _ _ _ _ _ _ _ _)
   | (with_reducible exact LeO.refl _)
   | (with_reducible exact LeO.none _)
   | (with_reducible refine LeO.ite ?_ ?_)
   | (with_reducible refine LeO.bind ?_ (fun _ => ?_))
   | exact ih0 _ _ _ _ _ _ _ _ _ _ _ _ _ _
   | exact ih1 _ _ _ _ _ _ _ _ _ _ _ _ _ _ _ _ _ _ _
   | exact LeO.none _
   | refine LeO.ite ?_ ?_
   | refine LeO.bind ?_ (fun _ => ?_)
  ·intro y0 y1 y2 y3 y4 y5 y6 y7 y8 y9 y10 y11 y12 y13 y14 y15 y16 y17 y18
   unfold spec_l05Use.l1
   repeat' first
   | (with_reducible exact ih0 _ _ _ _ _ _ _ _ _ _ _ _ _ _)
   | (with_reducible exact ih1 _ _ _ _ _ _ _ _ _ _ _ _ _ _ _ _ _ _ _)
   | (with_reducible exact LeO.refl _)
   | (with_reducible exact LeO.none _)
   | (with_reducible refine LeO.ite ?_ ?_)
   | (with_reducible refine LeO.bind ?_ (fun _ => ?_))
   | exact ih0 _ _ _ _ _ _ _ _ _ _ _ _ _ _
   | exact ih1 _ _ _ _ _ _ _ _ _ _ _ _ _ _ _ _ _ _ _
   | exact LeO.none _
   | refine LeO.ite ?_ ?_
   | refine LeO.bind ?_ (fun _ => ?_)
theorem spec_l05Use.mono : ∀ a0 a1 a2 a3 a4 a5 k, LeO (spec_l05Use.f k a0 a1 a2 a3 a4 a5) (spec_l05Use.f (k + 1) a0 a1 a2 a3 a4 a5) := by
 intro a0 a1 a2 a3 a4 a5 k
 obtain ⟨ih0, ih1⟩ := spec_l05Use.mono_l k
 unfold spec_l05Use.f
 repeat' first
   | (with_reducible exact ih0 _ _ _ _ _ _ _ _ _ _ _ _ _ _)
   | (with_reducible exact ih1 _ _ _ _ _ _ _ _ _ _ _ _ _ _ _ _ _ _ _)
   | (with_reducible exact LeO.refl _)
   | (with_reducible exact LeO.none _)
   | (with_reducible refine LeO.ite ?_ ?_)
   | (with_reducible refine LeO.bind ?_ (fun _ => ?_))
   | exact ih0 _ _ _ _ _ _ _ _ _ _ _ _ _ _
   | exact ih1 _ _ _ _ _ _ _ _ _ _ _ _ _ _ _ _ _ _ _
   | exact LeO.none _
   | refine LeO.ite ?_ ?_
   | refine LeO.bind ?_ (fun _ => ?_)
def spec_l05Use.T11 : Bool × List (List Nat × List Nat) := (true, [([], []), ([0], [0]), ([], []), ([], []), ([2, 3], [2, 3]), ([4], [4]), ([1, 5, 4], [1, 5]), ([0, 1, 2, 3, 4, 5, 6], []), ([7, 6, 6, 0, 1, 2, 3, 4, 5, 6], [6, 7])])
def spec_l05Use.B11 : List Nat := [0, 1, 0, 0, 12, 28, 63, 127, 255]
theorem spec_l05Use.tab11 : rtab .any (opsOf Try.f65 11) = spec_l05Use.T11 := by kernel_rfl
theorem spec_l05Use.bits11 : waitsOk spec_l05Use.T11.2 spec_l05Use.B11 = true := by kernel_rfl
def spec_l05Use.T24 : Bool × List (List Nat × List Nat) := (true, [([], []), ([0], [0]), ([], []), ([2], [2]), ([], []), ([3, 4], [3, 4]), ([5], [5]), ([1, 6, 5], [1, 6]), ([0, 1, 2, 3, 4, 5, 6, 7], []), ([8, 7, 7, 0, 1, 2, 3, 4, 5, 6, 7], [7, 8])])
def spec_l05Use.B24 : List Nat := [0, 1, 0, 4, 0, 28, 60, 127, 255, 511]
theorem spec_l05Use.tab24 : rtab .any (opsOf Try.f65 24) = spec_l05Use.T24 := by kernel_rfl
theorem spec_l05Use.bits24 : waitsOk spec_l05Use.T24.2 spec_l05Use.B24 = true := by kernel_rfl
set_option maxHeartbeats 8000000 in
set_option maxRecDepth 100000 in
theorem spec_l05Use.calls (k : Nat) (a0_0 : Int) (a0_1 : Int) (a0_2 : Int) (A0_3 : Option Addr) (c0_3 : Nat) (l0_3 : List (List (S118))) (a1 : Int) (a2 : Bool) (r1 : Int) (r2 : Int) (r3 : Int) (r4 : List (List (S118))) (r5 : Bool) (r6 : Bool) (w : World) (hr0_3 : Kd.C (Kd.slice 118 k118) w A0_3 l0_3.length l0_3) (hc0_3 : l0_3.length ≤ c0_3) (h : spec_l05Use.f k a0_0 a0_1 a0_2 l0_3 a1 a2 = some (r1, r2, r3, r4, r5, r6)) :
  Calls Try.prog 65 #[.agg #[.int .i64 a0_0, .int .i64 a0_1, .int .i64 a0_2, .slice A0_3 l0_3.length c0_3], .int .i64 a1, .bool a2] w fun e w' => ∃ v3_ : Value, e = .returned (.tuple #[.agg #[.int .i64 r1, .int .i64 r2, .int .i64 r3, v3_], .bool r5, .bool r6]) ∧ Kd.S (Kd.slice 118 k118) 116 w' w.heap.size (fun _ => True) v3_ r4 ∧ Below w.heap.size w w' := by
 have hu70 := Try.underlying70
 have hu25 := Try.underlying25
 have hu118 := Try.underlying118
 have HR0_3 := Aside0.mk hr0_3
 have HC0_3 := Aside0.mk hc0_3
 clear hr0_3 hc0_3
 have HB := Aside0.mk (Below.refl w.heap.size w)
 have H : (if a0_2 = 0 then (none) else (if a0_0 = 0 then (none) else (spec_l05Use.l0 k a2 (Int.tmod (wrap64 (Int.tdiv a1 a0_2)) a0_0) (wrap64 (Int.tdiv (wrap64 (Int.tdiv a1 a0_2)) a0_0)) false false 0 a0_0 a0_1 a0_2 l0_3 a0_0 a0_1 a0_2 ([] : List (List (S118)))))) = some (r1, r2, r3, r4, r5, r6) := h
 clear h
 by_cases c4 : a0_2 = 0
 ·rw [if_pos c4] at H
  exact absurd H (by simp)
 ·rw [if_neg c4] at H
  have c4b0 : (a0_2 == 0) = false := beq_eq_false_iff_ne.mpr c4
  have c4b1 : (a0_2 != 0) = true := bne_iff_ne.mpr c4
  by_cases c5 : a0_0 = 0
  ·rw [if_pos c5] at H
   exact absurd H (by simp)
  ·rw [if_neg c5] at H
   have c5b0 : (a0_0 == 0) = false := beq_eq_false_iff_ne.mpr c5
   have c5b1 : (a0_0 != 0) = true := bne_iff_ne.mpr c5
   have H' := Aside0.mk H
   clear H
   go_enter Try.func65, Try.ntmps65
   go_wp2_with (first | ((with_reducible refine gate_dst (N := 3) rfl ?_); refine box_event ?hg (N := 3) ?hd (cs := #[.int .i64 a0_0, .int .i64 a0_1, .int .i64 a0_2, .slice A0_3 l0_3.length c0_3]) (t := 70) ?hr ?_; (case hd => rfl); (case hg => rfl); (case hr => first | (go_simp; done) | (go_simp; rfl)); intro gb139 hg w6 hbox hb; have n0_ := Aside0.mk (below_step (lq HB.out) hb); have n1_ := Aside0.mk (hbox); have n2_ := Aside0.mk ((ge_new hg (lq HB.out) : w.heap.size ≤ gb139)); have n3_ := Aside0.mk ((ge_new hg (lq HB.out) : w.heap.size ≤ gb139)); clear HB; have HB := n0_; have BK139 := n1_; have GW139 := n2_; have GE139 := n3_; clear n0_ n1_ n2_ n3_; clear hb hbox hg) | ((with_reducible refine gate_dst (N := 6) rfl ?_); refine box_event ?hg (N := 6) ?hd (cs := #[.int .i64 0, .int .i64 0, .int .i64 0, .slice none 0 0]) (t := 70) ?hr ?_; (case hd => rfl); (case hg => rfl); (case hr => first | (go_simp; done) | (go_simp; rfl)); intro gb140 hg w7 hbox hb; have n0_ := Aside0.mk (blk_below (bq BK139.out) hb); have n1_ := Aside0.mk (below_step (lq HB.out) hb); have n2_ := Aside0.mk (hbox); have n3_ := Aside0.mk ((ge_new hg (lq HB.out) : w.heap.size ≤ gb140)); have n4_ := Aside0.mk ((ge_new hg (lq HB.out) : w.heap.size ≤ gb140)); have n5_ := Aside0.mk ((ne_new hg (bq BK139.out) : gb139 ≠ gb140)); have n6_ := Aside0.mk ((new_ne hg (bq BK139.out) : gb140 ≠ gb139)); clear BK139; clear HB; have BK139 := n0_; have HB := n1_; have BK140 := n2_; have GW140 := n3_; have GE140 := n4_; have NB139_140 := n5_; have NB140_139 := n6_; clear n0_ n1_ n2_ n3_ n4_ n5_ n6_; clear hb hbox hg; have hnb8 := NB139_140.out; have hnc8 := NB140_139.out; have hcz9_0 : w7.cell? ⟨gb139, 0, none⟩ = some (.int .i64 a0_0) := (blk_cell BK139.out 0).trans rfl; have hcz9_1 : w7.cell? ⟨gb139, 1, none⟩ = some (.int .i64 a0_1) := (blk_cell BK139.out 1).trans rfl; have hcz9_2 : w7.cell? ⟨gb139, 2, none⟩ = some (.int .i64 a0_2) := (blk_cell BK139.out 2).trans rfl; have hcz9_3 : w7.cell? ⟨gb139, 3, none⟩ = some (.slice A0_3 l0_3.length c0_3) := (blk_cell BK139.out 3).trans rfl; have hfz9_0 := blk_frozen BK139.out 0; have hfz9_1 := blk_frozen BK139.out 1; have hfz9_2 := blk_frozen BK139.out 2; have hfz9_3 := blk_frozen BK139.out 3) | ((with_reducible refine gate_dst (N := 12) rfl ?_); refine box_event ?hg (N := 12) ?hd (cs := #[.int .i64 0, .int .i64 0, .int .i64 0, .slice none 0 0]) (t := 70) ?hr ?_; (case hd => rfl); (case hg => rfl); (case hr => first | (go_simp; done) | (go_simp; rfl)); intro gb141 hg w10 hbox hb; have n0_ := Aside0.mk (blk_below (bq BK139.out) hb); have n1_ := Aside0.mk (blk_below (bq BK140.out) hb); have n2_ := Aside0.mk (below_step (lq HB.out) hb); have n3_ := Aside0.mk (hbox); have n4_ := Aside0.mk ((ge_new hg (lq HB.out) : w.heap.size ≤ gb141)); have n5_ := Aside0.mk ((ge_new hg (lq HB.out) : w.heap.size ≤ gb141)); have n6_ := Aside0.mk ((ne_new hg (bq BK139.out) : gb139 ≠ gb141)); have n7_ := Aside0.mk ((new_ne hg (bq BK139.out) : gb141 ≠ gb139)); have n8_ := Aside0.mk ((ne_new hg (bq BK140.out) : gb140 ≠ gb141)); have n9_ := Aside0.mk ((new_ne hg (bq BK140.out) : gb141 ≠ gb140)); clear BK139; clear BK140; clear HB; have BK139 := n0_; have BK140 := n1_; have HB := n2_; have BK141 := n3_; have GW141 := n4_; have GE141 := n5_; have NB139_141 := n6_; have NB141_139 := n7_; have NB140_141 := n8_; have NB141_140 := n9_; clear n0_ n1_ n2_ n3_ n4_ n5_ n6_ n7_ n8_ n9_; clear hb hbox hg; have hnb11 := NB141_139.out; have hnc11 := NB139_141.out; have hnb12 := NB141_140.out; have hnc12 := NB140_141.out; have hcz13_0 : w10.cell? ⟨gb141, 0, none⟩ = some (.int .i64 0) := (blk_cell BK141.out 0).trans rfl; have hcz13_1 : w10.cell? ⟨gb141, 1, none⟩ = some (.int .i64 0) := (blk_cell BK141.out 1).trans rfl; have hcz13_2 : w10.cell? ⟨gb141, 2, none⟩ = some (.int .i64 0) := (blk_cell BK141.out 2).trans rfl; have hcz13_3 : w10.cell? ⟨gb141, 3, none⟩ = some (.slice none 0 0) := (blk_cell BK141.out 3).trans rfl; have hfz13_0 := blk_frozen BK141.out 0; have hfz13_1 := blk_frozen BK141.out 1; have hfz13_2 := blk_frozen BK141.out 2; have hfz13_3 := blk_frozen BK141.out 3))
   go_loopg [13, 14, 15] k (fun kq v13 v14 v15 w' => ∃ (x13_1 : Bool) (x14_1 : Bool) (x15_1 : Int) (x142003_1 : List (List (S118))) (u142003 : Value), v13 = .bool x13_1 ∧ v14 = .bool x14_1 ∧ v15 = .int .i64 x15_1 ∧ Aside0 (spec_l05Use.l0 kq a2 (Int.tmod (wrap64 (Int.tdiv a1 a0_2)) a0_0) (wrap64 (Int.tdiv (wrap64 (Int.tdiv a1 a0_2)) a0_0)) x13_1 x14_1 x15_1 a0_0 a0_1 a0_2 l0_3 a0_0 a0_1 a0_2 x142003_1 = some (r1, r2, r3, r4, r5, r6)) ∧ Aside0 (kq ≤ k) ∧ Aside0 (Kd.S (Kd.slice 118 k118) 116 w' w.heap.size (fun _ => True) u142003 x142003_1) ∧ Aside0 (w'.heap[gb139]? = some (.cells #[.int .i64 a0_0, .int .i64 a0_1, .int .i64 a0_2, (.slice A0_3 l0_3.length c0_3)] 70 (0, 0))) ∧ Aside0 (w'.heap[gb140]? = some (.cells #[.int .i64 0, .int .i64 0, .int .i64 0, (.slice none 0 0)] 70 (0, 0))) ∧ Aside0 (w'.heap[gb141]? = some (.cells #[.int .i64 a0_0, .int .i64 a0_1, .int .i64 a0_2, u142003] 70 (0, 0))) ∧ Aside0 (Below w.heap.size w w'))
   case atStart => exact ⟨(false), (false), (0), (([] : List (List (S118)))), (.slice none 0 0), (by first | rfl | (simp; done) | (simp [*]; done)), (by first | rfl | (simp; done) | (simp [*]; done)), (by first | rfl | (simp; done) | (simp [*]; done)), H', ⟨Nat.le_refl _⟩, ⟨by first | exact Kd.S_nil _ _ _ _ _ | exact Kd.N_nil _ _ _ _ _ | exact Kd.V_nil _ _ _ _ _ | exact Kd.Q_nil _ _ _ _ _ | exact Kd.R_nil _ _ _ _ _⟩, ⟨by (with_reducible repeat (first | refine blk_drewN ?_ _ | refine blk_drew ?_ | refine blk_alloc ?_ _)); refine blk_far ?_ NB139_141.out _; (with_reducible repeat (first | refine blk_drewN ?_ _ | refine blk_drew ?_ | refine blk_alloc ?_ _)); refine blk_far ?_ NB139_141.out _; (with_reducible repeat (first | refine blk_drewN ?_ _ | refine blk_drew ?_ | refine blk_alloc ?_ _)); refine blk_far ?_ NB139_141.out _; (with_reducible repeat (first | refine blk_drewN ?_ _ | refine blk_drew ?_ | refine blk_alloc ?_ _)); refine blk_far ?_ NB139_141.out _; (with_reducible repeat (first | refine blk_drewN ?_ _ | refine blk_drew ?_ | refine blk_alloc ?_ _)); exact BK139.out⟩, ⟨by (with_reducible repeat (first | refine blk_drewN ?_ _ | refine blk_drew ?_ | refine blk_alloc ?_ _)); refine blk_far ?_ NB140_141.out _; (with_reducible repeat (first | refine blk_drewN ?_ _ | refine blk_drew ?_ | refine blk_alloc ?_ _)); refine blk_far ?_ NB140_141.out _; (with_reducible repeat (first | refine blk_drewN ?_ _ | refine blk_drew ?_ | refine blk_alloc ?_ _)); refine blk_far ?_ NB140_141.out _; (with_reducible repeat (first | refine blk_drewN ?_ _ | refine blk_drew ?_ | refine blk_alloc ?_ _)); refine blk_far ?_ NB140_141.out _; (with_reducible repeat (first | refine blk_drewN ?_ _ | refine blk_drew ?_ | refine blk_alloc ?_ _)); exact BK140.out⟩, ⟨by (with_reducible repeat (first | refine blk_drewN ?_ _ | refine blk_drew ?_ | refine blk_alloc ?_ _)); refine blk_put (cs := #[.int .i64 a0_0, .int .i64 a0_1, .int .i64 a0_2, .slice none 0 0]) ?_ 3 _ rfl; (with_reducible repeat (first | refine blk_drewN ?_ _ | refine blk_drew ?_ | refine blk_alloc ?_ _)); refine blk_put (cs := #[.int .i64 a0_0, .int .i64 a0_1, .int .i64 0, .slice none 0 0]) ?_ 2 _ rfl; (with_reducible repeat (first | refine blk_drewN ?_ _ | refine blk_drew ?_ | refine blk_alloc ?_ _)); refine blk_put (cs := #[.int .i64 a0_0, .int .i64 0, .int .i64 0, .slice none 0 0]) ?_ 1 _ rfl; (with_reducible repeat (first | refine blk_drewN ?_ _ | refine blk_drew ?_ | refine blk_alloc ?_ _)); refine blk_put (cs := #[.int .i64 0, .int .i64 0, .int .i64 0, .slice none 0 0]) ?_ 0 _ rfl; (with_reducible repeat (first | refine blk_drewN ?_ _ | refine blk_drew ?_ | refine blk_alloc ?_ _)); exact BK141.out⟩, ⟨by repeat (first | (with_reducible first | exact HB.out | apply below_alloc | apply pw_below_drewN | apply below_drew1 | refine below_set ?_ GE141.out) | exact HB.out)⟩⟩
   case round =>
    clear H'
    try clear c1
    try clear p2
    try clear c4
    try clear c4b0
    try clear c4b1
    try clear c5
    try clear c5b0
    try clear c5b1
    try clear c6
    try clear p6
    try clear c8
    try clear c11
    try clear c12
    try clear hcz13_0
    try clear hcz13_1
    try clear hcz13_2
    try clear hcz13_3
    try clear hcz9_0
    try clear hcz9_1
    try clear hcz9_2
    try clear hcz9_3
    try clear hfz13_0
    try clear hfz13_1
    try clear hfz13_2
    try clear hfz13_3
    try clear hfz9_0
    try clear hfz9_1
    try clear hfz9_2
    try clear hfz9_3
    obtain ⟨x13_1, x14_1, x15_1, x142003_1, u142003, rfl, rfl, rfl, HA, HK1, HO_142003, BK139, BK140, BK141, HB⟩ := hrel
    cases gk with
    | zero => exact absurd HA.out (by simp [spec_l05Use.l0])
    | succ k1 =>
     have H := HA.out
     clear HA
     simp only [spec_l05Use.l0] at H
     by_cases c14 : x15_1 < (l0_3.length : Int)
     ·rw [if_pos c14] at H
      have c14b0 : decide (x15_1 < (l0_3.length : Int)) = true := decide_eq_true c14
      clear c14
      by_cases c15 : 0 ≤ x15_1
      ·rw [if_pos c15] at H
       have c15b0 : decide (0 ≤ x15_1) = true := decide_eq_true c15
       clear c15
       by_cases c16 : x15_1 = (Int.tmod (wrap64 (Int.tdiv a1 a0_2)) a0_0)
       ·rw [if_pos c16] at H
        have c16b0 : (x15_1 == (Int.tmod (wrap64 (Int.tdiv a1 a0_2)) a0_0)) = true := beq_iff_eq.mpr c16
        have c16b1 : (x15_1 != (Int.tmod (wrap64 (Int.tdiv a1 a0_2)) a0_0)) = false := bne_eq_false_iff_eq.mpr c16
        clear c16
        obtain ⟨y153, hy153⟩ : ∃ y_ : List (S118), y_ = (([] : List (S118))) := ⟨_, rfl⟩
        replace H : (spec_l05Use.l1 k1 a2 (Int.tmod (wrap64 (Int.tdiv a1 a0_2)) a0_0) (wrap64 (Int.tdiv (wrap64 (Int.tdiv a1 a0_2)) a0_0)) x13_1 x14_1 x15_1 (rd_L3 l0_3 x15_1) y153 0 a0_0 a0_1 a0_2 l0_3 a0_0 a0_1 a0_2 x142003_1 (wrap64 (Int.tdiv (wrap64 (Int.tdiv a1 a0_2)) a0_0)) a2) = some (r1, r2, r3, r4, r5, r6) := by first | (rw [hy153]; with_reducible exact H) | (have H2_ := (Option.bind_some _ _).symm.trans H; rw [hy153]; with_reducible exact H2_) | (have H2_ := (Option.bind_some _ _).symm.trans H; with_reducible exact H2_) | with_reducible exact H | (rw [hy153]; exact H) | exact H
        have Ny153 := Aside0.mk hy153
        clear hy153
        have H' := Aside0.mk H
        clear H
        have hnb17 := NB139_140.out
        have hnc17 := NB140_139.out
        have hnb18 := NB139_141.out
        have hnc18 := NB141_139.out
        have hcz19_0 : wr.cell? ⟨gb139, 0, none⟩ = some (.int .i64 a0_0) := (blk_cell BK139.out 0).trans rfl
        have hcz19_1 : wr.cell? ⟨gb139, 1, none⟩ = some (.int .i64 a0_1) := (blk_cell BK139.out 1).trans rfl
        have hcz19_2 : wr.cell? ⟨gb139, 2, none⟩ = some (.int .i64 a0_2) := (blk_cell BK139.out 2).trans rfl
        have hcz19_3 : wr.cell? ⟨gb139, 3, none⟩ = some (.slice A0_3 l0_3.length c0_3) := (blk_cell BK139.out 3).trans rfl
        have hfz19_0 := blk_frozen BK139.out 0
        have hfz19_1 := blk_frozen BK139.out 1
        have hfz19_2 := blk_frozen BK139.out 2
        have hfz19_3 := blk_frozen BK139.out 3
        have p142 : 0 ≤ (x15_1 : Int) := of_decide_eq_true (by first | (with_reducible assumption) | assumption)
        have q142 : x15_1 < (l0_3.length : Int) := of_decide_eq_true (by first | (with_reducible assumption) | assumption)
        obtain ⟨ad142, A142_0, c142_0, e142, hx142_0, hl142_0, hi142_0⟩ := at_L3 HR0_3.out x15_1 p142 q142
        cases e142
        replace hx142_0 := (HB.out.cell (World.block_lt_of_cell? w _ hx142_0)).trans hx142_0
        have HR142_0 := Aside0.mk hi142_0
        have HC142_0 := Aside0.mk hl142_0
        clear hi142_0 hl142_0
        replace p142 := eq_true p142
        replace q142 := eq_true q142
        go_wp2_with (first | ((with_reducible refine gate_dst (N := 17) rfl ?_); refine box_event ?hg (N := 17) ?hd (cs := #[.int .i64 0, .bool false]) (t := 118) ?hr ?_; (case hd => rfl); (case hg => rfl); (case hr => first | (go_simp; done) | (go_simp; rfl)); intro gb152 hg w20 hbox hb; have n0_ := Aside0.mk (Kd.S_below (Kd.S_elderB (by (with_reducible repeat (first | apply Kd.S_alloc | apply Kd.S_drewN | apply Kd.S_drew)); exact HO_142003.out) gb152 (Nat.le_of_eq hg.symm)) hb); have n1_ := Aside0.mk (blk_below (bq BK139.out) hb); have n2_ := Aside0.mk (blk_below (bq BK140.out) hb); have n3_ := Aside0.mk (blk_below (bq BK141.out) hb); have n4_ := Aside0.mk (below_step (lq HB.out) hb); have n5_ := Aside0.mk (hbox); have n6_ := Aside0.mk ((ge_new hg (lq HB.out) : w.heap.size ≤ gb152)); have n7_ := Aside0.mk ((ge_new hg (lq HB.out) : w.heap.size ≤ gb152)); have n8_ := Aside0.mk ((ne_new hg (bq BK139.out) : gb139 ≠ gb152)); have n9_ := Aside0.mk ((new_ne hg (bq BK139.out) : gb152 ≠ gb139)); have n10_ := Aside0.mk ((ne_new hg (bq BK140.out) : gb140 ≠ gb152)); have n11_ := Aside0.mk ((new_ne hg (bq BK140.out) : gb152 ≠ gb140)); have n12_ := Aside0.mk ((ne_new hg (bq BK141.out) : gb141 ≠ gb152)); have n13_ := Aside0.mk ((new_ne hg (bq BK141.out) : gb152 ≠ gb141)); clear HO_142003; clear BK139; clear BK140; clear BK141; clear HB; have HO_142003 := n0_; have BK139 := n1_; have BK140 := n2_; have BK141 := n3_; have HB := n4_; have BK152 := n5_; have GW152 := n6_; have GE152 := n7_; have NB139_152 := n8_; have NB152_139 := n9_; have NB140_152 := n10_; have NB152_140 := n11_; have NB141_152 := n12_; have NB152_141 := n13_; clear n0_ n1_ n2_ n3_ n4_ n5_ n6_ n7_ n8_ n9_ n10_ n11_ n12_ n13_; clear hb hbox hg; have hnb21 := NB152_139.out; have hnc21 := NB139_152.out; have hnb22 := NB152_140.out; have hnc22 := NB140_152.out; have hnb23 := NB152_141.out; have hnc23 := NB141_152.out; have hcz24_0 : w20.cell? ⟨gb152, 0, none⟩ = some (.int .i64 0) := (blk_cell BK152.out 0).trans rfl; have hcz24_1 : w20.cell? ⟨gb152, 1, none⟩ = some (.bool false) := (blk_cell BK152.out 1).trans rfl; have hfz24_0 := blk_frozen BK152.out 0; have hfz24_1 := blk_frozen BK152.out 1) | ((with_reducible refine gate_dst (N := 64) rfl ?_); refine Kd.R_lit k118 _ 118 ?hg (N := 64) ?hd (xs := ([] : List (S118))) (inner := []) (ok := fun _ => True) (okp := fun _ => True) ?hr ?hp (fun _ hk => hk) trivial (Below.refl _ _) (Nat.le_refl _) (by simp) ?_; (case hd => rfl); (case hg => rfl); (case hr => first | (go_simp; done) | (go_simp; rfl)); (case hp => exact (Reps.none _ _)); intro v154 w25 ho26 hb hg_ hnew_; clear hg_ hnew_; (first | rw [← Ny153.out] at ho26 | (simp only [Int.reduceToNat] at ho26; rw [← Ny153.out] at ho26)); have n0_ := Aside0.mk (Kd.S_elder' (by (with_reducible repeat (first | apply Kd.S_alloc | apply Kd.S_drewN | apply Kd.S_drew)); exact (Kd.S_mono (Kd.S_far (p := ⟨gb152, 1, none⟩) (Kd.S_far (p := ⟨gb152, 0, none⟩) (Kd.S_mono HO_142003.out (fun k_ hk => (⟨hk, hk.2⟩ : _ ∧ k_ ≠ gb152))) (fun _ hk => hk.2) (.int .i64 (wrap64 (Int.tdiv (wrap64 (Int.tdiv a1 a0_2)) a0_0)))) (fun _ hk => hk.2) (.bool a2)) (fun _ h_ => h_.1))) (Kd.R_base ho26) hb); have n1_ := Aside0.mk (Kd.R_lower (Kd.R_newB ho26 (g := gb152) (o := .cells #[.int .i64 (wrap64 (Int.tdiv (wrap64 (Int.tdiv a1 a0_2)) a0_0)), .bool a2] 118 (0, 0)) (by (with_reducible repeat (first | refine blk_drewN ?_ _ | refine blk_drew ?_ | refine blk_alloc ?_ _)); refine blk_put (cs := #[.int .i64 (wrap64 (Int.tdiv (wrap64 (Int.tdiv a1 a0_2)) a0_0)), .bool false]) ?_ 1 _ rfl; (with_reducible repeat (first | refine blk_drewN ?_ _ | refine blk_drew ?_ | refine blk_alloc ?_ _)); refine blk_put (cs := #[.int .i64 0, .bool false]) ?_ 0 _ rfl; (with_reducible repeat (first | refine blk_drewN ?_ _ | refine blk_drew ?_ | refine blk_alloc ?_ _)); exact BK152.out)) (below_size (by repeat (first | (with_reducible first | exact HB.out | apply below_alloc | apply pw_below_drewN | apply below_drew1 | refine below_set ?_ GE152.out) | exact HB.out)))); have n2_ := Aside0.mk (blk_below (g := gb139) (o := .cells #[.int .i64 a0_0, .int .i64 a0_1, .int .i64 a0_2, .slice (some ad142) l0_3.length c0_3] 70 (0, 0)) (by (with_reducible repeat (first | refine blk_drewN ?_ _ | refine blk_drew ?_ | refine blk_alloc ?_ _)); refine blk_far ?_ NB139_152.out _; (with_reducible repeat (first | refine blk_drewN ?_ _ | refine blk_drew ?_ | refine blk_alloc ?_ _)); refine blk_far ?_ NB139_152.out _; (with_reducible repeat (first | refine blk_drewN ?_ _ | refine blk_drew ?_ | refine blk_alloc ?_ _)); exact BK139.out) hb); have n3_ := Aside0.mk (blk_below (g := gb140) (o := .cells #[.int .i64 0, .int .i64 0, .int .i64 0, .slice none 0 0] 70 (0, 0)) (by (with_reducible repeat (first | refine blk_drewN ?_ _ | refine blk_drew ?_ | refine blk_alloc ?_ _)); refine blk_far ?_ NB140_152.out _; (with_reducible repeat (first | refine blk_drewN ?_ _ | refine blk_drew ?_ | refine blk_alloc ?_ _)); refine blk_far ?_ NB140_152.out _; (with_reducible repeat (first | refine blk_drewN ?_ _ | refine blk_drew ?_ | refine blk_alloc ?_ _)); exact BK140.out) hb); have n4_ := Aside0.mk (blk_below (g := gb141) (o := .cells #[.int .i64 a0_0, .int .i64 a0_1, .int .i64 a0_2, u142003] 70 (0, 0)) (by (with_reducible repeat (first | refine blk_drewN ?_ _ | refine blk_drew ?_ | refine blk_alloc ?_ _)); refine blk_far ?_ NB141_152.out _; (with_reducible repeat (first | refine blk_drewN ?_ _ | refine blk_drew ?_ | refine blk_alloc ?_ _)); refine blk_far ?_ NB141_152.out _; (with_reducible repeat (first | refine blk_drewN ?_ _ | refine blk_drew ?_ | refine blk_alloc ?_ _)); exact BK141.out) hb); have n5_ := Aside0.mk (blk_below (g := gb152) (o := .cells #[.int .i64 (wrap64 (Int.tdiv (wrap64 (Int.tdiv a1 a0_2)) a0_0)), .bool a2] 118 (0, 0)) (by (with_reducible repeat (first | refine blk_drewN ?_ _ | refine blk_drew ?_ | refine blk_alloc ?_ _)); refine blk_put (cs := #[.int .i64 (wrap64 (Int.tdiv (wrap64 (Int.tdiv a1 a0_2)) a0_0)), .bool false]) ?_ 1 _ rfl; (with_reducible repeat (first | refine blk_drewN ?_ _ | refine blk_drew ?_ | refine blk_alloc ?_ _)); refine blk_put (cs := #[.int .i64 0, .bool false]) ?_ 0 _ rfl; (with_reducible repeat (first | refine blk_drewN ?_ _ | refine blk_drew ?_ | refine blk_alloc ?_ _)); exact BK152.out) hb); have n6_ := Aside0.mk (below_step (by repeat (first | (with_reducible first | exact HB.out | apply below_alloc | apply pw_below_drewN | apply below_drew1 | refine below_set ?_ GE152.out) | exact HB.out)) hb); clear HO_142003; clear BK139; clear BK140; clear BK141; clear BK152; clear HB; have HO_142003 := n0_; have HO155 := n1_; have BK139 := n2_; have BK140 := n3_; have BK141 := n4_; have BK152 := n5_; have HB := n6_; clear n0_ n1_ n2_ n3_ n4_ n5_ n6_; clear hb ho26))
        go_loopg [13, 18, 19] k1 (fun kq v13 v18 v19 w' => ∃ (x13_2 : Bool) (x18_2 : List (S118)) (x19_2 : Int) (x153001_2 : Bool), v13 = .bool x13_2 ∧ v19 = .int .i64 x19_2 ∧ Aside0 (spec_l05Use.l1 kq a2 (Int.tmod (wrap64 (Int.tdiv a1 a0_2)) a0_0) (wrap64 (Int.tdiv (wrap64 (Int.tdiv a1 a0_2)) a0_0)) x13_2 x14_1 x15_1 (rd_L3 l0_3 x15_1) x18_2 x19_2 a0_0 a0_1 a0_2 l0_3 a0_0 a0_1 a0_2 x142003_1 (wrap64 (Int.tdiv (wrap64 (Int.tdiv a1 a0_2)) a0_0)) x153001_2 = some (r1, r2, r3, r4, r5, r6)) ∧ Aside0 (kq ≤ k1) ∧ Aside0 (Kd.R k118 118 w' w.heap.size (fun k_ => k_ ≠ gb152) v18 x18_2) ∧ Aside0 (Kd.S (Kd.slice 118 k118) 116 w' w.heap.size (fun k_ => some k_ ≠ (v18 : Value).ownBlock ∧ k_ ≠ gb152) u142003 x142003_1) ∧ Aside0 (w'.heap[gb139]? = some (.cells #[.int .i64 a0_0, .int .i64 a0_1, .int .i64 a0_2, (.slice (some ad142) l0_3.length c0_3)] 70 (0, 0))) ∧ Aside0 (w'.heap[gb140]? = some (.cells #[.int .i64 0, .int .i64 0, .int .i64 0, (.slice none 0 0)] 70 (0, 0))) ∧ Aside0 (w'.heap[gb141]? = some (.cells #[.int .i64 a0_0, .int .i64 a0_1, .int .i64 a0_2, u142003] 70 (0, 0))) ∧ Aside0 (w'.heap[gb152]? = some (.cells #[.int .i64 (wrap64 (Int.tdiv (wrap64 (Int.tdiv a1 a0_2)) a0_0)), .bool x153001_2] 118 (0, 0))) ∧ Aside0 (Below w.heap.size w w'))
        case atStart => exact ⟨(x13_1), (y153), (0), (a2), (by first | rfl | (simp; done) | (simp [*]; done)), (by first | rfl | (simp; done) | (simp [*]; done)), H', ⟨Nat.le_refl _⟩, ⟨by (with_reducible repeat (first | apply Kd.R_alloc | apply Kd.R_drewN | apply Kd.R_drew)); exact Kd.R_mono HO155.out (fun _ hk => hk.2)⟩, ⟨by (with_reducible repeat (first | apply Kd.S_alloc | apply Kd.S_drewN | apply Kd.S_drew)); exact Kd.S_mono HO_142003.out (fun _ hk => ⟨hk.2, hk.1.2⟩)⟩, ⟨by (with_reducible repeat (first | refine blk_drewN ?_ _ | refine blk_drew ?_ | refine blk_alloc ?_ _)); exact BK139.out⟩, ⟨by (with_reducible repeat (first | refine blk_drewN ?_ _ | refine blk_drew ?_ | refine blk_alloc ?_ _)); exact BK140.out⟩, ⟨by (with_reducible repeat (first | refine blk_drewN ?_ _ | refine blk_drew ?_ | refine blk_alloc ?_ _)); exact BK141.out⟩, ⟨by (with_reducible repeat (first | refine blk_drewN ?_ _ | refine blk_drew ?_ | refine blk_alloc ?_ _)); exact BK152.out⟩, ⟨by exact lq HB.out⟩⟩
        case round =>
         clear H'
         try clear c1
         try clear p1
         try clear q1
         try clear hx1
         try clear c2
         try clear p2
         try clear c4
         try clear c4b0
         try clear c4b1
         try clear c5
         try clear c5b0
         try clear c5b1
         try clear c6
         try clear p6
         try clear c8
         try clear c11
         try clear c12
         try clear c14
         try clear c14b0
         try clear p14
         try clear q14
         try clear hx14
         try clear c15
         try clear c15b0
         try clear c16
         try clear c16b0
         try clear c16b1
         try clear c17
         try clear c18
         try clear c21
         try clear c22
         try clear c23
         try clear hcz13_0
         try clear hcz13_1
         try clear hcz13_2
         try clear hcz13_3
         try clear hcz19_0
         try clear hcz19_1
         try clear hcz19_2
         try clear hcz19_3
         try clear hcz24_0
         try clear hcz24_1
         try clear hcz9_0
         try clear hcz9_1
         try clear hcz9_2
         try clear hcz9_3
         try clear hfz13_0
         try clear hfz13_1
         try clear hfz13_2
         try clear hfz13_3
         try clear hfz19_0
         try clear hfz19_1
         try clear hfz19_2
         try clear hfz19_3
         try clear hfz24_0
         try clear hfz24_1
         try clear hfz9_0
         try clear hfz9_1
         try clear hfz9_2
         try clear hfz9_3
         try clear hx142_0
         try clear p142
         try clear p2
         try clear p6
         try clear q142
         obtain ⟨x13_2, x18_2, x19_2, x153001_2, rfl, rfl, HA, HK2, HO_18, HO_142003, BK139, BK140, BK141, BK152, HB⟩ := hrel
         cases gk with
         | zero => exact absurd HA.out (by simp [spec_l05Use.l1])
         | succ k2 =>
          have H := HA.out
          clear HA
          simp only [spec_l05Use.l1] at H
          by_cases c27 : x19_2 < ((rd_L3 l0_3 x15_1).length : Int)
          ·rw [if_pos c27] at H
           have c27b0 : decide (x19_2 < ((rd_L3 l0_3 x15_1).length : Int)) = true := decide_eq_true c27
           clear c27
           by_cases c28 : 0 ≤ x19_2
           ·rw [if_pos c28] at H
            have c28b0 : decide (0 ≤ x19_2) = true := decide_eq_true c28
            clear c28
            by_cases c29 : ((rd_T118 (rd_L3 l0_3 x15_1) x19_2).f0) = (wrap64 (Int.tdiv (wrap64 (Int.tdiv a1 a0_2)) a0_0))
            ·rw [if_pos c29] at H
             have c29b0 : (((rd_T118 (rd_L3 l0_3 x15_1) x19_2).f0) == (wrap64 (Int.tdiv (wrap64 (Int.tdiv a1 a0_2)) a0_0))) = true := beq_iff_eq.mpr c29
             have c29b1 : (((rd_T118 (rd_L3 l0_3 x15_1) x19_2).f0) != (wrap64 (Int.tdiv (wrap64 (Int.tdiv a1 a0_2)) a0_0))) = false := bne_eq_false_iff_eq.mpr c29
             clear c29
             try have BK139r_ := BK139
             try have BK140r_ := BK140
             try have BK141r_ := BK141
             try have BK152r_ := BK152
             by_cases c30 : a2 = true
             ·subst c30
              try have BK139 := BK139r_
              try have BK140 := BK140r_
              try have BK141 := BK141r_
              try have BK152 := BK152r_
              rw [if_pos rfl] at H
              have H' := Aside0.mk H
              clear H
              have p156 : 0 ≤ (x19_2 : Int) := of_decide_eq_true (by first | (with_reducible assumption) | assumption)
              have q156 : x19_2 < ((rd_L3 l0_3 x15_1).length : Int) := of_decide_eq_true (by first | (with_reducible assumption) | assumption)
              obtain ⟨ad156, e156, hx156_0, hx156_1⟩ := at_T118 HR142_0.out x19_2 p156 q156
              cases e156
              replace hx156_0 := (HB.out.cell (World.block_lt_of_cell? w _ hx156_0)).trans hx156_0
              replace hx156_1 := (HB.out.cell (World.block_lt_of_cell? w _ hx156_1)).trans hx156_1
              replace p156 := eq_true p156
              replace q156 := eq_true q156
              have hnb31 := NB152_139.out
              have hnc31 := NB139_152.out
              have hnb32 := NB152_140.out
              have hnc32 := NB140_152.out
              have hnb33 := NB152_141.out
              have hnc33 := NB141_152.out
              have hcz34_0 : wr.cell? ⟨gb152, 0, none⟩ = some (.int .i64 (wrap64 (Int.tdiv (wrap64 (Int.tdiv a1 a0_2)) a0_0))) := (blk_cell BK152.out 0).trans rfl
              have hcz34_1 : wr.cell? ⟨gb152, 1, none⟩ = some (.bool x153001_2) := (blk_cell BK152.out 1).trans rfl
              have hfz34_0 := blk_frozen BK152.out 0
              have hfz34_1 := blk_frozen BK152.out 1
              go_wp2
              go_roundg k2
              case measure => have := HK1.out; have := HK2.out; omega
              case rel => exact ⟨(true), (x18_2), (wrap64 (x19_2 + 1)), (true), (by first | rfl | (simp; done) | (simp [*]; done)), (by first | rfl | (simp; done) | (simp [*]; done)), H', ⟨by have := HK1.out; have := HK2.out; omega⟩, ⟨by (with_reducible repeat (first | apply Kd.R_alloc | apply Kd.R_drewN | apply Kd.R_drew)); exact Kd.R_mono (Kd.R_far (p := ⟨gb152, 1, none⟩) (Kd.R_mono HO_18.out (fun k_ hk => (⟨hk, hk⟩ : _ ∧ k_ ≠ gb152))) (fun _ hk => hk.2) (.bool true)) (fun _ hk => hk.1)⟩, ⟨by (with_reducible repeat (first | apply Kd.S_alloc | apply Kd.S_drewN | apply Kd.S_drew)); exact Kd.S_mono (Kd.S_far (p := ⟨gb152, 1, none⟩) (Kd.S_mono HO_142003.out (fun k_ hk => (⟨hk, hk.2⟩ : _ ∧ k_ ≠ gb152))) (fun _ hk => hk.2) (.bool true)) (fun _ hk => ⟨hk.1.1, hk.1.2⟩)⟩, ⟨by (with_reducible repeat (first | refine blk_drewN ?_ _ | refine blk_drew ?_ | refine blk_alloc ?_ _)); refine blk_far ?_ NB139_152.out _; (with_reducible repeat (first | refine blk_drewN ?_ _ | refine blk_drew ?_ | refine blk_alloc ?_ _)); exact BK139.out⟩, ⟨by (with_reducible repeat (first | refine blk_drewN ?_ _ | refine blk_drew ?_ | refine blk_alloc ?_ _)); refine blk_far ?_ NB140_152.out _; (with_reducible repeat (first | refine blk_drewN ?_ _ | refine blk_drew ?_ | refine blk_alloc ?_ _)); exact BK140.out⟩, ⟨by (with_reducible repeat (first | refine blk_drewN ?_ _ | refine blk_drew ?_ | refine blk_alloc ?_ _)); refine blk_far ?_ NB141_152.out _; (with_reducible repeat (first | refine blk_drewN ?_ _ | refine blk_drew ?_ | refine blk_alloc ?_ _)); exact BK141.out⟩, ⟨by (with_reducible repeat (first | refine blk_drewN ?_ _ | refine blk_drew ?_ | refine blk_alloc ?_ _)); refine blk_put (cs := #[.int .i64 (wrap64 (Int.tdiv (wrap64 (Int.tdiv a1 a0_2)) a0_0)), .bool x153001_2]) ?_ 1 _ rfl; (with_reducible repeat (first | refine blk_drewN ?_ _ | refine blk_drew ?_ | refine blk_alloc ?_ _)); exact BK152.out⟩, ⟨by repeat (first | (with_reducible first | exact HB.out | apply below_alloc | apply pw_below_drewN | apply below_drew1 | refine below_set ?_ GE152.out) | exact HB.out)⟩⟩
             ·replace c30 := Bool.eq_false_iff.mpr c30
              subst c30
              try have BK139 := BK139r_
              try have BK140 := BK140r_
              try have BK141 := BK141r_
              try have BK152 := BK152r_
              rw [if_neg (show ¬ (false = true) by decide)] at H
              have H' := Aside0.mk H
              clear H
              have p156 : 0 ≤ (x19_2 : Int) := of_decide_eq_true (by first | (with_reducible assumption) | assumption)
              have q156 : x19_2 < ((rd_L3 l0_3 x15_1).length : Int) := of_decide_eq_true (by first | (with_reducible assumption) | assumption)
              obtain ⟨ad156, e156, hx156_0, hx156_1⟩ := at_T118 HR142_0.out x19_2 p156 q156
              cases e156
              replace hx156_0 := (HB.out.cell (World.block_lt_of_cell? w _ hx156_0)).trans hx156_0
              replace hx156_1 := (HB.out.cell (World.block_lt_of_cell? w _ hx156_1)).trans hx156_1
              replace p156 := eq_true p156
              replace q156 := eq_true q156
              have p157 : 0 ≤ (x19_2 : Int) := of_decide_eq_true (by first | (with_reducible assumption) | assumption)
              have q157 : x19_2 < ((rd_L3 l0_3 x15_1).length : Int) := of_decide_eq_true (by first | (with_reducible assumption) | assumption)
              obtain ⟨ad157, e157, hx157_0, hx157_1⟩ := at_T118 HR142_0.out x19_2 p157 q157
              obtain rfl : ad156 = ad157 := (by injection e157)
              replace hx157_0 := (HB.out.cell (World.block_lt_of_cell? w _ hx157_0)).trans hx157_0
              replace hx157_1 := (HB.out.cell (World.block_lt_of_cell? w _ hx157_1)).trans hx157_1
              replace p157 := eq_true p157
              replace q157 := eq_true q157
              have hnb35 := NB152_139.out
              have hnc35 := NB139_152.out
              have hnb36 := NB152_140.out
              have hnc36 := NB140_152.out
              have hnb37 := NB152_141.out
              have hnc37 := NB141_152.out
              have hcz38_0 : wr.cell? ⟨gb152, 0, none⟩ = some (.int .i64 (wrap64 (Int.tdiv (wrap64 (Int.tdiv a1 a0_2)) a0_0))) := (blk_cell BK152.out 0).trans rfl
              have hcz38_1 : wr.cell? ⟨gb152, 1, none⟩ = some (.bool x153001_2) := (blk_cell BK152.out 1).trans rfl
              have hfz38_0 := blk_frozen BK152.out 0
              have hfz38_1 := blk_frozen BK152.out 1
              go_wp2
              go_roundg k2
              case measure => have := HK1.out; have := HK2.out; omega
              case rel => exact ⟨(true), (x18_2), (wrap64 (x19_2 + 1)), ((rd_T118 (rd_L3 l0_3 x15_1) x19_2).f1), (by first | rfl | (simp; done) | (simp [*]; done)), (by first | rfl | (simp; done) | (simp [*]; done)), H', ⟨by have := HK1.out; have := HK2.out; omega⟩, ⟨by (with_reducible repeat (first | apply Kd.R_alloc | apply Kd.R_drewN | apply Kd.R_drew)); exact Kd.R_mono (Kd.R_far (p := ⟨gb152, 1, none⟩) (Kd.R_mono HO_18.out (fun k_ hk => (⟨hk, hk⟩ : _ ∧ k_ ≠ gb152))) (fun _ hk => hk.2) (.bool ((rd_T118 (rd_L3 l0_3 x15_1) x19_2).f1))) (fun _ hk => hk.1)⟩, ⟨by (with_reducible repeat (first | apply Kd.S_alloc | apply Kd.S_drewN | apply Kd.S_drew)); exact Kd.S_mono (Kd.S_far (p := ⟨gb152, 1, none⟩) (Kd.S_mono HO_142003.out (fun k_ hk => (⟨hk, hk.2⟩ : _ ∧ k_ ≠ gb152))) (fun _ hk => hk.2) (.bool ((rd_T118 (rd_L3 l0_3 x15_1) x19_2).f1))) (fun _ hk => ⟨hk.1.1, hk.1.2⟩)⟩, ⟨by (with_reducible repeat (first | refine blk_drewN ?_ _ | refine blk_drew ?_ | refine blk_alloc ?_ _)); refine blk_far ?_ NB139_152.out _; (with_reducible repeat (first | refine blk_drewN ?_ _ | refine blk_drew ?_ | refine blk_alloc ?_ _)); exact BK139.out⟩, ⟨by (with_reducible repeat (first | refine blk_drewN ?_ _ | refine blk_drew ?_ | refine blk_alloc ?_ _)); refine blk_far ?_ NB140_152.out _; (with_reducible repeat (first | refine blk_drewN ?_ _ | refine blk_drew ?_ | refine blk_alloc ?_ _)); exact BK140.out⟩, ⟨by (with_reducible repeat (first | refine blk_drewN ?_ _ | refine blk_drew ?_ | refine blk_alloc ?_ _)); refine blk_far ?_ NB141_152.out _; (with_reducible repeat (first | refine blk_drewN ?_ _ | refine blk_drew ?_ | refine blk_alloc ?_ _)); exact BK141.out⟩, ⟨by (with_reducible repeat (first | refine blk_drewN ?_ _ | refine blk_drew ?_ | refine blk_alloc ?_ _)); refine blk_put (cs := #[.int .i64 (wrap64 (Int.tdiv (wrap64 (Int.tdiv a1 a0_2)) a0_0)), .bool x153001_2]) ?_ 1 _ rfl; (with_reducible repeat (first | refine blk_drewN ?_ _ | refine blk_drew ?_ | refine blk_alloc ?_ _)); exact BK152.out⟩, ⟨by repeat (first | (with_reducible first | exact HB.out | apply below_alloc | apply pw_below_drewN | apply below_drew1 | refine below_set ?_ GE152.out) | exact HB.out)⟩⟩
            ·rw [if_neg c29] at H
             have c29b0 : (((rd_T118 (rd_L3 l0_3 x15_1) x19_2).f0) == (wrap64 (Int.tdiv (wrap64 (Int.tdiv a1 a0_2)) a0_0))) = false := beq_eq_false_iff_ne.mpr c29
             have c29b1 : (((rd_T118 (rd_L3 l0_3 x15_1) x19_2).f0) != (wrap64 (Int.tdiv (wrap64 (Int.tdiv a1 a0_2)) a0_0))) = true := bne_iff_ne.mpr c29
             by_cases c39 : x18_2.length < 8796093022208
             ·rw [if_pos c39] at H
              have LMc39 := Aside0.mk c39
              clear c39
              obtain ⟨y159, hy159⟩ : ∃ y_ : List (S118), y_ = (x18_2 ++ [(⟨(rd_T118 (rd_L3 l0_3 x15_1) x19_2).f0, (rd_T118 (rd_L3 l0_3 x15_1) x19_2).f1⟩ : S118)]) := ⟨_, rfl⟩
              replace H : (spec_l05Use.l1 k2 a2 (Int.tmod (wrap64 (Int.tdiv a1 a0_2)) a0_0) (wrap64 (Int.tdiv (wrap64 (Int.tdiv a1 a0_2)) a0_0)) x13_2 x14_1 x15_1 (rd_L3 l0_3 x15_1) y159 (wrap64 (x19_2 + 1)) a0_0 a0_1 a0_2 l0_3 a0_0 a0_1 a0_2 x142003_1 (wrap64 (Int.tdiv (wrap64 (Int.tdiv a1 a0_2)) a0_0)) x153001_2) = some (r1, r2, r3, r4, r5, r6) := by first | (rw [hy159]; with_reducible exact H) | (have H2_ := (Option.bind_some _ _).symm.trans H; rw [hy159]; with_reducible exact H2_) | (have H2_ := (Option.bind_some _ _).symm.trans H; with_reducible exact H2_) | with_reducible exact H | (rw [hy159]; exact H) | exact H
              have Ny159 := Aside0.mk hy159
              clear hy159
              have H' := Aside0.mk H
              clear H
              have p156 : 0 ≤ (x19_2 : Int) := of_decide_eq_true (by first | (with_reducible assumption) | assumption)
              have q156 : x19_2 < ((rd_L3 l0_3 x15_1).length : Int) := of_decide_eq_true (by first | (with_reducible assumption) | assumption)
              obtain ⟨ad156, e156, hx156_0, hx156_1⟩ := at_T118 HR142_0.out x19_2 p156 q156
              cases e156
              replace hx156_0 := (HB.out.cell (World.block_lt_of_cell? w _ hx156_0)).trans hx156_0
              replace hx156_1 := (HB.out.cell (World.block_lt_of_cell? w _ hx156_1)).trans hx156_1
              replace p156 := eq_true p156
              replace q156 := eq_true q156
              have p158 : 0 ≤ (x19_2 : Int) := of_decide_eq_true (by first | (with_reducible assumption) | assumption)
              have q158 : x19_2 < ((rd_L3 l0_3 x15_1).length : Int) := of_decide_eq_true (by first | (with_reducible assumption) | assumption)
              obtain ⟨ad158, e158, hx158_0, hx158_1⟩ := at_T118 HR142_0.out x19_2 p158 q158
              obtain rfl : ad156 = ad158 := (by injection e158)
              replace hx158_0 := (HB.out.cell (World.block_lt_of_cell? w _ hx158_0)).trans hx158_0
              replace hx158_1 := (HB.out.cell (World.block_lt_of_cell? w _ hx158_1)).trans hx158_1
              replace p158 := eq_true p158
              replace q158 := eq_true q158
              go_wp2_with (first | ((with_reducible refine gate_builtin (b := .append) (xs := #[.tmp 87, .tmp 92]) rfl ?_); at_builtin; refine Kd.R_append k118 (w0 := w) w.heap.size rfl (.tmp 87) (.tmp 92) 116 118 (.agg #[(.int .i64 0), (.bool false)]) 16 rfl Try.underlying116 info118 rfl (by decide) (by omega) u18 x18_2 (⟨(rd_T118 (rd_L3 l0_3 x15_1) x19_2).f0, (rd_T118 (rd_L3 l0_3 x15_1) x19_2).f1⟩ : S118) [.int .i64 ((rd_T118 (rd_L3 l0_3 x15_1) x19_2).f0), .bool ((rd_T118 (rd_L3 l0_3 x15_1) x19_2).f1)] (fun k_ => k_ ≠ gb152) (fun _ => False) rfl rfl ?aP (fun _ hk => hk.elim) ?aF ?aO ?aB ?aS ?aL ?_; (case aP => exact k118_mkM _ _ _ (⟨(rd_T118 (rd_L3 l0_3 x15_1) x19_2).f0, (rd_T118 (rd_L3 l0_3 x15_1) x19_2).f1⟩ : S118)); (case aB => exact (lq HB.out)); (case aF => exact (fun k_ hk => Kd.freshB (g := gb152) (o := .cells #[.int .i64 (wrap64 (Int.tdiv (wrap64 (Int.tdiv a1 a0_2)) a0_0)), .bool x153001_2] 118 (0, 0)) (bq BK152.out) k_ hk)); (case aO => exact (rq HO_18.out)); (case aS => exact (below_size (lq HB.out))); (case aL => have := LMc39.out; omega); intro v160 w40 ho hb hg hat; rw [← Ny159.out] at ho; have n0_ := Aside0.mk (Kd.S_after (ok := (fun k_ => k_ ≠ gb152)) (by (with_reducible repeat (first | apply Kd.S_alloc | apply Kd.S_drewN | apply Kd.S_drew)); exact Kd.S_mono HO_142003.out (fun _ hk => ⟨hk.2, hk.1⟩)) hg hat); have n1_ := Aside0.mk (blk_grown (g := gb139) (o := .cells #[.int .i64 a0_0, .int .i64 a0_1, .int .i64 a0_2, .slice (some ad142) l0_3.length c0_3] 70 (0, 0)) (bq BK139.out) hg (Kd.R_ne HO_18.out BK139.out (by decide))); have n2_ := Aside0.mk (blk_grown (g := gb140) (o := .cells #[.int .i64 0, .int .i64 0, .int .i64 0, .slice none 0 0] 70 (0, 0)) (bq BK140.out) hg (Kd.R_ne HO_18.out BK140.out (by decide))); have n3_ := Aside0.mk (blk_grown (g := gb141) (o := .cells #[.int .i64 a0_0, .int .i64 a0_1, .int .i64 a0_2, u142003] 70 (0, 0)) (bq BK141.out) hg (Kd.R_ne HO_18.out BK141.out (by decide))); have n4_ := Aside0.mk (blk_grown (g := gb152) (o := .cells #[.int .i64 (wrap64 (Int.tdiv (wrap64 (Int.tdiv a1 a0_2)) a0_0)), .bool x153001_2] 118 (0, 0)) (bq BK152.out) hg (Kd.R_away HO_18.out (fun _ hk => hk))); have n5_ := Aside0.mk (hb); have n6_ := Aside0.mk (ho); clear HO_142003; clear BK139; clear BK140; clear BK141; clear BK152; clear HB; clear HO_18; have HO_142003 := n0_; have BK139 := n1_; have BK140 := n2_; have BK141 := n3_; have BK152 := n4_; have HB := n5_; have HO161 := n6_; clear n0_ n1_ n2_ n3_ n4_ n5_ n6_; clear ho hb hg hat))
              go_roundg k2
              case measure => have := HK1.out; have := HK2.out; omega
              case rel => exact ⟨(x13_2), (y159), (wrap64 (x19_2 + 1)), (x153001_2), (by first | rfl | (simp; done) | (simp [*]; done)), (by first | rfl | (simp; done) | (simp [*]; done)), H', ⟨by have := HK1.out; have := HK2.out; omega⟩, ⟨by (with_reducible repeat (first | apply Kd.R_alloc | apply Kd.R_drewN | apply Kd.R_drew)); exact HO161.out⟩, ⟨by (with_reducible repeat (first | apply Kd.S_alloc | apply Kd.S_drewN | apply Kd.S_drew)); exact Kd.S_mono HO_142003.out (fun _ hk => ⟨hk.2, hk.1⟩)⟩, ⟨by (with_reducible repeat (first | refine blk_drewN ?_ _ | refine blk_drew ?_ | refine blk_alloc ?_ _)); exact BK139.out⟩, ⟨by (with_reducible repeat (first | refine blk_drewN ?_ _ | refine blk_drew ?_ | refine blk_alloc ?_ _)); exact BK140.out⟩, ⟨by (with_reducible repeat (first | refine blk_drewN ?_ _ | refine blk_drew ?_ | refine blk_alloc ?_ _)); exact BK141.out⟩, ⟨by (with_reducible repeat (first | refine blk_drewN ?_ _ | refine blk_drew ?_ | refine blk_alloc ?_ _)); exact BK152.out⟩, ⟨by exact lq HB.out⟩⟩
             ·rw [if_neg c39] at H
              exact absurd H (by simp)
           ·rw [if_neg c28] at H
            exact absurd H (by simp)
          ·rw [if_neg c27] at H
           have c27b0 : decide (x19_2 < ((rd_L3 l0_3 x15_1).length : Int)) = false := decide_eq_false c27
           clear c27
           by_cases c41 : (x18_2.length : Int) = a0_1
           ·rw [if_pos c41] at H
            have c41b0 : ((x18_2.length : Int) == a0_1) = true := beq_iff_eq.mpr c41
            have c41b1 : ((x18_2.length : Int) != a0_1) = false := bne_eq_false_iff_eq.mpr c41
            clear c41
            obtain ⟨ji42, hji42⟩ : ∃ j_ : Int, (wrap64 ((x18_2.length : Int) - 1)) = j_ := ⟨_, rfl⟩
            replace H : (if 0 ≤ (ji42) then (if (ji42) < (x18_2.length : Int) then (if (ji42) ≤ (x18_2.length : Int) then ((some (x18_2.take ((ji42) : Int).toNat : List (S118))).bind fun y163 => ((some (([(⟨(wrap64 (Int.tdiv (wrap64 (Int.tdiv a1 a0_2)) a0_0)), x153001_2⟩ : S118)] : List (S118)) : List (S118))).bind fun y166 => (if y166.length + y163.length < 8796093022208 then (if x142003_1.length < 5864062014805 then (spec_l05Use.l0 k2 a2 (Int.tmod (wrap64 (Int.tdiv a1 a0_2)) a0_0) (wrap64 (Int.tdiv (wrap64 (Int.tdiv a1 a0_2)) a0_0)) x13_2 ((rd_T118 x18_2 (ji42)).f1) (wrap64 (x15_1 + 1)) a0_0 a0_1 a0_2 l0_3 a0_0 a0_1 a0_2 (x142003_1 ++ [(y166 ++ y163)])) else (none)) else (none)))) else (none)) else (none)) else (none)) = some (r1, r2, r3, r4, r5, r6) := by first | (rw [hji42] at H; exact H) | (simp only [hji42] at H ⊢; exact H)
            have hji42w : (IntKind.i64.wrap ((x18_2.length : Int) - 1)) = ji42 := (i64_w _).trans hji42
            by_cases c43 : 0 ≤ (ji42)
            ·rw [if_pos c43] at H
             have c43b0 : decide (0 ≤ (ji42)) = true := decide_eq_true c43
             clear c43
             by_cases c44 : (ji42) < (x18_2.length : Int)
             ·rw [if_pos c44] at H
              have c44b0 : decide ((ji42) < (x18_2.length : Int)) = true := decide_eq_true c44
              clear c44
              by_cases c45 : (ji42) ≤ (x18_2.length : Int)
              ·rw [if_pos c45] at H
               have c45b0 := eq_true c45
               have c45b1 : decide ((ji42) ≤ (x18_2.length : Int)) = true := decide_eq_true c45
               clear c45
               obtain ⟨y163, hy163⟩ : ∃ y_ : List (S118), y_ = (x18_2.take ((ji42) : Int).toNat) := ⟨_, rfl⟩
               replace H : ((some (([(⟨(wrap64 (Int.tdiv (wrap64 (Int.tdiv a1 a0_2)) a0_0)), x153001_2⟩ : S118)] : List (S118)) : List (S118))).bind fun y166 => (if y166.length + y163.length < 8796093022208 then (if x142003_1.length < 5864062014805 then (spec_l05Use.l0 k2 a2 (Int.tmod (wrap64 (Int.tdiv a1 a0_2)) a0_0) (wrap64 (Int.tdiv (wrap64 (Int.tdiv a1 a0_2)) a0_0)) x13_2 ((rd_T118 x18_2 (ji42)).f1) (wrap64 (x15_1 + 1)) a0_0 a0_1 a0_2 l0_3 a0_0 a0_1 a0_2 (x142003_1 ++ [(y166 ++ y163)])) else (none)) else (none))) = some (r1, r2, r3, r4, r5, r6) := by first | (rw [hy163]; with_reducible exact H) | (have H2_ := (Option.bind_some _ _).symm.trans H; rw [hy163]; with_reducible exact H2_) | (have H2_ := (Option.bind_some _ _).symm.trans H; with_reducible exact H2_) | with_reducible exact H | (rw [hy163]; exact H) | exact H
               have Ny163 := Aside0.mk hy163
               clear hy163
               obtain ⟨y166, hy166⟩ : ∃ y_ : List (S118), y_ = (([(⟨(wrap64 (Int.tdiv (wrap64 (Int.tdiv a1 a0_2)) a0_0)), x153001_2⟩ : S118)] : List (S118))) := ⟨_, rfl⟩
               replace H : (if y166.length + y163.length < 8796093022208 then (if x142003_1.length < 5864062014805 then (spec_l05Use.l0 k2 a2 (Int.tmod (wrap64 (Int.tdiv a1 a0_2)) a0_0) (wrap64 (Int.tdiv (wrap64 (Int.tdiv a1 a0_2)) a0_0)) x13_2 ((rd_T118 x18_2 (ji42)).f1) (wrap64 (x15_1 + 1)) a0_0 a0_1 a0_2 l0_3 a0_0 a0_1 a0_2 (x142003_1 ++ [(y166 ++ y163)])) else (none)) else (none)) = some (r1, r2, r3, r4, r5, r6) := by first | (rw [hy166]; with_reducible exact H) | (have H2_ := (Option.bind_some _ _).symm.trans H; rw [hy166]; with_reducible exact H2_) | (have H2_ := (Option.bind_some _ _).symm.trans H; with_reducible exact H2_) | with_reducible exact H | (rw [hy166]; exact H) | exact H
               have Ny166 := Aside0.mk hy166
               clear hy166
               by_cases c46 : y166.length + y163.length < 8796093022208
               ·rw [if_pos c46] at H
                have LMc46 := Aside0.mk c46
                clear c46
                obtain ⟨y169, hy169⟩ : ∃ y_ : List (S118), y_ = (y166 ++ y163) := ⟨_, rfl⟩
                replace H : (if x142003_1.length < 5864062014805 then (spec_l05Use.l0 k2 a2 (Int.tmod (wrap64 (Int.tdiv a1 a0_2)) a0_0) (wrap64 (Int.tdiv (wrap64 (Int.tdiv a1 a0_2)) a0_0)) x13_2 ((rd_T118 x18_2 (ji42)).f1) (wrap64 (x15_1 + 1)) a0_0 a0_1 a0_2 l0_3 a0_0 a0_1 a0_2 (x142003_1 ++ [y169])) else (none)) = some (r1, r2, r3, r4, r5, r6) := by first | (rw [hy169]; with_reducible exact H) | (have H2_ := (Option.bind_some _ _).symm.trans H; rw [hy169]; with_reducible exact H2_) | (have H2_ := (Option.bind_some _ _).symm.trans H; with_reducible exact H2_) | with_reducible exact H | (rw [hy169]; exact H) | exact H
                have Ny169 := Aside0.mk hy169
                clear hy169
                by_cases c47 : x142003_1.length < 5864062014805
                ·rw [if_pos c47] at H
                 have LMc47 := Aside0.mk c47
                 clear c47
                 obtain ⟨y172, hy172⟩ : ∃ y_ : List (List (S118)), y_ = (x142003_1 ++ [y169]) := ⟨_, rfl⟩
                 replace H : (spec_l05Use.l0 k2 a2 (Int.tmod (wrap64 (Int.tdiv a1 a0_2)) a0_0) (wrap64 (Int.tdiv (wrap64 (Int.tdiv a1 a0_2)) a0_0)) x13_2 ((rd_T118 x18_2 (ji42)).f1) (wrap64 (x15_1 + 1)) a0_0 a0_1 a0_2 l0_3 a0_0 a0_1 a0_2 y172) = some (r1, r2, r3, r4, r5, r6) := by first | (rw [hy172]; with_reducible exact H) | (have H2_ := (Option.bind_some _ _).symm.trans H; rw [hy172]; with_reducible exact H2_) | (have H2_ := (Option.bind_some _ _).symm.trans H; with_reducible exact H2_) | with_reducible exact H | (rw [hy172]; exact H) | exact H
                 have Ny172 := Aside0.mk hy172
                 clear hy172
                 have H' := Aside0.mk H
                 clear H
                 obtain ⟨Ao48, co48, eo48⟩ := Kd.R_slice HO_18.out
                 subst eo48
                 have hnb49 := NB139_140.out
                 have hnc49 := NB140_139.out
                 have hnb50 := NB139_141.out
                 have hnc50 := NB141_139.out
                 have hnb51 := NB139_152.out
                 have hnc51 := NB152_139.out
                 have hcz52_0 : wr.cell? ⟨gb139, 0, none⟩ = some (.int .i64 a0_0) := (blk_cell BK139.out 0).trans rfl
                 have hcz52_1 : wr.cell? ⟨gb139, 1, none⟩ = some (.int .i64 a0_1) := (blk_cell BK139.out 1).trans rfl
                 have hcz52_2 : wr.cell? ⟨gb139, 2, none⟩ = some (.int .i64 a0_2) := (blk_cell BK139.out 2).trans rfl
                 have hcz52_3 : wr.cell? ⟨gb139, 3, none⟩ = some (.slice (some ad142) l0_3.length c0_3) := (blk_cell BK139.out 3).trans rfl
                 have hfz52_0 := blk_frozen BK139.out 0
                 have hfz52_1 := blk_frozen BK139.out 1
                 have hfz52_2 := blk_frozen BK139.out 2
                 have hfz52_3 := blk_frozen BK139.out 3
                 have p162 : 0 ≤ ((ji42) : Int) := of_decide_eq_true (by first | (with_reducible assumption) | assumption)
                 have q162 : (ji42) < (x18_2.length : Int) := of_decide_eq_true (by first | (with_reducible assumption) | assumption)
                 obtain ⟨ad162, e162, hx162_0, hx162_1⟩ := at_T118 (Kd.R_reads' HO_18.out).2.2 (ji42) p162 q162
                 cases e162
                 replace p162 := eq_true p162
                 replace q162 := eq_true q162
                 have q53 : ((ji42) : Int) ≤ ((x18_2.length : Int) : Int) := of_decide_eq_true (by first | (with_reducible assumption) | assumption)
                 obtain ⟨i053, hi053, _, hsz53, _⟩ := info_parts info118
                 have hcut53 := cut_to (P := Try.prog) 116 118 .i64 Try.underlying116 hi053 (some ad162) x18_2.length co48 (ji42) (of_decide_eq_true (by first | (with_reducible assumption) | assumption)) q53 (Kd.R_reads' HO_18.out).2.1
                 have hr53 := Kd.R_take (m := ((ji42) : Int).toNat) HO_18.out (by omega)
                 have hy53 : y163.length = ((ji42) : Int).toNat := (by rw [Ny163.out, List.length_take]; omega)
                 rw [← Ny163.out] at hr53
                 rw [← hy53] at hr53 hcut53
                 clear hy53 hi053 hsz53 HO_18
                 have HO165 := Aside0.mk hr53
                 clear hr53
                 replace q53 := eq_true q53
                 try go_wp2
                 have n0_ := Aside0.mk (Kd.R_drew HO165.out)
                 have n1_ := Aside0.mk (Kd.S_drew HO_142003.out)
                 have n2_ := Aside0.mk (blk_drew BK139.out)
                 have n3_ := Aside0.mk (blk_drew BK140.out)
                 have n4_ := Aside0.mk (blk_drew BK141.out)
                 have n5_ := Aside0.mk (blk_drew BK152.out)
                 have n6_ := Aside0.mk (below_drew1 HB.out)
                 clear HO165
                 clear HO_142003
                 clear BK139
                 clear BK140
                 clear BK141
                 clear BK152
                 clear HB
                 have HO165 := n0_
                 have HO_142003 := n1_
                 have BK139 := n2_
                 have BK140 := n3_
                 have BK141 := n4_
                 have BK152 := n5_
                 have HB := n6_
                 clear n0_ n1_ n2_ n3_ n4_ n5_ n6_
                 refine start_ (n := 10) (S := fun w' => w'.cell? ⟨gb141, 0, none⟩ = some (.int .i64 a0_0) ∧ w'.cell? ⟨gb141, 1, none⟩ = some (.int .i64 a0_1) ∧ w'.cell? ⟨gb141, 2, none⟩ = some (.int .i64 a0_2) ∧ w'.cell? ⟨gb141, 3, none⟩ = some (u142003) ∧ w'.cell? ⟨gb152, 0, none⟩ = some (.int .i64 (wrap64 (Int.tdiv (wrap64 (Int.tdiv a1 a0_2)) a0_0))) ∧ w'.cell? ⟨gb152, 1, none⟩ = some (.bool x153001_2)) (ds := [9]) #[false, false, false, false, false, false, false, false, false, false] (by kernel_rfl) rfl rfl ⟨(blk_cell BK141.out 0).trans rfl, (blk_cell BK141.out 1).trans rfl, (blk_cell BK141.out 2).trans rfl, (blk_cell BK141.out 3).trans rfl, (blk_cell BK152.out 0).trans rfl, (blk_cell BK152.out 1).trans rfl⟩ (fun hHeld => ?_); refine with_tabW spec_l05Use.tab24 spec_l05Use.bits24 (fun HT_ HW_ => ?_)
                 generalize wr.drew = w54 at HO165 HO_142003 BK139 BK140 BK141 BK152 HB hHeld ⊢
                 refine pure_ (i := 0) (N := some 112) (v := ?_) (a' := ?_) #[true, false, false, false, false, false, false, false, false, false] rfl rfl (any_of HT_.out (by kernel_rfl)) (fun _ _ _ h => h) (Or.inl ⟨by rfl, ?_⟩) ?_ ?_
                 rotate_left
                 ·intro w'
                  go_simp
                  with_reducible rfl
                 rotate_left
                 ·simp only [Act.put, List.setIfInBounds_toArray, List.set_cons_zero, List.set_cons_succ, i64_w, i32_w]
                  rfl
                 refine pure_ (i := 4) (N := some 116) (v := ?_) (a' := ?_) #[true, false, false, false, true, false, false, false, false, false] rfl rfl (any_of HT_.out (by kernel_rfl)) (fun _ _ _ h => h) (Or.inl ⟨by rfl, ?_⟩) ?_ ?_
                 rotate_left
                 ·intro w'
                  go_simp
                  with_reducible rfl
                 rotate_left
                 ·simp only [Act.put, List.setIfInBounds_toArray, List.set_cons_zero, List.set_cons_succ, i64_w, i32_w]
                  rfl
                 refine take_ (i := 1) (N := some 113) (v := ?_) (a' := ?_) #[true, true, false, false, true, false, false, false, false, false] rfl rfl (take_ofW HT_.out HW_.out (by kernel_rfl)) (fun _ _ _ h => h) (Or.inl ⟨by rfl, ?_⟩) hHeld ?_ ?_
                 rotate_left
                 ·rintro w' ⟨s0, s1, s2, s3, s4, s5⟩
                  go_simp
                  with_reducible rfl
                 rotate_left
                 ·simp only [Act.put, List.setIfInBounds_toArray, List.set_cons_zero, List.set_cons_succ, i64_w, i32_w]
                  rfl
                 refine take_ (i := 2) (N := some 114) (v := ?_) (a' := ?_) #[true, true, true, false, true, false, false, false, false, false] rfl rfl (take_ofW HT_.out HW_.out (by kernel_rfl)) (fun _ _ _ h => h) (Or.inl ⟨by rfl, ?_⟩) hHeld ?_ ?_
                 rotate_left
                 ·rintro w' ⟨s0, s1, s2, s3, s4, s5⟩
                  go_simp
                  with_reducible rfl
                 rotate_left
                 ·simp only [Act.put, List.setIfInBounds_toArray, List.set_cons_zero, List.set_cons_succ, i64_w, i32_w]
                  rfl
                 refine one_ (i := 3) (N := some 115) #[true, true, true, true, true, false, false, false, false, false] rfl rfl (one_of HT_.out (by kernel_rfl)) (by decide) (fun K hK => ?_)
                 refine Kd.R_lit_step k118 _ 118 ?hg (N := 115) ?hd (xs := ([(⟨(wrap64 (Int.tdiv (wrap64 (Int.tdiv a1 a0_2)) a0_0)), x153001_2⟩ : S118)] : List (S118))) (inner := [.int .i64 (wrap64 (Int.tdiv (wrap64 (Int.tdiv a1 a0_2)) a0_0)), .bool x153001_2]) (ok := fun _ => True) (okp := fun _ => True) ?hr ?hp (fun _ hk => hk) trivial (Below.refl _ _) (Nat.le_refl _) (by simp) ?_; (case hd => rfl); (case hg => rfl); (case hr => first | (go_simp; done) | (go_simp; rfl)); (case hp => exact (Reps.c2 (show Kd.M k118 _ _ _ (⟨(wrap64 (Int.tdiv (wrap64 (Int.tdiv a1 a0_2)) a0_0)), x153001_2⟩ : S118) [.int .i64 (wrap64 (Int.tdiv (wrap64 (Int.tdiv a1 a0_2)) a0_0)), .bool x153001_2] from (k118_mkM _ _ _ (⟨(wrap64 (Int.tdiv (wrap64 (Int.tdiv a1 a0_2)) a0_0)), x153001_2⟩ : S118) )) (Reps.none _ _)))
                 intro v167 w55 ho56 hb hg_ hnew_
                 clear hg_ hnew_
                 (first | rw [← Ny166.out] at ho56 | (simp only [Int.reduceToNat] at ho56; rw [← Ny166.out] at ho56))
                 have n0_ := Aside0.mk (Kd.R_elder' (rq HO165.out) (Kd.R_base ho56) hb)
                 have n1_ := Aside0.mk (Kd.S_elder' (by (with_reducible repeat (first | apply Kd.S_alloc | apply Kd.S_drewN | apply Kd.S_drew)); exact HO_142003.out) (Kd.R_base ho56) hb)
                 have n2_ := Aside0.mk (Kd.R_lower (Kd.R_newB (Kd.R_new' ho56 (Kd.R_lt (rq HO165.out))) (g := gb152) (o := .cells #[.int .i64 (wrap64 (Int.tdiv (wrap64 (Int.tdiv a1 a0_2)) a0_0)), .bool x153001_2] 118 (0, 0)) (bq BK152.out)) (below_size (lq HB.out)))
                 have n3_ := Aside0.mk (blk_below (bq BK139.out) hb)
                 have n4_ := Aside0.mk (blk_below (bq BK140.out) hb)
                 have n5_ := Aside0.mk (blk_below (bq BK141.out) hb)
                 have n6_ := Aside0.mk (blk_below (bq BK152.out) hb)
                 have n7_ := Aside0.mk (below_step (lq HB.out) hb)
                 clear HO165
                 clear HO_142003
                 clear BK139
                 clear BK140
                 clear BK141
                 clear BK152
                 clear HB
                 have HO165 := n0_
                 have HO_142003 := n1_
                 have HO168 := n2_
                 have BK139 := n3_
                 have BK140 := n4_
                 have BK141 := n5_
                 have BK152 := n6_
                 have HB := n7_
                 clear n0_ n1_ n2_ n3_ n4_ n5_ n6_ n7_
                 clear hb ho56
                 refine hK.out _ _ ⟨(blk_cell BK141.out 0).trans rfl, (blk_cell BK141.out 1).trans rfl, (blk_cell BK141.out 2).trans rfl, (blk_cell BK141.out 3).trans rfl, (blk_cell BK152.out 0).trans rfl, (blk_cell BK152.out 1).trans rfl⟩ (fun hHeld => ?_)
                 clear hK K
                 refine norm_ (a' := ?_) ?_ ?_
                 rotate_left
                 ·show Act.put _ (some 115) _ = _
                  simp only [Act.put, List.setIfInBounds_toArray, List.set_cons_zero, List.set_cons_succ, i64_w, i32_w]
                  rfl
                 refine one_ (i := 5) (N := some 117) #[true, true, true, true, true, true, false, false, false, false] rfl rfl (one_of HT_.out (by kernel_rfl)) (by decide) (fun K hK => ?_)
                 refine Kd.R_append_rows_step k118 (w0 := w) w.heap.size (by rfl) (.tmp 115) (.tmp 116) 116 118 (.agg #[(.int .i64 0), (.bool false)]) 16 rfl Try.underlying116 info118 rfl (by decide) (by omega) v167 y166 y163 _ _ _ (fun k_ => some k_ ≠ (.slice (some ad162) y163.length co48 : Value).ownBlock ∧ k_ ≠ gb152) (fun _ => False) rfl rfl ?aO ?aR (fun _ _ h => h) (fun _ h => h.elim) ?aF ?aB ?aS ?aL ?_
                 (case aR => repeat (first | exact (Kd.R_reads' HO165.out).2.2 | (with_reducible refine Kd.C_alloc ?_ _) | (with_reducible refine Kd.C_drewN ?_ _) | (with_reducible refine Kd.C_drew ?_)))
                 (case aB => exact (lq HB.out))
                 (case aF => exact (fun k_ hk => ⟨Kd.fresh' (Kd.R_lt (rq HO165.out)) k_ hk, Kd.freshB (g := gb152) (o := .cells #[.int .i64 (wrap64 (Int.tdiv (wrap64 (Int.tdiv a1 a0_2)) a0_0)), .bool x153001_2] 118 (0, 0)) (bq BK152.out) k_ hk⟩))
                 (case aO => exact (by (with_reducible repeat (first | apply Kd.R_alloc | apply Kd.R_drewN | apply Kd.R_drew)); exact Kd.R_mono HO168.out (fun _ hk => ⟨hk.1.2, hk.2⟩)))
                 (case aS => exact (below_size (lq HB.out)))
                 (case aL => have := LMc46.out; omega)
                 intro v170 w57 ho hb hg hat
                 rw [← Ny169.out] at ho
                 have n0_ := Aside0.mk (Kd.R_after (ok := (fun k_ => k_ ≠ gb152)) (rq HO165.out) hg hat)
                 have n1_ := Aside0.mk (Kd.S_after (ok := (fun k_ => some k_ ≠ (.slice (some ad162) y163.length co48 : Value).ownBlock ∧ k_ ≠ gb152)) (by (with_reducible repeat (first | apply Kd.S_alloc | apply Kd.S_drewN | apply Kd.S_drew)); exact HO_142003.out) hg hat)
                 have n2_ := Aside0.mk (blk_grown (g := gb139) (o := .cells #[.int .i64 a0_0, .int .i64 a0_1, .int .i64 a0_2, .slice (some ad142) l0_3.length c0_3] 70 (0, 0)) (bq BK139.out) hg (Kd.R_ne HO168.out BK139.out (by decide)))
                 have n3_ := Aside0.mk (blk_grown (g := gb140) (o := .cells #[.int .i64 0, .int .i64 0, .int .i64 0, .slice none 0 0] 70 (0, 0)) (bq BK140.out) hg (Kd.R_ne HO168.out BK140.out (by decide)))
                 have n4_ := Aside0.mk (blk_grown (g := gb141) (o := .cells #[.int .i64 a0_0, .int .i64 a0_1, .int .i64 a0_2, u142003] 70 (0, 0)) (bq BK141.out) hg (Kd.R_ne HO168.out BK141.out (by decide)))
                 have n5_ := Aside0.mk (blk_grown (g := gb152) (o := .cells #[.int .i64 (wrap64 (Int.tdiv (wrap64 (Int.tdiv a1 a0_2)) a0_0)), .bool x153001_2] 118 (0, 0)) (bq BK152.out) hg (Kd.R_away HO168.out (fun _ hk => hk.2)))
                 have n6_ := Aside0.mk (hb)
                 have n7_ := Aside0.mk (ho)
                 clear HO165
                 clear HO_142003
                 clear BK139
                 clear BK140
                 clear BK141
                 clear BK152
                 clear HB
                 clear HO168
                 have HO165 := n0_
                 have HO_142003 := n1_
                 have BK139 := n2_
                 have BK140 := n3_
                 have BK141 := n4_
                 have BK152 := n5_
                 have HB := n6_
                 have HO171 := n7_
                 clear n0_ n1_ n2_ n3_ n4_ n5_ n6_ n7_
                 clear ho hb hg hat
                 obtain ⟨Ao59, co59, eo59⟩ := Kd.R_slice HO171.out
                 (first | subst eo59 | (injection eo59 with f1_ f2_ f3_; have f4_ := f1_.symm; have f5_ := f3_.symm; clear f1_ f2_ f3_; subst f4_; subst f5_))
                 refine hK.out _ _ ⟨(blk_cell BK141.out 0).trans rfl, (blk_cell BK141.out 1).trans rfl, (blk_cell BK141.out 2).trans rfl, (blk_cell BK141.out 3).trans rfl, (blk_cell BK152.out 0).trans rfl, (blk_cell BK152.out 1).trans rfl⟩ (fun hHeld => ?_)
                 clear hK K
                 refine norm_ (a' := ?_) ?_ ?_
                 rotate_left
                 ·show Act.put _ (some 117) _ = _
                  simp only [Act.put, List.setIfInBounds_toArray, List.set_cons_zero, List.set_cons_succ, i64_w, i32_w]
                  rfl
                 refine one_ (i := 6) (N := some 118) #[true, true, true, true, true, true, true, false, false, false] rfl rfl (one_of HT_.out (by kernel_rfl)) (by decide) (fun K hK => ?_)
                 refine value_ (w1 := ?_) (v := ?_) (by rfl) rfl ?_ ?_
                 rotate_left 2
                 ·go_simp
                  constructor
                  ·rfl
                  ·rfl
                 refine hK.out _ _ ⟨(blk_cell (blk_alloc BK141.out _) 0).trans rfl, (blk_cell (blk_alloc BK141.out _) 1).trans rfl, (blk_cell (blk_alloc BK141.out _) 2).trans rfl, (blk_cell (blk_alloc BK141.out _) 3).trans rfl, (blk_cell (blk_alloc BK152.out _) 0).trans rfl, (blk_cell (blk_alloc BK152.out _) 1).trans rfl⟩ (fun hHeld => ?_)
                 clear hK K
                 refine norm_ (a' := ?_) ?_ ?_
                 rotate_left
                 ·show Act.put _ (some 118) _ = _
                  simp only [Act.put, List.setIfInBounds_toArray, List.set_cons_zero, List.set_cons_succ, i64_w, i32_w]
                  rfl
                 refine one_ (i := 7) (N := some 119) #[true, true, true, true, true, true, true, true, false, false] rfl rfl (one_of HT_.out (by kernel_rfl)) (by decide) (fun K hK => ?_)
                 refine Kd.S_append_step (Kd.slice 118 k118) (w0 := w) w.heap.size (by rfl) (.tmp 113) (.tmp 118) 68 116 (.slice none 0 0) 24 rfl Try.underlying68 info116 rfl (by decide) (by omega) u142003 x142003_1 y169 [.slice Ao59 y169.length co59] (fun k_ => some k_ ≠ (.slice (some ad162) y163.length co48 : Value).ownBlock ∧ k_ ≠ gb152) (fun k_ => some k_ = (.slice Ao59 y169.length co59 : Value).ownBlock) rfl rfl ?aP (fun k_ hk_ => ((Kd.R_mono (ok' := fun k_ => ((fun k_ => some k_ ≠ (.slice (some ad162) y163.length co48 : Value).ownBlock ∧ k_ ≠ gb152)) k_ ∧ some k_ ≠ (u142003 : Value).ownBlock) (Kd.R_apart' (HO171.out) (Kd.S_typed HO_142003.out) (by decide)) (fun k_ hk => ⟨⟨hk.1.1, hk.1.2⟩, hk.2⟩))).1 k_ hk_.symm) ?aF ?aO ?aB ?aS ?aL ?_
                 (case aP => exact Kd.M_row (Kd.R_mono (Kd.R_tight rfl (Kd.R_mono (ok' := fun k_ => ((fun k_ => some k_ ≠ (.slice (some ad162) y163.length co48 : Value).ownBlock ∧ k_ ≠ gb152)) k_ ∧ some k_ ≠ (u142003 : Value).ownBlock) (Kd.R_apart' (HO171.out) (Kd.S_typed HO_142003.out) (by decide)) (fun k_ hk => ⟨⟨hk.1.1, hk.1.2⟩, hk.2⟩))) (fun _ h_ => h_)))
                 (case aB => exact (lq HB.out))
                 (case aF => exact (fun k_ hk => ⟨Kd.fresh' (Kd.R_lt (rq HO165.out)) k_ hk, Kd.freshB (g := gb152) (o := .cells #[.int .i64 (wrap64 (Int.tdiv (wrap64 (Int.tdiv a1 a0_2)) a0_0)), .bool x153001_2] 118 (0, 0)) (bq BK152.out) k_ hk⟩))
                 (case aO => exact (by (with_reducible repeat (first | apply Kd.S_alloc | apply Kd.S_drewN | apply Kd.S_drew)); exact Kd.S_mono HO_142003.out (fun k_ hk => ⟨⟨hk.1.1, hk.1.2⟩, fun e_ => hk.2 e_⟩)))
                 (case aS => exact (below_size (lq HB.out)))
                 (case aL => have := LMc47.out; omega)
                 intro v173 w58 ho hb hg hat
                 rw [← Ny172.out] at ho
                 have n0_ := Aside0.mk (Kd.R_over' (rq HO165.out) (Kd.S_typed (by (with_reducible repeat (first | apply Kd.S_alloc | apply Kd.S_drewN | apply Kd.S_drew)); exact HO_142003.out)) (by decide) hg)
                 have n1_ := Aside0.mk (blk_grown (g := gb139) (o := .cells #[.int .i64 a0_0, .int .i64 a0_1, .int .i64 a0_2, .slice (some ad142) l0_3.length c0_3] 70 (0, 0)) (bq BK139.out) hg (Kd.S_ne HO_142003.out BK139.out (by decide)))
                 have n2_ := Aside0.mk (blk_grown (g := gb140) (o := .cells #[.int .i64 0, .int .i64 0, .int .i64 0, .slice none 0 0] 70 (0, 0)) (bq BK140.out) hg (Kd.S_ne HO_142003.out BK140.out (by decide)))
                 have n3_ := Aside0.mk (blk_grown (g := gb141) (o := .cells #[.int .i64 a0_0, .int .i64 a0_1, .int .i64 a0_2, u142003] 70 (0, 0)) (bq BK141.out) hg (Kd.S_ne HO_142003.out BK141.out (by decide)))
                 have n4_ := Aside0.mk (blk_grown (g := gb152) (o := .cells #[.int .i64 (wrap64 (Int.tdiv (wrap64 (Int.tdiv a1 a0_2)) a0_0)), .bool x153001_2] 118 (0, 0)) (bq BK152.out) hg (Kd.S_ne HO_142003.out BK152.out (by decide)))
                 have n5_ := Aside0.mk (hb)
                 have n6_ := Aside0.mk (ho)
                 clear HO165
                 clear BK139
                 clear BK140
                 clear BK141
                 clear BK152
                 clear HB
                 clear HO_142003
                 clear HO171
                 have HO165 := n0_
                 have BK139 := n1_
                 have BK140 := n2_
                 have BK141 := n3_
                 have BK152 := n4_
                 have HB := n5_
                 have HO174 := n6_
                 clear n0_ n1_ n2_ n3_ n4_ n5_ n6_
                 clear ho hb hg hat
                 obtain ⟨Ao60, co60, eo60⟩ := Kd.S_slice HO174.out
                 (first | subst eo60 | (injection eo60 with f1_ f2_ f3_; have f4_ := f1_.symm; have f5_ := f3_.symm; clear f1_ f2_ f3_; subst f4_; subst f5_))
                 refine hK.out _ _ ⟨(blk_cell BK141.out 0).trans rfl, (blk_cell BK141.out 1).trans rfl, (blk_cell BK141.out 2).trans rfl, (blk_cell BK141.out 3).trans rfl, (blk_cell BK152.out 0).trans rfl, (blk_cell BK152.out 1).trans rfl⟩ (fun hHeld => ?_)
                 clear hK K
                 refine norm_ (a' := ?_) ?_ ?_
                 rotate_left
                 ·show Act.put _ (some 119) _ = _
                  simp only [Act.put, List.setIfInBounds_toArray, List.set_cons_zero, List.set_cons_succ, i64_w, i32_w]
                  rfl
                 refine pure_ (i := 8) (N := some 120) (v := ?_) (a' := ?_) #[true, true, true, true, true, true, true, true, true, false] rfl rfl (any_of HT_.out (by kernel_rfl)) (fun _ _ _ h => h) (Or.inl ⟨by rfl, ?_⟩) ?_ ?_
                 rotate_left
                 ·intro w'
                  go_simp
                  with_reducible rfl
                 rotate_left
                 ·simp only [Act.put, List.setIfInBounds_toArray, List.set_cons_zero, List.set_cons_succ, i64_w, i32_w]
                  rfl
                 refine last_ (i := 9) (N := none) #[true, true, true, true, true, true, true, true, true, true] rfl rfl (one_of HT_.out (by kernel_rfl)) (by decide) (fun K hK => ?_)
                 have hs61 : w58.cell? ⟨gb141, 3, none⟩ = some (u142003) := (blk_cell BK141.out 3).trans rfl
                 have hfs61 := blk_frozen BK141.out 3
                 have hns61_0 := NB139_141.out
                 have hns61_1 := NB140_141.out
                 have hns61_3 := NB152_141.out
                 have hms61_0 := NB141_139.out
                 have hms61_1 := NB141_140.out
                 have hms61_3 := NB141_152.out
                 refine skip_ (w1 := ?_) (by rfl) rfl ?_ ?_
                 rotate_left
                 ·go_simp
                  rfl
                 refine hK.out _ _ ?_
                 clear hK K
                 refine done_ (done_of HT_.out (by kernel_rfl)) ?_
                 try go_wp2
                 go_roundg k2
                 case measure => have := HK1.out; have := HK2.out; omega
                 case rel => exact ⟨(x13_2), ((rd_T118 x18_2 (ji42)).f1), (wrap64 (x15_1 + 1)), (y172), (.slice Ao60 y172.length co60), (by first | rfl | (simp; done) | (simp [*]; done)), (by first | rfl | (simp; done) | (simp only [← hji42] <;> (first | rfl | simp)) | (simp [*]; done)), (by first | rfl | (simp; done) | (simp [*]; done)), H', ⟨by have := HK1.out; have := HK2.out; omega⟩, ⟨by (with_reducible repeat (first | apply Kd.S_alloc | apply Kd.S_drewN | apply Kd.S_drew)); exact Kd.S_mono (Kd.S_far (p := ⟨gb141, 3, none⟩) (Kd.S_types HO174.out BK141.out (by decide)) (fun _ hk => hk.2) (.slice Ao60 y172.length co60)) (fun _ hk => trivial)⟩, ⟨by (with_reducible repeat (first | refine blk_drewN ?_ _ | refine blk_drew ?_ | refine blk_alloc ?_ _)); refine blk_far ?_ NB139_141.out _; (with_reducible repeat (first | refine blk_drewN ?_ _ | refine blk_drew ?_ | refine blk_alloc ?_ _)); exact BK139.out⟩, ⟨by (with_reducible repeat (first | refine blk_drewN ?_ _ | refine blk_drew ?_ | refine blk_alloc ?_ _)); refine blk_far ?_ NB140_141.out _; (with_reducible repeat (first | refine blk_drewN ?_ _ | refine blk_drew ?_ | refine blk_alloc ?_ _)); exact BK140.out⟩, ⟨by (with_reducible repeat (first | refine blk_drewN ?_ _ | refine blk_drew ?_ | refine blk_alloc ?_ _)); refine blk_put (cs := #[.int .i64 a0_0, .int .i64 a0_1, .int .i64 a0_2, u142003]) ?_ 3 _ rfl; (with_reducible repeat (first | refine blk_drewN ?_ _ | refine blk_drew ?_ | refine blk_alloc ?_ _)); exact BK141.out⟩, ⟨by repeat (first | (with_reducible first | exact HB.out | apply below_alloc | apply pw_below_drewN | apply below_drew1 | refine below_set ?_ GE141.out) | exact HB.out)⟩⟩
                ·rw [if_neg c47] at H
                 exact absurd H (by simp)
               ·rw [if_neg c46] at H
                exact absurd H (by simp)
              ·rw [if_neg c45] at H
               exact absurd H (by simp)
             ·rw [if_neg c44] at H
              exact absurd H (by simp)
            ·rw [if_neg c43] at H
             exact absurd H (by simp)
           ·rw [if_neg c41] at H
            have c41b0 : ((x18_2.length : Int) == a0_1) = false := beq_eq_false_iff_ne.mpr c41
            have c41b1 : ((x18_2.length : Int) != a0_1) = true := bne_iff_ne.mpr c41
            obtain ⟨y175, hy175⟩ : ∃ y_ : List (S118), y_ = (([(⟨(wrap64 (Int.tdiv (wrap64 (Int.tdiv a1 a0_2)) a0_0)), x153001_2⟩ : S118)] : List (S118))) := ⟨_, rfl⟩
            replace H : (if y175.length + x18_2.length < 8796093022208 then (if x142003_1.length < 5864062014805 then (spec_l05Use.l0 k2 a2 (Int.tmod (wrap64 (Int.tdiv a1 a0_2)) a0_0) (wrap64 (Int.tdiv (wrap64 (Int.tdiv a1 a0_2)) a0_0)) x13_2 x14_1 (wrap64 (x15_1 + 1)) a0_0 a0_1 a0_2 l0_3 a0_0 a0_1 a0_2 (x142003_1 ++ [(y175 ++ x18_2)])) else (none)) else (none)) = some (r1, r2, r3, r4, r5, r6) := by first | (rw [hy175]; with_reducible exact H) | (have H2_ := (Option.bind_some _ _).symm.trans H; rw [hy175]; with_reducible exact H2_) | (have H2_ := (Option.bind_some _ _).symm.trans H; with_reducible exact H2_) | with_reducible exact H | (rw [hy175]; exact H) | exact H
            have Ny175 := Aside0.mk hy175
            clear hy175
            by_cases c62 : y175.length + x18_2.length < 8796093022208
            ·rw [if_pos c62] at H
             have LMc62 := Aside0.mk c62
             clear c62
             obtain ⟨y178, hy178⟩ : ∃ y_ : List (S118), y_ = (y175 ++ x18_2) := ⟨_, rfl⟩
             replace H : (if x142003_1.length < 5864062014805 then (spec_l05Use.l0 k2 a2 (Int.tmod (wrap64 (Int.tdiv a1 a0_2)) a0_0) (wrap64 (Int.tdiv (wrap64 (Int.tdiv a1 a0_2)) a0_0)) x13_2 x14_1 (wrap64 (x15_1 + 1)) a0_0 a0_1 a0_2 l0_3 a0_0 a0_1 a0_2 (x142003_1 ++ [y178])) else (none)) = some (r1, r2, r3, r4, r5, r6) := by first | (rw [hy178]; with_reducible exact H) | (have H2_ := (Option.bind_some _ _).symm.trans H; rw [hy178]; with_reducible exact H2_) | (have H2_ := (Option.bind_some _ _).symm.trans H; with_reducible exact H2_) | with_reducible exact H | (rw [hy178]; exact H) | exact H
             have Ny178 := Aside0.mk hy178
             clear hy178
             by_cases c63 : x142003_1.length < 5864062014805
             ·rw [if_pos c63] at H
              have LMc63 := Aside0.mk c63
              clear c63
              obtain ⟨y181, hy181⟩ : ∃ y_ : List (List (S118)), y_ = (x142003_1 ++ [y178]) := ⟨_, rfl⟩
              replace H : (spec_l05Use.l0 k2 a2 (Int.tmod (wrap64 (Int.tdiv a1 a0_2)) a0_0) (wrap64 (Int.tdiv (wrap64 (Int.tdiv a1 a0_2)) a0_0)) x13_2 x14_1 (wrap64 (x15_1 + 1)) a0_0 a0_1 a0_2 l0_3 a0_0 a0_1 a0_2 y181) = some (r1, r2, r3, r4, r5, r6) := by first | (rw [hy181]; with_reducible exact H) | (have H2_ := (Option.bind_some _ _).symm.trans H; rw [hy181]; with_reducible exact H2_) | (have H2_ := (Option.bind_some _ _).symm.trans H; with_reducible exact H2_) | with_reducible exact H | (rw [hy181]; exact H) | exact H
              have Ny181 := Aside0.mk hy181
              clear hy181
              have H' := Aside0.mk H
              clear H
              obtain ⟨Ao64, co64, eo64⟩ := Kd.R_slice HO_18.out
              subst eo64
              have hnb65 := NB139_140.out
              have hnc65 := NB140_139.out
              have hnb66 := NB139_141.out
              have hnc66 := NB141_139.out
              have hnb67 := NB139_152.out
              have hnc67 := NB152_139.out
              have hcz68_0 : wr.cell? ⟨gb139, 0, none⟩ = some (.int .i64 a0_0) := (blk_cell BK139.out 0).trans rfl
              have hcz68_1 : wr.cell? ⟨gb139, 1, none⟩ = some (.int .i64 a0_1) := (blk_cell BK139.out 1).trans rfl
              have hcz68_2 : wr.cell? ⟨gb139, 2, none⟩ = some (.int .i64 a0_2) := (blk_cell BK139.out 2).trans rfl
              have hcz68_3 : wr.cell? ⟨gb139, 3, none⟩ = some (.slice (some ad142) l0_3.length c0_3) := (blk_cell BK139.out 3).trans rfl
              have hfz68_0 := blk_frozen BK139.out 0
              have hfz68_1 := blk_frozen BK139.out 1
              have hfz68_2 := blk_frozen BK139.out 2
              have hfz68_3 := blk_frozen BK139.out 3
              try go_wp2
              have n0_ := Aside0.mk (Kd.R_drew HO_18.out)
              have n1_ := Aside0.mk (Kd.S_drew HO_142003.out)
              have n2_ := Aside0.mk (blk_drew BK139.out)
              have n3_ := Aside0.mk (blk_drew BK140.out)
              have n4_ := Aside0.mk (blk_drew BK141.out)
              have n5_ := Aside0.mk (blk_drew BK152.out)
              have n6_ := Aside0.mk (below_drew1 HB.out)
              clear HO_18
              clear HO_142003
              clear BK139
              clear BK140
              clear BK141
              clear BK152
              clear HB
              have HO_18 := n0_
              have HO_142003 := n1_
              have BK139 := n2_
              have BK140 := n3_
              have BK141 := n4_
              have BK152 := n5_
              have HB := n6_
              clear n0_ n1_ n2_ n3_ n4_ n5_ n6_
              refine start_ (n := 10) (S := fun w' => w'.cell? ⟨gb141, 0, none⟩ = some (.int .i64 a0_0) ∧ w'.cell? ⟨gb141, 1, none⟩ = some (.int .i64 a0_1) ∧ w'.cell? ⟨gb141, 2, none⟩ = some (.int .i64 a0_2) ∧ w'.cell? ⟨gb141, 3, none⟩ = some (u142003) ∧ w'.cell? ⟨gb152, 0, none⟩ = some (.int .i64 (wrap64 (Int.tdiv (wrap64 (Int.tdiv a1 a0_2)) a0_0))) ∧ w'.cell? ⟨gb152, 1, none⟩ = some (.bool x153001_2)) (ds := [9]) #[false, false, false, false, false, false, false, false, false, false] (by kernel_rfl) rfl rfl ⟨(blk_cell BK141.out 0).trans rfl, (blk_cell BK141.out 1).trans rfl, (blk_cell BK141.out 2).trans rfl, (blk_cell BK141.out 3).trans rfl, (blk_cell BK152.out 0).trans rfl, (blk_cell BK152.out 1).trans rfl⟩ (fun hHeld => ?_); refine with_tabW spec_l05Use.tab24 spec_l05Use.bits24 (fun HT_ HW_ => ?_)
              generalize wr.drew = w69 at HO_18 HO_142003 BK139 BK140 BK141 BK152 HB hHeld ⊢
              refine pure_ (i := 0) (N := some 112) (v := ?_) (a' := ?_) #[true, false, false, false, false, false, false, false, false, false] rfl rfl (any_of HT_.out (by kernel_rfl)) (fun _ _ _ h => h) (Or.inl ⟨by rfl, ?_⟩) ?_ ?_
              rotate_left
              ·intro w'
               go_simp
               with_reducible rfl
              rotate_left
              ·simp only [Act.put, List.setIfInBounds_toArray, List.set_cons_zero, List.set_cons_succ, i64_w, i32_w]
               rfl
              refine pure_ (i := 4) (N := some 116) (v := ?_) (a' := ?_) #[true, false, false, false, true, false, false, false, false, false] rfl rfl (any_of HT_.out (by kernel_rfl)) (fun _ _ _ h => h) (Or.inl ⟨by rfl, ?_⟩) ?_ ?_
              rotate_left
              ·intro w'
               go_simp
               with_reducible rfl
              rotate_left
              ·simp only [Act.put, List.setIfInBounds_toArray, List.set_cons_zero, List.set_cons_succ, i64_w, i32_w]
               rfl
              refine take_ (i := 1) (N := some 113) (v := ?_) (a' := ?_) #[true, true, false, false, true, false, false, false, false, false] rfl rfl (take_ofW HT_.out HW_.out (by kernel_rfl)) (fun _ _ _ h => h) (Or.inl ⟨by rfl, ?_⟩) hHeld ?_ ?_
              rotate_left
              ·rintro w' ⟨s0, s1, s2, s3, s4, s5⟩
               go_simp
               with_reducible rfl
              rotate_left
              ·simp only [Act.put, List.setIfInBounds_toArray, List.set_cons_zero, List.set_cons_succ, i64_w, i32_w]
               rfl
              refine take_ (i := 2) (N := some 114) (v := ?_) (a' := ?_) #[true, true, true, false, true, false, false, false, false, false] rfl rfl (take_ofW HT_.out HW_.out (by kernel_rfl)) (fun _ _ _ h => h) (Or.inl ⟨by rfl, ?_⟩) hHeld ?_ ?_
              rotate_left
              ·rintro w' ⟨s0, s1, s2, s3, s4, s5⟩
               go_simp
               with_reducible rfl
              rotate_left
              ·simp only [Act.put, List.setIfInBounds_toArray, List.set_cons_zero, List.set_cons_succ, i64_w, i32_w]
               rfl
              refine one_ (i := 3) (N := some 115) #[true, true, true, true, true, false, false, false, false, false] rfl rfl (one_of HT_.out (by kernel_rfl)) (by decide) (fun K hK => ?_)
              refine Kd.R_lit_step k118 _ 118 ?hg (N := 115) ?hd (xs := ([(⟨(wrap64 (Int.tdiv (wrap64 (Int.tdiv a1 a0_2)) a0_0)), x153001_2⟩ : S118)] : List (S118))) (inner := [.int .i64 (wrap64 (Int.tdiv (wrap64 (Int.tdiv a1 a0_2)) a0_0)), .bool x153001_2]) (ok := fun _ => True) (okp := fun _ => True) ?hr ?hp (fun _ hk => hk) trivial (Below.refl _ _) (Nat.le_refl _) (by simp) ?_; (case hd => rfl); (case hg => rfl); (case hr => first | (go_simp; done) | (go_simp; rfl)); (case hp => exact (Reps.c2 (show Kd.M k118 _ _ _ (⟨(wrap64 (Int.tdiv (wrap64 (Int.tdiv a1 a0_2)) a0_0)), x153001_2⟩ : S118) [.int .i64 (wrap64 (Int.tdiv (wrap64 (Int.tdiv a1 a0_2)) a0_0)), .bool x153001_2] from (k118_mkM _ _ _ (⟨(wrap64 (Int.tdiv (wrap64 (Int.tdiv a1 a0_2)) a0_0)), x153001_2⟩ : S118) )) (Reps.none _ _)))
              intro v176 w70 ho71 hb hg_ hnew_
              clear hg_ hnew_
              (first | rw [← Ny175.out] at ho71 | (simp only [Int.reduceToNat] at ho71; rw [← Ny175.out] at ho71))
              have n0_ := Aside0.mk (Kd.R_elder' (rq HO_18.out) (Kd.R_base ho71) hb)
              have n1_ := Aside0.mk (Kd.S_elder' (by (with_reducible repeat (first | apply Kd.S_alloc | apply Kd.S_drewN | apply Kd.S_drew)); exact HO_142003.out) (Kd.R_base ho71) hb)
              have n2_ := Aside0.mk (Kd.R_lower (Kd.R_newB (Kd.R_new' ho71 (Kd.R_lt (rq HO_18.out))) (g := gb152) (o := .cells #[.int .i64 (wrap64 (Int.tdiv (wrap64 (Int.tdiv a1 a0_2)) a0_0)), .bool x153001_2] 118 (0, 0)) (bq BK152.out)) (below_size (lq HB.out)))
              have n3_ := Aside0.mk (blk_below (bq BK139.out) hb)
              have n4_ := Aside0.mk (blk_below (bq BK140.out) hb)
              have n5_ := Aside0.mk (blk_below (bq BK141.out) hb)
              have n6_ := Aside0.mk (blk_below (bq BK152.out) hb)
              have n7_ := Aside0.mk (below_step (lq HB.out) hb)
              clear HO_18
              clear HO_142003
              clear BK139
              clear BK140
              clear BK141
              clear BK152
              clear HB
              have HO_18 := n0_
              have HO_142003 := n1_
              have HO177 := n2_
              have BK139 := n3_
              have BK140 := n4_
              have BK141 := n5_
              have BK152 := n6_
              have HB := n7_
              clear n0_ n1_ n2_ n3_ n4_ n5_ n6_ n7_
              clear hb ho71
              refine hK.out _ _ ⟨(blk_cell BK141.out 0).trans rfl, (blk_cell BK141.out 1).trans rfl, (blk_cell BK141.out 2).trans rfl, (blk_cell BK141.out 3).trans rfl, (blk_cell BK152.out 0).trans rfl, (blk_cell BK152.out 1).trans rfl⟩ (fun hHeld => ?_)
              clear hK K
              refine norm_ (a' := ?_) ?_ ?_
              rotate_left
              ·show Act.put _ (some 115) _ = _
               simp only [Act.put, List.setIfInBounds_toArray, List.set_cons_zero, List.set_cons_succ, i64_w, i32_w]
               rfl
              refine one_ (i := 5) (N := some 117) #[true, true, true, true, true, true, false, false, false, false] rfl rfl (one_of HT_.out (by kernel_rfl)) (by decide) (fun K hK => ?_)
              refine Kd.R_append_rows_step k118 (w0 := w) w.heap.size (by rfl) (.tmp 115) (.tmp 116) 116 118 (.agg #[(.int .i64 0), (.bool false)]) 16 rfl Try.underlying116 info118 rfl (by decide) (by omega) v176 y175 x18_2 _ _ _ (fun k_ => some k_ ≠ (.slice Ao64 x18_2.length co64 : Value).ownBlock ∧ k_ ≠ gb152) (fun _ => False) rfl rfl ?aO ?aR (fun _ _ h => h) (fun _ h => h.elim) ?aF ?aB ?aS ?aL ?_
              (case aR => repeat (first | exact (Kd.R_reads' HO_18.out).2.2 | (with_reducible refine Kd.C_alloc ?_ _) | (with_reducible refine Kd.C_drewN ?_ _) | (with_reducible refine Kd.C_drew ?_)))
              (case aB => exact (lq HB.out))
              (case aF => exact (fun k_ hk => ⟨Kd.fresh' (Kd.R_lt (rq HO_18.out)) k_ hk, Kd.freshB (g := gb152) (o := .cells #[.int .i64 (wrap64 (Int.tdiv (wrap64 (Int.tdiv a1 a0_2)) a0_0)), .bool x153001_2] 118 (0, 0)) (bq BK152.out) k_ hk⟩))
              (case aO => exact (by (with_reducible repeat (first | apply Kd.R_alloc | apply Kd.R_drewN | apply Kd.R_drew)); exact Kd.R_mono HO177.out (fun _ hk => ⟨hk.1.2, hk.2⟩)))
              (case aS => exact (below_size (lq HB.out)))
              (case aL => have := LMc62.out; omega)
              intro v179 w72 ho hb hg hat
              rw [← Ny178.out] at ho
              have n0_ := Aside0.mk (Kd.R_after (ok := (fun k_ => k_ ≠ gb152)) (rq HO_18.out) hg hat)
              have n1_ := Aside0.mk (Kd.S_after (ok := (fun k_ => some k_ ≠ (.slice Ao64 x18_2.length co64 : Value).ownBlock ∧ k_ ≠ gb152)) (by (with_reducible repeat (first | apply Kd.S_alloc | apply Kd.S_drewN | apply Kd.S_drew)); exact HO_142003.out) hg hat)
              have n2_ := Aside0.mk (blk_grown (g := gb139) (o := .cells #[.int .i64 a0_0, .int .i64 a0_1, .int .i64 a0_2, .slice (some ad142) l0_3.length c0_3] 70 (0, 0)) (bq BK139.out) hg (Kd.R_ne HO177.out BK139.out (by decide)))
              have n3_ := Aside0.mk (blk_grown (g := gb140) (o := .cells #[.int .i64 0, .int .i64 0, .int .i64 0, .slice none 0 0] 70 (0, 0)) (bq BK140.out) hg (Kd.R_ne HO177.out BK140.out (by decide)))
              have n4_ := Aside0.mk (blk_grown (g := gb141) (o := .cells #[.int .i64 a0_0, .int .i64 a0_1, .int .i64 a0_2, u142003] 70 (0, 0)) (bq BK141.out) hg (Kd.R_ne HO177.out BK141.out (by decide)))
              have n5_ := Aside0.mk (blk_grown (g := gb152) (o := .cells #[.int .i64 (wrap64 (Int.tdiv (wrap64 (Int.tdiv a1 a0_2)) a0_0)), .bool x153001_2] 118 (0, 0)) (bq BK152.out) hg (Kd.R_away HO177.out (fun _ hk => hk.2)))
              have n6_ := Aside0.mk (hb)
              have n7_ := Aside0.mk (ho)
              clear HO_18
              clear HO_142003
              clear BK139
              clear BK140
              clear BK141
              clear BK152
              clear HB
              clear HO177
              have HO_18 := n0_
              have HO_142003 := n1_
              have BK139 := n2_
              have BK140 := n3_
              have BK141 := n4_
              have BK152 := n5_
              have HB := n6_
              have HO180 := n7_
              clear n0_ n1_ n2_ n3_ n4_ n5_ n6_ n7_
              clear ho hb hg hat
              obtain ⟨Ao74, co74, eo74⟩ := Kd.R_slice HO180.out
              (first | subst eo74 | (injection eo74 with f1_ f2_ f3_; have f4_ := f1_.symm; have f5_ := f3_.symm; clear f1_ f2_ f3_; subst f4_; subst f5_))
              refine hK.out _ _ ⟨(blk_cell BK141.out 0).trans rfl, (blk_cell BK141.out 1).trans rfl, (blk_cell BK141.out 2).trans rfl, (blk_cell BK141.out 3).trans rfl, (blk_cell BK152.out 0).trans rfl, (blk_cell BK152.out 1).trans rfl⟩ (fun hHeld => ?_)
              clear hK K
              refine norm_ (a' := ?_) ?_ ?_
              rotate_left
              ·show Act.put _ (some 117) _ = _
               simp only [Act.put, List.setIfInBounds_toArray, List.set_cons_zero, List.set_cons_succ, i64_w, i32_w]
               rfl
              refine one_ (i := 6) (N := some 118) #[true, true, true, true, true, true, true, false, false, false] rfl rfl (one_of HT_.out (by kernel_rfl)) (by decide) (fun K hK => ?_)
              refine value_ (w1 := ?_) (v := ?_) (by rfl) rfl ?_ ?_
              rotate_left 2
              ·go_simp
               constructor
               ·rfl
               ·rfl
              refine hK.out _ _ ⟨(blk_cell (blk_alloc BK141.out _) 0).trans rfl, (blk_cell (blk_alloc BK141.out _) 1).trans rfl, (blk_cell (blk_alloc BK141.out _) 2).trans rfl, (blk_cell (blk_alloc BK141.out _) 3).trans rfl, (blk_cell (blk_alloc BK152.out _) 0).trans rfl, (blk_cell (blk_alloc BK152.out _) 1).trans rfl⟩ (fun hHeld => ?_)
              clear hK K
              refine norm_ (a' := ?_) ?_ ?_
              rotate_left
              ·show Act.put _ (some 118) _ = _
               simp only [Act.put, List.setIfInBounds_toArray, List.set_cons_zero, List.set_cons_succ, i64_w, i32_w]
               rfl
              refine one_ (i := 7) (N := some 119) #[true, true, true, true, true, true, true, true, false, false] rfl rfl (one_of HT_.out (by kernel_rfl)) (by decide) (fun K hK => ?_)
              refine Kd.S_append_step (Kd.slice 118 k118) (w0 := w) w.heap.size (by rfl) (.tmp 113) (.tmp 118) 68 116 (.slice none 0 0) 24 rfl Try.underlying68 info116 rfl (by decide) (by omega) u142003 x142003_1 y178 [.slice Ao74 y178.length co74] (fun k_ => some k_ ≠ (.slice Ao64 x18_2.length co64 : Value).ownBlock ∧ k_ ≠ gb152) (fun k_ => some k_ = (.slice Ao74 y178.length co74 : Value).ownBlock) rfl rfl ?aP (fun k_ hk_ => ((Kd.R_mono (ok' := fun k_ => ((fun k_ => some k_ ≠ (.slice Ao64 x18_2.length co64 : Value).ownBlock ∧ k_ ≠ gb152)) k_ ∧ some k_ ≠ (u142003 : Value).ownBlock) (Kd.R_apart' (HO180.out) (Kd.S_typed HO_142003.out) (by decide)) (fun k_ hk => ⟨⟨hk.1.1, hk.1.2⟩, hk.2⟩))).1 k_ hk_.symm) ?aF ?aO ?aB ?aS ?aL ?_
              (case aP => exact Kd.M_row (Kd.R_mono (Kd.R_tight rfl (Kd.R_mono (ok' := fun k_ => ((fun k_ => some k_ ≠ (.slice Ao64 x18_2.length co64 : Value).ownBlock ∧ k_ ≠ gb152)) k_ ∧ some k_ ≠ (u142003 : Value).ownBlock) (Kd.R_apart' (HO180.out) (Kd.S_typed HO_142003.out) (by decide)) (fun k_ hk => ⟨⟨hk.1.1, hk.1.2⟩, hk.2⟩))) (fun _ h_ => h_)))
              (case aB => exact (lq HB.out))
              (case aF => exact (fun k_ hk => ⟨Kd.fresh' (Kd.R_lt (rq HO_18.out)) k_ hk, Kd.freshB (g := gb152) (o := .cells #[.int .i64 (wrap64 (Int.tdiv (wrap64 (Int.tdiv a1 a0_2)) a0_0)), .bool x153001_2] 118 (0, 0)) (bq BK152.out) k_ hk⟩))
              (case aO => exact (by (with_reducible repeat (first | apply Kd.S_alloc | apply Kd.S_drewN | apply Kd.S_drew)); exact Kd.S_mono HO_142003.out (fun k_ hk => ⟨⟨hk.1.1, hk.1.2⟩, fun e_ => hk.2 e_⟩)))
              (case aS => exact (below_size (lq HB.out)))
              (case aL => have := LMc63.out; omega)
              intro v182 w73 ho hb hg hat
              rw [← Ny181.out] at ho
              have n0_ := Aside0.mk (Kd.R_over' (rq HO_18.out) (Kd.S_typed (by (with_reducible repeat (first | apply Kd.S_alloc | apply Kd.S_drewN | apply Kd.S_drew)); exact HO_142003.out)) (by decide) hg)
              have n1_ := Aside0.mk (blk_grown (g := gb139) (o := .cells #[.int .i64 a0_0, .int .i64 a0_1, .int .i64 a0_2, .slice (some ad142) l0_3.length c0_3] 70 (0, 0)) (bq BK139.out) hg (Kd.S_ne HO_142003.out BK139.out (by decide)))
              have n2_ := Aside0.mk (blk_grown (g := gb140) (o := .cells #[.int .i64 0, .int .i64 0, .int .i64 0, .slice none 0 0] 70 (0, 0)) (bq BK140.out) hg (Kd.S_ne HO_142003.out BK140.out (by decide)))
              have n3_ := Aside0.mk (blk_grown (g := gb141) (o := .cells #[.int .i64 a0_0, .int .i64 a0_1, .int .i64 a0_2, u142003] 70 (0, 0)) (bq BK141.out) hg (Kd.S_ne HO_142003.out BK141.out (by decide)))
              have n4_ := Aside0.mk (blk_grown (g := gb152) (o := .cells #[.int .i64 (wrap64 (Int.tdiv (wrap64 (Int.tdiv a1 a0_2)) a0_0)), .bool x153001_2] 118 (0, 0)) (bq BK152.out) hg (Kd.S_ne HO_142003.out BK152.out (by decide)))
              have n5_ := Aside0.mk (hb)
              have n6_ := Aside0.mk (ho)
              clear HO_18
              clear BK139
              clear BK140
              clear BK141
              clear BK152
              clear HB
              clear HO_142003
              clear HO180
              have HO_18 := n0_
              have BK139 := n1_
              have BK140 := n2_
              have BK141 := n3_
              have BK152 := n4_
              have HB := n5_
              have HO183 := n6_
              clear n0_ n1_ n2_ n3_ n4_ n5_ n6_
              clear ho hb hg hat
              obtain ⟨Ao75, co75, eo75⟩ := Kd.S_slice HO183.out
              (first | subst eo75 | (injection eo75 with f1_ f2_ f3_; have f4_ := f1_.symm; have f5_ := f3_.symm; clear f1_ f2_ f3_; subst f4_; subst f5_))
              refine hK.out _ _ ⟨(blk_cell BK141.out 0).trans rfl, (blk_cell BK141.out 1).trans rfl, (blk_cell BK141.out 2).trans rfl, (blk_cell BK141.out 3).trans rfl, (blk_cell BK152.out 0).trans rfl, (blk_cell BK152.out 1).trans rfl⟩ (fun hHeld => ?_)
              clear hK K
              refine norm_ (a' := ?_) ?_ ?_
              rotate_left
              ·show Act.put _ (some 119) _ = _
               simp only [Act.put, List.setIfInBounds_toArray, List.set_cons_zero, List.set_cons_succ, i64_w, i32_w]
               rfl
              refine pure_ (i := 8) (N := some 120) (v := ?_) (a' := ?_) #[true, true, true, true, true, true, true, true, true, false] rfl rfl (any_of HT_.out (by kernel_rfl)) (fun _ _ _ h => h) (Or.inl ⟨by rfl, ?_⟩) ?_ ?_
              rotate_left
              ·intro w'
               go_simp
               with_reducible rfl
              rotate_left
              ·simp only [Act.put, List.setIfInBounds_toArray, List.set_cons_zero, List.set_cons_succ, i64_w, i32_w]
               rfl
              refine last_ (i := 9) (N := none) #[true, true, true, true, true, true, true, true, true, true] rfl rfl (one_of HT_.out (by kernel_rfl)) (by decide) (fun K hK => ?_)
              have hs76 : w73.cell? ⟨gb141, 3, none⟩ = some (u142003) := (blk_cell BK141.out 3).trans rfl
              have hfs76 := blk_frozen BK141.out 3
              have hns76_0 := NB139_141.out
              have hns76_1 := NB140_141.out
              have hns76_3 := NB152_141.out
              have hms76_0 := NB141_139.out
              have hms76_1 := NB141_140.out
              have hms76_3 := NB141_152.out
              refine skip_ (w1 := ?_) (by rfl) rfl ?_ ?_
              rotate_left
              ·go_simp
               rfl
              refine hK.out _ _ ?_
              clear hK K
              refine done_ (done_of HT_.out (by kernel_rfl)) ?_
              try go_wp2
              go_roundg k2
              case measure => have := HK1.out; have := HK2.out; omega
              case rel => exact ⟨(x13_2), (x14_1), (wrap64 (x15_1 + 1)), (y181), (.slice Ao75 y181.length co75), (by first | rfl | (simp; done) | (simp [*]; done)), (by first | rfl | (simp; done) | (simp [*]; done)), (by first | rfl | (simp; done) | (simp [*]; done)), H', ⟨by have := HK1.out; have := HK2.out; omega⟩, ⟨by (with_reducible repeat (first | apply Kd.S_alloc | apply Kd.S_drewN | apply Kd.S_drew)); exact Kd.S_mono (Kd.S_far (p := ⟨gb141, 3, none⟩) (Kd.S_types HO183.out BK141.out (by decide)) (fun _ hk => hk.2) (.slice Ao75 y181.length co75)) (fun _ hk => trivial)⟩, ⟨by (with_reducible repeat (first | refine blk_drewN ?_ _ | refine blk_drew ?_ | refine blk_alloc ?_ _)); refine blk_far ?_ NB139_141.out _; (with_reducible repeat (first | refine blk_drewN ?_ _ | refine blk_drew ?_ | refine blk_alloc ?_ _)); exact BK139.out⟩, ⟨by (with_reducible repeat (first | refine blk_drewN ?_ _ | refine blk_drew ?_ | refine blk_alloc ?_ _)); refine blk_far ?_ NB140_141.out _; (with_reducible repeat (first | refine blk_drewN ?_ _ | refine blk_drew ?_ | refine blk_alloc ?_ _)); exact BK140.out⟩, ⟨by (with_reducible repeat (first | refine blk_drewN ?_ _ | refine blk_drew ?_ | refine blk_alloc ?_ _)); refine blk_put (cs := #[.int .i64 a0_0, .int .i64 a0_1, .int .i64 a0_2, u142003]) ?_ 3 _ rfl; (with_reducible repeat (first | refine blk_drewN ?_ _ | refine blk_drew ?_ | refine blk_alloc ?_ _)); exact BK141.out⟩, ⟨by repeat (first | (with_reducible first | exact HB.out | apply below_alloc | apply pw_below_drewN | apply below_drew1 | refine below_set ?_ GE141.out) | exact HB.out)⟩⟩
             ·rw [if_neg c63] at H
              exact absurd H (by simp)
            ·rw [if_neg c62] at H
             exact absurd H (by simp)
       ·rw [if_neg c16] at H
        have c16b0 : (x15_1 == (Int.tmod (wrap64 (Int.tdiv a1 a0_2)) a0_0)) = false := beq_eq_false_iff_ne.mpr c16
        have c16b1 : (x15_1 != (Int.tmod (wrap64 (Int.tdiv a1 a0_2)) a0_0)) = true := bne_iff_ne.mpr c16
        obtain ⟨y143, hy143⟩ : ∃ y_ : List (S118), y_ = (([] : List (S118))) := ⟨_, rfl⟩
        replace H : (if y143.length + (rd_L3 l0_3 x15_1).length < 8796093022208 then (if x142003_1.length < 5864062014805 then (spec_l05Use.l0 k1 a2 (Int.tmod (wrap64 (Int.tdiv a1 a0_2)) a0_0) (wrap64 (Int.tdiv (wrap64 (Int.tdiv a1 a0_2)) a0_0)) x13_1 x14_1 (wrap64 (x15_1 + 1)) a0_0 a0_1 a0_2 l0_3 a0_0 a0_1 a0_2 (x142003_1 ++ [(y143 ++ (rd_L3 l0_3 x15_1))])) else (none)) else (none)) = some (r1, r2, r3, r4, r5, r6) := by first | (rw [hy143]; with_reducible exact H) | (have H2_ := (Option.bind_some _ _).symm.trans H; rw [hy143]; with_reducible exact H2_) | (have H2_ := (Option.bind_some _ _).symm.trans H; with_reducible exact H2_) | with_reducible exact H | (rw [hy143]; exact H) | exact H
        have Ny143 := Aside0.mk hy143
        clear hy143
        by_cases c77 : y143.length + (rd_L3 l0_3 x15_1).length < 8796093022208
        ·rw [if_pos c77] at H
         have LMc77 := Aside0.mk c77
         clear c77
         obtain ⟨y146, hy146⟩ : ∃ y_ : List (S118), y_ = (y143 ++ (rd_L3 l0_3 x15_1)) := ⟨_, rfl⟩
         replace H : (if x142003_1.length < 5864062014805 then (spec_l05Use.l0 k1 a2 (Int.tmod (wrap64 (Int.tdiv a1 a0_2)) a0_0) (wrap64 (Int.tdiv (wrap64 (Int.tdiv a1 a0_2)) a0_0)) x13_1 x14_1 (wrap64 (x15_1 + 1)) a0_0 a0_1 a0_2 l0_3 a0_0 a0_1 a0_2 (x142003_1 ++ [y146])) else (none)) = some (r1, r2, r3, r4, r5, r6) := by first | (rw [hy146]; with_reducible exact H) | (have H2_ := (Option.bind_some _ _).symm.trans H; rw [hy146]; with_reducible exact H2_) | (have H2_ := (Option.bind_some _ _).symm.trans H; with_reducible exact H2_) | with_reducible exact H | (rw [hy146]; exact H) | exact H
         have Ny146 := Aside0.mk hy146
         clear hy146
         by_cases c78 : x142003_1.length < 5864062014805
         ·rw [if_pos c78] at H
          have LMc78 := Aside0.mk c78
          clear c78
          obtain ⟨y149, hy149⟩ : ∃ y_ : List (List (S118)), y_ = (x142003_1 ++ [y146]) := ⟨_, rfl⟩
          replace H : (spec_l05Use.l0 k1 a2 (Int.tmod (wrap64 (Int.tdiv a1 a0_2)) a0_0) (wrap64 (Int.tdiv (wrap64 (Int.tdiv a1 a0_2)) a0_0)) x13_1 x14_1 (wrap64 (x15_1 + 1)) a0_0 a0_1 a0_2 l0_3 a0_0 a0_1 a0_2 y149) = some (r1, r2, r3, r4, r5, r6) := by first | (rw [hy149]; with_reducible exact H) | (have H2_ := (Option.bind_some _ _).symm.trans H; rw [hy149]; with_reducible exact H2_) | (have H2_ := (Option.bind_some _ _).symm.trans H; with_reducible exact H2_) | with_reducible exact H | (rw [hy149]; exact H) | exact H
          have Ny149 := Aside0.mk hy149
          clear hy149
          have H' := Aside0.mk H
          clear H
          have hnb79 := NB139_140.out
          have hnc79 := NB140_139.out
          have hnb80 := NB139_141.out
          have hnc80 := NB141_139.out
          have hcz81_0 : wr.cell? ⟨gb139, 0, none⟩ = some (.int .i64 a0_0) := (blk_cell BK139.out 0).trans rfl
          have hcz81_1 : wr.cell? ⟨gb139, 1, none⟩ = some (.int .i64 a0_1) := (blk_cell BK139.out 1).trans rfl
          have hcz81_2 : wr.cell? ⟨gb139, 2, none⟩ = some (.int .i64 a0_2) := (blk_cell BK139.out 2).trans rfl
          have hcz81_3 : wr.cell? ⟨gb139, 3, none⟩ = some (.slice A0_3 l0_3.length c0_3) := (blk_cell BK139.out 3).trans rfl
          have hfz81_0 := blk_frozen BK139.out 0
          have hfz81_1 := blk_frozen BK139.out 1
          have hfz81_2 := blk_frozen BK139.out 2
          have hfz81_3 := blk_frozen BK139.out 3
          have p142 : 0 ≤ (x15_1 : Int) := of_decide_eq_true (by first | (with_reducible assumption) | assumption)
          have q142 : x15_1 < (l0_3.length : Int) := of_decide_eq_true (by first | (with_reducible assumption) | assumption)
          obtain ⟨ad142, A142_0, c142_0, e142, hx142_0, hl142_0, hi142_0⟩ := at_L3 HR0_3.out x15_1 p142 q142
          cases e142
          replace hx142_0 := (HB.out.cell (World.block_lt_of_cell? w _ hx142_0)).trans hx142_0
          have HR142_0 := Aside0.mk hi142_0
          have HC142_0 := Aside0.mk hl142_0
          clear hi142_0 hl142_0
          replace p142 := eq_true p142
          replace q142 := eq_true q142
          try go_wp2
          have n0_ := Aside0.mk (Kd.S_drew HO_142003.out)
          have n1_ := Aside0.mk (blk_drew BK139.out)
          have n2_ := Aside0.mk (blk_drew BK140.out)
          have n3_ := Aside0.mk (blk_drew BK141.out)
          have n4_ := Aside0.mk (below_drew1 HB.out)
          clear HO_142003
          clear BK139
          clear BK140
          clear BK141
          clear HB
          have HO_142003 := n0_
          have BK139 := n1_
          have BK140 := n2_
          have BK141 := n3_
          have HB := n4_
          clear n0_ n1_ n2_ n3_ n4_
          refine start_ (n := 9) (S := fun w' => w'.cell? ⟨gb141, 0, none⟩ = some (.int .i64 a0_0) ∧ w'.cell? ⟨gb141, 1, none⟩ = some (.int .i64 a0_1) ∧ w'.cell? ⟨gb141, 2, none⟩ = some (.int .i64 a0_2) ∧ w'.cell? ⟨gb141, 3, none⟩ = some (u142003)) (ds := [8]) #[false, false, false, false, false, false, false, false, false] (by kernel_rfl) rfl rfl ⟨(blk_cell BK141.out 0).trans rfl, (blk_cell BK141.out 1).trans rfl, (blk_cell BK141.out 2).trans rfl, (blk_cell BK141.out 3).trans rfl⟩ (fun hHeld => ?_); refine with_tabW spec_l05Use.tab11 spec_l05Use.bits11 (fun HT_ HW_ => ?_)
          generalize wr.drew = w82 at HO_142003 BK139 BK140 BK141 HB hHeld ⊢
          refine pure_ (i := 0) (N := some 53) (v := ?_) (a' := ?_) #[true, false, false, false, false, false, false, false, false] rfl rfl (any_of HT_.out (by kernel_rfl)) (fun _ _ _ h => h) (Or.inl ⟨by rfl, ?_⟩) ?_ ?_
          rotate_left
          ·intro w'
           go_simp
           with_reducible rfl
          rotate_left
          ·simp only [Act.put, List.setIfInBounds_toArray, List.set_cons_zero, List.set_cons_succ, i64_w, i32_w]
           rfl
          refine pure_ (i := 3) (N := some 56) (v := ?_) (a' := ?_) #[true, false, false, true, false, false, false, false, false] rfl rfl (any_of HT_.out (by kernel_rfl)) (fun _ _ _ h => h) (Or.inl ⟨by rfl, ?_⟩) ?_ ?_
          rotate_left
          ·intro w'
           go_simp
           with_reducible rfl
          rotate_left
          ·simp only [Act.put, List.setIfInBounds_toArray, List.set_cons_zero, List.set_cons_succ, i64_w, i32_w]
           rfl
          refine take_ (i := 1) (N := some 54) (v := ?_) (a' := ?_) #[true, true, false, true, false, false, false, false, false] rfl rfl (take_ofW HT_.out HW_.out (by kernel_rfl)) (fun _ _ _ h => h) (Or.inl ⟨by rfl, ?_⟩) hHeld ?_ ?_
          rotate_left
          ·rintro w' ⟨s0, s1, s2, s3⟩
           go_simp
           with_reducible rfl
          rotate_left
          ·simp only [Act.put, List.setIfInBounds_toArray, List.set_cons_zero, List.set_cons_succ, i64_w, i32_w]
           rfl
          refine one_ (i := 2) (N := some 55) #[true, true, true, true, false, false, false, false, false] rfl rfl (one_of HT_.out (by kernel_rfl)) (by decide) (fun K hK => ?_)
          refine Kd.R_lit_step k118 _ 118 ?hg (N := 55) ?hd (xs := ([] : List (S118))) (inner := []) (ok := fun _ => True) (okp := fun _ => True) ?hr ?hp (fun _ hk => hk) trivial (Below.refl _ _) (Nat.le_refl _) (by simp) ?_; (case hd => rfl); (case hg => rfl); (case hr => first | (go_simp; done) | (go_simp; rfl)); (case hp => exact (Reps.none _ _))
          intro v144 w83 ho84 hb hg_ hnew_
          clear hg_ hnew_
          (first | rw [← Ny143.out] at ho84 | (simp only [Int.reduceToNat] at ho84; rw [← Ny143.out] at ho84))
          have n0_ := Aside0.mk (Kd.S_elder' (by (with_reducible repeat (first | apply Kd.S_alloc | apply Kd.S_drewN | apply Kd.S_drew)); exact HO_142003.out) (Kd.R_base ho84) hb)
          have n1_ := Aside0.mk (Kd.R_lower ho84 (below_size (lq HB.out)))
          have n2_ := Aside0.mk (blk_below (bq BK139.out) hb)
          have n3_ := Aside0.mk (blk_below (bq BK140.out) hb)
          have n4_ := Aside0.mk (blk_below (bq BK141.out) hb)
          have n5_ := Aside0.mk (below_step (lq HB.out) hb)
          clear HO_142003
          clear BK139
          clear BK140
          clear BK141
          clear HB
          have HO_142003 := n0_
          have HO145 := n1_
          have BK139 := n2_
          have BK140 := n3_
          have BK141 := n4_
          have HB := n5_
          clear n0_ n1_ n2_ n3_ n4_ n5_
          clear hb ho84
          refine hK.out _ _ ⟨(blk_cell BK141.out 0).trans rfl, (blk_cell BK141.out 1).trans rfl, (blk_cell BK141.out 2).trans rfl, (blk_cell BK141.out 3).trans rfl⟩ (fun hHeld => ?_)
          clear hK K
          refine norm_ (a' := ?_) ?_ ?_
          rotate_left
          ·show Act.put _ (some 55) _ = _
           simp only [Act.put, List.setIfInBounds_toArray, List.set_cons_zero, List.set_cons_succ, i64_w, i32_w]
           rfl
          refine one_ (i := 4) (N := some 57) #[true, true, true, true, true, false, false, false, false] rfl rfl (one_of HT_.out (by kernel_rfl)) (by decide) (fun K hK => ?_)
          refine Kd.R_append_rows_step k118 (w0 := w) w.heap.size (by rfl) (.tmp 55) (.tmp 56) 116 118 (.agg #[(.int .i64 0), (.bool false)]) 16 rfl Try.underlying116 info118 rfl (by decide) (by omega) v144 y143 (rd_L3 l0_3 x15_1) _ _ _ (fun _ => True) (fun _ => False) rfl rfl ?aO ?aR (fun _ _ h => h) (fun _ h => h.elim) ?aF ?aB ?aS ?aL ?_
          (case aR => repeat (first | exact (Kd.C_below HR142_0.out HB.out) | (with_reducible refine Kd.C_alloc ?_ _) | (with_reducible refine Kd.C_drewN ?_ _) | (with_reducible refine Kd.C_drew ?_)))
          (case aB => exact (lq HB.out))
          (case aF => exact (fun _ _ => trivial))
          (case aO => exact (rq HO145.out))
          (case aS => exact (below_size (lq HB.out)))
          (case aL => have := LMc77.out; omega)
          intro v147 w85 ho hb hg hat
          rw [← Ny146.out] at ho
          have n0_ := Aside0.mk (Kd.S_after (ok := (fun _ => True)) (by (with_reducible repeat (first | apply Kd.S_alloc | apply Kd.S_drewN | apply Kd.S_drew)); exact HO_142003.out) hg hat)
          have n1_ := Aside0.mk (blk_grown (g := gb139) (o := .cells #[.int .i64 a0_0, .int .i64 a0_1, .int .i64 a0_2, .slice (some ad142) l0_3.length c0_3] 70 (0, 0)) (bq BK139.out) hg (Kd.R_ne HO145.out BK139.out (by decide)))
          have n2_ := Aside0.mk (blk_grown (g := gb140) (o := .cells #[.int .i64 0, .int .i64 0, .int .i64 0, .slice none 0 0] 70 (0, 0)) (bq BK140.out) hg (Kd.R_ne HO145.out BK140.out (by decide)))
          have n3_ := Aside0.mk (blk_grown (g := gb141) (o := .cells #[.int .i64 a0_0, .int .i64 a0_1, .int .i64 a0_2, u142003] 70 (0, 0)) (bq BK141.out) hg (Kd.R_ne HO145.out BK141.out (by decide)))
          have n4_ := Aside0.mk (hb)
          have n5_ := Aside0.mk (ho)
          clear HO_142003
          clear BK139
          clear BK140
          clear BK141
          clear HB
          clear HO145
          have HO_142003 := n0_
          have BK139 := n1_
          have BK140 := n2_
          have BK141 := n3_
          have HB := n4_
          have HO148 := n5_
          clear n0_ n1_ n2_ n3_ n4_ n5_
          clear ho hb hg hat
          obtain ⟨Ao87, co87, eo87⟩ := Kd.R_slice HO148.out
          (first | subst eo87 | (injection eo87 with f1_ f2_ f3_; have f4_ := f1_.symm; have f5_ := f3_.symm; clear f1_ f2_ f3_; subst f4_; subst f5_))
          refine hK.out _ _ ⟨(blk_cell BK141.out 0).trans rfl, (blk_cell BK141.out 1).trans rfl, (blk_cell BK141.out 2).trans rfl, (blk_cell BK141.out 3).trans rfl⟩ (fun hHeld => ?_)
          clear hK K
          refine norm_ (a' := ?_) ?_ ?_
          rotate_left
          ·show Act.put _ (some 57) _ = _
           simp only [Act.put, List.setIfInBounds_toArray, List.set_cons_zero, List.set_cons_succ, i64_w, i32_w]
           rfl
          refine one_ (i := 5) (N := some 58) #[true, true, true, true, true, true, false, false, false] rfl rfl (one_of HT_.out (by kernel_rfl)) (by decide) (fun K hK => ?_)
          refine value_ (w1 := ?_) (v := ?_) (by rfl) rfl ?_ ?_
          rotate_left 2
          ·go_simp
           constructor
           ·rfl
           ·rfl
          refine hK.out _ _ ⟨(blk_cell (blk_alloc BK141.out _) 0).trans rfl, (blk_cell (blk_alloc BK141.out _) 1).trans rfl, (blk_cell (blk_alloc BK141.out _) 2).trans rfl, (blk_cell (blk_alloc BK141.out _) 3).trans rfl⟩ (fun hHeld => ?_)
          clear hK K
          refine norm_ (a' := ?_) ?_ ?_
          rotate_left
          ·show Act.put _ (some 58) _ = _
           simp only [Act.put, List.setIfInBounds_toArray, List.set_cons_zero, List.set_cons_succ, i64_w, i32_w]
           rfl
          refine one_ (i := 6) (N := some 59) #[true, true, true, true, true, true, true, false, false] rfl rfl (one_of HT_.out (by kernel_rfl)) (by decide) (fun K hK => ?_)
          refine Kd.S_append_step (Kd.slice 118 k118) (w0 := w) w.heap.size (by rfl) (.tmp 54) (.tmp 58) 68 116 (.slice none 0 0) 24 rfl Try.underlying68 info116 rfl (by decide) (by omega) u142003 x142003_1 y146 [.slice Ao87 y146.length co87] (fun _ => True) (fun k_ => some k_ = (.slice Ao87 y146.length co87 : Value).ownBlock) rfl rfl ?aP (fun k_ hk_ => ((Kd.R_mono (ok' := fun k_ => ((fun _ => True)) k_ ∧ some k_ ≠ (u142003 : Value).ownBlock) (Kd.R_apart' (HO148.out) (Kd.S_typed HO_142003.out) (by decide)) (fun k_ hk => ⟨trivial, hk.2⟩))).1 k_ hk_.symm) ?aF ?aO ?aB ?aS ?aL ?_
          (case aP => exact Kd.M_row (Kd.R_mono (Kd.R_tight rfl (Kd.R_mono (ok' := fun k_ => ((fun _ => True)) k_ ∧ some k_ ≠ (u142003 : Value).ownBlock) (Kd.R_apart' (HO148.out) (Kd.S_typed HO_142003.out) (by decide)) (fun k_ hk => ⟨trivial, hk.2⟩))) (fun _ h_ => h_)))
          (case aB => exact (lq HB.out))
          (case aF => exact (fun _ _ => trivial))
          (case aO => exact (by (with_reducible repeat (first | apply Kd.S_alloc | apply Kd.S_drewN | apply Kd.S_drew)); exact Kd.S_mono HO_142003.out (fun k_ hk => ⟨trivial, fun e_ => hk.2 e_⟩)))
          (case aS => exact (below_size (lq HB.out)))
          (case aL => have := LMc78.out; omega)
          intro v150 w86 ho hb hg hat
          rw [← Ny149.out] at ho
          have n0_ := Aside0.mk (blk_grown (g := gb139) (o := .cells #[.int .i64 a0_0, .int .i64 a0_1, .int .i64 a0_2, .slice (some ad142) l0_3.length c0_3] 70 (0, 0)) (bq BK139.out) hg (Kd.S_ne HO_142003.out BK139.out (by decide)))
          have n1_ := Aside0.mk (blk_grown (g := gb140) (o := .cells #[.int .i64 0, .int .i64 0, .int .i64 0, .slice none 0 0] 70 (0, 0)) (bq BK140.out) hg (Kd.S_ne HO_142003.out BK140.out (by decide)))
          have n2_ := Aside0.mk (blk_grown (g := gb141) (o := .cells #[.int .i64 a0_0, .int .i64 a0_1, .int .i64 a0_2, u142003] 70 (0, 0)) (bq BK141.out) hg (Kd.S_ne HO_142003.out BK141.out (by decide)))
          have n3_ := Aside0.mk (hb)
          have n4_ := Aside0.mk (ho)
          clear BK139
          clear BK140
          clear BK141
          clear HB
          clear HO_142003
          clear HO148
          have BK139 := n0_
          have BK140 := n1_
          have BK141 := n2_
          have HB := n3_
          have HO151 := n4_
          clear n0_ n1_ n2_ n3_ n4_
          clear ho hb hg hat
          obtain ⟨Ao88, co88, eo88⟩ := Kd.S_slice HO151.out
          (first | subst eo88 | (injection eo88 with f1_ f2_ f3_; have f4_ := f1_.symm; have f5_ := f3_.symm; clear f1_ f2_ f3_; subst f4_; subst f5_))
          refine hK.out _ _ ⟨(blk_cell BK141.out 0).trans rfl, (blk_cell BK141.out 1).trans rfl, (blk_cell BK141.out 2).trans rfl, (blk_cell BK141.out 3).trans rfl⟩ (fun hHeld => ?_)
          clear hK K
          refine norm_ (a' := ?_) ?_ ?_
          rotate_left
          ·show Act.put _ (some 59) _ = _
           simp only [Act.put, List.setIfInBounds_toArray, List.set_cons_zero, List.set_cons_succ, i64_w, i32_w]
           rfl
          refine pure_ (i := 7) (N := some 60) (v := ?_) (a' := ?_) #[true, true, true, true, true, true, true, true, false] rfl rfl (any_of HT_.out (by kernel_rfl)) (fun _ _ _ h => h) (Or.inl ⟨by rfl, ?_⟩) ?_ ?_
          rotate_left
          ·intro w'
           go_simp
           with_reducible rfl
          rotate_left
          ·simp only [Act.put, List.setIfInBounds_toArray, List.set_cons_zero, List.set_cons_succ, i64_w, i32_w]
           rfl
          refine last_ (i := 8) (N := none) #[true, true, true, true, true, true, true, true, true] rfl rfl (one_of HT_.out (by kernel_rfl)) (by decide) (fun K hK => ?_)
          have hs89 : w86.cell? ⟨gb141, 3, none⟩ = some (u142003) := (blk_cell BK141.out 3).trans rfl
          have hfs89 := blk_frozen BK141.out 3
          have hns89_0 := NB139_141.out
          have hns89_1 := NB140_141.out
          have hms89_0 := NB141_139.out
          have hms89_1 := NB141_140.out
          refine skip_ (w1 := ?_) (by rfl) rfl ?_ ?_
          rotate_left
          ·go_simp
           rfl
          refine hK.out _ _ ?_
          clear hK K
          refine done_ (done_of HT_.out (by kernel_rfl)) ?_
          try go_wp2
          go_roundg k1
          case measure => have := HK1.out; omega
          case rel => exact ⟨(x13_1), (x14_1), (wrap64 (x15_1 + 1)), (y149), (.slice Ao88 y149.length co88), (by first | rfl | (simp; done) | (simp [*]; done)), (by first | rfl | (simp; done) | (simp [*]; done)), (by first | rfl | (simp; done) | (simp [*]; done)), H', ⟨by have := HK1.out; omega⟩, ⟨by (with_reducible repeat (first | apply Kd.S_alloc | apply Kd.S_drewN | apply Kd.S_drew)); exact Kd.S_mono (Kd.S_far (p := ⟨gb141, 3, none⟩) (Kd.S_types HO151.out BK141.out (by decide)) (fun _ hk => hk.2) (.slice Ao88 y149.length co88)) (fun _ hk => trivial)⟩, ⟨by (with_reducible repeat (first | refine blk_drewN ?_ _ | refine blk_drew ?_ | refine blk_alloc ?_ _)); refine blk_far ?_ NB139_141.out _; (with_reducible repeat (first | refine blk_drewN ?_ _ | refine blk_drew ?_ | refine blk_alloc ?_ _)); exact BK139.out⟩, ⟨by (with_reducible repeat (first | refine blk_drewN ?_ _ | refine blk_drew ?_ | refine blk_alloc ?_ _)); refine blk_far ?_ NB140_141.out _; (with_reducible repeat (first | refine blk_drewN ?_ _ | refine blk_drew ?_ | refine blk_alloc ?_ _)); exact BK140.out⟩, ⟨by (with_reducible repeat (first | refine blk_drewN ?_ _ | refine blk_drew ?_ | refine blk_alloc ?_ _)); refine blk_put (cs := #[.int .i64 a0_0, .int .i64 a0_1, .int .i64 a0_2, u142003]) ?_ 3 _ rfl; (with_reducible repeat (first | refine blk_drewN ?_ _ | refine blk_drew ?_ | refine blk_alloc ?_ _)); exact BK141.out⟩, ⟨by repeat (first | (with_reducible first | exact HB.out | apply below_alloc | apply pw_below_drewN | apply below_drew1 | refine below_set ?_ GE141.out) | exact HB.out)⟩⟩
         ·rw [if_neg c78] at H
          exact absurd H (by simp)
        ·rw [if_neg c77] at H
         exact absurd H (by simp)
      ·rw [if_neg c15] at H
       exact absurd H (by simp)
     ·rw [if_neg c14] at H
      have c14b0 : decide (x15_1 < (l0_3.length : Int)) = false := decide_eq_false c14
      clear c14
      simp only [Option.some.injEq, Prod.mk.injEq] at H
      obtain ⟨rfl, rfl, rfl, rfl, rfl, rfl⟩ := H
      have hnb90 := NB139_140.out
      have hnc90 := NB140_139.out
      have hnb91 := NB139_141.out
      have hnc91 := NB141_139.out
      have hcz92_0 : wr.cell? ⟨gb139, 0, none⟩ = some (.int .i64 a0_0) := (blk_cell BK139.out 0).trans rfl
      have hcz92_1 : wr.cell? ⟨gb139, 1, none⟩ = some (.int .i64 a0_1) := (blk_cell BK139.out 1).trans rfl
      have hcz92_2 : wr.cell? ⟨gb139, 2, none⟩ = some (.int .i64 a0_2) := (blk_cell BK139.out 2).trans rfl
      have hcz92_3 : wr.cell? ⟨gb139, 3, none⟩ = some (.slice A0_3 l0_3.length c0_3) := (blk_cell BK139.out 3).trans rfl
      have hfz92_0 := blk_frozen BK139.out 0
      have hfz92_1 := blk_frozen BK139.out 1
      have hfz92_2 := blk_frozen BK139.out 2
      have hfz92_3 := blk_frozen BK139.out 3
      have hnb93 := NB141_140.out
      have hnc93 := NB140_141.out
      have hcz94_0 : wr.cell? ⟨gb141, 0, none⟩ = some (.int .i64 a0_0) := (blk_cell BK141.out 0).trans rfl
      have hcz94_1 : wr.cell? ⟨gb141, 1, none⟩ = some (.int .i64 a0_1) := (blk_cell BK141.out 1).trans rfl
      have hcz94_2 : wr.cell? ⟨gb141, 2, none⟩ = some (.int .i64 a0_2) := (blk_cell BK141.out 2).trans rfl
      have hcz94_3 : wr.cell? ⟨gb141, 3, none⟩ = some (u142003) := (blk_cell BK141.out 3).trans rfl
      have hfz94_0 := blk_frozen BK141.out 0
      have hfz94_1 := blk_frozen BK141.out 1
      have hfz94_2 := blk_frozen BK141.out 2
      have hfz94_3 := blk_frozen BK141.out 3
      have hcz95_0 : wr.cell? ⟨gb140, 0, none⟩ = some (.int .i64 0) := (blk_cell BK140.out 0).trans rfl
      have hcz95_1 : wr.cell? ⟨gb140, 1, none⟩ = some (.int .i64 0) := (blk_cell BK140.out 1).trans rfl
      have hcz95_2 : wr.cell? ⟨gb140, 2, none⟩ = some (.int .i64 0) := (blk_cell BK140.out 2).trans rfl
      have hcz95_3 : wr.cell? ⟨gb140, 3, none⟩ = some (.slice none 0 0) := (blk_cell BK140.out 3).trans rfl
      have hfz95_0 := blk_frozen BK140.out 0
      have hfz95_1 := blk_frozen BK140.out 1
      have hfz95_2 := blk_frozen BK140.out 2
      have hfz95_3 := blk_frozen BK140.out 3
      obtain ⟨Ao96, co96, eo96⟩ := Kd.S_slice HO_142003.out
      subst eo96
      go_wp2
      refine bodyPost_ret (results_ctt rfl _ _ gb140 70 #[.int .i64 a0_0, .int .i64 a0_1, .int .i64 a0_2, .slice Ao96 x142003_1.length co96] (0, 0) _ rfl (by (with_reducible repeat (first | refine blk_drewN ?_ _ | refine blk_drew ?_ | refine blk_alloc ?_ _)); refine blk_put (cs := #[.int .i64 a0_0, .int .i64 a0_1, .int .i64 a0_2, .slice none 0 0]) ?_ 3 _ rfl; (with_reducible repeat (first | refine blk_drewN ?_ _ | refine blk_drew ?_ | refine blk_alloc ?_ _)); refine blk_put (cs := #[.int .i64 a0_0, .int .i64 a0_1, .int .i64 0, .slice none 0 0]) ?_ 2 _ rfl; (with_reducible repeat (first | refine blk_drewN ?_ _ | refine blk_drew ?_ | refine blk_alloc ?_ _)); refine blk_put (cs := #[.int .i64 a0_0, .int .i64 0, .int .i64 0, .slice none 0 0]) ?_ 1 _ rfl; (with_reducible repeat (first | refine blk_drewN ?_ _ | refine blk_drew ?_ | refine blk_alloc ?_ _)); refine blk_put (cs := #[.int .i64 0, .int .i64 0, .int .i64 0, .slice none 0 0]) ?_ 0 _ rfl; (with_reducible repeat (first | refine blk_drewN ?_ _ | refine blk_drew ?_ | refine blk_alloc ?_ _)); exact BK140.out) Try.underlying70 rfl (by kernel_rfl)) rfl ?_
      exact ⟨_, by first | rfl | (simp [errW_none, errW_some] <;> rfl) | (simp [*, errW_none, errW_some] <;> rfl), by (with_reducible repeat (first | apply Kd.S_alloc | apply Kd.S_drewN | apply Kd.S_drew)); exact Kd.S_mono (Kd.S_far (p := ⟨gb140, 3, none⟩) (Kd.S_far (p := ⟨gb140, 2, none⟩) (Kd.S_far (p := ⟨gb140, 1, none⟩) (Kd.S_far (p := ⟨gb140, 0, none⟩) (Kd.S_types HO_142003.out BK140.out (by decide)) (fun _ hk => hk.2) (.int .i64 a0_0)) (fun _ hk => hk.2) (.int .i64 a0_1)) (fun _ hk => hk.2) (.int .i64 a0_2)) (fun _ hk => hk.2) (.slice Ao96 x142003_1.length co96)) (fun _ hk => trivial), by repeat (first | (with_reducible first | exact HB.out | apply below_alloc | apply pw_below_drewN | apply below_drew1 | refine below_set ?_ GE140.out) | exact HB.out)⟩

end Go.Proofs.Ytglehilfemfiiaa.GR
