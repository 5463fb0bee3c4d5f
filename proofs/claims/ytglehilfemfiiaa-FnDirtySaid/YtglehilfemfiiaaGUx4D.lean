/- Told by a program of this session, out of the translation: each function of the group as a plain Lean function, and that Go's call comes to just its answer. Lean checks it. -/
import Derived.Test.YtglehilfemfiiaaGUx0D
namespace Go.Proofs.Ytglehilfemfiiaa.GU
open Go.RowKit Go.Proofs.YtglehilfemfiiaaW.PrintWords Go.Proofs.YtglehilfemfiiaaW.PrintLast Go.Proofs.YtglehilfemfiiaaW.PrintMore Go.Proofs.Ytglehilfemfiiaa.Q
attribute [local go_sem] max2_int min2_int max_two min_two max_three min_three max_four min_four   -- for this text's walks alone
set_option linter.unusedVariables false
set_option linter.unusedSimpArgs false

/-! ### spec_l05Use: function 65 -/
mutual
def spec_l05Use.l0 : Nat → Bool → Int → Int → Bool → Bool → Int → Int → Int → Int → List (List (S118)) → Int → Int → Int → List (List (S118)) → Option (Int × Int × Int × (List (List (S118))) × Bool × Bool)
 | 0, _, _, _, _, _, _, _, _, _, _, _, _, _, _ => none
 | k + 1, x2, x10, x11, x13, x14, x15, x126000, x126001, x126002, x126003, x128000, x128001, x128002, x128003 => if x15 < (x126003.length : Int) then (if 0 ≤ x15 then (if x15 = x10 then (spec_l05Use.l1 k x2 x10 x11 x13 x14 x15 (rd_L3 x126003 x15) (([] : List (S118))) 0 x126000 x126001 x126002 x126003 x128000 x128001 x128002 x128003 x11 x2) else ((some (([] : List (S118)) : List (S118))).bind fun y129 => (if y129.length + (rd_L3 x126003 x15).length < 8796093022208 then (if x128003.length < 5864062014805 then (spec_l05Use.l0 k x2 x10 x11 x13 x14 (wrap64 (x15 + 1)) x126000 x126001 x126002 x126003 x128000 x128001 x128002 (x128003 ++ [(y129 ++ (rd_L3 x126003 x15))])) else (none)) else (none)))) else (none)) else (some (x128000, x128001, x128002, x128003, x13, x14))
def spec_l05Use.l1 : Nat → Bool → Int → Int → Bool → Bool → Int → List (S118) → List (S118) → Int → Int → Int → Int → List (List (S118)) → Int → Int → Int → List (List (S118)) → Int → Bool → Option (Int × Int × Int × (List (List (S118))) × Bool × Bool)
 | 0, _, _, _, _, _, _, _, _, _, _, _, _, _, _, _, _, _, _, _ => none
 | k + 1, x2, x10, x11, x13, x14, x15, x16, x18, x19, x126000, x126001, x126002, x126003, x128000, x128001, x128002, x128003, x139000, x139001 => if x19 < (x16.length : Int) then (if 0 ≤ x19 then (if ((rd_T118 x16 x19).f0) = x11 then (if x2 = true then (spec_l05Use.l1 k x2 x10 x11 true x14 x15 x16 x18 (wrap64 (x19 + 1)) x126000 x126001 x126002 x126003 x128000 x128001 x128002 x128003 x139000 true) else (spec_l05Use.l1 k x2 x10 x11 true x14 x15 x16 x18 (wrap64 (x19 + 1)) x126000 x126001 x126002 x126003 x128000 x128001 x128002 x128003 x139000 ((rd_T118 x16 x19).f1))) else (if x18.length < 8796093022208 then (spec_l05Use.l1 k x2 x10 x11 x13 x14 x15 x16 (x18 ++ [(⟨(rd_T118 x16 x19).f0, (rd_T118 x16 x19).f1⟩ : S118)]) (wrap64 (x19 + 1)) x126000 x126001 x126002 x126003 x128000 x128001 x128002 x128003 x139000 x139001) else (none))) else (none)) else (if (x18.length : Int) = x126001 then (if 0 ≤ (wrap64 ((x18.length : Int) - 1)) then (if (wrap64 ((x18.length : Int) - 1)) < (x18.length : Int) then (if (wrap64 ((x18.length : Int) - 1)) ≤ (x18.length : Int) then ((some (x18.take ((wrap64 ((x18.length : Int) - 1)) : Int).toNat : List (S118))).bind fun y149 => ((some (([(⟨x139000, x139001⟩ : S118)] : List (S118)) : List (S118))).bind fun y152 => (if y152.length + y149.length < 8796093022208 then (if x128003.length < 5864062014805 then (spec_l05Use.l0 k x2 x10 x11 x13 ((rd_T118 x18 (wrap64 ((x18.length : Int) - 1))).f1) (wrap64 (x15 + 1)) x126000 x126001 x126002 x126003 x128000 x128001 x128002 (x128003 ++ [(y152 ++ y149)])) else (none)) else (none)))) else (none)) else (none)) else (none)) else ((some (([(⟨x139000, x139001⟩ : S118)] : List (S118)) : List (S118))).bind fun y161 => (if y161.length + x18.length < 8796093022208 then (if x128003.length < 5864062014805 then (spec_l05Use.l0 k x2 x10 x11 x13 x14 (wrap64 (x15 + 1)) x126000 x126001 x126002 x126003 x128000 x128001 x128002 (x128003 ++ [(y161 ++ x18)])) else (none)) else (none))))
end
def spec_l05Use.f (k : Nat) (a0_0 : Int) (a0_1 : Int) (a0_2 : Int) (l0_3 : List (List (S118))) (a1 : Int) (a2 : Bool) : Option (Int × Int × Int × (List (List (S118))) × Bool × Bool) := if a0_2 = 0 then (none) else (if a0_0 = 0 then (none) else (spec_l05Use.l0 k a2 (Int.tmod (wrap64 (Int.tdiv a1 a0_2)) a0_0) (wrap64 (Int.tdiv (wrap64 (Int.tdiv a1 a0_2)) a0_0)) false false 0 a0_0 a0_1 a0_2 l0_3 a0_0 a0_1 a0_2 ([] : List (List (S118)))))
def spec_l05Use.T11 : Bool × List (List Nat × List Nat) := (true, [([], []), ([0], [0]), ([], []), ([], []), ([2, 3], [2, 3]), ([4], [4]), ([1, 5, 4], [1, 5]), ([0, 1, 2, 3, 4, 5, 6], []), ([7, 6, 6, 0, 1, 2, 3, 4, 5, 6], [6, 7])])
def spec_l05Use.B11 : List Nat := [0, 1, 0, 0, 12, 28, 63, 127, 255]
theorem spec_l05Use.tab11 : rtab .any (opsOf Try.f65 11) = spec_l05Use.T11 := by kernel_rfl
theorem spec_l05Use.bits11 : waitsOk spec_l05Use.T11.2 spec_l05Use.B11 = true := by kernel_rfl
def spec_l05Use.T24 : Bool × List (List Nat × List Nat) := (true, [([], []), ([0], [0]), ([], []), ([2], [2]), ([], []), ([3, 4], [3, 4]), ([5], [5]), ([1, 6, 5], [1, 6]), ([0, 1, 2, 3, 4, 5, 6, 7], []), ([8, 7, 7, 0, 1, 2, 3, 4, 5, 6, 7], [7, 8])])
def spec_l05Use.B24 : List Nat := [0, 1, 0, 4, 0, 28, 60, 127, 255, 511]
theorem spec_l05Use.tab24 : rtab .any (opsOf Try.f65 24) = spec_l05Use.T24 := by kernel_rfl
theorem spec_l05Use.bits24 : waitsOk spec_l05Use.T24.2 spec_l05Use.B24 = true := by kernel_rfl
set_option maxHeartbeats 8000000 in
set_option maxRecDepth 100000 in
theorem spec_l05Use.calls (k : Nat) (a0_0 : Int) (a0_1 : Int) (a0_2 : Int) (A0_3 : Option Addr) (c0_3 : Nat) (l0_3 : List (List (S118))) (a1 : Int) (a2 : Bool) (r1 : Int) (r2 : Int) (r3 : Int) (r4 : List (List (S118))) (r5 : Bool) (r6 : Bool) (w : World) (hr0_3 : Kd.C (Kd.slice 118 k118) w A0_3 l0_3.length l0_3) (hc0_3 : l0_3.length ≤ c0_3) (h : spec_l05Use.f k a0_0 a0_1 a0_2 l0_3 a1 a2 = some (r1, r2, r3, r4, r5, r6)) :
  Calls Try.prog 65 #[.agg #[.int .i64 a0_0, .int .i64 a0_1, .int .i64 a0_2, .slice A0_3 l0_3.length c0_3], .int .i64 a1, .bool a2] w fun e w' => ∃ v3_ : Value, e = .returned (.tuple #[.agg #[.int .i64 r1, .int .i64 r2, .int .i64 r3, v3_], .bool r5, .bool r6]) ∧ Kd.S (Kd.slice 118 k118) 116 w' w.heap.size (fun _ => True) v3_ r4 ∧ Below w.heap.size w w' := by
 have hu70 := Try.underlying70
 have hu25 := Try.underlying25
 have hu118 := Try.underlying118
 have HR0_3 := Aside0.mk hr0_3
 have HC0_3 := Aside0.mk hc0_3
 clear hr0_3 hc0_3
 have HB := Aside0.mk (Below.refl w.heap.size w)
 have H : (if a0_2 = 0 then (none) else (if a0_0 = 0 then (none) else (spec_l05Use.l0 k a2 (Int.tmod (wrap64 (Int.tdiv a1 a0_2)) a0_0) (wrap64 (Int.tdiv (wrap64 (Int.tdiv a1 a0_2)) a0_0)) false false 0 a0_0 a0_1 a0_2 l0_3 a0_0 a0_1 a0_2 ([] : List (List (S118)))))) = some (r1, r2, r3, r4, r5, r6) := h
 clear h
 by_cases c4 : a0_2 = 0
 ·rw [if_pos c4] at H
  exact absurd H (by simp)
 ·rw [if_neg c4] at H
  have c4b0 : (a0_2 == 0) = false := beq_eq_false_iff_ne.mpr c4
  have c4b1 : (a0_2 != 0) = true := bne_iff_ne.mpr c4
  by_cases c5 : a0_0 = 0
  ·rw [if_pos c5] at H
   exact absurd H (by simp)
  ·rw [if_neg c5] at H
   have c5b0 : (a0_0 == 0) = false := beq_eq_false_iff_ne.mpr c5
   have c5b1 : (a0_0 != 0) = true := bne_iff_ne.mpr c5
   have H' := Aside0.mk H
   clear H
   go_enter Try.func65, Try.ntmps65
   go_wp2_with (first | ((with_reducible refine gate_dst (N := 3) rfl ?_); refine box_event ?hg (N := 3) ?hd (cs := #[.int .i64 a0_0, .int .i64 a0_1, .int .i64 a0_2, .slice A0_3 l0_3.length c0_3]) (t := 70) ?hr ?_; (case hd => rfl); (case hg => rfl); (case hr => first | (go_simp; done) | (go_simp; rfl)); intro gb125 hg w6 hbox hb; have n0_ := Aside0.mk (below_step (lq HB.out) hb); have n1_ := Aside0.mk (hbox); have n2_ := Aside0.mk ((ge_new hg (lq HB.out) : w.heap.size ≤ gb125)); have n3_ := Aside0.mk ((ge_new hg (lq HB.out) : w.heap.size ≤ gb125)); clear HB; have HB := n0_; have BK125 := n1_; have GW125 := n2_; have GE125 := n3_; clear n0_ n1_ n2_ n3_; clear hb hbox hg) | ((with_reducible refine gate_dst (N := 6) rfl ?_); refine box_event ?hg (N := 6) ?hd (cs := #[.int .i64 0, .int .i64 0, .int .i64 0, .slice none 0 0]) (t := 70) ?hr ?_; (case hd => rfl); (case hg => rfl); (case hr => first | (go_simp; done) | (go_simp; rfl)); intro gb126 hg w7 hbox hb; have n0_ := Aside0.mk (blk_below (bq BK125.out) hb); have n1_ := Aside0.mk (below_step (lq HB.out) hb); have n2_ := Aside0.mk (hbox); have n3_ := Aside0.mk ((ge_new hg (lq HB.out) : w.heap.size ≤ gb126)); have n4_ := Aside0.mk ((ge_new hg (lq HB.out) : w.heap.size ≤ gb126)); have n5_ := Aside0.mk ((ne_new hg (bq BK125.out) : gb125 ≠ gb126)); have n6_ := Aside0.mk ((new_ne hg (bq BK125.out) : gb126 ≠ gb125)); clear BK125; clear HB; have BK125 := n0_; have HB := n1_; have BK126 := n2_; have GW126 := n3_; have GE126 := n4_; have NB125_126 := n5_; have NB126_125 := n6_; clear n0_ n1_ n2_ n3_ n4_ n5_ n6_; clear hb hbox hg; have hnb8 := NB125_126.out; have hnc8 := NB126_125.out; have hcz9_0 : w7.cell? ⟨gb125, 0, none⟩ = some (.int .i64 a0_0) := (blk_cell BK125.out 0).trans rfl; have hcz9_1 : w7.cell? ⟨gb125, 1, none⟩ = some (.int .i64 a0_1) := (blk_cell BK125.out 1).trans rfl; have hcz9_2 : w7.cell? ⟨gb125, 2, none⟩ = some (.int .i64 a0_2) := (blk_cell BK125.out 2).trans rfl; have hcz9_3 : w7.cell? ⟨gb125, 3, none⟩ = some (.slice A0_3 l0_3.length c0_3) := (blk_cell BK125.out 3).trans rfl; have hfz9_0 := blk_frozen BK125.out 0; have hfz9_1 := blk_frozen BK125.out 1; have hfz9_2 := blk_frozen BK125.out 2; have hfz9_3 := blk_frozen BK125.out 3) | ((with_reducible refine gate_dst (N := 12) rfl ?_); refine box_event ?hg (N := 12) ?hd (cs := #[.int .i64 0, .int .i64 0, .int .i64 0, .slice none 0 0]) (t := 70) ?hr ?_; (case hd => rfl); (case hg => rfl); (case hr => first | (go_simp; done) | (go_simp; rfl)); intro gb127 hg w10 hbox hb; have n0_ := Aside0.mk (blk_below (bq BK125.out) hb); have n1_ := Aside0.mk (blk_below (bq BK126.out) hb); have n2_ := Aside0.mk (below_step (lq HB.out) hb); have n3_ := Aside0.mk (hbox); have n4_ := Aside0.mk ((ge_new hg (lq HB.out) : w.heap.size ≤ gb127)); have n5_ := Aside0.mk ((ge_new hg (lq HB.out) : w.heap.size ≤ gb127)); have n6_ := Aside0.mk ((ne_new hg (bq BK125.out) : gb125 ≠ gb127)); have n7_ := Aside0.mk ((new_ne hg (bq BK125.out) : gb127 ≠ gb125)); have n8_ := Aside0.mk ((ne_new hg (bq BK126.out) : gb126 ≠ gb127)); have n9_ := Aside0.mk ((new_ne hg (bq BK126.out) : gb127 ≠ gb126)); clear BK125; clear BK126; clear HB; have BK125 := n0_; have BK126 := n1_; have HB := n2_; have BK127 := n3_; have GW127 := n4_; have GE127 := n5_; have NB125_127 := n6_; have NB127_125 := n7_; have NB126_127 := n8_; have NB127_126 := n9_; clear n0_ n1_ n2_ n3_ n4_ n5_ n6_ n7_ n8_ n9_; clear hb hbox hg; have hnb11 := NB127_125.out; have hnc11 := NB125_127.out; have hnb12 := NB127_126.out; have hnc12 := NB126_127.out; have hcz13_0 : w10.cell? ⟨gb127, 0, none⟩ = some (.int .i64 0) := (blk_cell BK127.out 0).trans rfl; have hcz13_1 : w10.cell? ⟨gb127, 1, none⟩ = some (.int .i64 0) := (blk_cell BK127.out 1).trans rfl; have hcz13_2 : w10.cell? ⟨gb127, 2, none⟩ = some (.int .i64 0) := (blk_cell BK127.out 2).trans rfl; have hcz13_3 : w10.cell? ⟨gb127, 3, none⟩ = some (.slice none 0 0) := (blk_cell BK127.out 3).trans rfl; have hfz13_0 := blk_frozen BK127.out 0; have hfz13_1 := blk_frozen BK127.out 1; have hfz13_2 := blk_frozen BK127.out 2; have hfz13_3 := blk_frozen BK127.out 3))
   go_loopg [13, 14, 15] k (fun kq v13 v14 v15 w' => ∃ (x13_1 : Bool) (x14_1 : Bool) (x15_1 : Int) (x128003_1 : List (List (S118))) (u128003 : Value), v13 = .bool x13_1 ∧ v14 = .bool x14_1 ∧ v15 = .int .i64 x15_1 ∧ Aside0 (spec_l05Use.l0 kq a2 (Int.tmod (wrap64 (Int.tdiv a1 a0_2)) a0_0) (wrap64 (Int.tdiv (wrap64 (Int.tdiv a1 a0_2)) a0_0)) x13_1 x14_1 x15_1 a0_0 a0_1 a0_2 l0_3 a0_0 a0_1 a0_2 x128003_1 = some (r1, r2, r3, r4, r5, r6)) ∧ Aside0 (kq ≤ k) ∧ Aside0 (Kd.S (Kd.slice 118 k118) 116 w' w.heap.size (fun _ => True) u128003 x128003_1) ∧ Aside0 (w'.heap[gb125]? = some (.cells #[.int .i64 a0_0, .int .i64 a0_1, .int .i64 a0_2, (.slice A0_3 l0_3.length c0_3)] 70 (0, 0))) ∧ Aside0 (w'.heap[gb126]? = some (.cells #[.int .i64 0, .int .i64 0, .int .i64 0, (.slice none 0 0)] 70 (0, 0))) ∧ Aside0 (w'.heap[gb127]? = some (.cells #[.int .i64 a0_0, .int .i64 a0_1, .int .i64 a0_2, u128003] 70 (0, 0))) ∧ Aside0 (Below w.heap.size w w'))
   case atStart => exact ⟨(false), (false), (0), (([] : List (List (S118)))), (.slice none 0 0), (by first | rfl | (simp; done) | (simp [*]; done)), (by first | rfl | (simp; done) | (simp [*]; done)), (by first | rfl | (simp; done) | (simp [*]; done)), H', ⟨Nat.le_refl _⟩, ⟨by first | exact Kd.S_nil _ _ _ _ _ | exact Kd.N_nil _ _ _ _ _ | exact Kd.V_nil _ _ _ _ _ | exact Kd.Q_nil _ _ _ _ _ | exact Kd.R_nil _ _ _ _ _⟩, ⟨by (with_reducible repeat (first | refine blk_drewN ?_ _ | refine blk_drew ?_ | refine blk_alloc ?_ _)); refine blk_far ?_ NB125_127.out _; (with_reducible repeat (first | refine blk_drewN ?_ _ | refine blk_drew ?_ | refine blk_alloc ?_ _)); refine blk_far ?_ NB125_127.out _; (with_reducible repeat (first | refine blk_drewN ?_ _ | refine blk_drew ?_ | refine blk_alloc ?_ _)); refine blk_far ?_ NB125_127.out _; (with_reducible repeat (first | refine blk_drewN ?_ _ | refine blk_drew ?_ | refine blk_alloc ?_ _)); refine blk_far ?_ NB125_127.out _; (with_reducible repeat (first | refine blk_drewN ?_ _ | refine blk_drew ?_ | refine blk_alloc ?_ _)); exact BK125.out⟩, ⟨by (with_reducible repeat (first | refine blk_drewN ?_ _ | refine blk_drew ?_ | refine blk_alloc ?_ _)); refine blk_far ?_ NB126_127.out _; (with_reducible repeat (first | refine blk_drewN ?_ _ | refine blk_drew ?_ | refine blk_alloc ?_ _)); refine blk_far ?_ NB126_127.out _; (with_reducible repeat (first | refine blk_drewN ?_ _ | refine blk_drew ?_ | refine blk_alloc ?_ _)); refine blk_far ?_ NB126_127.out _; (with_reducible repeat (first | refine blk_drewN ?_ _ | refine blk_drew ?_ | refine blk_alloc ?_ _)); refine blk_far ?_ NB126_127.out _; (with_reducible repeat (first | refine blk_drewN ?_ _ | refine blk_drew ?_ | refine blk_alloc ?_ _)); exact BK126.out⟩, ⟨by (with_reducible repeat (first | refine blk_drewN ?_ _ | refine blk_drew ?_ | refine blk_alloc ?_ _)); refine blk_put (cs := #[.int .i64 a0_0, .int .i64 a0_1, .int .i64 a0_2, .slice none 0 0]) ?_ 3 _ rfl; (with_reducible repeat (first | refine blk_drewN ?_ _ | refine blk_drew ?_ | refine blk_alloc ?_ _)); refine blk_put (cs := #[.int .i64 a0_0, .int .i64 a0_1, .int .i64 0, .slice none 0 0]) ?_ 2 _ rfl; (with_reducible repeat (first | refine blk_drewN ?_ _ | refine blk_drew ?_ | refine blk_alloc ?_ _)); refine blk_put (cs := #[.int .i64 a0_0, .int .i64 0, .int .i64 0, .slice none 0 0]) ?_ 1 _ rfl; (with_reducible repeat (first | refine blk_drewN ?_ _ | refine blk_drew ?_ | refine blk_alloc ?_ _)); refine blk_put (cs := #[.int .i64 0, .int .i64 0, .int .i64 0, .slice none 0 0]) ?_ 0 _ rfl; (with_reducible repeat (first | refine blk_drewN ?_ _ | refine blk_drew ?_ | refine blk_alloc ?_ _)); exact BK127.out⟩, ⟨by repeat (first | (with_reducible first | exact HB.out | apply below_alloc | apply pw_below_drewN | apply below_drew1 | refine below_set ?_ GE127.out) | exact HB.out)⟩⟩
   case round =>
    clear H'
    try clear c1
    try clear p2
    try clear c4
    try clear c4b0
    try clear c4b1
    try clear c5
    try clear c5b0
    try clear c5b1
    try clear c6
    try clear p6
    try clear c8
    try clear c11
    try clear c12
    try clear hcz13_0
    try clear hcz13_1
    try clear hcz13_2
    try clear hcz13_3
    try clear hcz9_0
    try clear hcz9_1
    try clear hcz9_2
    try clear hcz9_3
    try clear hfz13_0
    try clear hfz13_1
    try clear hfz13_2
    try clear hfz13_3
    try clear hfz9_0
    try clear hfz9_1
    try clear hfz9_2
    try clear hfz9_3
    obtain ⟨x13_1, x14_1, x15_1, x128003_1, u128003, rfl, rfl, rfl, HA, HK1, HO_128003, BK125, BK126, BK127, HB⟩ := hrel
    cases gk with
    | zero => exact absurd HA.out (by simp [spec_l05Use.l0])
    | succ k1 =>
     have H := HA.out
     clear HA
     simp only [spec_l05Use.l0] at H
     by_cases c14 : x15_1 < (l0_3.length : Int)
     ·rw [if_pos c14] at H
      have c14b0 : decide (x15_1 < (l0_3.length : Int)) = true := decide_eq_true c14
      clear c14
      by_cases c15 : 0 ≤ x15_1
      ·rw [if_pos c15] at H
       have c15b0 : decide (0 ≤ x15_1) = true := decide_eq_true c15
       clear c15
       by_cases c16 : x15_1 = (Int.tmod (wrap64 (Int.tdiv a1 a0_2)) a0_0)
       ·rw [if_pos c16] at H
        have c16b0 : (x15_1 == (Int.tmod (wrap64 (Int.tdiv a1 a0_2)) a0_0)) = true := beq_iff_eq.mpr c16
        have c16b1 : (x15_1 != (Int.tmod (wrap64 (Int.tdiv a1 a0_2)) a0_0)) = false := bne_eq_false_iff_eq.mpr c16
        clear c16
        obtain ⟨y139, hy139⟩ : ∃ y_ : List (S118), y_ = (([] : List (S118))) := ⟨_, rfl⟩
        replace H : (spec_l05Use.l1 k1 a2 (Int.tmod (wrap64 (Int.tdiv a1 a0_2)) a0_0) (wrap64 (Int.tdiv (wrap64 (Int.tdiv a1 a0_2)) a0_0)) x13_1 x14_1 x15_1 (rd_L3 l0_3 x15_1) y139 0 a0_0 a0_1 a0_2 l0_3 a0_0 a0_1 a0_2 x128003_1 (wrap64 (Int.tdiv (wrap64 (Int.tdiv a1 a0_2)) a0_0)) a2) = some (r1, r2, r3, r4, r5, r6) := by first | (rw [hy139]; with_reducible exact H) | (have H2_ := (Option.bind_some _ _).symm.trans H; rw [hy139]; with_reducible exact H2_) | (have H2_ := (Option.bind_some _ _).symm.trans H; with_reducible exact H2_) | with_reducible exact H | (rw [hy139]; exact H) | exact H
        have Ny139 := Aside0.mk hy139
        clear hy139
        have H' := Aside0.mk H
        clear H
        have hnb17 := NB125_126.out
        have hnc17 := NB126_125.out
        have hnb18 := NB125_127.out
        have hnc18 := NB127_125.out
        have hcz19_0 : wr.cell? ⟨gb125, 0, none⟩ = some (.int .i64 a0_0) := (blk_cell BK125.out 0).trans rfl
        have hcz19_1 : wr.cell? ⟨gb125, 1, none⟩ = some (.int .i64 a0_1) := (blk_cell BK125.out 1).trans rfl
        have hcz19_2 : wr.cell? ⟨gb125, 2, none⟩ = some (.int .i64 a0_2) := (blk_cell BK125.out 2).trans rfl
        have hcz19_3 : wr.cell? ⟨gb125, 3, none⟩ = some (.slice A0_3 l0_3.length c0_3) := (blk_cell BK125.out 3).trans rfl
        have hfz19_0 := blk_frozen BK125.out 0
        have hfz19_1 := blk_frozen BK125.out 1
        have hfz19_2 := blk_frozen BK125.out 2
        have hfz19_3 := blk_frozen BK125.out 3
        have p128 : 0 ≤ (x15_1 : Int) := of_decide_eq_true (by first | (with_reducible assumption) | assumption)
        have q128 : x15_1 < (l0_3.length : Int) := of_decide_eq_true (by first | (with_reducible assumption) | assumption)
        obtain ⟨ad128, A128_0, c128_0, e128, hx128_0, hl128_0, hi128_0⟩ := at_L3 HR0_3.out x15_1 p128 q128
        cases e128
        replace hx128_0 := (HB.out.cell (World.block_lt_of_cell? w _ hx128_0)).trans hx128_0
        have HR128_0 := Aside0.mk hi128_0
        have HC128_0 := Aside0.mk hl128_0
        clear hi128_0 hl128_0
        replace p128 := eq_true p128
        replace q128 := eq_true q128
        go_wp2_with (first | ((with_reducible refine gate_dst (N := 17) rfl ?_); refine box_event ?hg (N := 17) ?hd (cs := #[.int .i64 0, .bool false]) (t := 118) ?hr ?_; (case hd => rfl); (case hg => rfl); (case hr => first | (go_simp; done) | (go_simp; rfl)); intro gb138 hg w20 hbox hb; have n0_ := Aside0.mk (Kd.S_below (Kd.S_elderB (by (with_reducible repeat (first | apply Kd.S_alloc | apply Kd.S_drewN | apply Kd.S_drew)); exact HO_128003.out) gb138 (Nat.le_of_eq hg.symm)) hb); have n1_ := Aside0.mk (blk_below (bq BK125.out) hb); have n2_ := Aside0.mk (blk_below (bq BK126.out) hb); have n3_ := Aside0.mk (blk_below (bq BK127.out) hb); have n4_ := Aside0.mk (below_step (lq HB.out) hb); have n5_ := Aside0.mk (hbox); have n6_ := Aside0.mk ((ge_new hg (lq HB.out) : w.heap.size ≤ gb138)); have n7_ := Aside0.mk ((ge_new hg (lq HB.out) : w.heap.size ≤ gb138)); have n8_ := Aside0.mk ((ne_new hg (bq BK125.out) : gb125 ≠ gb138)); have n9_ := Aside0.mk ((new_ne hg (bq BK125.out) : gb138 ≠ gb125)); have n10_ := Aside0.mk ((ne_new hg (bq BK126.out) : gb126 ≠ gb138)); have n11_ := Aside0.mk ((new_ne hg (bq BK126.out) : gb138 ≠ gb126)); have n12_ := Aside0.mk ((ne_new hg (bq BK127.out) : gb127 ≠ gb138)); have n13_ := Aside0.mk ((new_ne hg (bq BK127.out) : gb138 ≠ gb127)); clear HO_128003; clear BK125; clear BK126; clear BK127; clear HB; have HO_128003 := n0_; have BK125 := n1_; have BK126 := n2_; have BK127 := n3_; have HB := n4_; have BK138 := n5_; have GW138 := n6_; have GE138 := n7_; have NB125_138 := n8_; have NB138_125 := n9_; have NB126_138 := n10_; have NB138_126 := n11_; have NB127_138 := n12_; have NB138_127 := n13_; clear n0_ n1_ n2_ n3_ n4_ n5_ n6_ n7_ n8_ n9_ n10_ n11_ n12_ n13_; clear hb hbox hg; have hnb21 := NB138_125.out; have hnc21 := NB125_138.out; have hnb22 := NB138_126.out; have hnc22 := NB126_138.out; have hnb23 := NB138_127.out; have hnc23 := NB127_138.out; have hcz24_0 : w20.cell? ⟨gb138, 0, none⟩ = some (.int .i64 0) := (blk_cell BK138.out 0).trans rfl; have hcz24_1 : w20.cell? ⟨gb138, 1, none⟩ = some (.bool false) := (blk_cell BK138.out 1).trans rfl; have hfz24_0 := blk_frozen BK138.out 0; have hfz24_1 := blk_frozen BK138.out 1) | ((with_reducible refine gate_dst (N := 64) rfl ?_); refine Kd.R_lit k118 _ 118 ?hg (N := 64) ?hd (xs := ([] : List (S118))) (inner := []) (ok := fun _ => True) (okp := fun _ => True) ?hr ?hp (fun _ hk => hk) trivial (Below.refl _ _) (Nat.le_refl _) (by simp) ?_; (case hd => rfl); (case hg => rfl); (case hr => first | (go_simp; done) | (go_simp; rfl)); (case hp => exact (Reps.none _ _)); intro v140 w25 ho26 hb hg_ hnew_; clear hg_ hnew_; (first | rw [← Ny139.out] at ho26 | (simp only [Int.reduceToNat] at ho26; rw [← Ny139.out] at ho26)); have n0_ := Aside0.mk (Kd.S_elder' (by (with_reducible repeat (first | apply Kd.S_alloc | apply Kd.S_drewN | apply Kd.S_drew)); exact (Kd.S_mono (Kd.S_far (p := ⟨gb138, 1, none⟩) (Kd.S_far (p := ⟨gb138, 0, none⟩) (Kd.S_mono HO_128003.out (fun k_ hk => (⟨hk, hk.2⟩ : _ ∧ k_ ≠ gb138))) (fun _ hk => hk.2) (.int .i64 (wrap64 (Int.tdiv (wrap64 (Int.tdiv a1 a0_2)) a0_0)))) (fun _ hk => hk.2) (.bool a2)) (fun _ h_ => h_.1))) (Kd.R_base ho26) hb); have n1_ := Aside0.mk (Kd.R_lower (Kd.R_newB ho26 (g := gb138) (o := .cells #[.int .i64 (wrap64 (Int.tdiv (wrap64 (Int.tdiv a1 a0_2)) a0_0)), .bool a2] 118 (0, 0)) (by (with_reducible repeat (first | refine blk_drewN ?_ _ | refine blk_drew ?_ | refine blk_alloc ?_ _)); refine blk_put (cs := #[.int .i64 (wrap64 (Int.tdiv (wrap64 (Int.tdiv a1 a0_2)) a0_0)), .bool false]) ?_ 1 _ rfl; (with_reducible repeat (first | refine blk_drewN ?_ _ | refine blk_drew ?_ | refine blk_alloc ?_ _)); refine blk_put (cs := #[.int .i64 0, .bool false]) ?_ 0 _ rfl; (with_reducible repeat (first | refine blk_drewN ?_ _ | refine blk_drew ?_ | refine blk_alloc ?_ _)); exact BK138.out)) (below_size (by repeat (first | (with_reducible first | exact HB.out | apply below_alloc | apply pw_below_drewN | apply below_drew1 | refine below_set ?_ GE138.out) | exact HB.out)))); have n2_ := Aside0.mk (blk_below (g := gb125) (o := .cells #[.int .i64 a0_0, .int .i64 a0_1, .int .i64 a0_2, .slice (some ad128) l0_3.length c0_3] 70 (0, 0)) (by (with_reducible repeat (first | refine blk_drewN ?_ _ | refine blk_drew ?_ | refine blk_alloc ?_ _)); refine blk_far ?_ NB125_138.out _; (with_reducible repeat (first | refine blk_drewN ?_ _ | refine blk_drew ?_ | refine blk_alloc ?_ _)); refine blk_far ?_ NB125_138.out _; (with_reducible repeat (first | refine blk_drewN ?_ _ | refine blk_drew ?_ | refine blk_alloc ?_ _)); exact BK125.out) hb); have n3_ := Aside0.mk (blk_below (g := gb126) (o := .cells #[.int .i64 0, .int .i64 0, .int .i64 0, .slice none 0 0] 70 (0, 0)) (by (with_reducible repeat (first | refine blk_drewN ?_ _ | refine blk_drew ?_ | refine blk_alloc ?_ _)); refine blk_far ?_ NB126_138.out _; (with_reducible repeat (first | refine blk_drewN ?_ _ | refine blk_drew ?_ | refine blk_alloc ?_ _)); refine blk_far ?_ NB126_138.out _; (with_reducible repeat (first | refine blk_drewN ?_ _ | refine blk_drew ?_ | refine blk_alloc ?_ _)); exact BK126.out) hb); have n4_ := Aside0.mk (blk_below (g := gb127) (o := .cells #[.int .i64 a0_0, .int .i64 a0_1, .int .i64 a0_2, u128003] 70 (0, 0)) (by (with_reducible repeat (first | refine blk_drewN ?_ _ | refine blk_drew ?_ | refine blk_alloc ?_ _)); refine blk_far ?_ NB127_138.out _; (with_reducible repeat (first | refine blk_drewN ?_ _ | refine blk_drew ?_ | refine blk_alloc ?_ _)); refine blk_far ?_ NB127_138.out _; (with_reducible repeat (first | refine blk_drewN ?_ _ | refine blk_drew ?_ | refine blk_alloc ?_ _)); exact BK127.out) hb); have n5_ := Aside0.mk (blk_below (g := gb138) (o := .cells #[.int .i64 (wrap64 (Int.tdiv (wrap64 (Int.tdiv a1 a0_2)) a0_0)), .bool a2] 118 (0, 0)) (by (with_reducible repeat (first | refine blk_drewN ?_ _ | refine blk_drew ?_ | refine blk_alloc ?_ _)); refine blk_put (cs := #[.int .i64 (wrap64 (Int.tdiv (wrap64 (Int.tdiv a1 a0_2)) a0_0)), .bool false]) ?_ 1 _ rfl; (with_reducible repeat (first | refine blk_drewN ?_ _ | refine blk_drew ?_ | refine blk_alloc ?_ _)); refine blk_put (cs := #[.int .i64 0, .bool false]) ?_ 0 _ rfl; (with_reducible repeat (first | refine blk_drewN ?_ _ | refine blk_drew ?_ | refine blk_alloc ?_ _)); exact BK138.out) hb); have n6_ := Aside0.mk (below_step (by repeat (first | (with_reducible first | exact HB.out | apply below_alloc | apply pw_below_drewN | apply below_drew1 | refine below_set ?_ GE138.out) | exact HB.out)) hb); clear HO_128003; clear BK125; clear BK126; clear BK127; clear BK138; clear HB; have HO_128003 := n0_; have HO141 := n1_; have BK125 := n2_; have BK126 := n3_; have BK127 := n4_; have BK138 := n5_; have HB := n6_; clear n0_ n1_ n2_ n3_ n4_ n5_ n6_; clear hb ho26))
        go_loopg [13, 18, 19] k1 (fun kq v13 v18 v19 w' => ∃ (x13_2 : Bool) (x18_2 : List (S118)) (x19_2 : Int) (x139001_2 : Bool), v13 = .bool x13_2 ∧ v19 = .int .i64 x19_2 ∧ Aside0 (spec_l05Use.l1 kq a2 (Int.tmod (wrap64 (Int.tdiv a1 a0_2)) a0_0) (wrap64 (Int.tdiv (wrap64 (Int.tdiv a1 a0_2)) a0_0)) x13_2 x14_1 x15_1 (rd_L3 l0_3 x15_1) x18_2 x19_2 a0_0 a0_1 a0_2 l0_3 a0_0 a0_1 a0_2 x128003_1 (wrap64 (Int.tdiv (wrap64 (Int.tdiv a1 a0_2)) a0_0)) x139001_2 = some (r1, r2, r3, r4, r5, r6)) ∧ Aside0 (kq ≤ k1) ∧ Aside0 (Kd.R k118 118 w' w.heap.size (fun k_ => k_ ≠ gb138) v18 x18_2) ∧ Aside0 (Kd.S (Kd.slice 118 k118) 116 w' w.heap.size (fun k_ => some k_ ≠ (v18 : Value).ownBlock ∧ k_ ≠ gb138) u128003 x128003_1) ∧ Aside0 (w'.heap[gb125]? = some (.cells #[.int .i64 a0_0, .int .i64 a0_1, .int .i64 a0_2, (.slice (some ad128) l0_3.length c0_3)] 70 (0, 0))) ∧ Aside0 (w'.heap[gb126]? = some (.cells #[.int .i64 0, .int .i64 0, .int .i64 0, (.slice none 0 0)] 70 (0, 0))) ∧ Aside0 (w'.heap[gb127]? = some (.cells #[.int .i64 a0_0, .int .i64 a0_1, .int .i64 a0_2, u128003] 70 (0, 0))) ∧ Aside0 (w'.heap[gb138]? = some (.cells #[.int .i64 (wrap64 (Int.tdiv (wrap64 (Int.tdiv a1 a0_2)) a0_0)), .bool x139001_2] 118 (0, 0))) ∧ Aside0 (Below w.heap.size w w'))
        case atStart => exact ⟨(x13_1), (y139), (0), (a2), (by first | rfl | (simp; done) | (simp [*]; done)), (by first | rfl | (simp; done) | (simp [*]; done)), H', ⟨Nat.le_refl _⟩, ⟨by (with_reducible repeat (first | apply Kd.R_alloc | apply Kd.R_drewN | apply Kd.R_drew)); exact Kd.R_mono HO141.out (fun _ hk => hk.2)⟩, ⟨by (with_reducible repeat (first | apply Kd.S_alloc | apply Kd.S_drewN | apply Kd.S_drew)); exact Kd.S_mono HO_128003.out (fun _ hk => ⟨hk.2, hk.1.2⟩)⟩, ⟨by (with_reducible repeat (first | refine blk_drewN ?_ _ | refine blk_drew ?_ | refine blk_alloc ?_ _)); exact BK125.out⟩, ⟨by (with_reducible repeat (first | refine blk_drewN ?_ _ | refine blk_drew ?_ | refine blk_alloc ?_ _)); exact BK126.out⟩, ⟨by (with_reducible repeat (first | refine blk_drewN ?_ _ | refine blk_drew ?_ | refine blk_alloc ?_ _)); exact BK127.out⟩, ⟨by (with_reducible repeat (first | refine blk_drewN ?_ _ | refine blk_drew ?_ | refine blk_alloc ?_ _)); exact BK138.out⟩, ⟨by exact lq HB.out⟩⟩
        case round =>
         clear H'
         try clear c1
         try clear p1
         try clear q1
         try clear hx1
         try clear c2
         try clear p2
         try clear c4
         try clear c4b0
         try clear c4b1
         try clear c5
         try clear c5b0
         try clear c5b1
         try clear c6
         try clear p6
         try clear c8
         try clear c11
         try clear c12
         try clear p12
         try clear q12
         try clear hx12
         try clear c14
         try clear c14b0
         try clear c15
         try clear c15b0
         try clear c16
         try clear c16b0
         try clear c16b1
         try clear c17
         try clear c18
         try clear c21
         try clear c22
         try clear c23
         try clear hcz13_0
         try clear hcz13_1
         try clear hcz13_2
         try clear hcz13_3
         try clear hcz19_0
         try clear hcz19_1
         try clear hcz19_2
         try clear hcz19_3
         try clear hcz24_0
         try clear hcz24_1
         try clear hcz9_0
         try clear hcz9_1
         try clear hcz9_2
         try clear hcz9_3
         try clear hfz13_0
         try clear hfz13_1
         try clear hfz13_2
         try clear hfz13_3
         try clear hfz19_0
         try clear hfz19_1
         try clear hfz19_2
         try clear hfz19_3
         try clear hfz24_0
         try clear hfz24_1
         try clear hfz9_0
         try clear hfz9_1
         try clear hfz9_2
         try clear hfz9_3
         try clear hx128_0
         try clear p128
         try clear p2
         try clear p6
         try clear q128
         obtain ⟨x13_2, x18_2, x19_2, x139001_2, rfl, rfl, HA, HK2, HO_18, HO_128003, BK125, BK126, BK127, BK138, HB⟩ := hrel
         cases gk with
         | zero => exact absurd HA.out (by simp [spec_l05Use.l1])
         | succ k2 =>
          have H := HA.out
          clear HA
          simp only [spec_l05Use.l1] at H
          by_cases c27 : x19_2 < ((rd_L3 l0_3 x15_1).length : Int)
          ·rw [if_pos c27] at H
           have c27b0 : decide (x19_2 < ((rd_L3 l0_3 x15_1).length : Int)) = true := decide_eq_true c27
           clear c27
           by_cases c28 : 0 ≤ x19_2
           ·rw [if_pos c28] at H
            have c28b0 : decide (0 ≤ x19_2) = true := decide_eq_true c28
            clear c28
            by_cases c29 : ((rd_T118 (rd_L3 l0_3 x15_1) x19_2).f0) = (wrap64 (Int.tdiv (wrap64 (Int.tdiv a1 a0_2)) a0_0))
            ·rw [if_pos c29] at H
             have c29b0 : (((rd_T118 (rd_L3 l0_3 x15_1) x19_2).f0) == (wrap64 (Int.tdiv (wrap64 (Int.tdiv a1 a0_2)) a0_0))) = true := beq_iff_eq.mpr c29
             have c29b1 : (((rd_T118 (rd_L3 l0_3 x15_1) x19_2).f0) != (wrap64 (Int.tdiv (wrap64 (Int.tdiv a1 a0_2)) a0_0))) = false := bne_eq_false_iff_eq.mpr c29
             clear c29
             try have BK125r_ := BK125
             try have BK126r_ := BK126
             try have BK127r_ := BK127
             try have BK138r_ := BK138
             by_cases c30 : a2 = true
             ·subst c30
              try have BK125 := BK125r_
              try have BK126 := BK126r_
              try have BK127 := BK127r_
              try have BK138 := BK138r_
              rw [if_pos rfl] at H
              have H' := Aside0.mk H
              clear H
              have p142 : 0 ≤ (x19_2 : Int) := of_decide_eq_true (by first | (with_reducible assumption) | assumption)
              have q142 : x19_2 < ((rd_L3 l0_3 x15_1).length : Int) := of_decide_eq_true (by first | (with_reducible assumption) | assumption)
              obtain ⟨ad142, e142, hx142_0, hx142_1⟩ := at_T118 HR128_0.out x19_2 p142 q142
              cases e142
              replace hx142_0 := (HB.out.cell (World.block_lt_of_cell? w _ hx142_0)).trans hx142_0
              replace hx142_1 := (HB.out.cell (World.block_lt_of_cell? w _ hx142_1)).trans hx142_1
              replace p142 := eq_true p142
              replace q142 := eq_true q142
              have hnb31 := NB138_125.out
              have hnc31 := NB125_138.out
              have hnb32 := NB138_126.out
              have hnc32 := NB126_138.out
              have hnb33 := NB138_127.out
              have hnc33 := NB127_138.out
              have hcz34_0 : wr.cell? ⟨gb138, 0, none⟩ = some (.int .i64 (wrap64 (Int.tdiv (wrap64 (Int.tdiv a1 a0_2)) a0_0))) := (blk_cell BK138.out 0).trans rfl
              have hcz34_1 : wr.cell? ⟨gb138, 1, none⟩ = some (.bool x139001_2) := (blk_cell BK138.out 1).trans rfl
              have hfz34_0 := blk_frozen BK138.out 0
              have hfz34_1 := blk_frozen BK138.out 1
              go_wp2
              go_roundg k2
              case measure => have := HK1.out; have := HK2.out; omega
              case rel => exact ⟨(true), (x18_2), (wrap64 (x19_2 + 1)), (true), (by first | rfl | (simp; done) | (simp [*]; done)), (by first | rfl | (simp; done) | (simp [*]; done)), H', ⟨by have := HK1.out; have := HK2.out; omega⟩, ⟨by (with_reducible repeat (first | apply Kd.R_alloc | apply Kd.R_drewN | apply Kd.R_drew)); exact Kd.R_mono (Kd.R_far (p := ⟨gb138, 1, none⟩) (Kd.R_mono HO_18.out (fun k_ hk => (⟨hk, hk⟩ : _ ∧ k_ ≠ gb138))) (fun _ hk => hk.2) (.bool true)) (fun _ hk => hk.1)⟩, ⟨by (with_reducible repeat (first | apply Kd.S_alloc | apply Kd.S_drewN | apply Kd.S_drew)); exact Kd.S_mono (Kd.S_far (p := ⟨gb138, 1, none⟩) (Kd.S_mono HO_128003.out (fun k_ hk => (⟨hk, hk.2⟩ : _ ∧ k_ ≠ gb138))) (fun _ hk => hk.2) (.bool true)) (fun _ hk => ⟨hk.1.1, hk.1.2⟩)⟩, ⟨by (with_reducible repeat (first | refine blk_drewN ?_ _ | refine blk_drew ?_ | refine blk_alloc ?_ _)); refine blk_far ?_ NB125_138.out _; (with_reducible repeat (first | refine blk_drewN ?_ _ | refine blk_drew ?_ | refine blk_alloc ?_ _)); exact BK125.out⟩, ⟨by (with_reducible repeat (first | refine blk_drewN ?_ _ | refine blk_drew ?_ | refine blk_alloc ?_ _)); refine blk_far ?_ NB126_138.out _; (with_reducible repeat (first | refine blk_drewN ?_ _ | refine blk_drew ?_ | refine blk_alloc ?_ _)); exact BK126.out⟩, ⟨by (with_reducible repeat (first | refine blk_drewN ?_ _ | refine blk_drew ?_ | refine blk_alloc ?_ _)); refine blk_far ?_ NB127_138.out _; (with_reducible repeat (first | refine blk_drewN ?_ _ | refine blk_drew ?_ | refine blk_alloc ?_ _)); exact BK127.out⟩, ⟨by (with_reducible repeat (first | refine blk_drewN ?_ _ | refine blk_drew ?_ | refine blk_alloc ?_ _)); refine blk_put (cs := #[.int .i64 (wrap64 (Int.tdiv (wrap64 (Int.tdiv a1 a0_2)) a0_0)), .bool x139001_2]) ?_ 1 _ rfl; (with_reducible repeat (first | refine blk_drewN ?_ _ | refine blk_drew ?_ | refine blk_alloc ?_ _)); exact BK138.out⟩, ⟨by repeat (first | (with_reducible first | exact HB.out | apply below_alloc | apply pw_below_drewN | apply below_drew1 | refine below_set ?_ GE138.out) | exact HB.out)⟩⟩
             ·replace c30 := Bool.eq_false_iff.mpr c30
              subst c30
              try have BK125 := BK125r_
              try have BK126 := BK126r_
              try have BK127 := BK127r_
              try have BK138 := BK138r_
              rw [if_neg (show ¬ (false = true) by decide)] at H
              have H' := Aside0.mk H
              clear H
              have p142 : 0 ≤ (x19_2 : Int) := of_decide_eq_true (by first | (with_reducible assumption) | assumption)
              have q142 : x19_2 < ((rd_L3 l0_3 x15_1).length : Int) := of_decide_eq_true (by first | (with_reducible assumption) | assumption)
              obtain ⟨ad142, e142, hx142_0, hx142_1⟩ := at_T118 HR128_0.out x19_2 p142 q142
              cases e142
              replace hx142_0 := (HB.out.cell (World.block_lt_of_cell? w _ hx142_0)).trans hx142_0
              replace hx142_1 := (HB.out.cell (World.block_lt_of_cell? w _ hx142_1)).trans hx142_1
              replace p142 := eq_true p142
              replace q142 := eq_true q142
              have p143 : 0 ≤ (x19_2 : Int) := of_decide_eq_true (by first | (with_reducible assumption) | assumption)
              have q143 : x19_2 < ((rd_L3 l0_3 x15_1).length : Int) := of_decide_eq_true (by first | (with_reducible assumption) | assumption)
              obtain ⟨ad143, e143, hx143_0, hx143_1⟩ := at_T118 HR128_0.out x19_2 p143 q143
              obtain rfl : ad142 = ad143 := (by injection e143)
              replace hx143_0 := (HB.out.cell (World.block_lt_of_cell? w _ hx143_0)).trans hx143_0
              replace hx143_1 := (HB.out.cell (World.block_lt_of_cell? w _ hx143_1)).trans hx143_1
              replace p143 := eq_true p143
              replace q143 := eq_true q143
              have hnb35 := NB138_125.out
              have hnc35 := NB125_138.out
              have hnb36 := NB138_126.out
              have hnc36 := NB126_138.out
              have hnb37 := NB138_127.out
              have hnc37 := NB127_138.out
              have hcz38_0 : wr.cell? ⟨gb138, 0, none⟩ = some (.int .i64 (wrap64 (Int.tdiv (wrap64 (Int.tdiv a1 a0_2)) a0_0))) := (blk_cell BK138.out 0).trans rfl
              have hcz38_1 : wr.cell? ⟨gb138, 1, none⟩ = some (.bool x139001_2) := (blk_cell BK138.out 1).trans rfl
              have hfz38_0 := blk_frozen BK138.out 0
              have hfz38_1 := blk_frozen BK138.out 1
              go_wp2
              go_roundg k2
              case measure => have := HK1.out; have := HK2.out; omega
              case rel => exact ⟨(true), (x18_2), (wrap64 (x19_2 + 1)), ((rd_T118 (rd_L3 l0_3 x15_1) x19_2).f1), (by first | rfl | (simp; done) | (simp [*]; done)), (by first | rfl | (simp; done) | (simp [*]; done)), H', ⟨by have := HK1.out; have := HK2.out; omega⟩, ⟨by (with_reducible repeat (first | apply Kd.R_alloc | apply Kd.R_drewN | apply Kd.R_drew)); exact Kd.R_mono (Kd.R_far (p := ⟨gb138, 1, none⟩) (Kd.R_mono HO_18.out (fun k_ hk => (⟨hk, hk⟩ : _ ∧ k_ ≠ gb138))) (fun _ hk => hk.2) (.bool ((rd_T118 (rd_L3 l0_3 x15_1) x19_2).f1))) (fun _ hk => hk.1)⟩, ⟨by (with_reducible repeat (first | apply Kd.S_alloc | apply Kd.S_drewN | apply Kd.S_drew)); exact Kd.S_mono (Kd.S_far (p := ⟨gb138, 1, none⟩) (Kd.S_mono HO_128003.out (fun k_ hk => (⟨hk, hk.2⟩ : _ ∧ k_ ≠ gb138))) (fun _ hk => hk.2) (.bool ((rd_T118 (rd_L3 l0_3 x15_1) x19_2).f1))) (fun _ hk => ⟨hk.1.1, hk.1.2⟩)⟩, ⟨by (with_reducible repeat (first | refine blk_drewN ?_ _ | refine blk_drew ?_ | refine blk_alloc ?_ _)); refine blk_far ?_ NB125_138.out _; (with_reducible repeat (first | refine blk_drewN ?_ _ | refine blk_drew ?_ | refine blk_alloc ?_ _)); exact BK125.out⟩, ⟨by (with_reducible repeat (first | refine blk_drewN ?_ _ | refine blk_drew ?_ | refine blk_alloc ?_ _)); refine blk_far ?_ NB126_138.out _; (with_reducible repeat (first | refine blk_drewN ?_ _ | refine blk_drew ?_ | refine blk_alloc ?_ _)); exact BK126.out⟩, ⟨by (with_reducible repeat (first | refine blk_drewN ?_ _ | refine blk_drew ?_ | refine blk_alloc ?_ _)); refine blk_far ?_ NB127_138.out _; (with_reducible repeat (first | refine blk_drewN ?_ _ | refine blk_drew ?_ | refine blk_alloc ?_ _)); exact BK127.out⟩, ⟨by (with_reducible repeat (first | refine blk_drewN ?_ _ | refine blk_drew ?_ | refine blk_alloc ?_ _)); refine blk_put (cs := #[.int .i64 (wrap64 (Int.tdiv (wrap64 (Int.tdiv a1 a0_2)) a0_0)), .bool x139001_2]) ?_ 1 _ rfl; (with_reducible repeat (first | refine blk_drewN ?_ _ | refine blk_drew ?_ | refine blk_alloc ?_ _)); exact BK138.out⟩, ⟨by repeat (first | (with_reducible first | exact HB.out | apply below_alloc | apply pw_below_drewN | apply below_drew1 | refine below_set ?_ GE138.out) | exact HB.out)⟩⟩
            ·rw [if_neg c29] at H
             have c29b0 : (((rd_T118 (rd_L3 l0_3 x15_1) x19_2).f0) == (wrap64 (Int.tdiv (wrap64 (Int.tdiv a1 a0_2)) a0_0))) = false := beq_eq_false_iff_ne.mpr c29
             have c29b1 : (((rd_T118 (rd_L3 l0_3 x15_1) x19_2).f0) != (wrap64 (Int.tdiv (wrap64 (Int.tdiv a1 a0_2)) a0_0))) = true := bne_iff_ne.mpr c29
             by_cases c39 : x18_2.length < 8796093022208
             ·rw [if_pos c39] at H
              have LMc39 := Aside0.mk c39
              clear c39
              obtain ⟨y145, hy145⟩ : ∃ y_ : List (S118), y_ = (x18_2 ++ [(⟨(rd_T118 (rd_L3 l0_3 x15_1) x19_2).f0, (rd_T118 (rd_L3 l0_3 x15_1) x19_2).f1⟩ : S118)]) := ⟨_, rfl⟩
              replace H : (spec_l05Use.l1 k2 a2 (Int.tmod (wrap64 (Int.tdiv a1 a0_2)) a0_0) (wrap64 (Int.tdiv (wrap64 (Int.tdiv a1 a0_2)) a0_0)) x13_2 x14_1 x15_1 (rd_L3 l0_3 x15_1) y145 (wrap64 (x19_2 + 1)) a0_0 a0_1 a0_2 l0_3 a0_0 a0_1 a0_2 x128003_1 (wrap64 (Int.tdiv (wrap64 (Int.tdiv a1 a0_2)) a0_0)) x139001_2) = some (r1, r2, r3, r4, r5, r6) := by first | (rw [hy145]; with_reducible exact H) | (have H2_ := (Option.bind_some _ _).symm.trans H; rw [hy145]; with_reducible exact H2_) | (have H2_ := (Option.bind_some _ _).symm.trans H; with_reducible exact H2_) | with_reducible exact H | (rw [hy145]; exact H) | exact H
              have Ny145 := Aside0.mk hy145
              clear hy145
              have H' := Aside0.mk H
              clear H
              have p142 : 0 ≤ (x19_2 : Int) := of_decide_eq_true (by first | (with_reducible assumption) | assumption)
              have q142 : x19_2 < ((rd_L3 l0_3 x15_1).length : Int) := of_decide_eq_true (by first | (with_reducible assumption) | assumption)
              obtain ⟨ad142, e142, hx142_0, hx142_1⟩ := at_T118 HR128_0.out x19_2 p142 q142
              cases e142
              replace hx142_0 := (HB.out.cell (World.block_lt_of_cell? w _ hx142_0)).trans hx142_0
              replace hx142_1 := (HB.out.cell (World.block_lt_of_cell? w _ hx142_1)).trans hx142_1
              replace p142 := eq_true p142
              replace q142 := eq_true q142
              have p144 : 0 ≤ (x19_2 : Int) := of_decide_eq_true (by first | (with_reducible assumption) | assumption)
              have q144 : x19_2 < ((rd_L3 l0_3 x15_1).length : Int) := of_decide_eq_true (by first | (with_reducible assumption) | assumption)
              obtain ⟨ad144, e144, hx144_0, hx144_1⟩ := at_T118 HR128_0.out x19_2 p144 q144
              obtain rfl : ad142 = ad144 := (by injection e144)
              replace hx144_0 := (HB.out.cell (World.block_lt_of_cell? w _ hx144_0)).trans hx144_0
              replace hx144_1 := (HB.out.cell (World.block_lt_of_cell? w _ hx144_1)).trans hx144_1
              replace p144 := eq_true p144
              replace q144 := eq_true q144
              go_wp2_with (first | ((with_reducible refine gate_builtin (b := .append) (xs := #[.tmp 87, .tmp 92]) rfl ?_); at_builtin; refine Kd.R_append k118 (w0 := w) w.heap.size rfl (.tmp 87) (.tmp 92) 116 118 (.agg #[(.int .i64 0), (.bool false)]) 16 rfl Try.underlying116 info118 rfl (by decide) (by omega) u18 x18_2 (⟨(rd_T118 (rd_L3 l0_3 x15_1) x19_2).f0, (rd_T118 (rd_L3 l0_3 x15_1) x19_2).f1⟩ : S118) [.int .i64 ((rd_T118 (rd_L3 l0_3 x15_1) x19_2).f0), .bool ((rd_T118 (rd_L3 l0_3 x15_1) x19_2).f1)] (fun k_ => k_ ≠ gb138) (fun _ => False) rfl rfl ?aP (fun _ hk => hk.elim) ?aF ?aO ?aB ?aS ?aL ?_; (case aP => exact k118_mkM _ _ _ (⟨(rd_T118 (rd_L3 l0_3 x15_1) x19_2).f0, (rd_T118 (rd_L3 l0_3 x15_1) x19_2).f1⟩ : S118)); (case aB => exact (lq HB.out)); (case aF => exact (fun k_ hk => Kd.freshB (g := gb138) (o := .cells #[.int .i64 (wrap64 (Int.tdiv (wrap64 (Int.tdiv a1 a0_2)) a0_0)), .bool x139001_2] 118 (0, 0)) (bq BK138.out) k_ hk)); (case aO => exact (rq HO_18.out)); (case aS => exact (below_size (lq HB.out))); (case aL => have := LMc39.out; omega); intro v146 w40 ho hb hg hat; rw [← Ny145.out] at ho; have n0_ := Aside0.mk (Kd.S_after (ok := (fun k_ => k_ ≠ gb138)) (by (with_reducible repeat (first | apply Kd.S_alloc | apply Kd.S_drewN | apply Kd.S_drew)); exact Kd.S_mono HO_128003.out (fun _ hk => ⟨hk.2, hk.1⟩)) hg hat); have n1_ := Aside0.mk (blk_grown (g := gb125) (o := .cells #[.int .i64 a0_0, .int .i64 a0_1, .int .i64 a0_2, .slice (some ad128) l0_3.length c0_3] 70 (0, 0)) (bq BK125.out) hg (Kd.R_ne HO_18.out BK125.out (by decide))); have n2_ := Aside0.mk (blk_grown (g := gb126) (o := .cells #[.int .i64 0, .int .i64 0, .int .i64 0, .slice none 0 0] 70 (0, 0)) (bq BK126.out) hg (Kd.R_ne HO_18.out BK126.out (by decide))); have n3_ := Aside0.mk (blk_grown (g := gb127) (o := .cells #[.int .i64 a0_0, .int .i64 a0_1, .int .i64 a0_2, u128003] 70 (0, 0)) (bq BK127.out) hg (Kd.R_ne HO_18.out BK127.out (by decide))); have n4_ := Aside0.mk (blk_grown (g := gb138) (o := .cells #[.int .i64 (wrap64 (Int.tdiv (wrap64 (Int.tdiv a1 a0_2)) a0_0)), .bool x139001_2] 118 (0, 0)) (bq BK138.out) hg (Kd.R_away HO_18.out (fun _ hk => hk))); have n5_ := Aside0.mk (hb); have n6_ := Aside0.mk (ho); clear HO_128003; clear BK125; clear BK126; clear BK127; clear BK138; clear HB; clear HO_18; have HO_128003 := n0_; have BK125 := n1_; have BK126 := n2_; have BK127 := n3_; have BK138 := n4_; have HB := n5_; have HO147 := n6_; clear n0_ n1_ n2_ n3_ n4_ n5_ n6_; clear ho hb hg hat))
              go_roundg k2
              case measure => have := HK1.out; have := HK2.out; omega
              case rel => exact ⟨(x13_2), (y145), (wrap64 (x19_2 + 1)), (x139001_2), (by first | rfl | (simp; done) | (simp [*]; done)), (by first | rfl | (simp; done) | (simp [*]; done)), H', ⟨by have := HK1.out; have := HK2.out; omega⟩, ⟨by (with_reducible repeat (first | apply Kd.R_alloc | apply Kd.R_drewN | apply Kd.R_drew)); exact HO147.out⟩, ⟨by (with_reducible repeat (first | apply Kd.S_alloc | apply Kd.S_drewN | apply Kd.S_drew)); exact Kd.S_mono HO_128003.out (fun _ hk => ⟨hk.2, hk.1⟩)⟩, ⟨by (with_reducible repeat (first | refine blk_drewN ?_ _ | refine blk_drew ?_ | refine blk_alloc ?_ _)); exact BK125.out⟩, ⟨by (with_reducible repeat (first | refine blk_drewN ?_ _ | refine blk_drew ?_ | refine blk_alloc ?_ _)); exact BK126.out⟩, ⟨by (with_reducible repeat (first | refine blk_drewN ?_ _ | refine blk_drew ?_ | refine blk_alloc ?_ _)); exact BK127.out⟩, ⟨by (with_reducible repeat (first | refine blk_drewN ?_ _ | refine blk_drew ?_ | refine blk_alloc ?_ _)); exact BK138.out⟩, ⟨by exact lq HB.out⟩⟩
             ·rw [if_neg c39] at H
              exact absurd H (by simp)
           ·rw [if_neg c28] at H
            exact absurd H (by simp)
          ·rw [if_neg c27] at H
           have c27b0 : decide (x19_2 < ((rd_L3 l0_3 x15_1).length : Int)) = false := decide_eq_false c27
           clear c27
           by_cases c41 : (x18_2.length : Int) = a0_1
           ·rw [if_pos c41] at H
            have c41b0 : ((x18_2.length : Int) == a0_1) = true := beq_iff_eq.mpr c41
            have c41b1 : ((x18_2.length : Int) != a0_1) = false := bne_eq_false_iff_eq.mpr c41
            clear c41
            obtain ⟨ji42, hji42⟩ : ∃ j_ : Int, (wrap64 ((x18_2.length : Int) - 1)) = j_ := ⟨_, rfl⟩
            replace H : (if 0 ≤ (ji42) then (if (ji42) < (x18_2.length : Int) then (if (ji42) ≤ (x18_2.length : Int) then ((some (x18_2.take ((ji42) : Int).toNat : List (S118))).bind fun y149 => ((some (([(⟨(wrap64 (Int.tdiv (wrap64 (Int.tdiv a1 a0_2)) a0_0)), x139001_2⟩ : S118)] : List (S118)) : List (S118))).bind fun y152 => (if y152.length + y149.length < 8796093022208 then (if x128003_1.length < 5864062014805 then (spec_l05Use.l0 k2 a2 (Int.tmod (wrap64 (Int.tdiv a1 a0_2)) a0_0) (wrap64 (Int.tdiv (wrap64 (Int.tdiv a1 a0_2)) a0_0)) x13_2 ((rd_T118 x18_2 (ji42)).f1) (wrap64 (x15_1 + 1)) a0_0 a0_1 a0_2 l0_3 a0_0 a0_1 a0_2 (x128003_1 ++ [(y152 ++ y149)])) else (none)) else (none)))) else (none)) else (none)) else (none)) = some (r1, r2, r3, r4, r5, r6) := by first | (rw [hji42] at H; exact H) | (simp only [hji42] at H ⊢; exact H)
            have hji42w : (IntKind.i64.wrap ((x18_2.length : Int) - 1)) = ji42 := (i64_w _).trans hji42
            by_cases c43 : 0 ≤ (ji42)
            ·rw [if_pos c43] at H
             have c43b0 : decide (0 ≤ (ji42)) = true := decide_eq_true c43
             clear c43
             by_cases c44 : (ji42) < (x18_2.length : Int)
             ·rw [if_pos c44] at H
              have c44b0 : decide ((ji42) < (x18_2.length : Int)) = true := decide_eq_true c44
              clear c44
              by_cases c45 : (ji42) ≤ (x18_2.length : Int)
              ·rw [if_pos c45] at H
               have c45b0 := eq_true c45
               have c45b1 : decide ((ji42) ≤ (x18_2.length : Int)) = true := decide_eq_true c45
               clear c45
               obtain ⟨y149, hy149⟩ : ∃ y_ : List (S118), y_ = (x18_2.take ((ji42) : Int).toNat) := ⟨_, rfl⟩
               replace H : ((some (([(⟨(wrap64 (Int.tdiv (wrap64 (Int.tdiv a1 a0_2)) a0_0)), x139001_2⟩ : S118)] : List (S118)) : List (S118))).bind fun y152 => (if y152.length + y149.length < 8796093022208 then (if x128003_1.length < 5864062014805 then (spec_l05Use.l0 k2 a2 (Int.tmod (wrap64 (Int.tdiv a1 a0_2)) a0_0) (wrap64 (Int.tdiv (wrap64 (Int.tdiv a1 a0_2)) a0_0)) x13_2 ((rd_T118 x18_2 (ji42)).f1) (wrap64 (x15_1 + 1)) a0_0 a0_1 a0_2 l0_3 a0_0 a0_1 a0_2 (x128003_1 ++ [(y152 ++ y149)])) else (none)) else (none))) = some (r1, r2, r3, r4, r5, r6) := by first | (rw [hy149]; with_reducible exact H) | (have H2_ := (Option.bind_some _ _).symm.trans H; rw [hy149]; with_reducible exact H2_) | (have H2_ := (Option.bind_some _ _).symm.trans H; with_reducible exact H2_) | with_reducible exact H | (rw [hy149]; exact H) | exact H
               have Ny149 := Aside0.mk hy149
               clear hy149
               obtain ⟨y152, hy152⟩ : ∃ y_ : List (S118), y_ = (([(⟨(wrap64 (Int.tdiv (wrap64 (Int.tdiv a1 a0_2)) a0_0)), x139001_2⟩ : S118)] : List (S118))) := ⟨_, rfl⟩
               replace H : (if y152.length + y149.length < 8796093022208 then (if x128003_1.length < 5864062014805 then (spec_l05Use.l0 k2 a2 (Int.tmod (wrap64 (Int.tdiv a1 a0_2)) a0_0) (wrap64 (Int.tdiv (wrap64 (Int.tdiv a1 a0_2)) a0_0)) x13_2 ((rd_T118 x18_2 (ji42)).f1) (wrap64 (x15_1 + 1)) a0_0 a0_1 a0_2 l0_3 a0_0 a0_1 a0_2 (x128003_1 ++ [(y152 ++ y149)])) else (none)) else (none)) = some (r1, r2, r3, r4, r5, r6) := by first | (rw [hy152]; with_reducible exact H) | (have H2_ := (Option.bind_some _ _).symm.trans H; rw [hy152]; with_reducible exact H2_) | (have H2_ := (Option.bind_some _ _).symm.trans H; with_reducible exact H2_) | with_reducible exact H | (rw [hy152]; exact H) | exact H
               have Ny152 := Aside0.mk hy152
               clear hy152
               by_cases c46 : y152.length + y149.length < 8796093022208
               ·rw [if_pos c46] at H
                have LMc46 := Aside0.mk c46
                clear c46
                obtain ⟨y155, hy155⟩ : ∃ y_ : List (S118), y_ = (y152 ++ y149) := ⟨_, rfl⟩
                replace H : (if x128003_1.length < 5864062014805 then (spec_l05Use.l0 k2 a2 (Int.tmod (wrap64 (Int.tdiv a1 a0_2)) a0_0) (wrap64 (Int.tdiv (wrap64 (Int.tdiv a1 a0_2)) a0_0)) x13_2 ((rd_T118 x18_2 (ji42)).f1) (wrap64 (x15_1 + 1)) a0_0 a0_1 a0_2 l0_3 a0_0 a0_1 a0_2 (x128003_1 ++ [y155])) else (none)) = some (r1, r2, r3, r4, r5, r6) := by first | (rw [hy155]; with_reducible exact H) | (have H2_ := (Option.bind_some _ _).symm.trans H; rw [hy155]; with_reducible exact H2_) | (have H2_ := (Option.bind_some _ _).symm.trans H; with_reducible exact H2_) | with_reducible exact H | (rw [hy155]; exact H) | exact H
                have Ny155 := Aside0.mk hy155
                clear hy155
                by_cases c47 : x128003_1.length < 5864062014805
                ·rw [if_pos c47] at H
                 have LMc47 := Aside0.mk c47
                 clear c47
                 obtain ⟨y158, hy158⟩ : ∃ y_ : List (List (S118)), y_ = (x128003_1 ++ [y155]) := ⟨_, rfl⟩
                 replace H : (spec_l05Use.l0 k2 a2 (Int.tmod (wrap64 (Int.tdiv a1 a0_2)) a0_0) (wrap64 (Int.tdiv (wrap64 (Int.tdiv a1 a0_2)) a0_0)) x13_2 ((rd_T118 x18_2 (ji42)).f1) (wrap64 (x15_1 + 1)) a0_0 a0_1 a0_2 l0_3 a0_0 a0_1 a0_2 y158) = some (r1, r2, r3, r4, r5, r6) := by first | (rw [hy158]; with_reducible exact H) | (have H2_ := (Option.bind_some _ _).symm.trans H; rw [hy158]; with_reducible exact H2_) | (have H2_ := (Option.bind_some _ _).symm.trans H; with_reducible exact H2_) | with_reducible exact H | (rw [hy158]; exact H) | exact H
                 have Ny158 := Aside0.mk hy158
                 clear hy158
                 have H' := Aside0.mk H
                 clear H
                 obtain ⟨Ao48, co48, eo48⟩ := Kd.R_slice HO_18.out
                 subst eo48
                 have hnb49 := NB125_126.out
                 have hnc49 := NB126_125.out
                 have hnb50 := NB125_127.out
                 have hnc50 := NB127_125.out
                 have hnb51 := NB125_138.out
                 have hnc51 := NB138_125.out
                 have hcz52_0 : wr.cell? ⟨gb125, 0, none⟩ = some (.int .i64 a0_0) := (blk_cell BK125.out 0).trans rfl
                 have hcz52_1 : wr.cell? ⟨gb125, 1, none⟩ = some (.int .i64 a0_1) := (blk_cell BK125.out 1).trans rfl
                 have hcz52_2 : wr.cell? ⟨gb125, 2, none⟩ = some (.int .i64 a0_2) := (blk_cell BK125.out 2).trans rfl
                 have hcz52_3 : wr.cell? ⟨gb125, 3, none⟩ = some (.slice (some ad128) l0_3.length c0_3) := (blk_cell BK125.out 3).trans rfl
                 have hfz52_0 := blk_frozen BK125.out 0
                 have hfz52_1 := blk_frozen BK125.out 1
                 have hfz52_2 := blk_frozen BK125.out 2
                 have hfz52_3 := blk_frozen BK125.out 3
                 have p148 : 0 ≤ ((ji42) : Int) := of_decide_eq_true (by first | (with_reducible assumption) | assumption)
                 have q148 : (ji42) < (x18_2.length : Int) := of_decide_eq_true (by first | (with_reducible assumption) | assumption)
                 obtain ⟨ad148, e148, hx148_0, hx148_1⟩ := at_T118 (Kd.R_reads' HO_18.out).2.2 (ji42) p148 q148
                 cases e148
                 replace p148 := eq_true p148
                 replace q148 := eq_true q148
                 have q53 : ((ji42) : Int) ≤ ((x18_2.length : Int) : Int) := of_decide_eq_true (by first | (with_reducible assumption) | assumption)
                 obtain ⟨i053, hi053, _, hsz53, _⟩ := info_parts info118
                 have hcut53 := cut_to (P := Try.prog) 116 118 .i64 Try.underlying116 hi053 (some ad148) x18_2.length co48 (ji42) (of_decide_eq_true (by first | (with_reducible assumption) | assumption)) q53 (Kd.R_reads' HO_18.out).2.1
                 have hr53 := Kd.R_take (m := ((ji42) : Int).toNat) HO_18.out (by omega)
                 have hy53 : y149.length = ((ji42) : Int).toNat := (by rw [Ny149.out, List.length_take]; omega)
                 rw [← Ny149.out] at hr53
                 rw [← hy53] at hr53 hcut53
                 clear hy53 hi053 hsz53 HO_18
                 have HO151 := Aside0.mk hr53
                 clear hr53
                 replace q53 := eq_true q53
                 try go_wp2
                 have n0_ := Aside0.mk (Kd.R_drew HO151.out)
                 have n1_ := Aside0.mk (Kd.S_drew HO_128003.out)
                 have n2_ := Aside0.mk (blk_drew BK125.out)
                 have n3_ := Aside0.mk (blk_drew BK126.out)
                 have n4_ := Aside0.mk (blk_drew BK127.out)
                 have n5_ := Aside0.mk (blk_drew BK138.out)
                 have n6_ := Aside0.mk (below_drew1 HB.out)
                 clear HO151
                 clear HO_128003
                 clear BK125
                 clear BK126
                 clear BK127
                 clear BK138
                 clear HB
                 have HO151 := n0_
                 have HO_128003 := n1_
                 have BK125 := n2_
                 have BK126 := n3_
                 have BK127 := n4_
                 have BK138 := n5_
                 have HB := n6_
                 clear n0_ n1_ n2_ n3_ n4_ n5_ n6_
                 refine start_ (n := 10) (S := fun w' => w'.cell? ⟨gb127, 0, none⟩ = some (.int .i64 a0_0) ∧ w'.cell? ⟨gb127, 1, none⟩ = some (.int .i64 a0_1) ∧ w'.cell? ⟨gb127, 2, none⟩ = some (.int .i64 a0_2) ∧ w'.cell? ⟨gb127, 3, none⟩ = some (u128003) ∧ w'.cell? ⟨gb138, 0, none⟩ = some (.int .i64 (wrap64 (Int.tdiv (wrap64 (Int.tdiv a1 a0_2)) a0_0))) ∧ w'.cell? ⟨gb138, 1, none⟩ = some (.bool x139001_2)) (ds := [9]) #[false, false, false, false, false, false, false, false, false, false] (by kernel_rfl) rfl rfl ⟨(blk_cell BK127.out 0).trans rfl, (blk_cell BK127.out 1).trans rfl, (blk_cell BK127.out 2).trans rfl, (blk_cell BK127.out 3).trans rfl, (blk_cell BK138.out 0).trans rfl, (blk_cell BK138.out 1).trans rfl⟩ (fun hHeld => ?_); refine with_tabW spec_l05Use.tab24 spec_l05Use.bits24 (fun HT_ HW_ => ?_)
                 generalize wr.drew = w54 at HO151 HO_128003 BK125 BK126 BK127 BK138 HB hHeld ⊢
                 refine pure_ (i := 0) (N := some 112) (v := ?_) (a' := ?_) #[true, false, false, false, false, false, false, false, false, false] rfl rfl (any_of HT_.out (by kernel_rfl)) (fun _ _ _ h => h) (Or.inl ⟨by rfl, ?_⟩) ?_ ?_
                 rotate_left
                 ·intro w'
                  go_simp
                  with_reducible rfl
                 rotate_left
                 ·simp only [Act.put, List.setIfInBounds_toArray, List.set_cons_zero, List.set_cons_succ, i64_w, i32_w]
                  rfl
                 refine pure_ (i := 4) (N := some 116) (v := ?_) (a' := ?_) #[true, false, false, false, true, false, false, false, false, false] rfl rfl (any_of HT_.out (by kernel_rfl)) (fun _ _ _ h => h) (Or.inl ⟨by rfl, ?_⟩) ?_ ?_
                 rotate_left
                 ·intro w'
                  go_simp
                  with_reducible rfl
                 rotate_left
                 ·simp only [Act.put, List.setIfInBounds_toArray, List.set_cons_zero, List.set_cons_succ, i64_w, i32_w]
                  rfl
                 refine take_ (i := 1) (N := some 113) (v := ?_) (a' := ?_) #[true, true, false, false, true, false, false, false, false, false] rfl rfl (take_ofW HT_.out HW_.out (by kernel_rfl)) (fun _ _ _ h => h) (Or.inl ⟨by rfl, ?_⟩) hHeld ?_ ?_
                 rotate_left
                 ·rintro w' ⟨s0, s1, s2, s3, s4, s5⟩
                  go_simp
                  with_reducible rfl
                 rotate_left
                 ·simp only [Act.put, List.setIfInBounds_toArray, List.set_cons_zero, List.set_cons_succ, i64_w, i32_w]
                  rfl
                 refine take_ (i := 2) (N := some 114) (v := ?_) (a' := ?_) #[true, true, true, false, true, false, false, false, false, false] rfl rfl (take_ofW HT_.out HW_.out (by kernel_rfl)) (fun _ _ _ h => h) (Or.inl ⟨by rfl, ?_⟩) hHeld ?_ ?_
                 rotate_left
                 ·rintro w' ⟨s0, s1, s2, s3, s4, s5⟩
                  go_simp
                  with_reducible rfl
                 rotate_left
                 ·simp only [Act.put, List.setIfInBounds_toArray, List.set_cons_zero, List.set_cons_succ, i64_w, i32_w]
                  rfl
                 refine one_ (i := 3) (N := some 115) #[true, true, true, true, true, false, false, false, false, false] rfl rfl (one_of HT_.out (by kernel_rfl)) (by decide) (fun K hK => ?_)
                 refine Kd.R_lit_step k118 _ 118 ?hg (N := 115) ?hd (xs := ([(⟨(wrap64 (Int.tdiv (wrap64 (Int.tdiv a1 a0_2)) a0_0)), x139001_2⟩ : S118)] : List (S118))) (inner := [.int .i64 (wrap64 (Int.tdiv (wrap64 (Int.tdiv a1 a0_2)) a0_0)), .bool x139001_2]) (ok := fun _ => True) (okp := fun _ => True) ?hr ?hp (fun _ hk => hk) trivial (Below.refl _ _) (Nat.le_refl _) (by simp) ?_; (case hd => rfl); (case hg => rfl); (case hr => first | (go_simp; done) | (go_simp; rfl)); (case hp => exact (Reps.c2 (show Kd.M k118 _ _ _ (⟨(wrap64 (Int.tdiv (wrap64 (Int.tdiv a1 a0_2)) a0_0)), x139001_2⟩ : S118) [.int .i64 (wrap64 (Int.tdiv (wrap64 (Int.tdiv a1 a0_2)) a0_0)), .bool x139001_2] from (k118_mkM _ _ _ (⟨(wrap64 (Int.tdiv (wrap64 (Int.tdiv a1 a0_2)) a0_0)), x139001_2⟩ : S118) )) (Reps.none _ _)))
                 intro v153 w55 ho56 hb hg_ hnew_
                 clear hg_ hnew_
                 (first | rw [← Ny152.out] at ho56 | (simp only [Int.reduceToNat] at ho56; rw [← Ny152.out] at ho56))
                 have n0_ := Aside0.mk (Kd.R_elder' (rq HO151.out) (Kd.R_base ho56) hb)
                 have n1_ := Aside0.mk (Kd.S_elder' (by (with_reducible repeat (first | apply Kd.S_alloc | apply Kd.S_drewN | apply Kd.S_drew)); exact HO_128003.out) (Kd.R_base ho56) hb)
                 have n2_ := Aside0.mk (Kd.R_lower (Kd.R_newB (Kd.R_new' ho56 (Kd.R_lt (rq HO151.out))) (g := gb138) (o := .cells #[.int .i64 (wrap64 (Int.tdiv (wrap64 (Int.tdiv a1 a0_2)) a0_0)), .bool x139001_2] 118 (0, 0)) (bq BK138.out)) (below_size (lq HB.out)))
                 have n3_ := Aside0.mk (blk_below (bq BK125.out) hb)
                 have n4_ := Aside0.mk (blk_below (bq BK126.out) hb)
                 have n5_ := Aside0.mk (blk_below (bq BK127.out) hb)
                 have n6_ := Aside0.mk (blk_below (bq BK138.out) hb)
                 have n7_ := Aside0.mk (below_step (lq HB.out) hb)
                 clear HO151
                 clear HO_128003
                 clear BK125
                 clear BK126
                 clear BK127
                 clear BK138
                 clear HB
                 have HO151 := n0_
                 have HO_128003 := n1_
                 have HO154 := n2_
                 have BK125 := n3_
                 have BK126 := n4_
                 have BK127 := n5_
                 have BK138 := n6_
                 have HB := n7_
                 clear n0_ n1_ n2_ n3_ n4_ n5_ n6_ n7_
                 clear hb ho56
                 refine hK.out _ _ ⟨(blk_cell BK127.out 0).trans rfl, (blk_cell BK127.out 1).trans rfl, (blk_cell BK127.out 2).trans rfl, (blk_cell BK127.out 3).trans rfl, (blk_cell BK138.out 0).trans rfl, (blk_cell BK138.out 1).trans rfl⟩ (fun hHeld => ?_)
                 clear hK K
                 refine norm_ (a' := ?_) ?_ ?_
                 rotate_left
                 ·show Act.put _ (some 115) _ = _
                  simp only [Act.put, List.setIfInBounds_toArray, List.set_cons_zero, List.set_cons_succ, i64_w, i32_w]
                  rfl
                 refine one_ (i := 5) (N := some 117) #[true, true, true, true, true, true, false, false, false, false] rfl rfl (one_of HT_.out (by kernel_rfl)) (by decide) (fun K hK => ?_)
                 refine Kd.R_append_rows_step k118 (w0 := w) w.heap.size (by rfl) (.tmp 115) (.tmp 116) 116 118 (.agg #[(.int .i64 0), (.bool false)]) 16 rfl Try.underlying116 info118 rfl (by decide) (by omega) v153 y152 y149 _ _ _ (fun k_ => some k_ ≠ (.slice (some ad148) y149.length co48 : Value).ownBlock ∧ k_ ≠ gb138) (fun _ => False) rfl rfl ?aO ?aR (fun _ _ h => h) (fun _ h => h.elim) ?aF ?aB ?aS ?aL ?_
                 (case aR => repeat (first | exact (Kd.R_reads' HO151.out).2.2 | (with_reducible refine Kd.C_alloc ?_ _) | (with_reducible refine Kd.C_drewN ?_ _) | (with_reducible refine Kd.C_drew ?_)))
                 (case aB => exact (lq HB.out))
                 (case aF => exact (fun k_ hk => ⟨Kd.fresh' (Kd.R_lt (rq HO151.out)) k_ hk, Kd.freshB (g := gb138) (o := .cells #[.int .i64 (wrap64 (Int.tdiv (wrap64 (Int.tdiv a1 a0_2)) a0_0)), .bool x139001_2] 118 (0, 0)) (bq BK138.out) k_ hk⟩))
                 (case aO => exact (by (with_reducible repeat (first | apply Kd.R_alloc | apply Kd.R_drewN | apply Kd.R_drew)); exact Kd.R_mono HO154.out (fun _ hk => ⟨hk.1.2, hk.2⟩)))
                 (case aS => exact (below_size (lq HB.out)))
                 (case aL => have := LMc46.out; omega)
                 intro v156 w57 ho hb hg hat
                 rw [← Ny155.out] at ho
                 have n0_ := Aside0.mk (Kd.R_after (ok := (fun k_ => k_ ≠ gb138)) (rq HO151.out) hg hat)
                 have n1_ := Aside0.mk (Kd.S_after (ok := (fun k_ => some k_ ≠ (.slice (some ad148) y149.length co48 : Value).ownBlock ∧ k_ ≠ gb138)) (by (with_reducible repeat (first | apply Kd.S_alloc | apply Kd.S_drewN | apply Kd.S_drew)); exact HO_128003.out) hg hat)
                 have n2_ := Aside0.mk (blk_grown (g := gb125) (o := .cells #[.int .i64 a0_0, .int .i64 a0_1, .int .i64 a0_2, .slice (some ad128) l0_3.length c0_3] 70 (0, 0)) (bq BK125.out) hg (Kd.R_ne HO154.out BK125.out (by decide)))
                 have n3_ := Aside0.mk (blk_grown (g := gb126) (o := .cells #[.int .i64 0, .int .i64 0, .int .i64 0, .slice none 0 0] 70 (0, 0)) (bq BK126.out) hg (Kd.R_ne HO154.out BK126.out (by decide)))
                 have n4_ := Aside0.mk (blk_grown (g := gb127) (o := .cells #[.int .i64 a0_0, .int .i64 a0_1, .int .i64 a0_2, u128003] 70 (0, 0)) (bq BK127.out) hg (Kd.R_ne HO154.out BK127.out (by decide)))
                 have n5_ := Aside0.mk (blk_grown (g := gb138) (o := .cells #[.int .i64 (wrap64 (Int.tdiv (wrap64 (Int.tdiv a1 a0_2)) a0_0)), .bool x139001_2] 118 (0, 0)) (bq BK138.out) hg (Kd.R_away HO154.out (fun _ hk => hk.2)))
                 have n6_ := Aside0.mk (hb)
                 have n7_ := Aside0.mk (ho)
                 clear HO151
                 clear HO_128003
                 clear BK125
                 clear BK126
                 clear BK127
                 clear BK138
                 clear HB
                 clear HO154
                 have HO151 := n0_
                 have HO_128003 := n1_
                 have BK125 := n2_
                 have BK126 := n3_
                 have BK127 := n4_
                 have BK138 := n5_
                 have HB := n6_
                 have HO157 := n7_
                 clear n0_ n1_ n2_ n3_ n4_ n5_ n6_ n7_
                 clear ho hb hg hat
                 obtain ⟨Ao59, co59, eo59⟩ := Kd.R_slice HO157.out
                 (first | subst eo59 | (injection eo59 with f1_ f2_ f3_; have f4_ := f1_.symm; have f5_ := f3_.symm; clear f1_ f2_ f3_; subst f4_; subst f5_))
                 refine hK.out _ _ ⟨(blk_cell BK127.out 0).trans rfl, (blk_cell BK127.out 1).trans rfl, (blk_cell BK127.out 2).trans rfl, (blk_cell BK127.out 3).trans rfl, (blk_cell BK138.out 0).trans rfl, (blk_cell BK138.out 1).trans rfl⟩ (fun hHeld => ?_)
                 clear hK K
                 refine norm_ (a' := ?_) ?_ ?_
                 rotate_left
                 ·show Act.put _ (some 117) _ = _
                  simp only [Act.put, List.setIfInBounds_toArray, List.set_cons_zero, List.set_cons_succ, i64_w, i32_w]
                  rfl
                 refine one_ (i := 6) (N := some 118) #[true, true, true, true, true, true, true, false, false, false] rfl rfl (one_of HT_.out (by kernel_rfl)) (by decide) (fun K hK => ?_)
                 refine value_ (w1 := ?_) (v := ?_) (by rfl) rfl ?_ ?_
                 rotate_left 2
                 ·go_simp
                  constructor
                  ·rfl
                  ·rfl
                 refine hK.out _ _ ⟨(blk_cell (blk_alloc BK127.out _) 0).trans rfl, (blk_cell (blk_alloc BK127.out _) 1).trans rfl, (blk_cell (blk_alloc BK127.out _) 2).trans rfl, (blk_cell (blk_alloc BK127.out _) 3).trans rfl, (blk_cell (blk_alloc BK138.out _) 0).trans rfl, (blk_cell (blk_alloc BK138.out _) 1).trans rfl⟩ (fun hHeld => ?_)
                 clear hK K
                 refine norm_ (a' := ?_) ?_ ?_
                 rotate_left
                 ·show Act.put _ (some 118) _ = _
                  simp only [Act.put, List.setIfInBounds_toArray, List.set_cons_zero, List.set_cons_succ, i64_w, i32_w]
                  rfl
                 refine one_ (i := 7) (N := some 119) #[true, true, true, true, true, true, true, true, false, false] rfl rfl (one_of HT_.out (by kernel_rfl)) (by decide) (fun K hK => ?_)
                 refine Kd.S_append_step (Kd.slice 118 k118) (w0 := w) w.heap.size (by rfl) (.tmp 113) (.tmp 118) 68 116 (.slice none 0 0) 24 rfl Try.underlying68 info116 rfl (by decide) (by omega) u128003 x128003_1 y155 [.slice Ao59 y155.length co59] (fun k_ => some k_ ≠ (.slice (some ad148) y149.length co48 : Value).ownBlock ∧ k_ ≠ gb138) (fun k_ => some k_ = (.slice Ao59 y155.length co59 : Value).ownBlock) rfl rfl ?aP (fun k_ hk_ => ((Kd.R_mono (ok' := fun k_ => ((fun k_ => some k_ ≠ (.slice (some ad148) y149.length co48 : Value).ownBlock ∧ k_ ≠ gb138)) k_ ∧ some k_ ≠ (u128003 : Value).ownBlock) (Kd.R_apart' (HO157.out) (Kd.S_typed HO_128003.out) (by decide)) (fun k_ hk => ⟨⟨hk.1.1, hk.1.2⟩, hk.2⟩))).1 k_ hk_.symm) ?aF ?aO ?aB ?aS ?aL ?_
                 (case aP => exact Kd.M_row (Kd.R_mono (Kd.R_tight rfl (Kd.R_mono (ok' := fun k_ => ((fun k_ => some k_ ≠ (.slice (some ad148) y149.length co48 : Value).ownBlock ∧ k_ ≠ gb138)) k_ ∧ some k_ ≠ (u128003 : Value).ownBlock) (Kd.R_apart' (HO157.out) (Kd.S_typed HO_128003.out) (by decide)) (fun k_ hk => ⟨⟨hk.1.1, hk.1.2⟩, hk.2⟩))) (fun _ h_ => h_)))
                 (case aB => exact (lq HB.out))
                 (case aF => exact (fun k_ hk => ⟨Kd.fresh' (Kd.R_lt (rq HO151.out)) k_ hk, Kd.freshB (g := gb138) (o := .cells #[.int .i64 (wrap64 (Int.tdiv (wrap64 (Int.tdiv a1 a0_2)) a0_0)), .bool x139001_2] 118 (0, 0)) (bq BK138.out) k_ hk⟩))
                 (case aO => exact (by (with_reducible repeat (first | apply Kd.S_alloc | apply Kd.S_drewN | apply Kd.S_drew)); exact Kd.S_mono HO_128003.out (fun k_ hk => ⟨⟨hk.1.1, hk.1.2⟩, fun e_ => hk.2 e_⟩)))
                 (case aS => exact (below_size (lq HB.out)))
                 (case aL => have := LMc47.out; omega)
                 intro v159 w58 ho hb hg hat
                 rw [← Ny158.out] at ho
                 have n0_ := Aside0.mk (Kd.R_over' (rq HO151.out) (Kd.S_typed (by (with_reducible repeat (first | apply Kd.S_alloc | apply Kd.S_drewN | apply Kd.S_drew)); exact HO_128003.out)) (by decide) hg)
                 have n1_ := Aside0.mk (blk_grown (g := gb125) (o := .cells #[.int .i64 a0_0, .int .i64 a0_1, .int .i64 a0_2, .slice (some ad128) l0_3.length c0_3] 70 (0, 0)) (bq BK125.out) hg (Kd.S_ne HO_128003.out BK125.out (by decide)))
                 have n2_ := Aside0.mk (blk_grown (g := gb126) (o := .cells #[.int .i64 0, .int .i64 0, .int .i64 0, .slice none 0 0] 70 (0, 0)) (bq BK126.out) hg (Kd.S_ne HO_128003.out BK126.out (by decide)))
                 have n3_ := Aside0.mk (blk_grown (g := gb127) (o := .cells #[.int .i64 a0_0, .int .i64 a0_1, .int .i64 a0_2, u128003] 70 (0, 0)) (bq BK127.out) hg (Kd.S_ne HO_128003.out BK127.out (by decide)))
                 have n4_ := Aside0.mk (blk_grown (g := gb138) (o := .cells #[.int .i64 (wrap64 (Int.tdiv (wrap64 (Int.tdiv a1 a0_2)) a0_0)), .bool x139001_2] 118 (0, 0)) (bq BK138.out) hg (Kd.S_ne HO_128003.out BK138.out (by decide)))
                 have n5_ := Aside0.mk (hb)
                 have n6_ := Aside0.mk (ho)
                 clear HO151
                 clear BK125
                 clear BK126
                 clear BK127
                 clear BK138
                 clear HB
                 clear HO_128003
                 clear HO157
                 have HO151 := n0_
                 have BK125 := n1_
                 have BK126 := n2_
                 have BK127 := n3_
                 have BK138 := n4_
                 have HB := n5_
                 have HO160 := n6_
                 clear n0_ n1_ n2_ n3_ n4_ n5_ n6_
                 clear ho hb hg hat
                 obtain ⟨Ao60, co60, eo60⟩ := Kd.S_slice HO160.out
                 (first | subst eo60 | (injection eo60 with f1_ f2_ f3_; have f4_ := f1_.symm; have f5_ := f3_.symm; clear f1_ f2_ f3_; subst f4_; subst f5_))
                 refine hK.out _ _ ⟨(blk_cell BK127.out 0).trans rfl, (blk_cell BK127.out 1).trans rfl, (blk_cell BK127.out 2).trans rfl, (blk_cell BK127.out 3).trans rfl, (blk_cell BK138.out 0).trans rfl, (blk_cell BK138.out 1).trans rfl⟩ (fun hHeld => ?_)
                 clear hK K
                 refine norm_ (a' := ?_) ?_ ?_
                 rotate_left
                 ·show Act.put _ (some 119) _ = _
                  simp only [Act.put, List.setIfInBounds_toArray, List.set_cons_zero, List.set_cons_succ, i64_w, i32_w]
                  rfl
                 refine pure_ (i := 8) (N := some 120) (v := ?_) (a' := ?_) #[true, true, true, true, true, true, true, true, true, false] rfl rfl (any_of HT_.out (by kernel_rfl)) (fun _ _ _ h => h) (Or.inl ⟨by rfl, ?_⟩) ?_ ?_
                 rotate_left
                 ·intro w'
                  go_simp
                  with_reducible rfl
                 rotate_left
                 ·simp only [Act.put, List.setIfInBounds_toArray, List.set_cons_zero, List.set_cons_succ, i64_w, i32_w]
                  rfl
                 refine last_ (i := 9) (N := none) #[true, true, true, true, true, true, true, true, true, true] rfl rfl (one_of HT_.out (by kernel_rfl)) (by decide) (fun K hK => ?_)
                 have hs61 : w58.cell? ⟨gb127, 3, none⟩ = some (u128003) := (blk_cell BK127.out 3).trans rfl
                 have hfs61 := blk_frozen BK127.out 3
                 have hns61_0 := NB125_127.out
                 have hns61_1 := NB126_127.out
                 have hns61_3 := NB138_127.out
                 have hms61_0 := NB127_125.out
                 have hms61_1 := NB127_126.out
                 have hms61_3 := NB127_138.out
                 refine skip_ (w1 := ?_) (by rfl) rfl ?_ ?_
                 rotate_left
                 ·go_simp
                  rfl
                 refine hK.out _ _ ?_
                 clear hK K
                 refine done_ (done_of HT_.out (by kernel_rfl)) ?_
                 try go_wp2
                 go_roundg k2
                 case measure => have := HK1.out; have := HK2.out; omega
                 case rel => exact ⟨(x13_2), ((rd_T118 x18_2 (ji42)).f1), (wrap64 (x15_1 + 1)), (y158), (.slice Ao60 y158.length co60), (by first | rfl | (simp; done) | (simp [*]; done)), (by first | rfl | (simp; done) | (simp only [← hji42] <;> (first | rfl | simp)) | (simp [*]; done)), (by first | rfl | (simp; done) | (simp [*]; done)), H', ⟨by have := HK1.out; have := HK2.out; omega⟩, ⟨by (with_reducible repeat (first | apply Kd.S_alloc | apply Kd.S_drewN | apply Kd.S_drew)); exact Kd.S_mono (Kd.S_far (p := ⟨gb127, 3, none⟩) (Kd.S_types HO160.out BK127.out (by decide)) (fun _ hk => hk.2) (.slice Ao60 y158.length co60)) (fun _ hk => trivial)⟩, ⟨by (with_reducible repeat (first | refine blk_drewN ?_ _ | refine blk_drew ?_ | refine blk_alloc ?_ _)); refine blk_far ?_ NB125_127.out _; (with_reducible repeat (first | refine blk_drewN ?_ _ | refine blk_drew ?_ | refine blk_alloc ?_ _)); exact BK125.out⟩, ⟨by (with_reducible repeat (first | refine blk_drewN ?_ _ | refine blk_drew ?_ | refine blk_alloc ?_ _)); refine blk_far ?_ NB126_127.out _; (with_reducible repeat (first | refine blk_drewN ?_ _ | refine blk_drew ?_ | refine blk_alloc ?_ _)); exact BK126.out⟩, ⟨by (with_reducible repeat (first | refine blk_drewN ?_ _ | refine blk_drew ?_ | refine blk_alloc ?_ _)); refine blk_put (cs := #[.int .i64 a0_0, .int .i64 a0_1, .int .i64 a0_2, u128003]) ?_ 3 _ rfl; (with_reducible repeat (first | refine blk_drewN ?_ _ | refine blk_drew ?_ | refine blk_alloc ?_ _)); exact BK127.out⟩, ⟨by repeat (first | (with_reducible first | exact HB.out | apply below_alloc | apply pw_below_drewN | apply below_drew1 | refine below_set ?_ GE127.out) | exact HB.out)⟩⟩
                ·rw [if_neg c47] at H
                 exact absurd H (by simp)
               ·rw [if_neg c46] at H
                exact absurd H (by simp)
              ·rw [if_neg c45] at H
               exact absurd H (by simp)
             ·rw [if_neg c44] at H
              exact absurd H (by simp)
            ·rw [if_neg c43] at H
             exact absurd H (by simp)
           ·rw [if_neg c41] at H
            have c41b0 : ((x18_2.length : Int) == a0_1) = false := beq_eq_false_iff_ne.mpr c41
            have c41b1 : ((x18_2.length : Int) != a0_1) = true := bne_iff_ne.mpr c41
            obtain ⟨y161, hy161⟩ : ∃ y_ : List (S118), y_ = (([(⟨(wrap64 (Int.tdiv (wrap64 (Int.tdiv a1 a0_2)) a0_0)), x139001_2⟩ : S118)] : List (S118))) := ⟨_, rfl⟩
            replace H : (if y161.length + x18_2.length < 8796093022208 then (if x128003_1.length < 5864062014805 then (spec_l05Use.l0 k2 a2 (Int.tmod (wrap64 (Int.tdiv a1 a0_2)) a0_0) (wrap64 (Int.tdiv (wrap64 (Int.tdiv a1 a0_2)) a0_0)) x13_2 x14_1 (wrap64 (x15_1 + 1)) a0_0 a0_1 a0_2 l0_3 a0_0 a0_1 a0_2 (x128003_1 ++ [(y161 ++ x18_2)])) else (none)) else (none)) = some (r1, r2, r3, r4, r5, r6) := by first | (rw [hy161]; with_reducible exact H) | (have H2_ := (Option.bind_some _ _).symm.trans H; rw [hy161]; with_reducible exact H2_) | (have H2_ := (Option.bind_some _ _).symm.trans H; with_reducible exact H2_) | with_reducible exact H | (rw [hy161]; exact H) | exact H
            have Ny161 := Aside0.mk hy161
            clear hy161
            by_cases c62 : y161.length + x18_2.length < 8796093022208
            ·rw [if_pos c62] at H
             have LMc62 := Aside0.mk c62
             clear c62
             obtain ⟨y164, hy164⟩ : ∃ y_ : List (S118), y_ = (y161 ++ x18_2) := ⟨_, rfl⟩
             replace H : (if x128003_1.length < 5864062014805 then (spec_l05Use.l0 k2 a2 (Int.tmod (wrap64 (Int.tdiv a1 a0_2)) a0_0) (wrap64 (Int.tdiv (wrap64 (Int.tdiv a1 a0_2)) a0_0)) x13_2 x14_1 (wrap64 (x15_1 + 1)) a0_0 a0_1 a0_2 l0_3 a0_0 a0_1 a0_2 (x128003_1 ++ [y164])) else (none)) = some (r1, r2, r3, r4, r5, r6) := by first | (rw [hy164]; with_reducible exact H) | (have H2_ := (Option.bind_some _ _).symm.trans H; rw [hy164]; with_reducible exact H2_) | (have H2_ := (Option.bind_some _ _).symm.trans H; with_reducible exact H2_) | with_reducible exact H | (rw [hy164]; exact H) | exact H
             have Ny164 := Aside0.mk hy164
             clear hy164
             by_cases c63 : x128003_1.length < 5864062014805
             ·rw [if_pos c63] at H
              have LMc63 := Aside0.mk c63
              clear c63
              obtain ⟨y167, hy167⟩ : ∃ y_ : List (List (S118)), y_ = (x128003_1 ++ [y164]) := ⟨_, rfl⟩
              replace H : (spec_l05Use.l0 k2 a2 (Int.tmod (wrap64 (Int.tdiv a1 a0_2)) a0_0) (wrap64 (Int.tdiv (wrap64 (Int.tdiv a1 a0_2)) a0_0)) x13_2 x14_1 (wrap64 (x15_1 + 1)) a0_0 a0_1 a0_2 l0_3 a0_0 a0_1 a0_2 y167) = some (r1, r2, r3, r4, r5, r6) := by first | (rw [hy167]; with_reducible exact H) | (have H2_ := (Option.bind_some _ _).symm.trans H; rw [hy167]; with_reducible exact H2_) | (have H2_ := (Option.bind_some _ _).symm.trans H; with_reducible exact H2_) | with_reducible exact H | (rw [hy167]; exact H) | exact H
              have Ny167 := Aside0.mk hy167
              clear hy167
              have H' := Aside0.mk H
              clear H
              obtain ⟨Ao64, co64, eo64⟩ := Kd.R_slice HO_18.out
              subst eo64
              have hnb65 := NB125_126.out
              have hnc65 := NB126_125.out
              have hnb66 := NB125_127.out
              have hnc66 := NB127_125.out
              have hnb67 := NB125_138.out
              have hnc67 := NB138_125.out
              have hcz68_0 : wr.cell? ⟨gb125, 0, none⟩ = some (.int .i64 a0_0) := (blk_cell BK125.out 0).trans rfl
              have hcz68_1 : wr.cell? ⟨gb125, 1, none⟩ = some (.int .i64 a0_1) := (blk_cell BK125.out 1).trans rfl
              have hcz68_2 : wr.cell? ⟨gb125, 2, none⟩ = some (.int .i64 a0_2) := (blk_cell BK125.out 2).trans rfl
              have hcz68_3 : wr.cell? ⟨gb125, 3, none⟩ = some (.slice (some ad128) l0_3.length c0_3) := (blk_cell BK125.out 3).trans rfl
              have hfz68_0 := blk_frozen BK125.out 0
              have hfz68_1 := blk_frozen BK125.out 1
              have hfz68_2 := blk_frozen BK125.out 2
              have hfz68_3 := blk_frozen BK125.out 3
              try go_wp2
              have n0_ := Aside0.mk (Kd.R_drew HO_18.out)
              have n1_ := Aside0.mk (Kd.S_drew HO_128003.out)
              have n2_ := Aside0.mk (blk_drew BK125.out)
              have n3_ := Aside0.mk (blk_drew BK126.out)
              have n4_ := Aside0.mk (blk_drew BK127.out)
              have n5_ := Aside0.mk (blk_drew BK138.out)
              have n6_ := Aside0.mk (below_drew1 HB.out)
              clear HO_18
              clear HO_128003
              clear BK125
              clear BK126
              clear BK127
              clear BK138
              clear HB
              have HO_18 := n0_
              have HO_128003 := n1_
              have BK125 := n2_
              have BK126 := n3_
              have BK127 := n4_
              have BK138 := n5_
              have HB := n6_
              clear n0_ n1_ n2_ n3_ n4_ n5_ n6_
              refine start_ (n := 10) (S := fun w' => w'.cell? ⟨gb127, 0, none⟩ = some (.int .i64 a0_0) ∧ w'.cell? ⟨gb127, 1, none⟩ = some (.int .i64 a0_1) ∧ w'.cell? ⟨gb127, 2, none⟩ = some (.int .i64 a0_2) ∧ w'.cell? ⟨gb127, 3, none⟩ = some (u128003) ∧ w'.cell? ⟨gb138, 0, none⟩ = some (.int .i64 (wrap64 (Int.tdiv (wrap64 (Int.tdiv a1 a0_2)) a0_0))) ∧ w'.cell? ⟨gb138, 1, none⟩ = some (.bool x139001_2)) (ds := [9]) #[false, false, false, false, false, false, false, false, false, false] (by kernel_rfl) rfl rfl ⟨(blk_cell BK127.out 0).trans rfl, (blk_cell BK127.out 1).trans rfl, (blk_cell BK127.out 2).trans rfl, (blk_cell BK127.out 3).trans rfl, (blk_cell BK138.out 0).trans rfl, (blk_cell BK138.out 1).trans rfl⟩ (fun hHeld => ?_); refine with_tabW spec_l05Use.tab24 spec_l05Use.bits24 (fun HT_ HW_ => ?_)
              generalize wr.drew = w69 at HO_18 HO_128003 BK125 BK126 BK127 BK138 HB hHeld ⊢
              refine pure_ (i := 0) (N := some 112) (v := ?_) (a' := ?_) #[true, false, false, false, false, false, false, false, false, false] rfl rfl (any_of HT_.out (by kernel_rfl)) (fun _ _ _ h => h) (Or.inl ⟨by rfl, ?_⟩) ?_ ?_
              rotate_left
              ·intro w'
               go_simp
               with_reducible rfl
              rotate_left
              ·simp only [Act.put, List.setIfInBounds_toArray, List.set_cons_zero, List.set_cons_succ, i64_w, i32_w]
               rfl
              refine pure_ (i := 4) (N := some 116) (v := ?_) (a' := ?_) #[true, false, false, false, true, false, false, false, false, false] rfl rfl (any_of HT_.out (by kernel_rfl)) (fun _ _ _ h => h) (Or.inl ⟨by rfl, ?_⟩) ?_ ?_
              rotate_left
              ·intro w'
               go_simp
               with_reducible rfl
              rotate_left
              ·simp only [Act.put, List.setIfInBounds_toArray, List.set_cons_zero, List.set_cons_succ, i64_w, i32_w]
               rfl
              refine take_ (i := 1) (N := some 113) (v := ?_) (a' := ?_) #[true, true, false, false, true, false, false, false, false, false] rfl rfl (take_ofW HT_.out HW_.out (by kernel_rfl)) (fun _ _ _ h => h) (Or.inl ⟨by rfl, ?_⟩) hHeld ?_ ?_
              rotate_left
              ·rintro w' ⟨s0, s1, s2, s3, s4, s5⟩
               go_simp
               with_reducible rfl
              rotate_left
              ·simp only [Act.put, List.setIfInBounds_toArray, List.set_cons_zero, List.set_cons_succ, i64_w, i32_w]
               rfl
              refine take_ (i := 2) (N := some 114) (v := ?_) (a' := ?_) #[true, true, true, false, true, false, false, false, false, false] rfl rfl (take_ofW HT_.out HW_.out (by kernel_rfl)) (fun _ _ _ h => h) (Or.inl ⟨by rfl, ?_⟩) hHeld ?_ ?_
              rotate_left
              ·rintro w' ⟨s0, s1, s2, s3, s4, s5⟩
               go_simp
               with_reducible rfl
              rotate_left
              ·simp only [Act.put, List.setIfInBounds_toArray, List.set_cons_zero, List.set_cons_succ, i64_w, i32_w]
               rfl
              refine one_ (i := 3) (N := some 115) #[true, true, true, true, true, false, false, false, false, false] rfl rfl (one_of HT_.out (by kernel_rfl)) (by decide) (fun K hK => ?_)
              refine Kd.R_lit_step k118 _ 118 ?hg (N := 115) ?hd (xs := ([(⟨(wrap64 (Int.tdiv (wrap64 (Int.tdiv a1 a0_2)) a0_0)), x139001_2⟩ : S118)] : List (S118))) (inner := [.int .i64 (wrap64 (Int.tdiv (wrap64 (Int.tdiv a1 a0_2)) a0_0)), .bool x139001_2]) (ok := fun _ => True) (okp := fun _ => True) ?hr ?hp (fun _ hk => hk) trivial (Below.refl _ _) (Nat.le_refl _) (by simp) ?_; (case hd => rfl); (case hg => rfl); (case hr => first | (go_simp; done) | (go_simp; rfl)); (case hp => exact (Reps.c2 (show Kd.M k118 _ _ _ (⟨(wrap64 (Int.tdiv (wrap64 (Int.tdiv a1 a0_2)) a0_0)), x139001_2⟩ : S118) [.int .i64 (wrap64 (Int.tdiv (wrap64 (Int.tdiv a1 a0_2)) a0_0)), .bool x139001_2] from (k118_mkM _ _ _ (⟨(wrap64 (Int.tdiv (wrap64 (Int.tdiv a1 a0_2)) a0_0)), x139001_2⟩ : S118) )) (Reps.none _ _)))
              intro v162 w70 ho71 hb hg_ hnew_
              clear hg_ hnew_
              (first | rw [← Ny161.out] at ho71 | (simp only [Int.reduceToNat] at ho71; rw [← Ny161.out] at ho71))
              have n0_ := Aside0.mk (Kd.R_elder' (rq HO_18.out) (Kd.R_base ho71) hb)
              have n1_ := Aside0.mk (Kd.S_elder' (by (with_reducible repeat (first | apply Kd.S_alloc | apply Kd.S_drewN | apply Kd.S_drew)); exact HO_128003.out) (Kd.R_base ho71) hb)
              have n2_ := Aside0.mk (Kd.R_lower (Kd.R_newB (Kd.R_new' ho71 (Kd.R_lt (rq HO_18.out))) (g := gb138) (o := .cells #[.int .i64 (wrap64 (Int.tdiv (wrap64 (Int.tdiv a1 a0_2)) a0_0)), .bool x139001_2] 118 (0, 0)) (bq BK138.out)) (below_size (lq HB.out)))
              have n3_ := Aside0.mk (blk_below (bq BK125.out) hb)
              have n4_ := Aside0.mk (blk_below (bq BK126.out) hb)
              have n5_ := Aside0.mk (blk_below (bq BK127.out) hb)
              have n6_ := Aside0.mk (blk_below (bq BK138.out) hb)
              have n7_ := Aside0.mk (below_step (lq HB.out) hb)
              clear HO_18
              clear HO_128003
              clear BK125
              clear BK126
              clear BK127
              clear BK138
              clear HB
              have HO_18 := n0_
              have HO_128003 := n1_
              have HO163 := n2_
              have BK125 := n3_
              have BK126 := n4_
              have BK127 := n5_
              have BK138 := n6_
              have HB := n7_
              clear n0_ n1_ n2_ n3_ n4_ n5_ n6_ n7_
              clear hb ho71
              refine hK.out _ _ ⟨(blk_cell BK127.out 0).trans rfl, (blk_cell BK127.out 1).trans rfl, (blk_cell BK127.out 2).trans rfl, (blk_cell BK127.out 3).trans rfl, (blk_cell BK138.out 0).trans rfl, (blk_cell BK138.out 1).trans rfl⟩ (fun hHeld => ?_)
              clear hK K
              refine norm_ (a' := ?_) ?_ ?_
              rotate_left
              ·show Act.put _ (some 115) _ = _
               simp only [Act.put, List.setIfInBounds_toArray, List.set_cons_zero, List.set_cons_succ, i64_w, i32_w]
               rfl
              refine one_ (i := 5) (N := some 117) #[true, true, true, true, true, true, false, false, false, false] rfl rfl (one_of HT_.out (by kernel_rfl)) (by decide) (fun K hK => ?_)
              refine Kd.R_append_rows_step k118 (w0 := w) w.heap.size (by rfl) (.tmp 115) (.tmp 116) 116 118 (.agg #[(.int .i64 0), (.bool false)]) 16 rfl Try.underlying116 info118 rfl (by decide) (by omega) v162 y161 x18_2 _ _ _ (fun k_ => some k_ ≠ (.slice Ao64 x18_2.length co64 : Value).ownBlock ∧ k_ ≠ gb138) (fun _ => False) rfl rfl ?aO ?aR (fun _ _ h => h) (fun _ h => h.elim) ?aF ?aB ?aS ?aL ?_
              (case aR => repeat (first | exact (Kd.R_reads' HO_18.out).2.2 | (with_reducible refine Kd.C_alloc ?_ _) | (with_reducible refine Kd.C_drewN ?_ _) | (with_reducible refine Kd.C_drew ?_)))
              (case aB => exact (lq HB.out))
              (case aF => exact (fun k_ hk => ⟨Kd.fresh' (Kd.R_lt (rq HO_18.out)) k_ hk, Kd.freshB (g := gb138) (o := .cells #[.int .i64 (wrap64 (Int.tdiv (wrap64 (Int.tdiv a1 a0_2)) a0_0)), .bool x139001_2] 118 (0, 0)) (bq BK138.out) k_ hk⟩))
              (case aO => exact (by (with_reducible repeat (first | apply Kd.R_alloc | apply Kd.R_drewN | apply Kd.R_drew)); exact Kd.R_mono HO163.out (fun _ hk => ⟨hk.1.2, hk.2⟩)))
              (case aS => exact (below_size (lq HB.out)))
              (case aL => have := LMc62.out; omega)
              intro v165 w72 ho hb hg hat
              rw [← Ny164.out] at ho
              have n0_ := Aside0.mk (Kd.R_after (ok := (fun k_ => k_ ≠ gb138)) (rq HO_18.out) hg hat)
              have n1_ := Aside0.mk (Kd.S_after (ok := (fun k_ => some k_ ≠ (.slice Ao64 x18_2.length co64 : Value).ownBlock ∧ k_ ≠ gb138)) (by (with_reducible repeat (first | apply Kd.S_alloc | apply Kd.S_drewN | apply Kd.S_drew)); exact HO_128003.out) hg hat)
              have n2_ := Aside0.mk (blk_grown (g := gb125) (o := .cells #[.int .i64 a0_0, .int .i64 a0_1, .int .i64 a0_2, .slice (some ad128) l0_3.length c0_3] 70 (0, 0)) (bq BK125.out) hg (Kd.R_ne HO163.out BK125.out (by decide)))
              have n3_ := Aside0.mk (blk_grown (g := gb126) (o := .cells #[.int .i64 0, .int .i64 0, .int .i64 0, .slice none 0 0] 70 (0, 0)) (bq BK126.out) hg (Kd.R_ne HO163.out BK126.out (by decide)))
              have n4_ := Aside0.mk (blk_grown (g := gb127) (o := .cells #[.int .i64 a0_0, .int .i64 a0_1, .int .i64 a0_2, u128003] 70 (0, 0)) (bq BK127.out) hg (Kd.R_ne HO163.out BK127.out (by decide)))
              have n5_ := Aside0.mk (blk_grown (g := gb138) (o := .cells #[.int .i64 (wrap64 (Int.tdiv (wrap64 (Int.tdiv a1 a0_2)) a0_0)), .bool x139001_2] 118 (0, 0)) (bq BK138.out) hg (Kd.R_away HO163.out (fun _ hk => hk.2)))
              have n6_ := Aside0.mk (hb)
              have n7_ := Aside0.mk (ho)
              clear HO_18
              clear HO_128003
              clear BK125
              clear BK126
              clear BK127
              clear BK138
              clear HB
              clear HO163
              have HO_18 := n0_
              have HO_128003 := n1_
              have BK125 := n2_
              have BK126 := n3_
              have BK127 := n4_
              have BK138 := n5_
              have HB := n6_
              have HO166 := n7_
              clear n0_ n1_ n2_ n3_ n4_ n5_ n6_ n7_
              clear ho hb hg hat
              obtain ⟨Ao74, co74, eo74⟩ := Kd.R_slice HO166.out
              (first | subst eo74 | (injection eo74 with f1_ f2_ f3_; have f4_ := f1_.symm; have f5_ := f3_.symm; clear f1_ f2_ f3_; subst f4_; subst f5_))
              refine hK.out _ _ ⟨(blk_cell BK127.out 0).trans rfl, (blk_cell BK127.out 1).trans rfl, (blk_cell BK127.out 2).trans rfl, (blk_cell BK127.out 3).trans rfl, (blk_cell BK138.out 0).trans rfl, (blk_cell BK138.out 1).trans rfl⟩ (fun hHeld => ?_)
              clear hK K
              refine norm_ (a' := ?_) ?_ ?_
              rotate_left
              ·show Act.put _ (some 117) _ = _
               simp only [Act.put, List.setIfInBounds_toArray, List.set_cons_zero, List.set_cons_succ, i64_w, i32_w]
               rfl
              refine one_ (i := 6) (N := some 118) #[true, true, true, true, true, true, true, false, false, false] rfl rfl (one_of HT_.out (by kernel_rfl)) (by decide) (fun K hK => ?_)
              refine value_ (w1 := ?_) (v := ?_) (by rfl) rfl ?_ ?_
              rotate_left 2
              ·go_simp
               constructor
               ·rfl
               ·rfl
              refine hK.out _ _ ⟨(blk_cell (blk_alloc BK127.out _) 0).trans rfl, (blk_cell (blk_alloc BK127.out _) 1).trans rfl, (blk_cell (blk_alloc BK127.out _) 2).trans rfl, (blk_cell (blk_alloc BK127.out _) 3).trans rfl, (blk_cell (blk_alloc BK138.out _) 0).trans rfl, (blk_cell (blk_alloc BK138.out _) 1).trans rfl⟩ (fun hHeld => ?_)
              clear hK K
              refine norm_ (a' := ?_) ?_ ?_
              rotate_left
              ·show Act.put _ (some 118) _ = _
               simp only [Act.put, List.setIfInBounds_toArray, List.set_cons_zero, List.set_cons_succ, i64_w, i32_w]
               rfl
              refine one_ (i := 7) (N := some 119) #[true, true, true, true, true, true, true, true, false, false] rfl rfl (one_of HT_.out (by kernel_rfl)) (by decide) (fun K hK => ?_)
              refine Kd.S_append_step (Kd.slice 118 k118) (w0 := w) w.heap.size (by rfl) (.tmp 113) (.tmp 118) 68 116 (.slice none 0 0) 24 rfl Try.underlying68 info116 rfl (by decide) (by omega) u128003 x128003_1 y164 [.slice Ao74 y164.length co74] (fun k_ => some k_ ≠ (.slice Ao64 x18_2.length co64 : Value).ownBlock ∧ k_ ≠ gb138) (fun k_ => some k_ = (.slice Ao74 y164.length co74 : Value).ownBlock) rfl rfl ?aP (fun k_ hk_ => ((Kd.R_mono (ok' := fun k_ => ((fun k_ => some k_ ≠ (.slice Ao64 x18_2.length co64 : Value).ownBlock ∧ k_ ≠ gb138)) k_ ∧ some k_ ≠ (u128003 : Value).ownBlock) (Kd.R_apart' (HO166.out) (Kd.S_typed HO_128003.out) (by decide)) (fun k_ hk => ⟨⟨hk.1.1, hk.1.2⟩, hk.2⟩))).1 k_ hk_.symm) ?aF ?aO ?aB ?aS ?aL ?_
              (case aP => exact Kd.M_row (Kd.R_mono (Kd.R_tight rfl (Kd.R_mono (ok' := fun k_ => ((fun k_ => some k_ ≠ (.slice Ao64 x18_2.length co64 : Value).ownBlock ∧ k_ ≠ gb138)) k_ ∧ some k_ ≠ (u128003 : Value).ownBlock) (Kd.R_apart' (HO166.out) (Kd.S_typed HO_128003.out) (by decide)) (fun k_ hk => ⟨⟨hk.1.1, hk.1.2⟩, hk.2⟩))) (fun _ h_ => h_)))
              (case aB => exact (lq HB.out))
              (case aF => exact (fun k_ hk => ⟨Kd.fresh' (Kd.R_lt (rq HO_18.out)) k_ hk, Kd.freshB (g := gb138) (o := .cells #[.int .i64 (wrap64 (Int.tdiv (wrap64 (Int.tdiv a1 a0_2)) a0_0)), .bool x139001_2] 118 (0, 0)) (bq BK138.out) k_ hk⟩))
              (case aO => exact (by (with_reducible repeat (first | apply Kd.S_alloc | apply Kd.S_drewN | apply Kd.S_drew)); exact Kd.S_mono HO_128003.out (fun k_ hk => ⟨⟨hk.1.1, hk.1.2⟩, fun e_ => hk.2 e_⟩)))
              (case aS => exact (below_size (lq HB.out)))
              (case aL => have := LMc63.out; omega)
              intro v168 w73 ho hb hg hat
              rw [← Ny167.out] at ho
              have n0_ := Aside0.mk (Kd.R_over' (rq HO_18.out) (Kd.S_typed (by (with_reducible repeat (first | apply Kd.S_alloc | apply Kd.S_drewN | apply Kd.S_drew)); exact HO_128003.out)) (by decide) hg)
              have n1_ := Aside0.mk (blk_grown (g := gb125) (o := .cells #[.int .i64 a0_0, .int .i64 a0_1, .int .i64 a0_2, .slice (some ad128) l0_3.length c0_3] 70 (0, 0)) (bq BK125.out) hg (Kd.S_ne HO_128003.out BK125.out (by decide)))
              have n2_ := Aside0.mk (blk_grown (g := gb126) (o := .cells #[.int .i64 0, .int .i64 0, .int .i64 0, .slice none 0 0] 70 (0, 0)) (bq BK126.out) hg (Kd.S_ne HO_128003.out BK126.out (by decide)))
              have n3_ := Aside0.mk (blk_grown (g := gb127) (o := .cells #[.int .i64 a0_0, .int .i64 a0_1, .int .i64 a0_2, u128003] 70 (0, 0)) (bq BK127.out) hg (Kd.S_ne HO_128003.out BK127.out (by decide)))
              have n4_ := Aside0.mk (blk_grown (g := gb138) (o := .cells #[.int .i64 (wrap64 (Int.tdiv (wrap64 (Int.tdiv a1 a0_2)) a0_0)), .bool x139001_2] 118 (0, 0)) (bq BK138.out) hg (Kd.S_ne HO_128003.out BK138.out (by decide)))
              have n5_ := Aside0.mk (hb)
              have n6_ := Aside0.mk (ho)
              clear HO_18
              clear BK125
              clear BK126
              clear BK127
              clear BK138
              clear HB
              clear HO_128003
              clear HO166
              have HO_18 := n0_
              have BK125 := n1_
              have BK126 := n2_
              have BK127 := n3_
              have BK138 := n4_
              have HB := n5_
              have HO169 := n6_
              clear n0_ n1_ n2_ n3_ n4_ n5_ n6_
              clear ho hb hg hat
              obtain ⟨Ao75, co75, eo75⟩ := Kd.S_slice HO169.out
              (first | subst eo75 | (injection eo75 with f1_ f2_ f3_; have f4_ := f1_.symm; have f5_ := f3_.symm; clear f1_ f2_ f3_; subst f4_; subst f5_))
              refine hK.out _ _ ⟨(blk_cell BK127.out 0).trans rfl, (blk_cell BK127.out 1).trans rfl, (blk_cell BK127.out 2).trans rfl, (blk_cell BK127.out 3).trans rfl, (blk_cell BK138.out 0).trans rfl, (blk_cell BK138.out 1).trans rfl⟩ (fun hHeld => ?_)
              clear hK K
              refine norm_ (a' := ?_) ?_ ?_
              rotate_left
              ·show Act.put _ (some 119) _ = _
               simp only [Act.put, List.setIfInBounds_toArray, List.set_cons_zero, List.set_cons_succ, i64_w, i32_w]
               rfl
              refine pure_ (i := 8) (N := some 120) (v := ?_) (a' := ?_) #[true, true, true, true, true, true, true, true, true, false] rfl rfl (any_of HT_.out (by kernel_rfl)) (fun _ _ _ h => h) (Or.inl ⟨by rfl, ?_⟩) ?_ ?_
              rotate_left
              ·intro w'
               go_simp
               with_reducible rfl
              rotate_left
              ·simp only [Act.put, List.setIfInBounds_toArray, List.set_cons_zero, List.set_cons_succ, i64_w, i32_w]
               rfl
              refine last_ (i := 9) (N := none) #[true, true, true, true, true, true, true, true, true, true] rfl rfl (one_of HT_.out (by kernel_rfl)) (by decide) (fun K hK => ?_)
              have hs76 : w73.cell? ⟨gb127, 3, none⟩ = some (u128003) := (blk_cell BK127.out 3).trans rfl
              have hfs76 := blk_frozen BK127.out 3
              have hns76_0 := NB125_127.out
              have hns76_1 := NB126_127.out
              have hns76_3 := NB138_127.out
              have hms76_0 := NB127_125.out
              have hms76_1 := NB127_126.out
              have hms76_3 := NB127_138.out
              refine skip_ (w1 := ?_) (by rfl) rfl ?_ ?_
              rotate_left
              ·go_simp
               rfl
              refine hK.out _ _ ?_
              clear hK K
              refine done_ (done_of HT_.out (by kernel_rfl)) ?_
              try go_wp2
              go_roundg k2
              case measure => have := HK1.out; have := HK2.out; omega
              case rel => exact ⟨(x13_2), (x14_1), (wrap64 (x15_1 + 1)), (y167), (.slice Ao75 y167.length co75), (by first | rfl | (simp; done) | (simp [*]; done)), (by first | rfl | (simp; done) | (simp [*]; done)), (by first | rfl | (simp; done) | (simp [*]; done)), H', ⟨by have := HK1.out; have := HK2.out; omega⟩, ⟨by (with_reducible repeat (first | apply Kd.S_alloc | apply Kd.S_drewN | apply Kd.S_drew)); exact Kd.S_mono (Kd.S_far (p := ⟨gb127, 3, none⟩) (Kd.S_types HO169.out BK127.out (by decide)) (fun _ hk => hk.2) (.slice Ao75 y167.length co75)) (fun _ hk => trivial)⟩, ⟨by (with_reducible repeat (first | refine blk_drewN ?_ _ | refine blk_drew ?_ | refine blk_alloc ?_ _)); refine blk_far ?_ NB125_127.out _; (with_reducible repeat (first | refine blk_drewN ?_ _ | refine blk_drew ?_ | refine blk_alloc ?_ _)); exact BK125.out⟩, ⟨by (with_reducible repeat (first | refine blk_drewN ?_ _ | refine blk_drew ?_ | refine blk_alloc ?_ _)); refine blk_far ?_ NB126_127.out _; (with_reducible repeat (first | refine blk_drewN ?_ _ | refine blk_drew ?_ | refine blk_alloc ?_ _)); exact BK126.out⟩, ⟨by (with_reducible repeat (first | refine blk_drewN ?_ _ | refine blk_drew ?_ | refine blk_alloc ?_ _)); refine blk_put (cs := #[.int .i64 a0_0, .int .i64 a0_1, .int .i64 a0_2, u128003]) ?_ 3 _ rfl; (with_reducible repeat (first | refine blk_drewN ?_ _ | refine blk_drew ?_ | refine blk_alloc ?_ _)); exact BK127.out⟩, ⟨by repeat (first | (with_reducible first | exact HB.out | apply below_alloc | apply pw_below_drewN | apply below_drew1 | refine below_set ?_ GE127.out) | exact HB.out)⟩⟩
             ·rw [if_neg c63] at H
              exact absurd H (by simp)
            ·rw [if_neg c62] at H
             exact absurd H (by simp)
       ·rw [if_neg c16] at H
        have c16b0 : (x15_1 == (Int.tmod (wrap64 (Int.tdiv a1 a0_2)) a0_0)) = false := beq_eq_false_iff_ne.mpr c16
        have c16b1 : (x15_1 != (Int.tmod (wrap64 (Int.tdiv a1 a0_2)) a0_0)) = true := bne_iff_ne.mpr c16
        obtain ⟨y129, hy129⟩ : ∃ y_ : List (S118), y_ = (([] : List (S118))) := ⟨_, rfl⟩
        replace H : (if y129.length + (rd_L3 l0_3 x15_1).length < 8796093022208 then (if x128003_1.length < 5864062014805 then (spec_l05Use.l0 k1 a2 (Int.tmod (wrap64 (Int.tdiv a1 a0_2)) a0_0) (wrap64 (Int.tdiv (wrap64 (Int.tdiv a1 a0_2)) a0_0)) x13_1 x14_1 (wrap64 (x15_1 + 1)) a0_0 a0_1 a0_2 l0_3 a0_0 a0_1 a0_2 (x128003_1 ++ [(y129 ++ (rd_L3 l0_3 x15_1))])) else (none)) else (none)) = some (r1, r2, r3, r4, r5, r6) := by first | (rw [hy129]; with_reducible exact H) | (have H2_ := (Option.bind_some _ _).symm.trans H; rw [hy129]; with_reducible exact H2_) | (have H2_ := (Option.bind_some _ _).symm.trans H; with_reducible exact H2_) | with_reducible exact H | (rw [hy129]; exact H) | exact H
        have Ny129 := Aside0.mk hy129
        clear hy129
        by_cases c77 : y129.length + (rd_L3 l0_3 x15_1).length < 8796093022208
        ·rw [if_pos c77] at H
         have LMc77 := Aside0.mk c77
         clear c77
         obtain ⟨y132, hy132⟩ : ∃ y_ : List (S118), y_ = (y129 ++ (rd_L3 l0_3 x15_1)) := ⟨_, rfl⟩
         replace H : (if x128003_1.length < 5864062014805 then (spec_l05Use.l0 k1 a2 (Int.tmod (wrap64 (Int.tdiv a1 a0_2)) a0_0) (wrap64 (Int.tdiv (wrap64 (Int.tdiv a1 a0_2)) a0_0)) x13_1 x14_1 (wrap64 (x15_1 + 1)) a0_0 a0_1 a0_2 l0_3 a0_0 a0_1 a0_2 (x128003_1 ++ [y132])) else (none)) = some (r1, r2, r3, r4, r5, r6) := by first | (rw [hy132]; with_reducible exact H) | (have H2_ := (Option.bind_some _ _).symm.trans H; rw [hy132]; with_reducible exact H2_) | (have H2_ := (Option.bind_some _ _).symm.trans H; with_reducible exact H2_) | with_reducible exact H | (rw [hy132]; exact H) | exact H
         have Ny132 := Aside0.mk hy132
         clear hy132
         by_cases c78 : x128003_1.length < 5864062014805
         ·rw [if_pos c78] at H
          have LMc78 := Aside0.mk c78
          clear c78
          obtain ⟨y135, hy135⟩ : ∃ y_ : List (List (S118)), y_ = (x128003_1 ++ [y132]) := ⟨_, rfl⟩
          replace H : (spec_l05Use.l0 k1 a2 (Int.tmod (wrap64 (Int.tdiv a1 a0_2)) a0_0) (wrap64 (Int.tdiv (wrap64 (Int.tdiv a1 a0_2)) a0_0)) x13_1 x14_1 (wrap64 (x15_1 + 1)) a0_0 a0_1 a0_2 l0_3 a0_0 a0_1 a0_2 y135) = some (r1, r2, r3, r4, r5, r6) := by first | (rw [hy135]; with_reducible exact H) | (have H2_ := (Option.bind_some _ _).symm.trans H; rw [hy135]; with_reducible exact H2_) | (have H2_ := (Option.bind_some _ _).symm.trans H; with_reducible exact H2_) | with_reducible exact H | (rw [hy135]; exact H) | exact H
          have Ny135 := Aside0.mk hy135
          clear hy135
          have H' := Aside0.mk H
          clear H
          have hnb79 := NB125_126.out
          have hnc79 := NB126_125.out
          have hnb80 := NB125_127.out
          have hnc80 := NB127_125.out
          have hcz81_0 : wr.cell? ⟨gb125, 0, none⟩ = some (.int .i64 a0_0) := (blk_cell BK125.out 0).trans rfl
          have hcz81_1 : wr.cell? ⟨gb125, 1, none⟩ = some (.int .i64 a0_1) := (blk_cell BK125.out 1).trans rfl
          have hcz81_2 : wr.cell? ⟨gb125, 2, none⟩ = some (.int .i64 a0_2) := (blk_cell BK125.out 2).trans rfl
          have hcz81_3 : wr.cell? ⟨gb125, 3, none⟩ = some (.slice A0_3 l0_3.length c0_3) := (blk_cell BK125.out 3).trans rfl
          have hfz81_0 := blk_frozen BK125.out 0
          have hfz81_1 := blk_frozen BK125.out 1
          have hfz81_2 := blk_frozen BK125.out 2
          have hfz81_3 := blk_frozen BK125.out 3
          have p128 : 0 ≤ (x15_1 : Int) := of_decide_eq_true (by first | (with_reducible assumption) | assumption)
          have q128 : x15_1 < (l0_3.length : Int) := of_decide_eq_true (by first | (with_reducible assumption) | assumption)
          obtain ⟨ad128, A128_0, c128_0, e128, hx128_0, hl128_0, hi128_0⟩ := at_L3 HR0_3.out x15_1 p128 q128
          cases e128
          replace hx128_0 := (HB.out.cell (World.block_lt_of_cell? w _ hx128_0)).trans hx128_0
          have HR128_0 := Aside0.mk hi128_0
          have HC128_0 := Aside0.mk hl128_0
          clear hi128_0 hl128_0
          replace p128 := eq_true p128
          replace q128 := eq_true q128
          try go_wp2
          have n0_ := Aside0.mk (Kd.S_drew HO_128003.out)
          have n1_ := Aside0.mk (blk_drew BK125.out)
          have n2_ := Aside0.mk (blk_drew BK126.out)
          have n3_ := Aside0.mk (blk_drew BK127.out)
          have n4_ := Aside0.mk (below_drew1 HB.out)
          clear HO_128003
          clear BK125
          clear BK126
          clear BK127
          clear HB
          have HO_128003 := n0_
          have BK125 := n1_
          have BK126 := n2_
          have BK127 := n3_
          have HB := n4_
          clear n0_ n1_ n2_ n3_ n4_
          refine start_ (n := 9) (S := fun w' => w'.cell? ⟨gb127, 0, none⟩ = some (.int .i64 a0_0) ∧ w'.cell? ⟨gb127, 1, none⟩ = some (.int .i64 a0_1) ∧ w'.cell? ⟨gb127, 2, none⟩ = some (.int .i64 a0_2) ∧ w'.cell? ⟨gb127, 3, none⟩ = some (u128003)) (ds := [8]) #[false, false, false, false, false, false, false, false, false] (by kernel_rfl) rfl rfl ⟨(blk_cell BK127.out 0).trans rfl, (blk_cell BK127.out 1).trans rfl, (blk_cell BK127.out 2).trans rfl, (blk_cell BK127.out 3).trans rfl⟩ (fun hHeld => ?_); refine with_tabW spec_l05Use.tab11 spec_l05Use.bits11 (fun HT_ HW_ => ?_)
          generalize wr.drew = w82 at HO_128003 BK125 BK126 BK127 HB hHeld ⊢
          refine pure_ (i := 0) (N := some 53) (v := ?_) (a' := ?_) #[true, false, false, false, false, false, false, false, false] rfl rfl (any_of HT_.out (by kernel_rfl)) (fun _ _ _ h => h) (Or.inl ⟨by rfl, ?_⟩) ?_ ?_
          rotate_left
          ·intro w'
           go_simp
           with_reducible rfl
          rotate_left
          ·simp only [Act.put, List.setIfInBounds_toArray, List.set_cons_zero, List.set_cons_succ, i64_w, i32_w]
           rfl
          refine pure_ (i := 3) (N := some 56) (v := ?_) (a' := ?_) #[true, false, false, true, false, false, false, false, false] rfl rfl (any_of HT_.out (by kernel_rfl)) (fun _ _ _ h => h) (Or.inl ⟨by rfl, ?_⟩) ?_ ?_
          rotate_left
          ·intro w'
           go_simp
           with_reducible rfl
          rotate_left
          ·simp only [Act.put, List.setIfInBounds_toArray, List.set_cons_zero, List.set_cons_succ, i64_w, i32_w]
           rfl
          refine take_ (i := 1) (N := some 54) (v := ?_) (a' := ?_) #[true, true, false, true, false, false, false, false, false] rfl rfl (take_ofW HT_.out HW_.out (by kernel_rfl)) (fun _ _ _ h => h) (Or.inl ⟨by rfl, ?_⟩) hHeld ?_ ?_
          rotate_left
          ·rintro w' ⟨s0, s1, s2, s3⟩
           go_simp
           with_reducible rfl
          rotate_left
          ·simp only [Act.put, List.setIfInBounds_toArray, List.set_cons_zero, List.set_cons_succ, i64_w, i32_w]
           rfl
          refine one_ (i := 2) (N := some 55) #[true, true, true, true, false, false, false, false, false] rfl rfl (one_of HT_.out (by kernel_rfl)) (by decide) (fun K hK => ?_)
          refine Kd.R_lit_step k118 _ 118 ?hg (N := 55) ?hd (xs := ([] : List (S118))) (inner := []) (ok := fun _ => True) (okp := fun _ => True) ?hr ?hp (fun _ hk => hk) trivial (Below.refl _ _) (Nat.le_refl _) (by simp) ?_; (case hd => rfl); (case hg => rfl); (case hr => first | (go_simp; done) | (go_simp; rfl)); (case hp => exact (Reps.none _ _))
          intro v130 w83 ho84 hb hg_ hnew_
          clear hg_ hnew_
          (first | rw [← Ny129.out] at ho84 | (simp only [Int.reduceToNat] at ho84; rw [← Ny129.out] at ho84))
          have n0_ := Aside0.mk (Kd.S_elder' (by (with_reducible repeat (first | apply Kd.S_alloc | apply Kd.S_drewN | apply Kd.S_drew)); exact HO_128003.out) (Kd.R_base ho84) hb)
          have n1_ := Aside0.mk (Kd.R_lower ho84 (below_size (lq HB.out)))
          have n2_ := Aside0.mk (blk_below (bq BK125.out) hb)
          have n3_ := Aside0.mk (blk_below (bq BK126.out) hb)
          have n4_ := Aside0.mk (blk_below (bq BK127.out) hb)
          have n5_ := Aside0.mk (below_step (lq HB.out) hb)
          clear HO_128003
          clear BK125
          clear BK126
          clear BK127
          clear HB
          have HO_128003 := n0_
          have HO131 := n1_
          have BK125 := n2_
          have BK126 := n3_
          have BK127 := n4_
          have HB := n5_
          clear n0_ n1_ n2_ n3_ n4_ n5_
          clear hb ho84
          refine hK.out _ _ ⟨(blk_cell BK127.out 0).trans rfl, (blk_cell BK127.out 1).trans rfl, (blk_cell BK127.out 2).trans rfl, (blk_cell BK127.out 3).trans rfl⟩ (fun hHeld => ?_)
          clear hK K
          refine norm_ (a' := ?_) ?_ ?_
          rotate_left
          ·show Act.put _ (some 55) _ = _
           simp only [Act.put, List.setIfInBounds_toArray, List.set_cons_zero, List.set_cons_succ, i64_w, i32_w]
           rfl
          refine one_ (i := 4) (N := some 57) #[true, true, true, true, true, false, false, false, false] rfl rfl (one_of HT_.out (by kernel_rfl)) (by decide) (fun K hK => ?_)
          refine Kd.R_append_rows_step k118 (w0 := w) w.heap.size (by rfl) (.tmp 55) (.tmp 56) 116 118 (.agg #[(.int .i64 0), (.bool false)]) 16 rfl Try.underlying116 info118 rfl (by decide) (by omega) v130 y129 (rd_L3 l0_3 x15_1) _ _ _ (fun _ => True) (fun _ => False) rfl rfl ?aO ?aR (fun _ _ h => h) (fun _ h => h.elim) ?aF ?aB ?aS ?aL ?_
          (case aR => repeat (first | exact (Kd.C_below HR128_0.out HB.out) | (with_reducible refine Kd.C_alloc ?_ _) | (with_reducible refine Kd.C_drewN ?_ _) | (with_reducible refine Kd.C_drew ?_)))
          (case aB => exact (lq HB.out))
          (case aF => exact (fun _ _ => trivial))
          (case aO => exact (rq HO131.out))
          (case aS => exact (below_size (lq HB.out)))
          (case aL => have := LMc77.out; omega)
          intro v133 w85 ho hb hg hat
          rw [← Ny132.out] at ho
          have n0_ := Aside0.mk (Kd.S_after (ok := (fun _ => True)) (by (with_reducible repeat (first | apply Kd.S_alloc | apply Kd.S_drewN | apply Kd.S_drew)); exact HO_128003.out) hg hat)
          have n1_ := Aside0.mk (blk_grown (g := gb125) (o := .cells #[.int .i64 a0_0, .int .i64 a0_1, .int .i64 a0_2, .slice (some ad128) l0_3.length c0_3] 70 (0, 0)) (bq BK125.out) hg (Kd.R_ne HO131.out BK125.out (by decide)))
          have n2_ := Aside0.mk (blk_grown (g := gb126) (o := .cells #[.int .i64 0, .int .i64 0, .int .i64 0, .slice none 0 0] 70 (0, 0)) (bq BK126.out) hg (Kd.R_ne HO131.out BK126.out (by decide)))
          have n3_ := Aside0.mk (blk_grown (g := gb127) (o := .cells #[.int .i64 a0_0, .int .i64 a0_1, .int .i64 a0_2, u128003] 70 (0, 0)) (bq BK127.out) hg (Kd.R_ne HO131.out BK127.out (by decide)))
          have n4_ := Aside0.mk (hb)
          have n5_ := Aside0.mk (ho)
          clear HO_128003
          clear BK125
          clear BK126
          clear BK127
          clear HB
          clear HO131
          have HO_128003 := n0_
          have BK125 := n1_
          have BK126 := n2_
          have BK127 := n3_
          have HB := n4_
          have HO134 := n5_
          clear n0_ n1_ n2_ n3_ n4_ n5_
          clear ho hb hg hat
          obtain ⟨Ao87, co87, eo87⟩ := Kd.R_slice HO134.out
          (first | subst eo87 | (injection eo87 with f1_ f2_ f3_; have f4_ := f1_.symm; have f5_ := f3_.symm; clear f1_ f2_ f3_; subst f4_; subst f5_))
          refine hK.out _ _ ⟨(blk_cell BK127.out 0).trans rfl, (blk_cell BK127.out 1).trans rfl, (blk_cell BK127.out 2).trans rfl, (blk_cell BK127.out 3).trans rfl⟩ (fun hHeld => ?_)
          clear hK K
          refine norm_ (a' := ?_) ?_ ?_
          rotate_left
          ·show Act.put _ (some 57) _ = _
           simp only [Act.put, List.setIfInBounds_toArray, List.set_cons_zero, List.set_cons_succ, i64_w, i32_w]
           rfl
          refine one_ (i := 5) (N := some 58) #[true, true, true, true, true, true, false, false, false] rfl rfl (one_of HT_.out (by kernel_rfl)) (by decide) (fun K hK => ?_)
          refine value_ (w1 := ?_) (v := ?_) (by rfl) rfl ?_ ?_
          rotate_left 2
          ·go_simp
           constructor
           ·rfl
           ·rfl
          refine hK.out _ _ ⟨(blk_cell (blk_alloc BK127.out _) 0).trans rfl, (blk_cell (blk_alloc BK127.out _) 1).trans rfl, (blk_cell (blk_alloc BK127.out _) 2).trans rfl, (blk_cell (blk_alloc BK127.out _) 3).trans rfl⟩ (fun hHeld => ?_)
          clear hK K
          refine norm_ (a' := ?_) ?_ ?_
          rotate_left
          ·show Act.put _ (some 58) _ = _
           simp only [Act.put, List.setIfInBounds_toArray, List.set_cons_zero, List.set_cons_succ, i64_w, i32_w]
           rfl
          refine one_ (i := 6) (N := some 59) #[true, true, true, true, true, true, true, false, false] rfl rfl (one_of HT_.out (by kernel_rfl)) (by decide) (fun K hK => ?_)
          refine Kd.S_append_step (Kd.slice 118 k118) (w0 := w) w.heap.size (by rfl) (.tmp 54) (.tmp 58) 68 116 (.slice none 0 0) 24 rfl Try.underlying68 info116 rfl (by decide) (by omega) u128003 x128003_1 y132 [.slice Ao87 y132.length co87] (fun _ => True) (fun k_ => some k_ = (.slice Ao87 y132.length co87 : Value).ownBlock) rfl rfl ?aP (fun k_ hk_ => ((Kd.R_mono (ok' := fun k_ => ((fun _ => True)) k_ ∧ some k_ ≠ (u128003 : Value).ownBlock) (Kd.R_apart' (HO134.out) (Kd.S_typed HO_128003.out) (by decide)) (fun k_ hk => ⟨trivial, hk.2⟩))).1 k_ hk_.symm) ?aF ?aO ?aB ?aS ?aL ?_
          (case aP => exact Kd.M_row (Kd.R_mono (Kd.R_tight rfl (Kd.R_mono (ok' := fun k_ => ((fun _ => True)) k_ ∧ some k_ ≠ (u128003 : Value).ownBlock) (Kd.R_apart' (HO134.out) (Kd.S_typed HO_128003.out) (by decide)) (fun k_ hk => ⟨trivial, hk.2⟩))) (fun _ h_ => h_)))
          (case aB => exact (lq HB.out))
          (case aF => exact (fun _ _ => trivial))
          (case aO => exact (by (with_reducible repeat (first | apply Kd.S_alloc | apply Kd.S_drewN | apply Kd.S_drew)); exact Kd.S_mono HO_128003.out (fun k_ hk => ⟨trivial, fun e_ => hk.2 e_⟩)))
          (case aS => exact (below_size (lq HB.out)))
          (case aL => have := LMc78.out; omega)
          intro v136 w86 ho hb hg hat
          rw [← Ny135.out] at ho
          have n0_ := Aside0.mk (blk_grown (g := gb125) (o := .cells #[.int .i64 a0_0, .int .i64 a0_1, .int .i64 a0_2, .slice (some ad128) l0_3.length c0_3] 70 (0, 0)) (bq BK125.out) hg (Kd.S_ne HO_128003.out BK125.out (by decide)))
          have n1_ := Aside0.mk (blk_grown (g := gb126) (o := .cells #[.int .i64 0, .int .i64 0, .int .i64 0, .slice none 0 0] 70 (0, 0)) (bq BK126.out) hg (Kd.S_ne HO_128003.out BK126.out (by decide)))
          have n2_ := Aside0.mk (blk_grown (g := gb127) (o := .cells #[.int .i64 a0_0, .int .i64 a0_1, .int .i64 a0_2, u128003] 70 (0, 0)) (bq BK127.out) hg (Kd.S_ne HO_128003.out BK127.out (by decide)))
          have n3_ := Aside0.mk (hb)
          have n4_ := Aside0.mk (ho)
          clear BK125
          clear BK126
          clear BK127
          clear HB
          clear HO_128003
          clear HO134
          have BK125 := n0_
          have BK126 := n1_
          have BK127 := n2_
          have HB := n3_
          have HO137 := n4_
          clear n0_ n1_ n2_ n3_ n4_
          clear ho hb hg hat
          obtain ⟨Ao88, co88, eo88⟩ := Kd.S_slice HO137.out
          (first | subst eo88 | (injection eo88 with f1_ f2_ f3_; have f4_ := f1_.symm; have f5_ := f3_.symm; clear f1_ f2_ f3_; subst f4_; subst f5_))
          refine hK.out _ _ ⟨(blk_cell BK127.out 0).trans rfl, (blk_cell BK127.out 1).trans rfl, (blk_cell BK127.out 2).trans rfl, (blk_cell BK127.out 3).trans rfl⟩ (fun hHeld => ?_)
          clear hK K
          refine norm_ (a' := ?_) ?_ ?_
          rotate_left
          ·show Act.put _ (some 59) _ = _
           simp only [Act.put, List.setIfInBounds_toArray, List.set_cons_zero, List.set_cons_succ, i64_w, i32_w]
           rfl
          refine pure_ (i := 7) (N := some 60) (v := ?_) (a' := ?_) #[true, true, true, true, true, true, true, true, false] rfl rfl (any_of HT_.out (by kernel_rfl)) (fun _ _ _ h => h) (Or.inl ⟨by rfl, ?_⟩) ?_ ?_
          rotate_left
          ·intro w'
           go_simp
           with_reducible rfl
          rotate_left
          ·simp only [Act.put, List.setIfInBounds_toArray, List.set_cons_zero, List.set_cons_succ, i64_w, i32_w]
           rfl
          refine last_ (i := 8) (N := none) #[true, true, true, true, true, true, true, true, true] rfl rfl (one_of HT_.out (by kernel_rfl)) (by decide) (fun K hK => ?_)
          have hs89 : w86.cell? ⟨gb127, 3, none⟩ = some (u128003) := (blk_cell BK127.out 3).trans rfl
          have hfs89 := blk_frozen BK127.out 3
          have hns89_0 := NB125_127.out
          have hns89_1 := NB126_127.out
          have hms89_0 := NB127_125.out
          have hms89_1 := NB127_126.out
          refine skip_ (w1 := ?_) (by rfl) rfl ?_ ?_
          rotate_left
          ·go_simp
           rfl
          refine hK.out _ _ ?_
          clear hK K
          refine done_ (done_of HT_.out (by kernel_rfl)) ?_
          try go_wp2
          go_roundg k1
          case measure => have := HK1.out; omega
          case rel => exact ⟨(x13_1), (x14_1), (wrap64 (x15_1 + 1)), (y135), (.slice Ao88 y135.length co88), (by first | rfl | (simp; done) | (simp [*]; done)), (by first | rfl | (simp; done) | (simp [*]; done)), (by first | rfl | (simp; done) | (simp [*]; done)), H', ⟨by have := HK1.out; omega⟩, ⟨by (with_reducible repeat (first | apply Kd.S_alloc | apply Kd.S_drewN | apply Kd.S_drew)); exact Kd.S_mono (Kd.S_far (p := ⟨gb127, 3, none⟩) (Kd.S_types HO137.out BK127.out (by decide)) (fun _ hk => hk.2) (.slice Ao88 y135.length co88)) (fun _ hk => trivial)⟩, ⟨by (with_reducible repeat (first | refine blk_drewN ?_ _ | refine blk_drew ?_ | refine blk_alloc ?_ _)); refine blk_far ?_ NB125_127.out _; (with_reducible repeat (first | refine blk_drewN ?_ _ | refine blk_drew ?_ | refine blk_alloc ?_ _)); exact BK125.out⟩, ⟨by (with_reducible repeat (first | refine blk_drewN ?_ _ | refine blk_drew ?_ | refine blk_alloc ?_ _)); refine blk_far ?_ NB126_127.out _; (with_reducible repeat (first | refine blk_drewN ?_ _ | refine blk_drew ?_ | refine blk_alloc ?_ _)); exact BK126.out⟩, ⟨by (with_reducible repeat (first | refine blk_drewN ?_ _ | refine blk_drew ?_ | refine blk_alloc ?_ _)); refine blk_put (cs := #[.int .i64 a0_0, .int .i64 a0_1, .int .i64 a0_2, u128003]) ?_ 3 _ rfl; (with_reducible repeat (first | refine blk_drewN ?_ _ | refine blk_drew ?_ | refine blk_alloc ?_ _)); exact BK127.out⟩, ⟨by repeat (first | (with_reducible first | exact HB.out | apply below_alloc | apply pw_below_drewN | apply below_drew1 | refine below_set ?_ GE127.out) | exact HB.out)⟩⟩
         ·rw [if_neg c78] at H
          exact absurd H (by simp)
        ·rw [if_neg c77] at H
         exact absurd H (by simp)
      ·rw [if_neg c15] at H
       exact absurd H (by simp)
     ·rw [if_neg c14] at H
      have c14b0 : decide (x15_1 < (l0_3.length : Int)) = false := decide_eq_false c14
      clear c14
      simp only [Option.some.injEq, Prod.mk.injEq] at H
      obtain ⟨rfl, rfl, rfl, rfl, rfl, rfl⟩ := H
      have hnb90 := NB125_126.out
      have hnc90 := NB126_125.out
      have hnb91 := NB125_127.out
      have hnc91 := NB127_125.out
      have hcz92_0 : wr.cell? ⟨gb125, 0, none⟩ = some (.int .i64 a0_0) := (blk_cell BK125.out 0).trans rfl
      have hcz92_1 : wr.cell? ⟨gb125, 1, none⟩ = some (.int .i64 a0_1) := (blk_cell BK125.out 1).trans rfl
      have hcz92_2 : wr.cell? ⟨gb125, 2, none⟩ = some (.int .i64 a0_2) := (blk_cell BK125.out 2).trans rfl
      have hcz92_3 : wr.cell? ⟨gb125, 3, none⟩ = some (.slice A0_3 l0_3.length c0_3) := (blk_cell BK125.out 3).trans rfl
      have hfz92_0 := blk_frozen BK125.out 0
      have hfz92_1 := blk_frozen BK125.out 1
      have hfz92_2 := blk_frozen BK125.out 2
      have hfz92_3 := blk_frozen BK125.out 3
      have hnb93 := NB127_126.out
      have hnc93 := NB126_127.out
      have hcz94_0 : wr.cell? ⟨gb127, 0, none⟩ = some (.int .i64 a0_0) := (blk_cell BK127.out 0).trans rfl
      have hcz94_1 : wr.cell? ⟨gb127, 1, none⟩ = some (.int .i64 a0_1) := (blk_cell BK127.out 1).trans rfl
      have hcz94_2 : wr.cell? ⟨gb127, 2, none⟩ = some (.int .i64 a0_2) := (blk_cell BK127.out 2).trans rfl
      have hcz94_3 : wr.cell? ⟨gb127, 3, none⟩ = some (u128003) := (blk_cell BK127.out 3).trans rfl
      have hfz94_0 := blk_frozen BK127.out 0
      have hfz94_1 := blk_frozen BK127.out 1
      have hfz94_2 := blk_frozen BK127.out 2
      have hfz94_3 := blk_frozen BK127.out 3
      have hcz95_0 : wr.cell? ⟨gb126, 0, none⟩ = some (.int .i64 0) := (blk_cell BK126.out 0).trans rfl
      have hcz95_1 : wr.cell? ⟨gb126, 1, none⟩ = some (.int .i64 0) := (blk_cell BK126.out 1).trans rfl
      have hcz95_2 : wr.cell? ⟨gb126, 2, none⟩ = some (.int .i64 0) := (blk_cell BK126.out 2).trans rfl
      have hcz95_3 : wr.cell? ⟨gb126, 3, none⟩ = some (.slice none 0 0) := (blk_cell BK126.out 3).trans rfl
      have hfz95_0 := blk_frozen BK126.out 0
      have hfz95_1 := blk_frozen BK126.out 1
      have hfz95_2 := blk_frozen BK126.out 2
      have hfz95_3 := blk_frozen BK126.out 3
      obtain ⟨Ao96, co96, eo96⟩ := Kd.S_slice HO_128003.out
      subst eo96
      go_wp2
      refine bodyPost_ret (results_ctt rfl _ _ gb126 70 #[.int .i64 a0_0, .int .i64 a0_1, .int .i64 a0_2, .slice Ao96 x128003_1.length co96] (0, 0) _ rfl (by (with_reducible repeat (first | refine blk_drewN ?_ _ | refine blk_drew ?_ | refine blk_alloc ?_ _)); refine blk_put (cs := #[.int .i64 a0_0, .int .i64 a0_1, .int .i64 a0_2, .slice none 0 0]) ?_ 3 _ rfl; (with_reducible repeat (first | refine blk_drewN ?_ _ | refine blk_drew ?_ | refine blk_alloc ?_ _)); refine blk_put (cs := #[.int .i64 a0_0, .int .i64 a0_1, .int .i64 0, .slice none 0 0]) ?_ 2 _ rfl; (with_reducible repeat (first | refine blk_drewN ?_ _ | refine blk_drew ?_ | refine blk_alloc ?_ _)); refine blk_put (cs := #[.int .i64 a0_0, .int .i64 0, .int .i64 0, .slice none 0 0]) ?_ 1 _ rfl; (with_reducible repeat (first | refine blk_drewN ?_ _ | refine blk_drew ?_ | refine blk_alloc ?_ _)); refine blk_put (cs := #[.int .i64 0, .int .i64 0, .int .i64 0, .slice none 0 0]) ?_ 0 _ rfl; (with_reducible repeat (first | refine blk_drewN ?_ _ | refine blk_drew ?_ | refine blk_alloc ?_ _)); exact BK126.out) Try.underlying70 rfl (by kernel_rfl)) rfl ?_
      exact ⟨_, by first | rfl | (simp [errW_none, errW_some] <;> rfl) | (simp [*, errW_none, errW_some] <;> rfl), by (with_reducible repeat (first | apply Kd.S_alloc | apply Kd.S_drewN | apply Kd.S_drew)); exact Kd.S_mono (Kd.S_far (p := ⟨gb126, 3, none⟩) (Kd.S_far (p := ⟨gb126, 2, none⟩) (Kd.S_far (p := ⟨gb126, 1, none⟩) (Kd.S_far (p := ⟨gb126, 0, none⟩) (Kd.S_types HO_128003.out BK126.out (by decide)) (fun _ hk => hk.2) (.int .i64 a0_0)) (fun _ hk => hk.2) (.int .i64 a0_1)) (fun _ hk => hk.2) (.int .i64 a0_2)) (fun _ hk => hk.2) (.slice Ao96 x128003_1.length co96)) (fun _ hk => trivial), by repeat (first | (with_reducible first | exact HB.out | apply below_alloc | apply pw_below_drewN | apply below_drew1 | refine below_set ?_ GE126.out) | exact HB.out)⟩

end Go.Proofs.Ytglehilfemfiiaa.GU
