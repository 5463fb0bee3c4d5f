/- Told by a program of this session, out of the translation: each function of the group as a plain Lean function, and that Go's call comes to just its answer. Lean checks it. -/
import Derived.Test.YtglehilfemfiiaaGUx0D
import Derived.Test.YtglehilfemfiiaaGUx5D
import Derived.Test.YtglehilfemfiiaaGUx8D
import Derived.Test.YtglehilfemfiiaaGUx10D
import Derived.Test.YtglehilfemfiiaaGUx16D
import Derived.Test.YtglehilfemfiiaaGUx17D
import Derived.Test.YtglehilfemfiiaaGUx18D
import Derived.Test.YtglehilfemfiiaaGUx19D
import Derived.Test.YtglehilfemfiiaaCcuUD
namespace Go.Proofs.Ytglehilfemfiiaa.GU
open Go.RowKit Go.Proofs.YtglehilfemfiiaaW.PrintWords Go.Proofs.YtglehilfemfiiaaW.PrintLast Go.Proofs.YtglehilfemfiiaaW.PrintMore Go.Proofs.Ytglehilfemfiiaa.Q
attribute [local go_sem] max2_int min2_int max_two min_two max_three min_three max_four min_four   -- for this text's walks alone
set_option linter.unusedVariables false
set_option linter.unusedSimpArgs false

/-! ### laws_FnDirty: function 9 -/
mutual
def laws_FnDirty.j0 : Nat → List (S32) → Bool → Int → Int → Int → Option (Bool)
 | 0, _, _, _, _, _ => none
 | k + 1, x4, x37, zS, zT, zU => if x37 = true then (some true) else ((impl_CacheEmpty.f zS zT zU).bind fun bt507 => (laws_FnDirty.l0 k x4 0 0 0 zS zT zU bt507.1 bt507.2.1 bt507.2.2.1 bt507.2.2.2))
def laws_FnDirty.l0 : Nat → List (S32) → Int → Int → Int → Int → Int → Int → Int → Int → Int → List (List (S118)) → Option (Bool)
 | 0, _, _, _, _, _, _, _, _, _, _, _ => none
 | k + 1, x4, x6, x7, x8, zS, zT, zU, zFa, zGa, zHa, zIa => if x8 < (x4.length : Int) then (if 0 ≤ x8 then ((impl_CacheUse.f k zFa zGa zHa zIa ((rd_T32 x4 x8).f0) ((rd_T32 x4 x8).f1)).bind fun bt516 => ((impl_CacheOk.f k bt516.1 bt516.2.1 bt516.2.2.1 bt516.2.2.2.1).bind fun zJa => (if zJa = true then ((impl_CacheHolds.f k bt516.1 bt516.2.1 bt516.2.2.1 bt516.2.2.2.1 ((rd_T32 x4 x8).f0)).bind fun zoa => (laws_FnDirty.j2 k x4 x6 x7 x8 bt516.2.2.2.2.2 (!zoa) zS zT zU bt516.1 bt516.2.1 bt516.2.2.1 bt516.2.2.2.1)) else (laws_FnDirty.j2 k x4 x6 x7 x8 bt516.2.2.2.2.2 true zS zT zU bt516.1 bt516.2.1 bt516.2.2.1 bt516.2.2.2.1)))) else (none)) else ((impl_CacheFlush.f k zFa zGa zHa zIa).bind fun bt529 => ((impl_CacheLines.f k bt529.1 bt529.2.1 bt529.2.2.1 bt529.2.2.2.1).bind fun zR => (if (zR.length : Int) = 0 then ((impl_CacheOk.f k bt529.1 bt529.2.1 bt529.2.2.1 bt529.2.2.2.1).bind fun zKa => (if zKa = true then ((impl_WorstDirty.f zS zT zU).bind fun zY => (if bt529.2.2.2.2 ≤ zY then (if (wrap64 (bt529.2.2.2.2 + x7)) ≤ x6 then ((impl_CacheLines.f k zFa zGa zHa zIa).bind fun zLa => ((impl_WorstDirty.f zS zT zU).bind fun zMa => (some (decide ((zLa.length : Int) ≤ zMa))))) else (some false)) else (some false))) else (some false))) else (some false))))
def laws_FnDirty.j2 : Nat → List (S32) → Int → Int → Int → Bool → Bool → Int → Int → Int → Int → Int → Int → List (List (S118)) → Option (Bool)
 | 0, _, _, _, _, _, _, _, _, _, _, _, _, _ => none
 | k + 1, x4, x6, x7, x8, x11, x74, zS, zT, zU, zpa, zqa, zra, zsa => if x74 = true then (some false) else (if 0 ≤ x8 then (if x8 < (x4.length : Int) then (if (rd_T32 x4 x8).f1 = true then (if x11 = true then (laws_FnDirty.l0 k x4 (wrap64 (x6 + 1)) (wrap64 (x7 + 1)) (wrap64 (x8 + 1)) zS zT zU zpa zqa zra zsa) else (laws_FnDirty.l0 k x4 (wrap64 (x6 + 1)) x7 (wrap64 (x8 + 1)) zS zT zU zpa zqa zra zsa)) else (if x11 = true then (laws_FnDirty.l0 k x4 x6 (wrap64 (x7 + 1)) (wrap64 (x8 + 1)) zS zT zU zpa zqa zra zsa) else (laws_FnDirty.l0 k x4 x6 x7 (wrap64 (x8 + 1)) zS zT zU zpa zqa zra zsa))) else (none)) else (none))
end
def laws_FnDirty.f (k : Nat) (l0 : List Int) : Option (Bool) := (laws_big.f l0).bind fun zga => (if zga = true then (some true) else ((spec_DrawCacheRun.f k l0).bind fun bt496 => ((spec_ShapeOk.f bt496.1 bt496.2.1 bt496.2.2.1).bind fun zha => (if zha = true then (if (bt496.2.2.2.length : Int) > 150 then (laws_FnDirty.j0 k bt496.2.2.2 true bt496.1 bt496.2.1 bt496.2.2.1) else ((spec_CacheRun.f k bt496.1 bt496.2.1 bt496.2.2.1 bt496.2.2.2).bind fun zaa => (laws_FnDirty.j0 k bt496.2.2.2 ((zaa.length : Int) != (bt496.2.2.2.length : Int)) bt496.1 bt496.2.1 bt496.2.2.1))) else (laws_FnDirty.j0 k bt496.2.2.2 true bt496.1 bt496.2.1 bt496.2.2.1)))))
def laws_FnDirty.T11 : Bool × List (List Nat × List Nat) := (true, [([], []), ([], []), ([], []), ([1, 2], [1, 2]), ([3], [3]), ([4], [4]), ([], []), ([], []), ([6, 7], [6, 7]), ([8], [8]), ([9], [9]), ([0, 5, 10], [0, 5, 10]), ([11], [11]), ([12], [12]), ([12], [12]), ([12], [12]), ([], []), ([16, 13, 11, 0, 1, 2, 3, 4, 5, 6, 7, 8, 9, 10, 11, 12, 13, 16], [13, 16]), ([14, 17, 0, 1, 2, 3, 4, 5, 6, 7, 8, 9, 10, 11, 12, 13, 14, 16, 17], [14]), ([15, 18, 0, 1, 2, 3, 4, 5, 6, 7, 8, 9, 10, 11, 12, 13, 14, 15, 16, 17, 18], [15])])
def laws_FnDirty.B11 : List Nat := [0, 0, 0, 6, 14, 30, 0, 0, 192, 448, 960, 2047, 4095, 8191, 8191, 8191, 0, 81919, 229375, 524287]
theorem laws_FnDirty.tab11 : rtab .any (opsOf Try.f9 11) = laws_FnDirty.T11 := by kernel_rfl
theorem laws_FnDirty.bits11 : waitsOk laws_FnDirty.T11.2 laws_FnDirty.B11 = true := by kernel_rfl
def laws_FnDirty.T12 : Bool × List (List Nat × List Nat) := (true, [([], []), ([0], [0]), ([1], [1]), ([2, 1], [2]), ([3], [3]), ([3], [3]), ([3], [3]), ([5, 6, 3], [3, 5, 6]), ([7, 3], [3, 7]), ([8, 3], [3, 8]), ([4, 9, 3, 3], [3, 4, 9]), ([10, 3], [3, 10]), ([3, 11], [3, 11])])
def laws_FnDirty.B12 : List Nat := [0, 1, 3, 7, 15, 15, 15, 111, 239, 495, 1023, 2047, 4095]
theorem laws_FnDirty.tab12 : rtab .any (opsOf Try.f9 12) = laws_FnDirty.T12 := by kernel_rfl
theorem laws_FnDirty.bits12 : waitsOk laws_FnDirty.T12.2 laws_FnDirty.B12 = true := by kernel_rfl
def laws_FnDirty.T20 : Bool × List (List Nat × List Nat) := (true, [([], []), ([0], [0]), ([1], [1]), ([2], [2]), ([3, 1], [3]), ([4], [4]), ([5, 4, 4], [4, 5]), ([4, 6], [4, 6]), ([7, 6], [7]), ([8], [8]), ([8], [8]), ([10, 8, 8], [8, 10]), ([9, 11, 8], [8, 9, 11]), ([8, 12], [8, 12]), ([13, 11], [13]), ([14], [14]), ([14], [14]), ([15, 16, 14], [14, 15, 16]), ([14], [14]), ([17, 18, 14], [14, 17, 18]), ([14, 19], [14, 19]), ([20, 14], [20]), ([21], [21]), ([22, 21, 21], [21, 22]), ([23, 21], [21, 23]), ([21], [21]), ([25, 23, 21], [21, 25]), ([24, 26, 21], [21, 24, 26]), ([21, 27], [21, 27]), ([28, 26, 0, 1, 2, 3, 4, 5, 6, 7, 8, 9, 10, 11, 12, 13, 14, 15, 16, 17, 18, 19, 20, 21, 22, 23, 24, 25, 26, 27, 28], [28])])
def laws_FnDirty.B20 : List Nat := [0, 1, 3, 7, 15, 31, 63, 127, 255, 511, 511, 1535, 4095, 8191, 16383, 32767, 32767, 131071, 32767, 524287, 1048575, 2097151, 4194303, 8388607, 16777215, 4194303, 50331647, 134217727, 268435455, 536870911]
theorem laws_FnDirty.tab20 : rtab .any (opsOf Try.f9 20) = laws_FnDirty.T20 := by kernel_rfl
theorem laws_FnDirty.bits20 : waitsOk laws_FnDirty.T20.2 laws_FnDirty.B20 = true := by kernel_rfl
set_option maxHeartbeats 8000000 in
set_option maxRecDepth 100000 in
theorem laws_FnDirty.calls (k : Nat) (A0 : Option Addr) (c0 : Nat) (l0 : List Int) (r : Bool) (w : World) (hr0 : Kd.C (Kd.int .u8) w A0 l0.length l0) (hc0 : l0.length ≤ c0) (h : laws_FnDirty.f k l0 = some r) :
  Calls Try.prog 9 #[.slice A0 l0.length c0] w fun e w' => e = .returned (.bool r) ∧ Below w.heap.size w w' := by
 have hu25 := Try.underlying25
 have hu70 := Try.underlying70
 have HR0 := Aside0.mk hr0
 have HC0 := Aside0.mk hc0
 clear hr0 hc0
 have HB := Aside0.mk (Below.refl w.heap.size w)
 have H : ((laws_big.f l0).bind fun zga => (if zga = true then (some true) else ((spec_DrawCacheRun.f k l0).bind fun bt496 => ((spec_ShapeOk.f bt496.1 bt496.2.1 bt496.2.2.1).bind fun zha => (if zha = true then (if (bt496.2.2.2.length : Int) > 150 then (laws_FnDirty.j0 k bt496.2.2.2 true bt496.1 bt496.2.1 bt496.2.2.1) else ((spec_CacheRun.f k bt496.1 bt496.2.1 bt496.2.2.1 bt496.2.2.2).bind fun zaa => (laws_FnDirty.j0 k bt496.2.2.2 ((zaa.length : Int) != (bt496.2.2.2.length : Int)) bt496.1 bt496.2.1 bt496.2.2.1))) else (laws_FnDirty.j0 k bt496.2.2.2 true bt496.1 bt496.2.1 bt496.2.2.1)))))) = some r := h
 clear h
 replace H := Option.bind_eq_some_iff.mp H
 obtain ⟨zga, A20, H⟩ := H
 (try dsimp only at H)
 have A2 := Aside0.mk A20
 clear A20
 by_cases c3 : zga = true
 ·subst c3
  rw [if_pos rfl] at H
  obtain rfl := Option.some.inj H
  go_enter Try.func9, Try.ntmps9
  go_wp2_with (first | ((with_reducible refine gate_callee (f := 10) rfl ?_); refine goesL_ (some 15) rfl rfl Try.func10 (by kernel_rfl) rfl #[.slice A0 l0.length c0] rfl (by (try simp only [List.map_toArray, List.map_cons, List.map_nil]); first | done | rfl | (simp only [List.length_drop, List.length_take]; rfl)) ?_; (with_reducible refine (laws_big.calls _ _ l0 true _ ?side1 ?side2 A2.out).mono ?_); (case side1 => repeat (first | exact HR0.out | (with_reducible refine Kd.C_alloc ?_ _) | (with_reducible refine Kd.C_drewN ?_ _) | (with_reducible refine Kd.C_drew ?_))); (case side2 => exact HC0.out); rintro e w' ⟨rfl, ⟨nd, rfl⟩⟩; refine ⟨_, rfl, ?_⟩))
  go_ret
  exact ⟨by first | rfl | (simp [errW_none, errW_some] <;> rfl) | (simp [*, errW_none, errW_some] <;> rfl), by exact lq HB.out⟩
 ·replace c3 := Bool.eq_false_iff.mpr c3
  subst c3
  rw [if_neg (show ¬ (false = true) by decide)] at H
  replace H := Option.bind_eq_some_iff.mp H
  obtain ⟨⟨zu, zy, zA, zp⟩, A40, H⟩ := H
  (try dsimp only at H)
  have A4 := Aside0.mk A40
  clear A40
  have HC5 := Aside0.mk H
  clear H
  go_enter Try.func9, Try.ntmps9
  go_upto_region 4 with (first | ((with_reducible refine gate_callee (f := 10) rfl ?_); refine goesL_ (some 15) rfl rfl Try.func10 (by kernel_rfl) rfl #[.slice A0 l0.length c0] rfl (by (try simp only [List.map_toArray, List.map_cons, List.map_nil]); first | done | rfl | (simp only [List.length_drop, List.length_take]; rfl)) ?_; (with_reducible refine (laws_big.calls _ _ l0 false _ ?side1 ?side2 A2.out).mono ?_); (case side1 => repeat (first | exact HR0.out | (with_reducible refine Kd.C_alloc ?_ _) | (with_reducible refine Kd.C_drewN ?_ _) | (with_reducible refine Kd.C_drew ?_))); (case side2 => exact HC0.out); rintro e w' ⟨rfl, ⟨nd, rfl⟩⟩; refine ⟨_, rfl, ?_⟩) | ((with_reducible refine gate_callee (f := 11) rfl ?_); refine goesL_ (some 18) rfl rfl Try.func11 (by kernel_rfl) rfl #[.slice A0 l0.length c0] rfl (by (try simp only [List.map_toArray, List.map_cons, List.map_nil]); first | done | rfl | (simp only [List.length_drop, List.length_take]; rfl)) ?_; (with_reducible refine (spec_DrawCacheRun.calls k _ _ l0 zu zy zA zp _ ?side1 ?side2 A4.out).mono ?_); (case side1 => repeat (first | exact HR0.out | (with_reducible refine Kd.C_alloc ?_ _) | (with_reducible refine Kd.C_drewN ?_ _) | (with_reducible refine Kd.C_drew ?_))); (case side2 => exact HC0.out); rintro e w6 ⟨zQa, rfl, ho0, hb⟩; refine ⟨_, rfl, ?_⟩; have n0_ := Aside0.mk (Kd.R_lower ho0 (below_size (lq HB.out))); have n1_ := Aside0.mk (below_step (lq HB.out) hb); clear HB; have zG := n0_; have HB := n1_; clear n0_ n1_; (try clear hb); (try clear hb2); (try clear hk); (try clear hi); (try clear ho0)) | ((with_reducible refine gate_dst (N := 3) rfl ?_); (try (refine gate_guard (by rfl) ?_; dsimp only)); refine box_event ?hg (N := 3) ?hd (cs := #[.int .i64 0, .int .i64 0, .int .i64 0]) (t := 25) ?hr ?_; (case hd => rfl); (case hg => rfl); (case hr => first | (go_simp; done) | (go_simp; rfl)); intro zq hg w7 hbox hb; have n0_ := Aside0.mk (Kd.R_below (rq zG.out) hb); have n1_ := Aside0.mk (below_step (lq HB.out) hb); have n2_ := Aside0.mk (hbox); have n3_ := Aside0.mk ((ge_new hg (lq HB.out) : w.heap.size ≤ zq)); have n4_ := Aside0.mk ((ge_new hg (lq HB.out) : w.heap.size ≤ zq)); clear zG; clear HB; have zG := n0_; have HB := n1_; have zc := n2_; have GW502 := n3_; have zNa := n4_; clear n0_ n1_ n2_ n3_ n4_; clear hb hbox hg; have zRa : w7.cell? ⟨zq, 0, none⟩ = some (.int .i64 0) := (blk_cell zc.out 0).trans rfl; have zSa : w7.cell? ⟨zq, 1, none⟩ = some (.int .i64 0) := (blk_cell zc.out 1).trans rfl; have zTa : w7.cell? ⟨zq, 2, none⟩ = some (.int .i64 0) := (blk_cell zc.out 2).trans rfl; have zUa := blk_frozen zc.out 0; have zVa := blk_frozen zc.out 1; have zWa := blk_frozen zc.out 2))
  (try simp only [Act.put, List.setIfInBounds_toArray, List.set_cons_zero, List.set_cons_succ])
  go_cut [37] (fun v37 wc => ∃ (kq : Nat) (x37_4 : Bool), v37 = .bool x37_4 ∧ Aside0 (laws_FnDirty.j0 kq zp x37_4 zu zy zA = some r) ∧ Aside0 (kq ≤ k) ∧ Aside0 (Kd.R k32 32 wc w.heap.size (fun _ => True) zQa zp) ∧ Aside0 (wc.heap[zq]? = some (.cells #[.int .i64 zu, .int .i64 zy, .int .i64 zA] 25 (0, 0))) ∧ Aside0 (Below w.heap.size w wc))
  case first =>
   have H := HC5.out
   clear HC5
   replace H := Option.bind_eq_some_iff.mp H
   obtain ⟨zha, A90, H⟩ := H
   (try dsimp only at H)
   have A9 := Aside0.mk A90
   clear A90
   by_cases c10 : zha = true
   ·subst c10
    rw [if_pos rfl] at H
    by_cases c11 : (zp.length : Int) > 150
    ·rw [if_pos c11] at H
     have c11b0 : decide (150 < (zp.length : Int)) = true := decide_eq_true c11
     have c11b1 : decide (150 < zp.length) = true := decide_eq_true (by omega)
     clear c11
     (first | rw [c11b0] | (simp only [i64_w, i32_w]; rw [c11b0]) | skip)
     have H' := Aside0.mk H
     clear H
     have zXa : w7.cell? ⟨zq, 0, none⟩ = some (.int .i64 0) := (blk_cell zc.out 0).trans rfl
     have zYa : w7.cell? ⟨zq, 1, none⟩ = some (.int .i64 0) := (blk_cell zc.out 1).trans rfl
     have zZa : w7.cell? ⟨zq, 2, none⟩ = some (.int .i64 0) := (blk_cell zc.out 2).trans rfl
     have zab := blk_frozen zc.out 0
     have zbb := blk_frozen zc.out 1
     have zcb := blk_frozen zc.out 2
     go_wp2_with (first | ((with_reducible refine gate_callee (f := 43) rfl ?_); refine goesL_ (some 22) rfl rfl Try.func43 (by kernel_rfl) rfl #[.agg #[.int .i64 zu, .int .i64 zy, .int .i64 zA]] rfl (by (try simp only [List.map_toArray, List.map_cons, List.map_nil]); first | done | rfl | (simp only [List.length_drop, List.length_take]; rfl)) ?_; (with_reducible refine (spec_ShapeOk.calls zu zy zA true _ A9.out).mono ?_); rintro e w13 ⟨rfl, hb⟩; refine ⟨_, rfl, ?_⟩; have n0_ := Aside0.mk (Kd.R_below (rq (Kd.R_mono (Kd.R_far (p := ⟨zq, 2, none⟩) (Kd.R_far (p := ⟨zq, 1, none⟩) (Kd.R_far (p := ⟨zq, 0, none⟩) (Kd.R_types zG.out zc.out (by decide)) (fun _ hk => hk.2) (.int .i64 zu)) (fun _ hk => hk.2) (.int .i64 zy)) (fun _ hk => hk.2) (.int .i64 zA)) (fun _ h_ => h_.1))) hb); have n1_ := Aside0.mk (blk_below (g := zq) (o := .cells #[.int .i64 zu, .int .i64 zy, .int .i64 zA] 25 (0, 0)) (by (with_reducible repeat (first | refine blk_drewN ?_ _ | refine blk_drew ?_ | refine blk_alloc ?_ _)); refine blk_put (cs := #[.int .i64 zu, .int .i64 zy, .int .i64 0]) ?_ 2 _ rfl; (with_reducible repeat (first | refine blk_drewN ?_ _ | refine blk_drew ?_ | refine blk_alloc ?_ _)); refine blk_put (cs := #[.int .i64 zu, .int .i64 0, .int .i64 0]) ?_ 1 _ rfl; (with_reducible repeat (first | refine blk_drewN ?_ _ | refine blk_drew ?_ | refine blk_alloc ?_ _)); refine blk_put (cs := #[.int .i64 0, .int .i64 0, .int .i64 0]) ?_ 0 _ rfl; (with_reducible repeat (first | refine blk_drewN ?_ _ | refine blk_drew ?_ | refine blk_alloc ?_ _)); exact zc.out) hb); have n2_ := Aside0.mk (below_step (by repeat (first | (with_reducible first | exact HB.out | apply below_alloc | apply pw_below_drewN | apply below_drew1 | refine below_set ?_ zNa.out) | exact HB.out)) hb); clear zG; clear zc; clear HB; have zG := n0_; have zc := n1_; have HB := n2_; clear n0_ n1_ n2_; (try clear hb); (try clear hb2); (try clear hk); (try clear hi); obtain ⟨Ao14, co14, eo14⟩ := Kd.R_slice zG.out; subst eo14))
     go_meet
     case rel => exact ⟨_, (true), (by first | rfl | (simp; done) | (simp [*]; done)), H', ⟨by first | omega | exact Nat.le_refl _⟩, ⟨by (with_reducible repeat (first | apply Kd.R_alloc | apply Kd.R_drewN | apply Kd.R_drew)); exact zG.out⟩, ⟨by (with_reducible repeat (first | refine blk_drewN ?_ _ | refine blk_drew ?_ | refine blk_alloc ?_ _)); exact zc.out⟩, ⟨by exact lq HB.out⟩⟩
    ·rw [if_neg c11] at H
     have c11b0 : decide (150 < (zp.length : Int)) = false := decide_eq_false c11
     have c11b1 : decide (150 < zp.length) = false := decide_eq_false (by omega)
     clear c11
     (first | rw [c11b0] | (simp only [i64_w, i32_w]; rw [c11b0]) | skip)
     replace H := Option.bind_eq_some_iff.mp H
     obtain ⟨zaa, A150, H⟩ := H
     (try dsimp only at H)
     have A15 := Aside0.mk A150
     clear A150
     have H' := Aside0.mk H
     clear H
     have zdb : w7.cell? ⟨zq, 0, none⟩ = some (.int .i64 0) := (blk_cell zc.out 0).trans rfl
     have zeb : w7.cell? ⟨zq, 1, none⟩ = some (.int .i64 0) := (blk_cell zc.out 1).trans rfl
     have zfb : w7.cell? ⟨zq, 2, none⟩ = some (.int .i64 0) := (blk_cell zc.out 2).trans rfl
     have zgb := blk_frozen zc.out 0
     have zhb := blk_frozen zc.out 1
     have zib := blk_frozen zc.out 2
     go_wp2_with (first | ((with_reducible refine gate_callee (f := 43) rfl ?_); refine goesL_ (some 22) rfl rfl Try.func43 (by kernel_rfl) rfl #[.agg #[.int .i64 zu, .int .i64 zy, .int .i64 zA]] rfl (by (try simp only [List.map_toArray, List.map_cons, List.map_nil]); first | done | rfl | (simp only [List.length_drop, List.length_take]; rfl)) ?_; (with_reducible refine (spec_ShapeOk.calls zu zy zA true _ A9.out).mono ?_); rintro e w17 ⟨rfl, hb⟩; refine ⟨_, rfl, ?_⟩; have n0_ := Aside0.mk (Kd.R_below (rq (Kd.R_mono (Kd.R_far (p := ⟨zq, 2, none⟩) (Kd.R_far (p := ⟨zq, 1, none⟩) (Kd.R_far (p := ⟨zq, 0, none⟩) (Kd.R_types zG.out zc.out (by decide)) (fun _ hk => hk.2) (.int .i64 zu)) (fun _ hk => hk.2) (.int .i64 zy)) (fun _ hk => hk.2) (.int .i64 zA)) (fun _ h_ => h_.1))) hb); have n1_ := Aside0.mk (blk_below (g := zq) (o := .cells #[.int .i64 zu, .int .i64 zy, .int .i64 zA] 25 (0, 0)) (by (with_reducible repeat (first | refine blk_drewN ?_ _ | refine blk_drew ?_ | refine blk_alloc ?_ _)); refine blk_put (cs := #[.int .i64 zu, .int .i64 zy, .int .i64 0]) ?_ 2 _ rfl; (with_reducible repeat (first | refine blk_drewN ?_ _ | refine blk_drew ?_ | refine blk_alloc ?_ _)); refine blk_put (cs := #[.int .i64 zu, .int .i64 0, .int .i64 0]) ?_ 1 _ rfl; (with_reducible repeat (first | refine blk_drewN ?_ _ | refine blk_drew ?_ | refine blk_alloc ?_ _)); refine blk_put (cs := #[.int .i64 0, .int .i64 0, .int .i64 0]) ?_ 0 _ rfl; (with_reducible repeat (first | refine blk_drewN ?_ _ | refine blk_drew ?_ | refine blk_alloc ?_ _)); exact zc.out) hb); have n2_ := Aside0.mk (below_step (by repeat (first | (with_reducible first | exact HB.out | apply below_alloc | apply pw_below_drewN | apply below_drew1 | refine below_set ?_ zNa.out) | exact HB.out)) hb); clear zG; clear zc; clear HB; have zG := n0_; have zc := n1_; have HB := n2_; clear n0_ n1_ n2_; (try clear hb); (try clear hb2); (try clear hk); (try clear hi); obtain ⟨Ao18, co18, eo18⟩ := Kd.R_slice zG.out; subst eo18; have zjb : w17.cell? ⟨zq, 0, none⟩ = some (.int .i64 zu) := (blk_cell zc.out 0).trans rfl; have zkb : w17.cell? ⟨zq, 1, none⟩ = some (.int .i64 zy) := (blk_cell zc.out 1).trans rfl; have zlb : w17.cell? ⟨zq, 2, none⟩ = some (.int .i64 zA) := (blk_cell zc.out 2).trans rfl; have zmb := blk_frozen zc.out 0; have znb := blk_frozen zc.out 1; have zob := blk_frozen zc.out 2) | (go_at_call 13; (with_reducible refine (spec_CacheRun.calls k zu zy zA _ _ zp zaa _ ?side1 ?side2 A15.out).mono ?_); (case side1 => repeat (first | exact (Kd.R_reads' zG.out).2.2 | (with_reducible refine Kd.C_alloc ?_ _) | (with_reducible refine Kd.C_drewN ?_ _) | (with_reducible refine Kd.C_drew ?_))); (case side2 => exact (Kd.R_reads' zG.out).2.1); rintro e w20 ⟨v505, rfl, ho0, hb⟩; have n0_ := Aside0.mk (Kd.R_below (rq zG.out) hb); have n1_ := Aside0.mk (Kd.R_lower ho0 (below_size (lq HB.out))); have n2_ := Aside0.mk (blk_below (bq zc.out) hb); have n3_ := Aside0.mk (below_step (lq HB.out) hb); clear zG; clear zc; clear HB; have zG := n0_; have zvb := n1_; have zc := n2_; have HB := n3_; clear n0_ n1_ n2_ n3_; (try clear hb); (try clear hb2); (try clear hk); (try clear hi); (try clear ho0); obtain ⟨Ao21, co21, eo21⟩ := Kd.R_slice zvb.out; subst eo21))
     go_meet
     case rel => exact ⟨_, (((zaa.length : Int) != (zp.length : Int))), (by first | rfl | (simp; done) | (simp [*]; done)), H', ⟨by first | omega | exact Nat.le_refl _⟩, ⟨by (with_reducible repeat (first | apply Kd.R_alloc | apply Kd.R_drewN | apply Kd.R_drew)); exact zG.out⟩, ⟨by (with_reducible repeat (first | refine blk_drewN ?_ _ | refine blk_drew ?_ | refine blk_alloc ?_ _)); exact zc.out⟩, ⟨by exact lq HB.out⟩⟩
   ·replace c10 := Bool.eq_false_iff.mpr c10
    subst c10
    rw [if_neg (show ¬ (false = true) by decide)] at H
    have H' := Aside0.mk H
    clear H
    have zpb : w7.cell? ⟨zq, 0, none⟩ = some (.int .i64 0) := (blk_cell zc.out 0).trans rfl
    have zqb : w7.cell? ⟨zq, 1, none⟩ = some (.int .i64 0) := (blk_cell zc.out 1).trans rfl
    have zrb : w7.cell? ⟨zq, 2, none⟩ = some (.int .i64 0) := (blk_cell zc.out 2).trans rfl
    have zsb := blk_frozen zc.out 0
    have ztb := blk_frozen zc.out 1
    have zub := blk_frozen zc.out 2
    go_wp2_with (first | ((with_reducible refine gate_callee (f := 43) rfl ?_); refine goesL_ (some 22) rfl rfl Try.func43 (by kernel_rfl) rfl #[.agg #[.int .i64 zu, .int .i64 zy, .int .i64 zA]] rfl (by (try simp only [List.map_toArray, List.map_cons, List.map_nil]); first | done | rfl | (simp only [List.length_drop, List.length_take]; rfl)) ?_; (with_reducible refine (spec_ShapeOk.calls zu zy zA false _ A9.out).mono ?_); rintro e w23 ⟨rfl, hb⟩; refine ⟨_, rfl, ?_⟩; have n0_ := Aside0.mk (Kd.R_below (rq (Kd.R_mono (Kd.R_far (p := ⟨zq, 2, none⟩) (Kd.R_far (p := ⟨zq, 1, none⟩) (Kd.R_far (p := ⟨zq, 0, none⟩) (Kd.R_types zG.out zc.out (by decide)) (fun _ hk => hk.2) (.int .i64 zu)) (fun _ hk => hk.2) (.int .i64 zy)) (fun _ hk => hk.2) (.int .i64 zA)) (fun _ h_ => h_.1))) hb); have n1_ := Aside0.mk (blk_below (g := zq) (o := .cells #[.int .i64 zu, .int .i64 zy, .int .i64 zA] 25 (0, 0)) (by (with_reducible repeat (first | refine blk_drewN ?_ _ | refine blk_drew ?_ | refine blk_alloc ?_ _)); refine blk_put (cs := #[.int .i64 zu, .int .i64 zy, .int .i64 0]) ?_ 2 _ rfl; (with_reducible repeat (first | refine blk_drewN ?_ _ | refine blk_drew ?_ | refine blk_alloc ?_ _)); refine blk_put (cs := #[.int .i64 zu, .int .i64 0, .int .i64 0]) ?_ 1 _ rfl; (with_reducible repeat (first | refine blk_drewN ?_ _ | refine blk_drew ?_ | refine blk_alloc ?_ _)); refine blk_put (cs := #[.int .i64 0, .int .i64 0, .int .i64 0]) ?_ 0 _ rfl; (with_reducible repeat (first | refine blk_drewN ?_ _ | refine blk_drew ?_ | refine blk_alloc ?_ _)); exact zc.out) hb); have n2_ := Aside0.mk (below_step (by repeat (first | (with_reducible first | exact HB.out | apply below_alloc | apply pw_below_drewN | apply below_drew1 | refine below_set ?_ zNa.out) | exact HB.out)) hb); clear zG; clear zc; clear HB; have zG := n0_; have zc := n1_; have HB := n2_; clear n0_ n1_ n2_; (try clear hb); (try clear hb2); (try clear hk); (try clear hi)))
    go_meet
    case rel => exact ⟨_, (true), (by first | rfl | (simp; done) | (simp [*]; done)), H', ⟨by first | omega | exact Nat.le_refl _⟩, ⟨by (with_reducible repeat (first | apply Kd.R_alloc | apply Kd.R_drewN | apply Kd.R_drew)); exact zG.out⟩, ⟨by (with_reducible repeat (first | refine blk_drewN ?_ _ | refine blk_drew ?_ | refine blk_alloc ?_ _)); exact zc.out⟩, ⟨by exact lq HB.out⟩⟩
  case rest =>
   clear HC5
   try clear c1
   try clear p2
   try clear c3
   try clear c4
   try clear c9
   try clear c10
   try clear c11
   try clear c11b0
   try clear c11b1
   try clear zXa
   try clear zYa
   try clear zZa
   try clear zdb
   try clear zeb
   try clear zfb
   try clear zjb
   try clear zkb
   try clear zlb
   try clear zpb
   try clear zqb
   try clear zrb
   try clear zRa
   try clear zSa
   try clear zTa
   try clear zab
   try clear zbb
   try clear zcb
   try clear zgb
   try clear zhb
   try clear zib
   try clear zmb
   try clear znb
   try clear zob
   try clear zsb
   try clear ztb
   try clear zub
   try clear zUa
   try clear zVa
   try clear zWa
   obtain ⟨kq, x37_4, rfl, HA, HJ4, HO_4, zc, HB⟩ := hcut
   cases kq with
   | zero => exact absurd HA.out (by simp [laws_FnDirty.j0])
   | succ kj4 =>
    have H := HA.out
    clear HA
    simp only [laws_FnDirty.j0] at H
    by_cases c24 : x37_4 = true
    ·subst c24
     rw [if_pos rfl] at H
     obtain rfl := Option.some.inj H
     go_wp2
     go_ret
     exact ⟨by first | rfl | (simp [errW_none, errW_some] <;> rfl) | (simp [*, errW_none, errW_some] <;> rfl), by exact lq HB.out⟩
    ·replace c24 := Bool.eq_false_iff.mpr c24
     subst c24
     rw [if_neg (show ¬ (false = true) by decide)] at H
     replace H := Option.bind_eq_some_iff.mp H
     obtain ⟨⟨zZ, zba, zia, zja⟩, A250, H⟩ := H
     (try dsimp only at H)
     have A25 := Aside0.mk A250
     clear A250
     have H' := Aside0.mk H
     clear H
     have zwb : wc.cell? ⟨zq, 0, none⟩ = some (.int .i64 zu) := (blk_cell zc.out 0).trans rfl
     have zxb : wc.cell? ⟨zq, 1, none⟩ = some (.int .i64 zy) := (blk_cell zc.out 1).trans rfl
     have zyb : wc.cell? ⟨zq, 2, none⟩ = some (.int .i64 zA) := (blk_cell zc.out 2).trans rfl
     have zzb := blk_frozen zc.out 0
     have zAb := blk_frozen zc.out 1
     have zBb := blk_frozen zc.out 2
     go_wp2_with (first | ((with_reducible refine gate_callee (f := 44) rfl ?_); refine goesL_ (some 39) rfl rfl Try.func44 (by kernel_rfl) rfl #[.agg #[.int .i64 zu, .int .i64 zy, .int .i64 zA]] rfl (by (try simp only [List.map_toArray, List.map_cons, List.map_nil]); first | done | rfl | (simp only [List.length_drop, List.length_take]; rfl)) ?_; (with_reducible refine (impl_CacheEmpty.calls zu zy zA zZ zba zia zja _ A25.out).mono ?_); rintro e w27 ⟨v511, rfl, ho0, hb⟩; refine ⟨_, rfl, ?_⟩; have n0_ := Aside0.mk (Kd.R_below (rq HO_4.out) hb); have n1_ := Aside0.mk (Kd.S_lower ho0 (below_size (lq HB.out))); have n2_ := Aside0.mk (blk_below (bq zc.out) hb); have n3_ := Aside0.mk (below_step (lq HB.out) hb); clear HO_4; clear zc; clear HB; have HO_4 := n0_; have zka := n1_; have zc := n2_; have HB := n3_; clear n0_ n1_ n2_ n3_; (try clear hb); (try clear hb2); (try clear hk); (try clear hi); (try clear ho0)) | ((with_reducible refine gate_dst (N := 5) rfl ?_); (try (refine gate_guard (by rfl) ?_; dsimp only)); refine box_event ?hg (N := 5) ?hd (cs := #[.int .i64 0, .int .i64 0, .int .i64 0, .slice none 0 0]) (t := 70) ?hr ?_; (case hd => rfl); (case hg => rfl); (case hr => first | (go_simp; done) | (go_simp; rfl)); intro zh hg w28 hbox hb; have n0_ := Aside0.mk (Kd.R_below (rq HO_4.out) hb); have n1_ := Aside0.mk (Kd.S_below (by exact sqS zka.out) hb); have n2_ := Aside0.mk (blk_below (bq zc.out) hb); have n3_ := Aside0.mk (below_step (lq HB.out) hb); have n4_ := Aside0.mk (hbox); have n5_ := Aside0.mk ((ge_new hg (lq HB.out) : w.heap.size ≤ zh)); have n6_ := Aside0.mk ((ge_new hg (lq HB.out) : w.heap.size ≤ zh)); have n7_ := Aside0.mk ((ne_new hg (bq zc.out) : zq ≠ zh)); have n8_ := Aside0.mk ((new_ne hg (bq zc.out) : zh ≠ zq)); clear HO_4; clear zka; clear zc; clear HB; have HO_4 := n0_; have zka := n1_; have zc := n2_; have HB := n3_; have za := n4_; have GW513 := n5_; have zla := n6_; have NB502_513 := n7_; have NB513_502 := n8_; clear n0_ n1_ n2_ n3_ n4_ n5_ n6_ n7_ n8_; clear hb hbox hg; have hnb29 := NB513_502.out; have hnc29 := NB502_513.out; have zCb : w28.cell? ⟨zh, 0, none⟩ = some (.int .i64 0) := (blk_cell za.out 0).trans rfl; have zDb : w28.cell? ⟨zh, 1, none⟩ = some (.int .i64 0) := (blk_cell za.out 1).trans rfl; have zEb : w28.cell? ⟨zh, 2, none⟩ = some (.int .i64 0) := (blk_cell za.out 2).trans rfl; have zFb : w28.cell? ⟨zh, 3, none⟩ = some (.slice none 0 0) := (blk_cell za.out 3).trans rfl; have zGb := blk_frozen za.out 0; have zHb := blk_frozen za.out 1; have zIb := blk_frozen za.out 2; have zJb := blk_frozen za.out 3; obtain ⟨zOa, zPa, eo31⟩ := Kd.S_slice zka.out; subst eo31))
     go_loopg [6, 7, 8] kj4 (fun kq v6 v7 v8 w' => ∃ (x6_2 : Int) (x7_2 : Int) (x8_2 : Int) (zB : Int) (zz : Int) (zv : Int) (zn : List (List (S118))) (u514003 : Value), v6 = .int .i64 x6_2 ∧ v7 = .int .i64 x7_2 ∧ v8 = .int .i64 x8_2 ∧ Aside0 (laws_FnDirty.l0 kq zp x6_2 x7_2 x8_2 zu zy zA zB zz zv zn = some r) ∧ Aside0 (kq ≤ kj4) ∧ Aside0 (Kd.R k32 32 w' w.heap.size (fun _ => True) zQa zp) ∧ Aside0 (Kd.S (Kd.slice 118 k118) 116 w' w.heap.size (fun _ => True) u514003 zn) ∧ Aside0 (w'.heap[zq]? = some (.cells #[.int .i64 zu, .int .i64 zy, .int .i64 zA] 25 (0, 0))) ∧ Aside0 (w'.heap[zh]? = some (.cells #[.int .i64 zB, .int .i64 zz, .int .i64 zv, u514003] 70 (0, 0))) ∧ Aside0 (Below w.heap.size w w'))
     case atStart => exact ⟨(0), (0), (0), (zZ), (zba), (zia), (zja), (.slice zOa zja.length zPa), (by first | rfl | (simp; done) | (simp [*]; done)), (by first | rfl | (simp; done) | (simp [*]; done)), (by first | rfl | (simp; done) | (simp [*]; done)), H', ⟨Nat.le_refl _⟩, ⟨by (with_reducible repeat (first | apply Kd.R_alloc | apply Kd.R_drewN | apply Kd.R_drew)); exact Kd.R_mono (Kd.R_far (p := ⟨zh, 3, none⟩) (Kd.R_far (p := ⟨zh, 2, none⟩) (Kd.R_far (p := ⟨zh, 1, none⟩) (Kd.R_far (p := ⟨zh, 0, none⟩) (Kd.R_types HO_4.out za.out (by decide)) (fun _ hk => hk.2) (.int .i64 zZ)) (fun _ hk => hk.2) (.int .i64 zba)) (fun _ hk => hk.2) (.int .i64 zia)) (fun _ hk => hk.2) (.slice zOa zja.length zPa)) (fun _ hk => trivial)⟩, ⟨by (with_reducible repeat (first | apply Kd.S_alloc | apply Kd.S_drewN | apply Kd.S_drew)); exact Kd.S_mono (Kd.S_far (p := ⟨zh, 3, none⟩) (Kd.S_far (p := ⟨zh, 2, none⟩) (Kd.S_far (p := ⟨zh, 1, none⟩) (Kd.S_far (p := ⟨zh, 0, none⟩) (Kd.S_types zka.out za.out (by decide)) (fun _ hk => hk.2) (.int .i64 zZ)) (fun _ hk => hk.2) (.int .i64 zba)) (fun _ hk => hk.2) (.int .i64 zia)) (fun _ hk => hk.2) (.slice zOa zja.length zPa)) (fun _ hk => trivial)⟩, ⟨by (with_reducible repeat (first | refine blk_drewN ?_ _ | refine blk_drew ?_ | refine blk_alloc ?_ _)); refine blk_far ?_ NB502_513.out _; (with_reducible repeat (first | refine blk_drewN ?_ _ | refine blk_drew ?_ | refine blk_alloc ?_ _)); refine blk_far ?_ NB502_513.out _; (with_reducible repeat (first | refine blk_drewN ?_ _ | refine blk_drew ?_ | refine blk_alloc ?_ _)); refine blk_far ?_ NB502_513.out _; (with_reducible repeat (first | refine blk_drewN ?_ _ | refine blk_drew ?_ | refine blk_alloc ?_ _)); refine blk_far ?_ NB502_513.out _; (with_reducible repeat (first | refine blk_drewN ?_ _ | refine blk_drew ?_ | refine blk_alloc ?_ _)); exact zc.out⟩, ⟨by (with_reducible repeat (first | refine blk_drewN ?_ _ | refine blk_drew ?_ | refine blk_alloc ?_ _)); refine blk_put (cs := #[.int .i64 zZ, .int .i64 zba, .int .i64 zia, .slice none 0 0]) ?_ 3 _ rfl; (with_reducible repeat (first | refine blk_drewN ?_ _ | refine blk_drew ?_ | refine blk_alloc ?_ _)); refine blk_put (cs := #[.int .i64 zZ, .int .i64 zba, .int .i64 0, .slice none 0 0]) ?_ 2 _ rfl; (with_reducible repeat (first | refine blk_drewN ?_ _ | refine blk_drew ?_ | refine blk_alloc ?_ _)); refine blk_put (cs := #[.int .i64 zZ, .int .i64 0, .int .i64 0, .slice none 0 0]) ?_ 1 _ rfl; (with_reducible repeat (first | refine blk_drewN ?_ _ | refine blk_drew ?_ | refine blk_alloc ?_ _)); refine blk_put (cs := #[.int .i64 0, .int .i64 0, .int .i64 0, .slice none 0 0]) ?_ 0 _ rfl; (with_reducible repeat (first | refine blk_drewN ?_ _ | refine blk_drew ?_ | refine blk_alloc ?_ _)); exact za.out⟩, ⟨by repeat (first | (with_reducible first | exact HB.out | apply below_alloc | apply pw_below_drewN | apply below_drew1 | refine below_set ?_ zla.out) | exact HB.out)⟩⟩
     case round =>
      clear H'
      try clear c1
      try clear c2
      try clear p2
      try clear c3
      try clear c4
      try clear c9
      try clear c10
      try clear c11
      try clear c11b0
      try clear c11b1
      try clear c24
      try clear c29
      try clear zXa
      try clear zYa
      try clear zZa
      try clear zdb
      try clear zeb
      try clear zfb
      try clear zjb
      try clear zkb
      try clear zlb
      try clear zpb
      try clear zqb
      try clear zrb
      try clear zwb
      try clear zxb
      try clear zyb
      try clear zCb
      try clear zDb
      try clear zEb
      try clear zFb
      try clear zRa
      try clear zSa
      try clear zTa
      try clear zab
      try clear zbb
      try clear zcb
      try clear zgb
      try clear zhb
      try clear zib
      try clear zmb
      try clear znb
      try clear zob
      try clear zsb
      try clear ztb
      try clear zub
      try clear zzb
      try clear zAb
      try clear zBb
      try clear zGb
      try clear zHb
      try clear zIb
      try clear zJb
      try clear zUa
      try clear zVa
      try clear zWa
      try clear p2
      obtain ⟨x6_2, x7_2, x8_2, zB, zz, zv, zn, u514003, rfl, rfl, rfl, HA, HK2, HO_4, ze, zc, za, HB⟩ := hrel
      cases gk with
      | zero => exact absurd HA.out (by simp [laws_FnDirty.l0])
      | succ k2 =>
       have H := HA.out
       clear HA
       simp only [laws_FnDirty.l0] at H
       by_cases c32 : x8_2 < (zp.length : Int)
       ·rw [if_pos c32] at H
        have c32b0 : decide (x8_2 < (zp.length : Int)) = true := decide_eq_true c32
        clear c32
        by_cases c33 : 0 ≤ x8_2
        ·rw [if_pos c33] at H
         have c33b0 : decide (0 ≤ x8_2) = true := decide_eq_true c33
         clear c33
         replace H := Option.bind_eq_some_iff.mp H
         obtain ⟨⟨zo, zr, zt, zs, zma, zW⟩, A340, H⟩ := H
         (try dsimp only at H)
         have A34 := Aside0.mk A340
         clear A340
         have HC35 := Aside0.mk H
         clear H
         obtain ⟨Ao36, zna, eo36⟩ := Kd.R_slice HO_4.out
         subst eo36
         obtain ⟨zC, zD, eo37⟩ := Kd.S_slice ze.out
         subst eo37
         try go_wp2
         have n0_ := Aside0.mk (Kd.R_drew HO_4.out)
         have n1_ := Aside0.mk (Kd.S_drew ze.out)
         have n2_ := Aside0.mk (blk_drew zc.out)
         have n3_ := Aside0.mk (blk_drew za.out)
         have n4_ := Aside0.mk (below_drew1 HB.out)
         clear HO_4 ze zc za HB
         have HO_4 := n0_
         have ze := n1_
         have zc := n2_
         have za := n3_
         have HB := n4_
         clear n0_ n1_ n2_ n3_ n4_
         have p514 : 0 ≤ (x8_2 : Int) := of_decide_eq_true (by first | (with_reducible assumption) | assumption)
         have q514 : x8_2 < (zp.length : Int) := of_decide_eq_true (by first | (with_reducible assumption) | assumption)
         obtain ⟨ad514, e514, hx514_0, hx514_1⟩ := at_T32 (Kd.R_reads' HO_4.out).2.2 x8_2 p514 q514
         cases e514
         replace p514 := eq_true p514
         replace q514 := eq_true q514
         have p515 : 0 ≤ (x8_2 : Int) := of_decide_eq_true (by first | (with_reducible assumption) | assumption)
         have q515 : x8_2 < (zp.length : Int) := of_decide_eq_true (by first | (with_reducible assumption) | assumption)
         obtain ⟨ad515, e515, hx515_0, hx515_1⟩ := at_T32 (Kd.R_reads' HO_4.out).2.2 x8_2 p515 q515
         obtain rfl : ad514 = ad515 := (by injection e515)
         replace p515 := eq_true p515
         replace q515 := eq_true q515
         refine start_ (n := 20) (S := fun w' => w'.cell? ⟨zh, 0, none⟩ = some (.int .i64 zB) ∧ w'.cell? ⟨zh, 1, none⟩ = some (.int .i64 zz) ∧ w'.cell? ⟨zh, 2, none⟩ = some (.int .i64 zv) ∧ w'.cell? ⟨zh, 3, none⟩ = some (.slice zC zn.length zD) ∧ w'.cell? (ad514.add ((x8_2).toNat * 2)) = some (.int .i64 ((rd_T32 zp x8_2).f0)) ∧ w'.cell? ⟨(ad514.add ((x8_2).toNat * 2)).block, (ad514.add ((x8_2).toNat * 2)).off + 1, none⟩ = some (.bool ((rd_T32 zp x8_2).f1)) ∧ w'.cell? (ad514.add ((x8_2).toNat * 2)) = some (.int .i64 ((rd_T32 zp x8_2).f0)) ∧ w'.cell? ⟨(ad514.add ((x8_2).toNat * 2)).block, (ad514.add ((x8_2).toNat * 2)).off + 1, none⟩ = some (.bool ((rd_T32 zp x8_2).f1))) (ds := []) #[f_, f_, f_, f_, f_, f_, f_, f_, f_, f_, f_, f_, f_, f_, f_, f_, f_, f_, f_, f_] (by kernel_rfl) rfl rfl ⟨(blk_cell za.out 0).trans rfl, (blk_cell za.out 1).trans rfl, (blk_cell za.out 2).trans rfl, (blk_cell za.out 3).trans rfl, hx514_0, hx514_1, hx515_0, hx515_1⟩ (fun hHeld => ?_); refine with_tabW laws_FnDirty.tab11 laws_FnDirty.bits11 (fun HT_ HW_ => ?_)
         generalize wr.drew = w38 at HO_4 ze zc za HB hx514_0 hx514_1 hx515_0 hx515_1 hHeld ⊢
         refine pure_ (i := 1) (N := some 48) (v := ?_) (a' := ?_) #[f_, t_, f_, f_, f_, f_, f_, f_, f_, f_, f_, f_, f_, f_, f_, f_, f_, f_, f_, f_] rfl rfl (any_of HT_.out (by kernel_rfl)) (fun _ _ _ h => h) (Or.inl ⟨by rfl, ?_⟩) ?_ ?_
         rotate_left
         ·intro w'; go_simp; with_reducible rfl
         rotate_left
         ·simp only [Act.put, p1_, p2_, p3_, i64_w, i32_w]; rfl
         refine pure_ (i := 2) (N := some 49) (v := ?_) (a' := ?_) #[f_, t_, t_, f_, f_, f_, f_, f_, f_, f_, f_, f_, f_, f_, f_, f_, f_, f_, f_, f_] rfl rfl (any_of HT_.out (by kernel_rfl)) (fun _ _ _ h => h) (Or.inl ⟨by rfl, ?_⟩) ?_ ?_
         rotate_left
         ·intro w'; go_simp; with_reducible rfl
         rotate_left
         ·simp only [Act.put, p1_, p2_, p3_, i64_w, i32_w]; rfl
         refine pure_ (i := 3) (N := some 50) (v := ?_) (a' := ?_) #[f_, t_, t_, t_, f_, f_, f_, f_, f_, f_, f_, f_, f_, f_, f_, f_, f_, f_, f_, f_] rfl rfl (any_of HT_.out (by kernel_rfl)) (fun _ _ _ h => h) (Or.inl ⟨by rfl, ?_⟩) ?_ ?_
         rotate_left
         ·intro w'; go_simp; with_reducible rfl
         rotate_left
         ·simp only [Act.put, p1_, p2_, p3_, i64_w, i32_w]; rfl
         refine pure_ (i := 4) (N := some 51) (v := ?_) (a' := ?_) #[f_, t_, t_, t_, t_, f_, f_, f_, f_, f_, f_, f_, f_, f_, f_, f_, f_, f_, f_, f_] rfl rfl (any_of HT_.out (by kernel_rfl)) (fun _ _ _ h => h) (Or.inl ⟨by rfl, ?_⟩) ?_ ?_
         rotate_left
         ·intro w'; go_simp; with_reducible rfl
         rotate_left
         ·simp only [Act.put, p1_, p2_, p3_, i64_w, i32_w]; rfl
         refine pure_ (i := 6) (N := some 53) (v := ?_) (a' := ?_) #[f_, t_, t_, t_, t_, f_, t_, f_, f_, f_, f_, f_, f_, f_, f_, f_, f_, f_, f_, f_] rfl rfl (any_of HT_.out (by kernel_rfl)) (fun _ _ _ h => h) (Or.inl ⟨by rfl, ?_⟩) ?_ ?_
         rotate_left
         ·intro w'; go_simp; with_reducible rfl
         rotate_left
         ·simp only [Act.put, p1_, p2_, p3_, i64_w, i32_w]; rfl
         refine pure_ (i := 7) (N := some 54) (v := ?_) (a' := ?_) #[f_, t_, t_, t_, t_, f_, t_, t_, f_, f_, f_, f_, f_, f_, f_, f_, f_, f_, f_, f_] rfl rfl (any_of HT_.out (by kernel_rfl)) (fun _ _ _ h => h) (Or.inl ⟨by rfl, ?_⟩) ?_ ?_
         rotate_left
         ·intro w'; go_simp; with_reducible rfl
         rotate_left
         ·simp only [Act.put, p1_, p2_, p3_, i64_w, i32_w]; rfl
         refine pure_ (i := 8) (N := some 55) (v := ?_) (a' := ?_) #[f_, t_, t_, t_, t_, f_, t_, t_, t_, f_, f_, f_, f_, f_, f_, f_, f_, f_, f_, f_] rfl rfl (any_of HT_.out (by kernel_rfl)) (fun _ _ _ h => h) (Or.inl ⟨by rfl, ?_⟩) ?_ ?_
         rotate_left
         ·intro w'; go_simp; with_reducible rfl
         rotate_left
         ·simp only [Act.put, p1_, p2_, p3_, i64_w, i32_w]; rfl
         refine pure_ (i := 9) (N := some 56) (v := ?_) (a' := ?_) #[f_, t_, t_, t_, t_, f_, t_, t_, t_, t_, f_, f_, f_, f_, f_, f_, f_, f_, f_, f_] rfl rfl (any_of HT_.out (by kernel_rfl)) (fun _ _ _ h => h) (Or.inl ⟨by rfl, ?_⟩) ?_ ?_
         rotate_left
         ·intro w'; go_simp; with_reducible rfl
         rotate_left
         ·simp only [Act.put, p1_, p2_, p3_, i64_w, i32_w]; rfl
         refine take_ (i := 0) (N := some 47) (v := ?_) (a' := ?_) #[t_, t_, t_, t_, t_, f_, t_, t_, t_, t_, f_, f_, f_, f_, f_, f_, f_, f_, f_, f_] rfl rfl (take_ofW HT_.out HW_.out (by kernel_rfl)) (fun _ _ _ h => h) (Or.inl ⟨by rfl, ?_⟩) hHeld ?_ ?_
         rotate_left
         ·rintro w' ⟨s0, s1, s2, s3, s4, s5, s6, s7⟩
          go_simp
          with_reducible rfl
         rotate_left
         ·simp only [Act.put, p1_, p2_, p3_, i64_w, i32_w]
          rfl
         refine take_ (i := 5) (N := some 52) (v := ?_) (a' := ?_) #[t_, t_, t_, t_, t_, t_, t_, t_, t_, t_, f_, f_, f_, f_, f_, f_, f_, f_, f_, f_] rfl rfl (take_ofW HT_.out HW_.out (by kernel_rfl)) (fun _ _ _ h => h) (Or.inl ⟨by rfl, ?_⟩) hHeld ?_ ?_
         rotate_left
         ·rintro w' ⟨s0, s1, s2, s3, s4, s5, s6, s7⟩
          go_simp
          with_reducible rfl
         rotate_left
         ·simp only [Act.put, p1_, p2_, p3_, i64_w, i32_w]
          rfl
         refine take_ (i := 10) (N := some 57) (v := ?_) (a' := ?_) #[t_, t_, t_, t_, t_, t_, t_, t_, t_, t_, t_, f_, f_, f_, f_, f_, f_, f_, f_, f_] rfl rfl (take_ofW HT_.out HW_.out (by kernel_rfl)) (fun _ _ _ h => h) (Or.inl ⟨by rfl, ?_⟩) hHeld ?_ ?_
         rotate_left
         ·rintro w' ⟨s0, s1, s2, s3, s4, s5, s6, s7⟩
          go_simp
          with_reducible rfl
         rotate_left
         ·simp only [Act.put, p1_, p2_, p3_, i64_w, i32_w]
          rfl
         refine join_ (σ := Value × Nat) 3 #[t_, t_, t_, t_, t_, t_, t_, t_, t_, t_, t_, t_, t_, t_, t_, t_, t_, f_, f_, f_] (fun s_ => [(58, .tuple #[.agg #[.int .i64 zo, .int .i64 zr, .int .i64 zt, s_.1], .bool zma, .bool zW]), (9, .pointer (some ⟨s_.2, 0, none⟩)), (46, .tuple #[.agg #[.int .i64 zo, .int .i64 zr, .int .i64 zt, s_.1], .bool zma, .bool zW]), (59, .agg #[.int .i64 zo, .int .i64 zr, .int .i64 zt, s_.1]), (60, .bool zma), (61, .bool zW)]) (fun s_ w' => (w'.cell? ⟨zh, 0, none⟩ = some (.int .i64 zB) ∧ w'.cell? ⟨zh, 1, none⟩ = some (.int .i64 zz) ∧ w'.cell? ⟨zh, 2, none⟩ = some (.int .i64 zv) ∧ w'.cell? ⟨zh, 3, none⟩ = some (.slice zC zn.length zD) ∧ w'.cell? (ad514.add ((x8_2).toNat * 2)) = some (.int .i64 ((rd_T32 zp x8_2).f0)) ∧ w'.cell? ⟨(ad514.add ((x8_2).toNat * 2)).block, (ad514.add ((x8_2).toNat * 2)).off + 1, none⟩ = some (.bool ((rd_T32 zp x8_2).f1)) ∧ w'.cell? (ad514.add ((x8_2).toNat * 2)) = some (.int .i64 ((rd_T32 zp x8_2).f0)) ∧ w'.cell? ⟨(ad514.add ((x8_2).toNat * 2)).block, (ad514.add ((x8_2).toNat * 2)).off + 1, none⟩ = some (.bool ((rd_T32 zp x8_2).f1))) ∧ (Kd.S (Kd.slice 118 k118) 116 w' w.heap.size (fun k_ => some k_ ≠ (.slice zC zn.length zD : Value).ownBlock) s_.1 zs) ∧ (Kd.R k32 32 w' w.heap.size (fun _ => True) (.slice (some ad514) zp.length zna) zp) ∧ (Kd.S (Kd.slice 118 k118) 116 w' w.heap.size (fun k_ => some k_ ≠ (s_.1 : Value).ownBlock) (.slice zC zn.length zD) zn) ∧ (w'.heap[zq]? = some (.cells #[.int .i64 zu, .int .i64 zy, .int .i64 zA] 25 (0, 0))) ∧ (w'.heap[zh]? = some (.cells #[.int .i64 zB, .int .i64 zz, .int .i64 zv, .slice zC zn.length zD] 70 (0, 0))) ∧ (w'.heap[s_.2]? = some (.cells #[.int .i64 0, .int .i64 0, .int .i64 0, .slice none 0 0] 70 (0, 0))) ∧ (w.heap.size ≤ s_.2) ∧ (w.heap.size ≤ s_.2) ∧ (zq ≠ s_.2) ∧ (s_.2 ≠ zq) ∧ (zh ≠ s_.2) ∧ (s_.2 ≠ zh) ∧ (Below w.heap.size w w')) ?_ ?_
         rotate_left
         ·intro hCont
          refine two_ (i := 11) (j := 16) (Ni := some 58) (Nj := some 9) #[t_, t_, t_, t_, t_, t_, t_, t_, t_, t_, t_, t_, f_, f_, f_, f_, f_, f_, f_, f_] #[t_, t_, t_, t_, t_, t_, t_, t_, t_, t_, t_, f_, f_, f_, f_, f_, t_, f_, f_, f_] rfl rfl rfl rfl (two_of HT_.out (by kernel_rfl)) (by decide) (by decide) (fun K hK => ?_) (fun K hK => ?_)
          ·skip
           refine goes_ Try.func39 (by kernel_rfl) rfl #[.agg #[.int .i64 zB, .int .i64 zz, .int .i64 zv, .slice zC zn.length zD], .int .i64 ((rd_T32 zp x8_2).f0), .bool ((rd_T32 zp x8_2).f1)] (by rfl) rfl rfl (by (try simp only [List.map_toArray, List.map_cons, List.map_nil]); first | done | rfl | (simp only [List.length_drop, List.length_take]; rfl)) ?_
           with_reducible refine (impl_CacheUse.calls k2 zB zz zv _ _ zn ((rd_T32 zp x8_2).f0) ((rd_T32 zp x8_2).f1) zo zr zt zs zma zW _ ?side1 ?side2 A34.out).mono ?_
           (case side1 => repeat (first | exact (Kd.S_reads' ze.out).2.2 | (with_reducible refine Kd.C_alloc ?_ _) | (with_reducible refine Kd.C_drewN ?_ _) | (with_reducible refine Kd.C_drew ?_)))
           (case side2 => exact (Kd.S_reads' ze.out).2.1)
           rintro e w39 ⟨zca, rfl, ho0, hb⟩
           have HS4_ := (hb.cell (World.block_lt_of_cell? _ _ (hHeld.2.2.2.2.1))).trans (hHeld.2.2.2.2.1)
           have HS5_ := (hb.cell (World.block_lt_of_cell? _ _ (hHeld.2.2.2.2.2.1))).trans (hHeld.2.2.2.2.2.1)
           have HS6_ := (hb.cell (World.block_lt_of_cell? _ _ (hHeld.2.2.2.2.2.2.1))).trans (hHeld.2.2.2.2.2.2.1)
           have HS7_ := (hb.cell (World.block_lt_of_cell? _ _ (hHeld.2.2.2.2.2.2.2))).trans (hHeld.2.2.2.2.2.2.2)
           refine ⟨_, rfl, ?_⟩
           have n0_ := Aside0.mk (Kd.R_below (rq HO_4.out) hb)
           have n1_ := Aside0.mk (Kd.S_elder' (by exact sqS ze.out) (Kd.S_base ho0) hb)
           have n2_ := Aside0.mk (Kd.S_lower (Kd.S_new' ho0 (Kd.S_lt (by exact sqS ze.out))) (below_size (lq HB.out)))
           have n3_ := Aside0.mk (blk_below (bq zc.out) hb)
           have n4_ := Aside0.mk (blk_below (bq za.out) hb)
           have n5_ := Aside0.mk (below_step (lq HB.out) hb)
           clear HO_4 ze zc za HB
           have HO_4 := n0_
           have ze := n1_
           have zE := n2_
           have zc := n3_
           have za := n4_
           have HB := n5_
           clear n0_ n1_ n2_ n3_ n4_ n5_
           (try clear hb)
           (try clear hb2)
           (try clear hk)
           (try clear hi)
           (try clear ho0)
           refine hK.out _ _ ⟨(blk_cell za.out 0).trans rfl, (blk_cell za.out 1).trans rfl, (blk_cell za.out 2).trans rfl, (blk_cell za.out 3).trans rfl, HS4_, HS5_, HS6_, HS7_⟩ (fun hHeld => ?_)
           clear hK K
           refine norm_ (a' := ?_) ?_ ?_
           rotate_left
           ·show Act.put _ (some 58) _ = _
            simp only [Act.put, p1_, p2_, p3_, i64_w, i32_w]
            rfl
           refine pure_ (i := 12) (N := some 46) (v := ?_) (a' := ?_) #[t_, t_, t_, t_, t_, t_, t_, t_, t_, t_, t_, t_, t_, f_, f_, f_, f_, f_, f_, f_] rfl rfl (any_of HT_.out (by kernel_rfl)) (fun _ _ _ h => h) (Or.inl ⟨by rfl, ?_⟩) ?_ ?_
           rotate_left
           ·intro w'; go_simp; with_reducible rfl
           rotate_left
           ·simp only [Act.put, p1_, p2_, p3_, i64_w, i32_w]; rfl
           refine pure_ (i := 13) (N := some 59) (v := ?_) (a' := ?_) #[t_, t_, t_, t_, t_, t_, t_, t_, t_, t_, t_, t_, t_, t_, f_, f_, f_, f_, f_, f_] rfl rfl (any_of HT_.out (by kernel_rfl)) (fun _ _ _ h => h) (Or.inl ⟨by rfl, ?_⟩) ?_ ?_
           rotate_left
           ·intro w'; go_simp; with_reducible rfl
           rotate_left
           ·simp only [Act.put, p1_, p2_, p3_, i64_w, i32_w]; rfl
           refine pure_ (i := 14) (N := some 60) (v := ?_) (a' := ?_) #[t_, t_, t_, t_, t_, t_, t_, t_, t_, t_, t_, t_, t_, t_, t_, f_, f_, f_, f_, f_] rfl rfl (any_of HT_.out (by kernel_rfl)) (fun _ _ _ h => h) (Or.inl ⟨by rfl, ?_⟩) ?_ ?_
           rotate_left
           ·intro w'; go_simp; with_reducible rfl
           rotate_left
           ·simp only [Act.put, p1_, p2_, p3_, i64_w, i32_w]; rfl
           refine pure_ (i := 15) (N := some 61) (v := ?_) (a' := ?_) #[t_, t_, t_, t_, t_, t_, t_, t_, t_, t_, t_, t_, t_, t_, t_, t_, f_, f_, f_, f_] rfl rfl (any_of HT_.out (by kernel_rfl)) (fun _ _ _ h => h) (Or.inl ⟨by rfl, ?_⟩) ?_ ?_
           rotate_left
           ·intro w'; go_simp; with_reducible rfl
           rotate_left
           ·simp only [Act.put, p1_, p2_, p3_, i64_w, i32_w]; rfl
           refine one_ (i := 16) (N := some 9) #[t_, t_, t_, t_, t_, t_, t_, t_, t_, t_, t_, t_, t_, t_, t_, t_, t_, f_, f_, f_] rfl rfl (one_of HT_.out (by kernel_rfl)) (by decide) (fun K hK => ?_)
           refine box_step ?hg (N := 9) ?hd (cs := #[.int .i64 0, .int .i64 0, .int .i64 0, .slice none 0 0]) (t := 70) ?hr ?_; (case hd => rfl); (case hg => rfl); (case hr => first | (go_simp; done) | (go_simp; rfl))
           intro zf hg w40 hbox hb
           have HS4_ := (hb.cell (World.block_lt_of_cell? _ _ (hHeld.2.2.2.2.1))).trans (hHeld.2.2.2.2.1)
           have HS5_ := (hb.cell (World.block_lt_of_cell? _ _ (hHeld.2.2.2.2.2.1))).trans (hHeld.2.2.2.2.2.1)
           have HS6_ := (hb.cell (World.block_lt_of_cell? _ _ (hHeld.2.2.2.2.2.2.1))).trans (hHeld.2.2.2.2.2.2.1)
           have HS7_ := (hb.cell (World.block_lt_of_cell? _ _ (hHeld.2.2.2.2.2.2.2))).trans (hHeld.2.2.2.2.2.2.2)
           have n0_ := Aside0.mk (Kd.R_below (rq HO_4.out) hb)
           have n1_ := Aside0.mk (Kd.S_below (by exact sqS ze.out) hb)
           have n2_ := Aside0.mk (Kd.S_below (by exact sqS zE.out) hb)
           have n3_ := Aside0.mk (blk_below (bq zc.out) hb)
           have n4_ := Aside0.mk (blk_below (bq za.out) hb)
           have n5_ := Aside0.mk (below_step (lq HB.out) hb)
           have n6_ := Aside0.mk (hbox)
           have n7_ := Aside0.mk ((ge_new hg (lq HB.out) : w.heap.size ≤ zf))
           have n8_ := Aside0.mk ((ge_new hg (lq HB.out) : w.heap.size ≤ zf))
           have n9_ := Aside0.mk ((ne_new hg (bq zc.out) : zq ≠ zf))
           have n10_ := Aside0.mk ((new_ne hg (bq zc.out) : zf ≠ zq))
           have n11_ := Aside0.mk ((ne_new hg (bq za.out) : zh ≠ zf))
           have n12_ := Aside0.mk ((new_ne hg (bq za.out) : zf ≠ zh))
           clear HO_4 ze zE zc za HB
           have HO_4 := n0_
           have ze := n1_
           have zE := n2_
           have zc := n3_
           have za := n4_
           have HB := n5_
           have zg := n6_
           have GW524 := n7_
           have zda := n8_
           have NB502_524 := n9_
           have NB524_502 := n10_
           have NB513_524 := n11_
           have NB524_513 := n12_
           clear n0_ n1_ n2_ n3_ n4_ n5_ n6_ n7_ n8_ n9_ n10_ n11_ n12_ hb hbox hg
           refine hK.out _ _ ⟨(blk_cell za.out 0).trans rfl, (blk_cell za.out 1).trans rfl, (blk_cell za.out 2).trans rfl, (blk_cell za.out 3).trans rfl, HS4_, HS5_, HS6_, HS7_⟩ (fun hHeld => ?_)
           clear hK K
           refine norm_ (a' := ?_) ?_ ?_
           rotate_left
           ·show Act.put _ (some 9) _ = _
            simp only [Act.put, p1_, p2_, p3_, i64_w, i32_w]
            rfl
           exact norm_ (by simp only [putAll, Act.put, List.setIfInBounds_toArray, List.set_cons_zero, List.set_cons_succ]) (hCont (zca, zf) _ ⟨hHeld, (by exact sqS (Kd.S_mono zE.out (fun _ hk => hk.2))), (rq HO_4.out), (by exact sqS (Kd.S_mono ze.out (fun _ hk => hk.2))), (bq zc.out), (bq za.out), (bq zg.out), GW524.out, zda.out, NB502_524.out, NB524_502.out, NB513_524.out, NB524_513.out, (lq HB.out)⟩)
          ·skip
           refine box_step ?hg (N := 9) ?hd (cs := #[.int .i64 0, .int .i64 0, .int .i64 0, .slice none 0 0]) (t := 70) ?hr ?_; (case hd => rfl); (case hg => rfl); (case hr => first | (go_simp; done) | (go_simp; rfl))
           intro zf hg w39 hbox hb
           have HS4_ := (hb.cell (World.block_lt_of_cell? _ _ (hHeld.2.2.2.2.1))).trans (hHeld.2.2.2.2.1)
           have HS5_ := (hb.cell (World.block_lt_of_cell? _ _ (hHeld.2.2.2.2.2.1))).trans (hHeld.2.2.2.2.2.1)
           have HS6_ := (hb.cell (World.block_lt_of_cell? _ _ (hHeld.2.2.2.2.2.2.1))).trans (hHeld.2.2.2.2.2.2.1)
           have HS7_ := (hb.cell (World.block_lt_of_cell? _ _ (hHeld.2.2.2.2.2.2.2))).trans (hHeld.2.2.2.2.2.2.2)
           have n0_ := Aside0.mk (Kd.R_below (rq HO_4.out) hb)
           have n1_ := Aside0.mk (Kd.S_below (by exact sqS ze.out) hb)
           have n2_ := Aside0.mk (blk_below (bq zc.out) hb)
           have n3_ := Aside0.mk (blk_below (bq za.out) hb)
           have n4_ := Aside0.mk (below_step (lq HB.out) hb)
           have n5_ := Aside0.mk (hbox)
           have n6_ := Aside0.mk ((ge_new hg (lq HB.out) : w.heap.size ≤ zf))
           have n7_ := Aside0.mk ((ge_new hg (lq HB.out) : w.heap.size ≤ zf))
           have n8_ := Aside0.mk ((ne_new hg (bq zc.out) : zq ≠ zf))
           have n9_ := Aside0.mk ((new_ne hg (bq zc.out) : zf ≠ zq))
           have n10_ := Aside0.mk ((ne_new hg (bq za.out) : zh ≠ zf))
           have n11_ := Aside0.mk ((new_ne hg (bq za.out) : zf ≠ zh))
           clear HO_4 ze zc za HB
           have HO_4 := n0_
           have ze := n1_
           have zc := n2_
           have za := n3_
           have HB := n4_
           have zg := n5_
           have GW524 := n6_
           have zda := n7_
           have NB502_524 := n8_
           have NB524_502 := n9_
           have NB513_524 := n10_
           have NB524_513 := n11_
           clear n0_ n1_ n2_ n3_ n4_ n5_ n6_ n7_ n8_ n9_ n10_ n11_ hb hbox hg
           refine hK.out _ _ ⟨(blk_cell za.out 0).trans rfl, (blk_cell za.out 1).trans rfl, (blk_cell za.out 2).trans rfl, (blk_cell za.out 3).trans rfl, HS4_, HS5_, HS6_, HS7_⟩ (fun hHeld => ?_)
           clear hK K
           refine norm_ (a' := ?_) ?_ ?_
           rotate_left
           ·show Act.put _ (some 9) _ = _
            simp only [Act.put, p1_, p2_, p3_, i64_w, i32_w]
            rfl
           refine one_ (i := 11) (N := some 58) #[t_, t_, t_, t_, t_, t_, t_, t_, t_, t_, t_, t_, f_, f_, f_, f_, t_, f_, f_, f_] rfl rfl (one_of HT_.out (by kernel_rfl)) (by decide) (fun K hK => ?_)
           refine goes_ Try.func39 (by kernel_rfl) rfl #[.agg #[.int .i64 zB, .int .i64 zz, .int .i64 zv, .slice zC zn.length zD], .int .i64 ((rd_T32 zp x8_2).f0), .bool ((rd_T32 zp x8_2).f1)] (by rfl) rfl rfl (by (try simp only [List.map_toArray, List.map_cons, List.map_nil]); first | done | rfl | (simp only [List.length_drop, List.length_take]; rfl)) ?_
           with_reducible refine (impl_CacheUse.calls k2 zB zz zv _ _ zn ((rd_T32 zp x8_2).f0) ((rd_T32 zp x8_2).f1) zo zr zt zs zma zW _ ?side1 ?side2 A34.out).mono ?_
           (case side1 => repeat (first | exact (Kd.S_reads' ze.out).2.2 | (with_reducible refine Kd.C_alloc ?_ _) | (with_reducible refine Kd.C_drewN ?_ _) | (with_reducible refine Kd.C_drew ?_)))
           (case side2 => exact (Kd.S_reads' ze.out).2.1)
           rintro e w40 ⟨zca, rfl, ho0, hb⟩
           have HS4_ := (hb.cell (World.block_lt_of_cell? _ _ (hHeld.2.2.2.2.1))).trans (hHeld.2.2.2.2.1)
           have HS5_ := (hb.cell (World.block_lt_of_cell? _ _ (hHeld.2.2.2.2.2.1))).trans (hHeld.2.2.2.2.2.1)
           have HS6_ := (hb.cell (World.block_lt_of_cell? _ _ (hHeld.2.2.2.2.2.2.1))).trans (hHeld.2.2.2.2.2.2.1)
           have HS7_ := (hb.cell (World.block_lt_of_cell? _ _ (hHeld.2.2.2.2.2.2.2))).trans (hHeld.2.2.2.2.2.2.2)
           refine ⟨_, rfl, ?_⟩
           have n0_ := Aside0.mk (Kd.R_below (rq HO_4.out) hb)
           have n1_ := Aside0.mk (Kd.S_elder' (by exact sqS ze.out) (Kd.S_base ho0) hb)
           have n2_ := Aside0.mk (Kd.S_lower (Kd.S_new' ho0 (Kd.S_lt (by exact sqS ze.out))) (below_size (lq HB.out)))
           have n3_ := Aside0.mk (blk_below (bq zc.out) hb)
           have n4_ := Aside0.mk (blk_below (bq za.out) hb)
           have n5_ := Aside0.mk (blk_below (bq zg.out) hb)
           have n6_ := Aside0.mk (below_step (lq HB.out) hb)
           clear HO_4 ze zc za zg HB
           have HO_4 := n0_
           have ze := n1_
           have zE := n2_
           have zc := n3_
           have za := n4_
           have zg := n5_
           have HB := n6_
           clear n0_ n1_ n2_ n3_ n4_ n5_ n6_
           (try clear hb)
           (try clear hb2)
           (try clear hk)
           (try clear hi)
           (try clear ho0)
           refine hK.out _ _ ⟨(blk_cell za.out 0).trans rfl, (blk_cell za.out 1).trans rfl, (blk_cell za.out 2).trans rfl, (blk_cell za.out 3).trans rfl, HS4_, HS5_, HS6_, HS7_⟩ (fun hHeld => ?_)
           clear hK K
           refine norm_ (a' := ?_) ?_ ?_
           rotate_left
           ·show Act.put _ (some 58) _ = _
            simp only [Act.put, p1_, p2_, p3_, i64_w, i32_w]
            rfl
           refine pure_ (i := 12) (N := some 46) (v := ?_) (a' := ?_) #[t_, t_, t_, t_, t_, t_, t_, t_, t_, t_, t_, t_, t_, f_, f_, f_, t_, f_, f_, f_] rfl rfl (any_of HT_.out (by kernel_rfl)) (fun _ _ _ h => h) (Or.inl ⟨by rfl, ?_⟩) ?_ ?_
           rotate_left
           ·intro w'; go_simp; with_reducible rfl
           rotate_left
           ·simp only [Act.put, p1_, p2_, p3_, i64_w, i32_w]; rfl
           refine pure_ (i := 13) (N := some 59) (v := ?_) (a' := ?_) #[t_, t_, t_, t_, t_, t_, t_, t_, t_, t_, t_, t_, t_, t_, f_, f_, t_, f_, f_, f_] rfl rfl (any_of HT_.out (by kernel_rfl)) (fun _ _ _ h => h) (Or.inl ⟨by rfl, ?_⟩) ?_ ?_
           rotate_left
           ·intro w'; go_simp; with_reducible rfl
           rotate_left
           ·simp only [Act.put, p1_, p2_, p3_, i64_w, i32_w]; rfl
           refine pure_ (i := 14) (N := some 60) (v := ?_) (a' := ?_) #[t_, t_, t_, t_, t_, t_, t_, t_, t_, t_, t_, t_, t_, t_, t_, f_, t_, f_, f_, f_] rfl rfl (any_of HT_.out (by kernel_rfl)) (fun _ _ _ h => h) (Or.inl ⟨by rfl, ?_⟩) ?_ ?_
           rotate_left
           ·intro w'; go_simp; with_reducible rfl
           rotate_left
           ·simp only [Act.put, p1_, p2_, p3_, i64_w, i32_w]; rfl
           refine pure_ (i := 15) (N := some 61) (v := ?_) (a' := ?_) #[t_, t_, t_, t_, t_, t_, t_, t_, t_, t_, t_, t_, t_, t_, t_, t_, t_, f_, f_, f_] rfl rfl (any_of HT_.out (by kernel_rfl)) (fun _ _ _ h => h) (Or.inl ⟨by rfl, ?_⟩) ?_ ?_
           rotate_left
           ·intro w'; go_simp; with_reducible rfl
           rotate_left
           ·simp only [Act.put, p1_, p2_, p3_, i64_w, i32_w]; rfl
           exact norm_ (by simp only [putAll, Act.put, List.setIfInBounds_toArray, List.set_cons_zero, List.set_cons_succ]) (hCont (zca, zf) _ ⟨hHeld, (by exact sqS (Kd.S_mono zE.out (fun _ hk => hk.2))), (rq HO_4.out), (by exact sqS (Kd.S_mono ze.out (fun _ hk => hk.2))), (bq zc.out), (bq za.out), (bq zg.out), GW524.out, zda.out, NB502_524.out, NB524_502.out, NB513_524.out, NB524_513.out, (lq HB.out)⟩)
         rintro ⟨zca, zf⟩ w41 ⟨hS_, h0_, h1_, h2_, h3_, h4_, h5_, h6_, h7_, h8_, h9_, h10_, h11_, h12_⟩
         have n0_ : Aside0 (Kd.S (Kd.slice 118 k118) 116 w41 w.heap.size (fun k_ => some k_ ≠ (.slice zC zn.length zD : Value).ownBlock) zca zs) := ⟨h0_⟩
         have n1_ : Aside0 (Kd.R k32 32 w41 w.heap.size (fun _ => True) (.slice (some ad514) zp.length zna) zp) := ⟨h1_⟩
         have n2_ : Aside0 (Kd.S (Kd.slice 118 k118) 116 w41 w.heap.size (fun k_ => some k_ ≠ (zca : Value).ownBlock) (.slice zC zn.length zD) zn) := ⟨h2_⟩
         have n3_ : Aside0 (w41.heap[zq]? = some (.cells #[.int .i64 zu, .int .i64 zy, .int .i64 zA] 25 (0, 0))) := ⟨h3_⟩
         have n4_ : Aside0 (w41.heap[zh]? = some (.cells #[.int .i64 zB, .int .i64 zz, .int .i64 zv, .slice zC zn.length zD] 70 (0, 0))) := ⟨h4_⟩
         have n5_ : Aside0 (w41.heap[zf]? = some (.cells #[.int .i64 0, .int .i64 0, .int .i64 0, .slice none 0 0] 70 (0, 0))) := ⟨h5_⟩
         have n6_ : Aside0 (w.heap.size ≤ zf) := ⟨h6_⟩
         have n7_ : Aside0 (w.heap.size ≤ zf) := ⟨h7_⟩
         have n8_ : Aside0 (zq ≠ zf) := ⟨h8_⟩
         have n9_ : Aside0 (zf ≠ zq) := ⟨h9_⟩
         have n10_ : Aside0 (zh ≠ zf) := ⟨h10_⟩
         have n11_ : Aside0 (zf ≠ zh) := ⟨h11_⟩
         have n12_ : Aside0 (Below w.heap.size w w41) := ⟨h12_⟩
         clear HO_4 ze zc za HB h0_ h1_ h2_ h3_ h4_ h5_ h6_ h7_ h8_ h9_ h10_ h11_ h12_
         have zE := n0_
         have HO_4 := n1_
         have ze := n2_
         have zc := n3_
         have za := n4_
         have zg := n5_
         have GW524 := n6_
         have zda := n7_
         have NB502_524 := n8_
         have NB524_502 := n9_
         have NB513_524 := n10_
         have NB524_513 := n11_
         have HB := n12_
         clear n0_ n1_ n2_ n3_ n4_ n5_ n6_ n7_ n8_ n9_ n10_ n11_ n12_
         have hHeld : w41.cell? ⟨zh, 0, none⟩ = some (.int .i64 zB) ∧ w41.cell? ⟨zh, 1, none⟩ = some (.int .i64 zz) ∧ w41.cell? ⟨zh, 2, none⟩ = some (.int .i64 zv) ∧ w41.cell? ⟨zh, 3, none⟩ = some (.slice zC zn.length zD) ∧ w41.cell? (ad514.add ((x8_2).toNat * 2)) = some (.int .i64 ((rd_T32 zp x8_2).f0)) ∧ w41.cell? ⟨(ad514.add ((x8_2).toNat * 2)).block, (ad514.add ((x8_2).toNat * 2)).off + 1, none⟩ = some (.bool ((rd_T32 zp x8_2).f1)) ∧ w41.cell? (ad514.add ((x8_2).toNat * 2)) = some (.int .i64 ((rd_T32 zp x8_2).f0)) ∧ w41.cell? ⟨(ad514.add ((x8_2).toNat * 2)).block, (ad514.add ((x8_2).toNat * 2)).off + 1, none⟩ = some (.bool ((rd_T32 zp x8_2).f1)) := hS_
         obtain ⟨zw, zx, eo45⟩ := Kd.S_slice zE.out
         (first | subst eo45 | (injection eo45 with f1_ f2_ f3_; have f4_ := f1_.symm; have f5_ := f3_.symm; clear f1_ f2_ f3_; subst f4_; subst f5_))
         refine norm_ (a' := ?_) ?_ ?_
         rotate_left
         ·simp only [putAll, Act.put, List.setIfInBounds_toArray, List.set_cons_zero, List.set_cons_succ]
          rfl
         refine one_ (i := 17) (N := none) #[t_, t_, t_, t_, t_, t_, t_, t_, t_, t_, t_, t_, t_, t_, t_, t_, t_, t_, f_, f_] rfl rfl (one_of HT_.out (by kernel_rfl)) (by decide) (fun K hK => ?_)
         have hs42 : w41.cell? ⟨zf, 0, none⟩ = some (.int .i64 0) := (blk_cell zg.out 0).trans rfl
         have hfs42 := blk_frozen zg.out 0
         have hns42_0 := NB502_524.out
         have hns42_1 := NB513_524.out
         have hms42_0 := NB524_502.out
         have hms42_1 := NB524_513.out
         have hs43 : w41.cell? ⟨zf, 1, none⟩ = some (.int .i64 0) := (blk_cell zg.out 1).trans rfl
         have hfs43 := blk_frozen zg.out 1
         have hns43_0 := NB502_524.out
         have hns43_1 := NB513_524.out
         have hms43_0 := NB524_502.out
         have hms43_1 := NB524_513.out
         have hs44 : w41.cell? ⟨zf, 2, none⟩ = some (.int .i64 0) := (blk_cell zg.out 2).trans rfl
         have hfs44 := blk_frozen zg.out 2
         have hns44_0 := NB502_524.out
         have hns44_1 := NB513_524.out
         have hms44_0 := NB524_502.out
         have hms44_1 := NB524_513.out
         have hs46 : w41.cell? ⟨zf, 3, none⟩ = some (.slice none 0 0) := (blk_cell zg.out 3).trans rfl
         have hfs46 := blk_frozen zg.out 3
         have hns46_0 := NB502_524.out
         have hns46_1 := NB513_524.out
         have hms46_0 := NB524_502.out
         have hms46_1 := NB524_513.out
         refine skip_ (w1 := ?_) (by rfl) rfl ?_ ?_
         rotate_left
         ·go_simp
          rfl
         refine hK.out _ _ ⟨((cell_far (p := ⟨zf, _, none⟩) NB513_524.out _).trans (((cell_far (p := ⟨zf, _, none⟩) NB513_524.out _).trans (((cell_far (p := ⟨zf, _, none⟩) NB513_524.out _).trans (((cell_far (p := ⟨zf, _, none⟩) NB513_524.out _).trans (hHeld.1)))))))), ((cell_far (p := ⟨zf, _, none⟩) NB513_524.out _).trans (((cell_far (p := ⟨zf, _, none⟩) NB513_524.out _).trans (((cell_far (p := ⟨zf, _, none⟩) NB513_524.out _).trans (((cell_far (p := ⟨zf, _, none⟩) NB513_524.out _).trans (hHeld.2.1)))))))), ((cell_far (p := ⟨zf, _, none⟩) NB513_524.out _).trans (((cell_far (p := ⟨zf, _, none⟩) NB513_524.out _).trans (((cell_far (p := ⟨zf, _, none⟩) NB513_524.out _).trans (((cell_far (p := ⟨zf, _, none⟩) NB513_524.out _).trans (hHeld.2.2.1)))))))), ((cell_far (p := ⟨zf, _, none⟩) NB513_524.out _).trans (((cell_far (p := ⟨zf, _, none⟩) NB513_524.out _).trans (((cell_far (p := ⟨zf, _, none⟩) NB513_524.out _).trans (((cell_far (p := ⟨zf, _, none⟩) NB513_524.out _).trans (hHeld.2.2.2.1)))))))), ((cell_far (p := ⟨zf, _, none⟩) (by first | exact Kd.own_blk (Kd.R_ne HO_4.out zg.out (by decide)) | (rw [add_block]; exact Kd.own_blk (Kd.R_ne HO_4.out zg.out (by decide))) | (show (Addr.add _ _).block ≠ _; rw [add_block]; exact Kd.own_blk (Kd.R_ne HO_4.out zg.out (by decide))) | (dsimp only; exact Kd.own_blk (Kd.R_ne HO_4.out zg.out (by decide)))) _).trans (((cell_far (p := ⟨zf, _, none⟩) (by first | exact Kd.own_blk (Kd.R_ne HO_4.out zg.out (by decide)) | (rw [add_block]; exact Kd.own_blk (Kd.R_ne HO_4.out zg.out (by decide))) | (show (Addr.add _ _).block ≠ _; rw [add_block]; exact Kd.own_blk (Kd.R_ne HO_4.out zg.out (by decide))) | (dsimp only; exact Kd.own_blk (Kd.R_ne HO_4.out zg.out (by decide)))) _).trans (((cell_far (p := ⟨zf, _, none⟩) (by first | exact Kd.own_blk (Kd.R_ne HO_4.out zg.out (by decide)) | (rw [add_block]; exact Kd.own_blk (Kd.R_ne HO_4.out zg.out (by decide))) | (show (Addr.add _ _).block ≠ _; rw [add_block]; exact Kd.own_blk (Kd.R_ne HO_4.out zg.out (by decide))) | (dsimp only; exact Kd.own_blk (Kd.R_ne HO_4.out zg.out (by decide)))) _).trans (((cell_far (p := ⟨zf, _, none⟩) (by first | exact Kd.own_blk (Kd.R_ne HO_4.out zg.out (by decide)) | (rw [add_block]; exact Kd.own_blk (Kd.R_ne HO_4.out zg.out (by decide))) | (show (Addr.add _ _).block ≠ _; rw [add_block]; exact Kd.own_blk (Kd.R_ne HO_4.out zg.out (by decide))) | (dsimp only; exact Kd.own_blk (Kd.R_ne HO_4.out zg.out (by decide)))) _).trans (hHeld.2.2.2.2.1)))))))), ((cell_far (p := ⟨zf, _, none⟩) (by first | exact Kd.own_blk (Kd.R_ne HO_4.out zg.out (by decide)) | (rw [add_block]; exact Kd.own_blk (Kd.R_ne HO_4.out zg.out (by decide))) | (show (Addr.add _ _).block ≠ _; rw [add_block]; exact Kd.own_blk (Kd.R_ne HO_4.out zg.out (by decide))) | (dsimp only; exact Kd.own_blk (Kd.R_ne HO_4.out zg.out (by decide)))) _).trans (((cell_far (p := ⟨zf, _, none⟩) (by first | exact Kd.own_blk (Kd.R_ne HO_4.out zg.out (by decide)) | (rw [add_block]; exact Kd.own_blk (Kd.R_ne HO_4.out zg.out (by decide))) | (show (Addr.add _ _).block ≠ _; rw [add_block]; exact Kd.own_blk (Kd.R_ne HO_4.out zg.out (by decide))) | (dsimp only; exact Kd.own_blk (Kd.R_ne HO_4.out zg.out (by decide)))) _).trans (((cell_far (p := ⟨zf, _, none⟩) (by first | exact Kd.own_blk (Kd.R_ne HO_4.out zg.out (by decide)) | (rw [add_block]; exact Kd.own_blk (Kd.R_ne HO_4.out zg.out (by decide))) | (show (Addr.add _ _).block ≠ _; rw [add_block]; exact Kd.own_blk (Kd.R_ne HO_4.out zg.out (by decide))) | (dsimp only; exact Kd.own_blk (Kd.R_ne HO_4.out zg.out (by decide)))) _).trans (((cell_far (p := ⟨zf, _, none⟩) (by first | exact Kd.own_blk (Kd.R_ne HO_4.out zg.out (by decide)) | (rw [add_block]; exact Kd.own_blk (Kd.R_ne HO_4.out zg.out (by decide))) | (show (Addr.add _ _).block ≠ _; rw [add_block]; exact Kd.own_blk (Kd.R_ne HO_4.out zg.out (by decide))) | (dsimp only; exact Kd.own_blk (Kd.R_ne HO_4.out zg.out (by decide)))) _).trans (hHeld.2.2.2.2.2.1)))))))), ((cell_far (p := ⟨zf, _, none⟩) (by first | exact Kd.own_blk (Kd.R_ne HO_4.out zg.out (by decide)) | (rw [add_block]; exact Kd.own_blk (Kd.R_ne HO_4.out zg.out (by decide))) | (show (Addr.add _ _).block ≠ _; rw [add_block]; exact Kd.own_blk (Kd.R_ne HO_4.out zg.out (by decide))) | (dsimp only; exact Kd.own_blk (Kd.R_ne HO_4.out zg.out (by decide)))) _).trans (((cell_far (p := ⟨zf, _, none⟩) (by first | exact Kd.own_blk (Kd.R_ne HO_4.out zg.out (by decide)) | (rw [add_block]; exact Kd.own_blk (Kd.R_ne HO_4.out zg.out (by decide))) | (show (Addr.add _ _).block ≠ _; rw [add_block]; exact Kd.own_blk (Kd.R_ne HO_4.out zg.out (by decide))) | (dsimp only; exact Kd.own_blk (Kd.R_ne HO_4.out zg.out (by decide)))) _).trans (((cell_far (p := ⟨zf, _, none⟩) (by first | exact Kd.own_blk (Kd.R_ne HO_4.out zg.out (by decide)) | (rw [add_block]; exact Kd.own_blk (Kd.R_ne HO_4.out zg.out (by decide))) | (show (Addr.add _ _).block ≠ _; rw [add_block]; exact Kd.own_blk (Kd.R_ne HO_4.out zg.out (by decide))) | (dsimp only; exact Kd.own_blk (Kd.R_ne HO_4.out zg.out (by decide)))) _).trans (((cell_far (p := ⟨zf, _, none⟩) (by first | exact Kd.own_blk (Kd.R_ne HO_4.out zg.out (by decide)) | (rw [add_block]; exact Kd.own_blk (Kd.R_ne HO_4.out zg.out (by decide))) | (show (Addr.add _ _).block ≠ _; rw [add_block]; exact Kd.own_blk (Kd.R_ne HO_4.out zg.out (by decide))) | (dsimp only; exact Kd.own_blk (Kd.R_ne HO_4.out zg.out (by decide)))) _).trans (hHeld.2.2.2.2.2.2.1)))))))), ((cell_far (p := ⟨zf, _, none⟩) (by first | exact Kd.own_blk (Kd.R_ne HO_4.out zg.out (by decide)) | (rw [add_block]; exact Kd.own_blk (Kd.R_ne HO_4.out zg.out (by decide))) | (show (Addr.add _ _).block ≠ _; rw [add_block]; exact Kd.own_blk (Kd.R_ne HO_4.out zg.out (by decide))) | (dsimp only; exact Kd.own_blk (Kd.R_ne HO_4.out zg.out (by decide)))) _).trans (((cell_far (p := ⟨zf, _, none⟩) (by first | exact Kd.own_blk (Kd.R_ne HO_4.out zg.out (by decide)) | (rw [add_block]; exact Kd.own_blk (Kd.R_ne HO_4.out zg.out (by decide))) | (show (Addr.add _ _).block ≠ _; rw [add_block]; exact Kd.own_blk (Kd.R_ne HO_4.out zg.out (by decide))) | (dsimp only; exact Kd.own_blk (Kd.R_ne HO_4.out zg.out (by decide)))) _).trans (((cell_far (p := ⟨zf, _, none⟩) (by first | exact Kd.own_blk (Kd.R_ne HO_4.out zg.out (by decide)) | (rw [add_block]; exact Kd.own_blk (Kd.R_ne HO_4.out zg.out (by decide))) | (show (Addr.add _ _).block ≠ _; rw [add_block]; exact Kd.own_blk (Kd.R_ne HO_4.out zg.out (by decide))) | (dsimp only; exact Kd.own_blk (Kd.R_ne HO_4.out zg.out (by decide)))) _).trans (((cell_far (p := ⟨zf, _, none⟩) (by first | exact Kd.own_blk (Kd.R_ne HO_4.out zg.out (by decide)) | (rw [add_block]; exact Kd.own_blk (Kd.R_ne HO_4.out zg.out (by decide))) | (show (Addr.add _ _).block ≠ _; rw [add_block]; exact Kd.own_blk (Kd.R_ne HO_4.out zg.out (by decide))) | (dsimp only; exact Kd.own_blk (Kd.R_ne HO_4.out zg.out (by decide)))) _).trans (hHeld.2.2.2.2.2.2.2))))))))⟩ (fun hHeld => ?_)
         clear hK K
         refine pure_ (i := 18) (N := some 10) (v := ?_) (a' := ?_) #[t_, t_, t_, t_, t_, t_, t_, t_, t_, t_, t_, t_, t_, t_, t_, t_, t_, t_, t_, f_] rfl rfl (any_of HT_.out (by kernel_rfl)) (fun _ _ _ h => h) (Or.inl ⟨by rfl, ?_⟩) ?_ ?_
         rotate_left
         ·intro w'; go_simp; with_reducible rfl
         rotate_left
         ·simp only [Act.put, p1_, p2_, p3_, i64_w, i32_w]; rfl
         refine pure_ (i := 19) (N := some 11) (v := ?_) (a' := ?_) #[t_, t_, t_, t_, t_, t_, t_, t_, t_, t_, t_, t_, t_, t_, t_, t_, t_, t_, t_, t_] rfl rfl (any_of HT_.out (by kernel_rfl)) (fun _ _ _ h => h) (Or.inl ⟨by rfl, ?_⟩) ?_ ?_
         rotate_left
         ·intro w'; go_simp; with_reducible rfl
         rotate_left
         ·simp only [Act.put, p1_, p2_, p3_, i64_w, i32_w]; rfl
         refine done_ (done_of HT_.out (by kernel_rfl)) ?_
         go_upto_region 12 with (fail)
         go_cut [74] (fun v74 wc => ∃ (kq : Nat) (x74_34 : Bool), v74 = .bool x74_34 ∧ Aside0 (laws_FnDirty.j2 kq zp x6_2 x7_2 x8_2 zW x74_34 zu zy zA zo zr zt zs = some r) ∧ Aside0 (kq ≤ k2) ∧ Aside0 (Kd.R k32 32 wc w.heap.size (fun _ => True) (.slice (some ad514) zp.length zna) zp) ∧ Aside0 (Kd.S (Kd.slice 118 k118) 116 wc w.heap.size (fun k_ => some k_ ≠ ((.slice zw zs.length zx) : Value).ownBlock) (.slice zC zn.length zD) zn) ∧ Aside0 (Kd.S (Kd.slice 118 k118) 116 wc w.heap.size (fun k_ => some k_ ≠ ((.slice zC zn.length zD) : Value).ownBlock) (.slice zw zs.length zx) zs) ∧ Aside0 (wc.heap[zq]? = some (.cells #[.int .i64 zu, .int .i64 zy, .int .i64 zA] 25 (0, 0))) ∧ Aside0 (wc.heap[zh]? = some (.cells #[.int .i64 zB, .int .i64 zz, .int .i64 zv, (.slice zC zn.length zD)] 70 (0, 0))) ∧ Aside0 (wc.heap[zf]? = some (.cells #[.int .i64 zo, .int .i64 zr, .int .i64 zt, (.slice zw zs.length zx)] 70 (0, 0))) ∧ Aside0 (Below w.heap.size w wc))
         case first =>
          have H := HC35.out
          clear HC35
          replace H := Option.bind_eq_some_iff.mp H
          obtain ⟨zJa, A470, H⟩ := H
          (try dsimp only at H)
          have A47 := Aside0.mk A470
          clear A470
          by_cases c48 : zJa = true
          ·subst c48
           rw [if_pos rfl] at H
           replace H := Option.bind_eq_some_iff.mp H
           obtain ⟨zoa, A490, H⟩ := H
           (try dsimp only at H)
           have A49 := Aside0.mk A490
           clear A490
           have H' := Aside0.mk H
           clear H
           try go_wp2
           have n0_ : Aside0 (Kd.R k32 32 ((((w41.setCell ⟨zf, 0, none⟩ (.int .i64 zo)).setCell ⟨zf, 1, none⟩ (.int .i64 zr)).setCell ⟨zf, 2, none⟩ (.int .i64 zt)).setCell ⟨zf, 3, none⟩ (.slice zw zs.length zx)) w.heap.size (fun _ => True) (.slice (some ad514) zp.length zna) zp) := ⟨by (with_reducible repeat (first | apply Kd.R_alloc | apply Kd.R_drewN | apply Kd.R_drew)); exact Kd.R_mono (Kd.R_far (p := ⟨zf, 3, none⟩) (Kd.R_far (p := ⟨zf, 2, none⟩) (Kd.R_far (p := ⟨zf, 1, none⟩) (Kd.R_far (p := ⟨zf, 0, none⟩) (Kd.R_types HO_4.out zg.out (by decide)) (fun _ hk => hk.2) (.int .i64 zo)) (fun _ hk => hk.2) (.int .i64 zr)) (fun _ hk => hk.2) (.int .i64 zt)) (fun _ hk => hk.2) (.slice zw zs.length zx)) (fun _ hk => trivial)⟩
           have n1_ : Aside0 (Kd.S (Kd.slice 118 k118) 116 ((((w41.setCell ⟨zf, 0, none⟩ (.int .i64 zo)).setCell ⟨zf, 1, none⟩ (.int .i64 zr)).setCell ⟨zf, 2, none⟩ (.int .i64 zt)).setCell ⟨zf, 3, none⟩ (.slice zw zs.length zx)) w.heap.size (fun k_ => some k_ ≠ (.slice zw zs.length zx : Value).ownBlock) (.slice zC zn.length zD) zn) := ⟨by (with_reducible repeat (first | apply Kd.S_alloc | apply Kd.S_drewN | apply Kd.S_drew)); exact Kd.S_mono (Kd.S_far (p := ⟨zf, 3, none⟩) (Kd.S_far (p := ⟨zf, 2, none⟩) (Kd.S_far (p := ⟨zf, 1, none⟩) (Kd.S_far (p := ⟨zf, 0, none⟩) (Kd.S_types ze.out zg.out (by decide)) (fun _ hk => hk.2) (.int .i64 zo)) (fun _ hk => hk.2) (.int .i64 zr)) (fun _ hk => hk.2) (.int .i64 zt)) (fun _ hk => hk.2) (.slice zw zs.length zx)) (fun _ hk => hk.1)⟩
           have n2_ : Aside0 (Kd.S (Kd.slice 118 k118) 116 ((((w41.setCell ⟨zf, 0, none⟩ (.int .i64 zo)).setCell ⟨zf, 1, none⟩ (.int .i64 zr)).setCell ⟨zf, 2, none⟩ (.int .i64 zt)).setCell ⟨zf, 3, none⟩ (.slice zw zs.length zx)) w.heap.size (fun k_ => some k_ ≠ (.slice zC zn.length zD : Value).ownBlock) (.slice zw zs.length zx) zs) := ⟨by (with_reducible repeat (first | apply Kd.S_alloc | apply Kd.S_drewN | apply Kd.S_drew)); exact Kd.S_mono (Kd.S_far (p := ⟨zf, 3, none⟩) (Kd.S_far (p := ⟨zf, 2, none⟩) (Kd.S_far (p := ⟨zf, 1, none⟩) (Kd.S_far (p := ⟨zf, 0, none⟩) (Kd.S_types zE.out zg.out (by decide)) (fun _ hk => hk.2) (.int .i64 zo)) (fun _ hk => hk.2) (.int .i64 zr)) (fun _ hk => hk.2) (.int .i64 zt)) (fun _ hk => hk.2) (.slice zw zs.length zx)) (fun _ hk => hk.1)⟩
           have n3_ : Aside0 (((((w41.setCell ⟨zf, 0, none⟩ (.int .i64 zo)).setCell ⟨zf, 1, none⟩ (.int .i64 zr)).setCell ⟨zf, 2, none⟩ (.int .i64 zt)).setCell ⟨zf, 3, none⟩ (.slice zw zs.length zx)).heap[zq]? = some (.cells #[.int .i64 zu, .int .i64 zy, .int .i64 zA] 25 (0, 0))) := ⟨by (with_reducible repeat (first | refine blk_drewN ?_ _ | refine blk_drew ?_ | refine blk_alloc ?_ _)); refine blk_far ?_ NB502_524.out _; (with_reducible repeat (first | refine blk_drewN ?_ _ | refine blk_drew ?_ | refine blk_alloc ?_ _)); refine blk_far ?_ NB502_524.out _; (with_reducible repeat (first | refine blk_drewN ?_ _ | refine blk_drew ?_ | refine blk_alloc ?_ _)); refine blk_far ?_ NB502_524.out _; (with_reducible repeat (first | refine blk_drewN ?_ _ | refine blk_drew ?_ | refine blk_alloc ?_ _)); refine blk_far ?_ NB502_524.out _; (with_reducible repeat (first | refine blk_drewN ?_ _ | refine blk_drew ?_ | refine blk_alloc ?_ _)); exact zc.out⟩
           have n4_ : Aside0 (((((w41.setCell ⟨zf, 0, none⟩ (.int .i64 zo)).setCell ⟨zf, 1, none⟩ (.int .i64 zr)).setCell ⟨zf, 2, none⟩ (.int .i64 zt)).setCell ⟨zf, 3, none⟩ (.slice zw zs.length zx)).heap[zh]? = some (.cells #[.int .i64 zB, .int .i64 zz, .int .i64 zv, .slice zC zn.length zD] 70 (0, 0))) := ⟨by (with_reducible repeat (first | refine blk_drewN ?_ _ | refine blk_drew ?_ | refine blk_alloc ?_ _)); refine blk_far ?_ NB513_524.out _; (with_reducible repeat (first | refine blk_drewN ?_ _ | refine blk_drew ?_ | refine blk_alloc ?_ _)); refine blk_far ?_ NB513_524.out _; (with_reducible repeat (first | refine blk_drewN ?_ _ | refine blk_drew ?_ | refine blk_alloc ?_ _)); refine blk_far ?_ NB513_524.out _; (with_reducible repeat (first | refine blk_drewN ?_ _ | refine blk_drew ?_ | refine blk_alloc ?_ _)); refine blk_far ?_ NB513_524.out _; (with_reducible repeat (first | refine blk_drewN ?_ _ | refine blk_drew ?_ | refine blk_alloc ?_ _)); exact za.out⟩
           have n5_ : Aside0 (((((w41.setCell ⟨zf, 0, none⟩ (.int .i64 zo)).setCell ⟨zf, 1, none⟩ (.int .i64 zr)).setCell ⟨zf, 2, none⟩ (.int .i64 zt)).setCell ⟨zf, 3, none⟩ (.slice zw zs.length zx)).heap[zf]? = some (.cells #[.int .i64 zo, .int .i64 zr, .int .i64 zt, .slice zw zs.length zx] 70 (0, 0))) := ⟨by (with_reducible repeat (first | refine blk_drewN ?_ _ | refine blk_drew ?_ | refine blk_alloc ?_ _)); refine blk_put (cs := #[.int .i64 zo, .int .i64 zr, .int .i64 zt, .slice none 0 0]) ?_ 3 _ rfl; (with_reducible repeat (first | refine blk_drewN ?_ _ | refine blk_drew ?_ | refine blk_alloc ?_ _)); refine blk_put (cs := #[.int .i64 zo, .int .i64 zr, .int .i64 0, .slice none 0 0]) ?_ 2 _ rfl; (with_reducible repeat (first | refine blk_drewN ?_ _ | refine blk_drew ?_ | refine blk_alloc ?_ _)); refine blk_put (cs := #[.int .i64 zo, .int .i64 0, .int .i64 0, .slice none 0 0]) ?_ 1 _ rfl; (with_reducible repeat (first | refine blk_drewN ?_ _ | refine blk_drew ?_ | refine blk_alloc ?_ _)); refine blk_put (cs := #[.int .i64 0, .int .i64 0, .int .i64 0, .slice none 0 0]) ?_ 0 _ rfl; (with_reducible repeat (first | refine blk_drewN ?_ _ | refine blk_drew ?_ | refine blk_alloc ?_ _)); exact zg.out⟩
           have n6_ : Aside0 (Below w.heap.size w ((((w41.setCell ⟨zf, 0, none⟩ (.int .i64 zo)).setCell ⟨zf, 1, none⟩ (.int .i64 zr)).setCell ⟨zf, 2, none⟩ (.int .i64 zt)).setCell ⟨zf, 3, none⟩ (.slice zw zs.length zx))) := ⟨by repeat (first | (with_reducible first | exact HB.out | apply below_alloc | apply pw_below_drewN | apply below_drew1 | refine below_set ?_ zda.out) | exact HB.out)⟩
           (try clear HO_4)
           (try clear ze)
           (try clear zE)
           (try clear zc)
           (try clear za)
           (try clear zg)
           (try clear HB)
           generalize ((((w41.setCell ⟨zf, 0, none⟩ (.int .i64 zo)).setCell ⟨zf, 1, none⟩ (.int .i64 zr)).setCell ⟨zf, 2, none⟩ (.int .i64 zt)).setCell ⟨zf, 3, none⟩ (.slice zw zs.length zx)) = w50 at n0_ n1_ n2_ n3_ n4_ n5_ n6_ ⊢
           have HO_4 := n0_
           have ze := n1_
           have zE := n2_
           have zc := n3_
           have za := n4_
           have zg := n5_
           have HB := n6_
           clear n0_ n1_ n2_ n3_ n4_ n5_ n6_
           have n0_ := Aside0.mk (Kd.R_drew HO_4.out)
           have n1_ := Aside0.mk (Kd.S_drew ze.out)
           have n2_ := Aside0.mk (Kd.S_drew zE.out)
           have n3_ := Aside0.mk (blk_drew zc.out)
           have n4_ := Aside0.mk (blk_drew za.out)
           have n5_ := Aside0.mk (blk_drew zg.out)
           have n6_ := Aside0.mk (below_drew1 HB.out)
           clear HO_4 ze zE zc za zg HB
           have HO_4 := n0_
           have ze := n1_
           have zE := n2_
           have zc := n3_
           have za := n4_
           have zg := n5_
           have HB := n6_
           clear n0_ n1_ n2_ n3_ n4_ n5_ n6_
           have p526 : 0 ≤ (x8_2 : Int) := of_decide_eq_true (by first | (with_reducible assumption) | assumption)
           have q526 : x8_2 < (zp.length : Int) := of_decide_eq_true (by first | (with_reducible assumption) | assumption)
           obtain ⟨ad526, e526, hx526_0, hx526_1⟩ := at_T32 (Kd.R_reads' HO_4.out).2.2 x8_2 p526 q526
           obtain rfl : ad514 = ad526 := (by injection e526)
           replace p526 := eq_true p526
           replace q526 := eq_true q526
           refine start_ (n := 13) (S := fun w' => w'.cell? ⟨zf, 0, none⟩ = some (.int .i64 zo) ∧ w'.cell? ⟨zf, 1, none⟩ = some (.int .i64 zr) ∧ w'.cell? ⟨zf, 2, none⟩ = some (.int .i64 zt) ∧ w'.cell? ⟨zf, 3, none⟩ = some (.slice zw zs.length zx) ∧ w'.cell? (ad514.add ((x8_2).toNat * 2)) = some (.int .i64 ((rd_T32 zp x8_2).f0)) ∧ w'.cell? ⟨(ad514.add ((x8_2).toNat * 2)).block, (ad514.add ((x8_2).toNat * 2)).off + 1, none⟩ = some (.bool ((rd_T32 zp x8_2).f1))) (ds := []) #[f_, f_, f_, f_, f_, f_, f_, f_, f_, f_, f_, f_, f_] (by kernel_rfl) rfl rfl ⟨(blk_cell zg.out 0).trans rfl, (blk_cell zg.out 1).trans rfl, (blk_cell zg.out 2).trans rfl, (blk_cell zg.out 3).trans rfl, hx526_0, hx526_1⟩ (fun hHeld => ?_); refine with_tabW laws_FnDirty.tab12 laws_FnDirty.bits12 (fun HT_ HW_ => ?_)
           generalize w50.drew = w51 at HO_4 ze zE zc za zg HB hx526_0 hx526_1 hHeld ⊢
           refine take_ (i := 0) (N := some 62) (v := ?_) (a' := ?_) #[t_, f_, f_, f_, f_, f_, f_, f_, f_, f_, f_, f_, f_] rfl rfl (take_ofW HT_.out HW_.out (by kernel_rfl)) (fun _ _ _ h => h) (Or.inl ⟨by rfl, ?_⟩) hHeld ?_ ?_
           rotate_left
           ·rintro w' ⟨s0, s1, s2, s3, s4, s5⟩
            go_simp
            with_reducible rfl
           rotate_left
           ·simp only [Act.put, p1_, p2_, p3_, i64_w, i32_w]
            rfl
           refine one_ (i := 1) (N := some 63) #[t_, t_, f_, f_, f_, f_, f_, f_, f_, f_, f_, f_, f_] rfl rfl (one_of HT_.out (by kernel_rfl)) (by decide) (fun K hK => ?_)
           refine goes_ Try.func45 (by kernel_rfl) rfl #[.agg #[.int .i64 zo, .int .i64 zr, .int .i64 zt, .slice zw zs.length zx]] (by rfl) rfl rfl (by (try simp only [List.map_toArray, List.map_cons, List.map_nil]); first | done | rfl | (simp only [List.length_drop, List.length_take]; rfl)) ?_
           with_reducible refine (impl_CacheOk.calls k2 zo zr zt _ _ zs true _ ?side1 ?side2 A47.out).mono ?_
           (case side1 => repeat (first | exact (Kd.S_reads' zE.out).2.2 | (with_reducible refine Kd.C_alloc ?_ _) | (with_reducible refine Kd.C_drewN ?_ _) | (with_reducible refine Kd.C_drew ?_)))
           (case side2 => exact (Kd.S_reads' zE.out).2.1)
           rintro e w52 ⟨rfl, hb⟩
           have HS4_ := (hb.cell (World.block_lt_of_cell? _ _ (hHeld.2.2.2.2.1))).trans (hHeld.2.2.2.2.1)
           have HS5_ := (hb.cell (World.block_lt_of_cell? _ _ (hHeld.2.2.2.2.2))).trans (hHeld.2.2.2.2.2)
           refine ⟨_, rfl, ?_⟩
           have n0_ := Aside0.mk (Kd.R_below (rq HO_4.out) hb)
           have n1_ := Aside0.mk (Kd.S_below (by exact sqS ze.out) hb)
           have n2_ := Aside0.mk (Kd.S_below (by exact sqS zE.out) hb)
           have n3_ := Aside0.mk (blk_below (bq zc.out) hb)
           have n4_ := Aside0.mk (blk_below (bq za.out) hb)
           have n5_ := Aside0.mk (blk_below (bq zg.out) hb)
           have n6_ := Aside0.mk (below_step (lq HB.out) hb)
           clear HO_4 ze zE zc za zg HB
           have HO_4 := n0_
           have ze := n1_
           have zE := n2_
           have zc := n3_
           have za := n4_
           have zg := n5_
           have HB := n6_
           clear n0_ n1_ n2_ n3_ n4_ n5_ n6_
           (try clear hb)
           (try clear hb2)
           (try clear hk)
           (try clear hi)
           refine hK.out _ _ ⟨(blk_cell zg.out 0).trans rfl, (blk_cell zg.out 1).trans rfl, (blk_cell zg.out 2).trans rfl, (blk_cell zg.out 3).trans rfl, HS4_, HS5_⟩ (fun hHeld => ?_)
           clear hK K
           refine norm_ (a' := ?_) ?_ ?_
           rotate_left
           ·show Act.put _ (some 63) _ = _
            simp only [Act.put, p1_, p2_, p3_, i64_w, i32_w]
            rfl
           refine pure_ (i := 2) (N := some 64) (v := ?_) (a' := ?_) #[t_, t_, t_, f_, f_, f_, f_, f_, f_, f_, f_, f_, f_] rfl rfl (any_of HT_.out (by kernel_rfl)) (fun _ _ _ h => h) (Or.inl ⟨by rfl, ?_⟩) ?_ ?_
           rotate_left
           ·intro w'; go_simp; with_reducible rfl
           rotate_left
           ·simp only [Act.put, p1_, p2_, p3_, i64_w, i32_w]; rfl
           refine pure_ (i := 3) (N := some 65) (v := ?_) (a' := ?_) #[t_, t_, t_, t_, f_, f_, f_, f_, f_, f_, f_, f_, f_] rfl rfl (any_of HT_.out (by kernel_rfl)) (fun _ _ _ h => h) (Or.inl ⟨by rfl, ?_⟩) ?_ ?_
           rotate_left
           ·intro w'; go_simp; with_reducible rfl
           rotate_left
           ·simp only [Act.put, p1_, p2_, p3_, i64_w, i32_w]; rfl
           refine pure_ (i := 5) (N := some 67) (v := ?_) (a' := ?_) #[t_, t_, t_, t_, f_, t_, f_, f_, f_, f_, f_, f_, f_] rfl rfl (any_of HT_.out (by kernel_rfl)) (fun _ _ _ h => h) (Or.inl ⟨by rfl, ?_⟩) ?_ ?_
           rotate_left
           ·intro w'; go_simp; with_reducible rfl
           rotate_left
           ·simp only [Act.put, p1_, p2_, p3_, i64_w, i32_w]; rfl
           refine pure_ (i := 6) (N := some 68) (v := ?_) (a' := ?_) #[t_, t_, t_, t_, f_, t_, t_, f_, f_, f_, f_, f_, f_] rfl rfl (any_of HT_.out (by kernel_rfl)) (fun _ _ _ h => h) (Or.inl ⟨by rfl, ?_⟩) ?_ ?_
           rotate_left
           ·intro w'; go_simp; with_reducible rfl
           rotate_left
           ·simp only [Act.put, p1_, p2_, p3_, i64_w, i32_w]; rfl
           refine pure_ (i := 7) (N := some 69) (v := ?_) (a' := ?_) #[t_, t_, t_, t_, f_, t_, t_, t_, f_, f_, f_, f_, f_] rfl rfl (any_of HT_.out (by kernel_rfl)) (fun _ _ _ h => h) (Or.inl ⟨by rfl, ?_⟩) ?_ ?_
           rotate_left
           ·intro w'; go_simp; with_reducible rfl
           rotate_left
           ·simp only [Act.put, p1_, p2_, p3_, i64_w, i32_w]; rfl
           refine pure_ (i := 8) (N := some 70) (v := ?_) (a' := ?_) #[t_, t_, t_, t_, f_, t_, t_, t_, t_, f_, f_, f_, f_] rfl rfl (any_of HT_.out (by kernel_rfl)) (fun _ _ _ h => h) (Or.inl ⟨by rfl, ?_⟩) ?_ ?_
           rotate_left
           ·intro w'; go_simp; with_reducible rfl
           rotate_left
           ·simp only [Act.put, p1_, p2_, p3_, i64_w, i32_w]; rfl
           refine take_ (i := 4) (N := some 66) (v := ?_) (a' := ?_) #[t_, t_, t_, t_, t_, t_, t_, t_, t_, f_, f_, f_, f_] rfl rfl (take_ofW HT_.out HW_.out (by kernel_rfl)) (fun _ _ _ h => h) (Or.inl ⟨by rfl, ?_⟩) hHeld ?_ ?_
           rotate_left
           ·rintro w' ⟨s0, s1, s2, s3, s4, s5⟩
            go_simp
            with_reducible rfl
           rotate_left
           ·simp only [Act.put, p1_, p2_, p3_, i64_w, i32_w]
            rfl
           refine take_ (i := 9) (N := some 71) (v := ?_) (a' := ?_) #[t_, t_, t_, t_, t_, t_, t_, t_, t_, t_, f_, f_, f_] rfl rfl (take_ofW HT_.out HW_.out (by kernel_rfl)) (fun _ _ _ h => h) (Or.inl ⟨by rfl, ?_⟩) hHeld ?_ ?_
           rotate_left
           ·rintro w' ⟨s0, s1, s2, s3, s4, s5⟩
            go_simp
            with_reducible rfl
           rotate_left
           ·simp only [Act.put, p1_, p2_, p3_, i64_w, i32_w]
            rfl
           refine one_ (i := 10) (N := some 72) #[t_, t_, t_, t_, t_, t_, t_, t_, t_, t_, t_, f_, f_] rfl rfl (one_of HT_.out (by kernel_rfl)) (by decide) (fun K hK => ?_)
           refine goes_ Try.func46 (by kernel_rfl) rfl #[.agg #[.int .i64 zo, .int .i64 zr, .int .i64 zt, .slice zw zs.length zx], .int .i64 ((rd_T32 zp x8_2).f0)] (by rfl) rfl rfl (by (try simp only [List.map_toArray, List.map_cons, List.map_nil]); first | done | rfl | (simp only [List.length_drop, List.length_take]; rfl)) ?_
           with_reducible refine (impl_CacheHolds.calls k2 zo zr zt _ _ zs ((rd_T32 zp x8_2).f0) zoa _ ?side1 ?side2 A49.out).mono ?_
           (case side1 => repeat (first | exact (Kd.S_reads' zE.out).2.2 | (with_reducible refine Kd.C_alloc ?_ _) | (with_reducible refine Kd.C_drewN ?_ _) | (with_reducible refine Kd.C_drew ?_)))
           (case side2 => exact (Kd.S_reads' zE.out).2.1)
           rintro e w53 ⟨rfl, hb⟩
           have HS4_ := (hb.cell (World.block_lt_of_cell? _ _ (hHeld.2.2.2.2.1))).trans (hHeld.2.2.2.2.1)
           have HS5_ := (hb.cell (World.block_lt_of_cell? _ _ (hHeld.2.2.2.2.2))).trans (hHeld.2.2.2.2.2)
           refine ⟨_, rfl, ?_⟩
           have n0_ := Aside0.mk (Kd.R_below (rq HO_4.out) hb)
           have n1_ := Aside0.mk (Kd.S_below (by exact sqS ze.out) hb)
           have n2_ := Aside0.mk (Kd.S_below (by exact sqS zE.out) hb)
           have n3_ := Aside0.mk (blk_below (bq zc.out) hb)
           have n4_ := Aside0.mk (blk_below (bq za.out) hb)
           have n5_ := Aside0.mk (blk_below (bq zg.out) hb)
           have n6_ := Aside0.mk (below_step (lq HB.out) hb)
           clear HO_4 ze zE zc za zg HB
           have HO_4 := n0_
           have ze := n1_
           have zE := n2_
           have zc := n3_
           have za := n4_
           have zg := n5_
           have HB := n6_
           clear n0_ n1_ n2_ n3_ n4_ n5_ n6_
           (try clear hb)
           (try clear hb2)
           (try clear hk)
           (try clear hi)
           refine hK.out _ _ ⟨(blk_cell zg.out 0).trans rfl, (blk_cell zg.out 1).trans rfl, (blk_cell zg.out 2).trans rfl, (blk_cell zg.out 3).trans rfl, HS4_, HS5_⟩ (fun hHeld => ?_)
           clear hK K
           refine norm_ (a' := ?_) ?_ ?_
           rotate_left
           ·show Act.put _ (some 72) _ = _
            simp only [Act.put, p1_, p2_, p3_, i64_w, i32_w]
            rfl
           refine pure_ (i := 11) (N := some 73) (v := ?_) (a' := ?_) #[t_, t_, t_, t_, t_, t_, t_, t_, t_, t_, t_, t_, f_] rfl rfl (any_of HT_.out (by kernel_rfl)) (fun _ _ _ h => h) (Or.inl ⟨by rfl, ?_⟩) ?_ ?_
           rotate_left
           ·intro w'; go_simp; with_reducible rfl
           rotate_left
           ·simp only [Act.put, p1_, p2_, p3_, i64_w, i32_w]; rfl
           refine pure_ (i := 12) (N := some 74) (v := ?_) (a' := ?_) #[t_, t_, t_, t_, t_, t_, t_, t_, t_, t_, t_, t_, t_] rfl rfl (any_of HT_.out (by kernel_rfl)) (fun _ _ _ h => h) (Or.inl ⟨by rfl, ?_⟩) ?_ ?_
           rotate_left
           ·intro w'; go_simp; with_reducible rfl
           rotate_left
           ·simp only [Act.put, p1_, p2_, p3_, i64_w, i32_w]; rfl
           refine done_ (done_of HT_.out (by kernel_rfl)) ?_
           try go_wp2
           go_meet
           case rel => exact ⟨_, (!zoa), (by first | rfl | (simp; done) | (simp [*]; done)), H', ⟨by have := HJ4.out; have := HK2.out; first | omega | exact Nat.le_refl _⟩, ⟨by (with_reducible repeat (first | apply Kd.R_alloc | apply Kd.R_drewN | apply Kd.R_drew)); exact HO_4.out⟩, ⟨by (with_reducible repeat (first | apply Kd.S_alloc | apply Kd.S_drewN | apply Kd.S_drew)); exact ze.out⟩, ⟨by (with_reducible repeat (first | apply Kd.S_alloc | apply Kd.S_drewN | apply Kd.S_drew)); exact zE.out⟩, ⟨by (with_reducible repeat (first | refine blk_drewN ?_ _ | refine blk_drew ?_ | refine blk_alloc ?_ _)); exact zc.out⟩, ⟨by (with_reducible repeat (first | refine blk_drewN ?_ _ | refine blk_drew ?_ | refine blk_alloc ?_ _)); exact za.out⟩, ⟨by (with_reducible repeat (first | refine blk_drewN ?_ _ | refine blk_drew ?_ | refine blk_alloc ?_ _)); exact zg.out⟩, ⟨by exact lq HB.out⟩⟩
          ·replace c48 := Bool.eq_false_iff.mpr c48
           subst c48
           rw [if_neg (show ¬ (false = true) by decide)] at H
           have H' := Aside0.mk H
           clear H
           try go_wp2
           have n0_ : Aside0 (Kd.R k32 32 ((((w41.setCell ⟨zf, 0, none⟩ (.int .i64 zo)).setCell ⟨zf, 1, none⟩ (.int .i64 zr)).setCell ⟨zf, 2, none⟩ (.int .i64 zt)).setCell ⟨zf, 3, none⟩ (.slice zw zs.length zx)) w.heap.size (fun _ => True) (.slice (some ad514) zp.length zna) zp) := ⟨by (with_reducible repeat (first | apply Kd.R_alloc | apply Kd.R_drewN | apply Kd.R_drew)); exact Kd.R_mono (Kd.R_far (p := ⟨zf, 3, none⟩) (Kd.R_far (p := ⟨zf, 2, none⟩) (Kd.R_far (p := ⟨zf, 1, none⟩) (Kd.R_far (p := ⟨zf, 0, none⟩) (Kd.R_types HO_4.out zg.out (by decide)) (fun _ hk => hk.2) (.int .i64 zo)) (fun _ hk => hk.2) (.int .i64 zr)) (fun _ hk => hk.2) (.int .i64 zt)) (fun _ hk => hk.2) (.slice zw zs.length zx)) (fun _ hk => trivial)⟩
           have n1_ : Aside0 (Kd.S (Kd.slice 118 k118) 116 ((((w41.setCell ⟨zf, 0, none⟩ (.int .i64 zo)).setCell ⟨zf, 1, none⟩ (.int .i64 zr)).setCell ⟨zf, 2, none⟩ (.int .i64 zt)).setCell ⟨zf, 3, none⟩ (.slice zw zs.length zx)) w.heap.size (fun k_ => some k_ ≠ (.slice zw zs.length zx : Value).ownBlock) (.slice zC zn.length zD) zn) := ⟨by (with_reducible repeat (first | apply Kd.S_alloc | apply Kd.S_drewN | apply Kd.S_drew)); exact Kd.S_mono (Kd.S_far (p := ⟨zf, 3, none⟩) (Kd.S_far (p := ⟨zf, 2, none⟩) (Kd.S_far (p := ⟨zf, 1, none⟩) (Kd.S_far (p := ⟨zf, 0, none⟩) (Kd.S_types ze.out zg.out (by decide)) (fun _ hk => hk.2) (.int .i64 zo)) (fun _ hk => hk.2) (.int .i64 zr)) (fun _ hk => hk.2) (.int .i64 zt)) (fun _ hk => hk.2) (.slice zw zs.length zx)) (fun _ hk => hk.1)⟩
           have n2_ : Aside0 (Kd.S (Kd.slice 118 k118) 116 ((((w41.setCell ⟨zf, 0, none⟩ (.int .i64 zo)).setCell ⟨zf, 1, none⟩ (.int .i64 zr)).setCell ⟨zf, 2, none⟩ (.int .i64 zt)).setCell ⟨zf, 3, none⟩ (.slice zw zs.length zx)) w.heap.size (fun k_ => some k_ ≠ (.slice zC zn.length zD : Value).ownBlock) (.slice zw zs.length zx) zs) := ⟨by (with_reducible repeat (first | apply Kd.S_alloc | apply Kd.S_drewN | apply Kd.S_drew)); exact Kd.S_mono (Kd.S_far (p := ⟨zf, 3, none⟩) (Kd.S_far (p := ⟨zf, 2, none⟩) (Kd.S_far (p := ⟨zf, 1, none⟩) (Kd.S_far (p := ⟨zf, 0, none⟩) (Kd.S_types zE.out zg.out (by decide)) (fun _ hk => hk.2) (.int .i64 zo)) (fun _ hk => hk.2) (.int .i64 zr)) (fun _ hk => hk.2) (.int .i64 zt)) (fun _ hk => hk.2) (.slice zw zs.length zx)) (fun _ hk => hk.1)⟩
           have n3_ : Aside0 (((((w41.setCell ⟨zf, 0, none⟩ (.int .i64 zo)).setCell ⟨zf, 1, none⟩ (.int .i64 zr)).setCell ⟨zf, 2, none⟩ (.int .i64 zt)).setCell ⟨zf, 3, none⟩ (.slice zw zs.length zx)).heap[zq]? = some (.cells #[.int .i64 zu, .int .i64 zy, .int .i64 zA] 25 (0, 0))) := ⟨by (with_reducible repeat (first | refine blk_drewN ?_ _ | refine blk_drew ?_ | refine blk_alloc ?_ _)); refine blk_far ?_ NB502_524.out _; (with_reducible repeat (first | refine blk_drewN ?_ _ | refine blk_drew ?_ | refine blk_alloc ?_ _)); refine blk_far ?_ NB502_524.out _; (with_reducible repeat (first | refine blk_drewN ?_ _ | refine blk_drew ?_ | refine blk_alloc ?_ _)); refine blk_far ?_ NB502_524.out _; (with_reducible repeat (first | refine blk_drewN ?_ _ | refine blk_drew ?_ | refine blk_alloc ?_ _)); refine blk_far ?_ NB502_524.out _; (with_reducible repeat (first | refine blk_drewN ?_ _ | refine blk_drew ?_ | refine blk_alloc ?_ _)); exact zc.out⟩
           have n4_ : Aside0 (((((w41.setCell ⟨zf, 0, none⟩ (.int .i64 zo)).setCell ⟨zf, 1, none⟩ (.int .i64 zr)).setCell ⟨zf, 2, none⟩ (.int .i64 zt)).setCell ⟨zf, 3, none⟩ (.slice zw zs.length zx)).heap[zh]? = some (.cells #[.int .i64 zB, .int .i64 zz, .int .i64 zv, .slice zC zn.length zD] 70 (0, 0))) := ⟨by (with_reducible repeat (first | refine blk_drewN ?_ _ | refine blk_drew ?_ | refine blk_alloc ?_ _)); refine blk_far ?_ NB513_524.out _; (with_reducible repeat (first | refine blk_drewN ?_ _ | refine blk_drew ?_ | refine blk_alloc ?_ _)); refine blk_far ?_ NB513_524.out _; (with_reducible repeat (first | refine blk_drewN ?_ _ | refine blk_drew ?_ | refine blk_alloc ?_ _)); refine blk_far ?_ NB513_524.out _; (with_reducible repeat (first | refine blk_drewN ?_ _ | refine blk_drew ?_ | refine blk_alloc ?_ _)); refine blk_far ?_ NB513_524.out _; (with_reducible repeat (first | refine blk_drewN ?_ _ | refine blk_drew ?_ | refine blk_alloc ?_ _)); exact za.out⟩
           have n5_ : Aside0 (((((w41.setCell ⟨zf, 0, none⟩ (.int .i64 zo)).setCell ⟨zf, 1, none⟩ (.int .i64 zr)).setCell ⟨zf, 2, none⟩ (.int .i64 zt)).setCell ⟨zf, 3, none⟩ (.slice zw zs.length zx)).heap[zf]? = some (.cells #[.int .i64 zo, .int .i64 zr, .int .i64 zt, .slice zw zs.length zx] 70 (0, 0))) := ⟨by (with_reducible repeat (first | refine blk_drewN ?_ _ | refine blk_drew ?_ | refine blk_alloc ?_ _)); refine blk_put (cs := #[.int .i64 zo, .int .i64 zr, .int .i64 zt, .slice none 0 0]) ?_ 3 _ rfl; (with_reducible repeat (first | refine blk_drewN ?_ _ | refine blk_drew ?_ | refine blk_alloc ?_ _)); refine blk_put (cs := #[.int .i64 zo, .int .i64 zr, .int .i64 0, .slice none 0 0]) ?_ 2 _ rfl; (with_reducible repeat (first | refine blk_drewN ?_ _ | refine blk_drew ?_ | refine blk_alloc ?_ _)); refine blk_put (cs := #[.int .i64 zo, .int .i64 0, .int .i64 0, .slice none 0 0]) ?_ 1 _ rfl; (with_reducible repeat (first | refine blk_drewN ?_ _ | refine blk_drew ?_ | refine blk_alloc ?_ _)); refine blk_put (cs := #[.int .i64 0, .int .i64 0, .int .i64 0, .slice none 0 0]) ?_ 0 _ rfl; (with_reducible repeat (first | refine blk_drewN ?_ _ | refine blk_drew ?_ | refine blk_alloc ?_ _)); exact zg.out⟩
           have n6_ : Aside0 (Below w.heap.size w ((((w41.setCell ⟨zf, 0, none⟩ (.int .i64 zo)).setCell ⟨zf, 1, none⟩ (.int .i64 zr)).setCell ⟨zf, 2, none⟩ (.int .i64 zt)).setCell ⟨zf, 3, none⟩ (.slice zw zs.length zx))) := ⟨by repeat (first | (with_reducible first | exact HB.out | apply below_alloc | apply pw_below_drewN | apply below_drew1 | refine below_set ?_ zda.out) | exact HB.out)⟩
           (try clear HO_4)
           (try clear ze)
           (try clear zE)
           (try clear zc)
           (try clear za)
           (try clear zg)
           (try clear HB)
           generalize ((((w41.setCell ⟨zf, 0, none⟩ (.int .i64 zo)).setCell ⟨zf, 1, none⟩ (.int .i64 zr)).setCell ⟨zf, 2, none⟩ (.int .i64 zt)).setCell ⟨zf, 3, none⟩ (.slice zw zs.length zx)) = w54 at n0_ n1_ n2_ n3_ n4_ n5_ n6_ ⊢
           have HO_4 := n0_
           have ze := n1_
           have zE := n2_
           have zc := n3_
           have za := n4_
           have zg := n5_
           have HB := n6_
           clear n0_ n1_ n2_ n3_ n4_ n5_ n6_
           have n0_ := Aside0.mk (Kd.R_drew HO_4.out)
           have n1_ := Aside0.mk (Kd.S_drew ze.out)
           have n2_ := Aside0.mk (Kd.S_drew zE.out)
           have n3_ := Aside0.mk (blk_drew zc.out)
           have n4_ := Aside0.mk (blk_drew za.out)
           have n5_ := Aside0.mk (blk_drew zg.out)
           have n6_ := Aside0.mk (below_drew1 HB.out)
           clear HO_4 ze zE zc za zg HB
           have HO_4 := n0_
           have ze := n1_
           have zE := n2_
           have zc := n3_
           have za := n4_
           have zg := n5_
           have HB := n6_
           clear n0_ n1_ n2_ n3_ n4_ n5_ n6_
           refine start_ (n := 13) (S := fun w' => w'.cell? ⟨zf, 0, none⟩ = some (.int .i64 zo) ∧ w'.cell? ⟨zf, 1, none⟩ = some (.int .i64 zr) ∧ w'.cell? ⟨zf, 2, none⟩ = some (.int .i64 zt) ∧ w'.cell? ⟨zf, 3, none⟩ = some (.slice zw zs.length zx)) (ds := []) #[f_, f_, f_, f_, f_, f_, f_, f_, f_, f_, f_, f_, f_] (by kernel_rfl) rfl rfl ⟨(blk_cell zg.out 0).trans rfl, (blk_cell zg.out 1).trans rfl, (blk_cell zg.out 2).trans rfl, (blk_cell zg.out 3).trans rfl⟩ (fun hHeld => ?_); refine with_tabW laws_FnDirty.tab12 laws_FnDirty.bits12 (fun HT_ HW_ => ?_)
           generalize w54.drew = w55 at HO_4 ze zE zc za zg HB hHeld ⊢
           refine take_ (i := 0) (N := some 62) (v := ?_) (a' := ?_) #[t_, f_, f_, f_, f_, f_, f_, f_, f_, f_, f_, f_, f_] rfl rfl (take_ofW HT_.out HW_.out (by kernel_rfl)) (fun _ _ _ h => h) (Or.inl ⟨by rfl, ?_⟩) hHeld ?_ ?_
           rotate_left
           ·rintro w' ⟨s0, s1, s2, s3⟩
            go_simp
            with_reducible rfl
           rotate_left
           ·simp only [Act.put, p1_, p2_, p3_, i64_w, i32_w]
            rfl
           refine one_ (i := 1) (N := some 63) #[t_, t_, f_, f_, f_, f_, f_, f_, f_, f_, f_, f_, f_] rfl rfl (one_of HT_.out (by kernel_rfl)) (by decide) (fun K hK => ?_)
           refine goes_ Try.func45 (by kernel_rfl) rfl #[.agg #[.int .i64 zo, .int .i64 zr, .int .i64 zt, .slice zw zs.length zx]] (by rfl) rfl rfl (by (try simp only [List.map_toArray, List.map_cons, List.map_nil]); first | done | rfl | (simp only [List.length_drop, List.length_take]; rfl)) ?_
           with_reducible refine (impl_CacheOk.calls k2 zo zr zt _ _ zs false _ ?side1 ?side2 A47.out).mono ?_
           (case side1 => repeat (first | exact (Kd.S_reads' zE.out).2.2 | (with_reducible refine Kd.C_alloc ?_ _) | (with_reducible refine Kd.C_drewN ?_ _) | (with_reducible refine Kd.C_drew ?_)))
           (case side2 => exact (Kd.S_reads' zE.out).2.1)
           rintro e w56 ⟨rfl, hb⟩
           refine ⟨_, rfl, ?_⟩
           have n0_ := Aside0.mk (Kd.R_below (rq HO_4.out) hb)
           have n1_ := Aside0.mk (Kd.S_below (by exact sqS ze.out) hb)
           have n2_ := Aside0.mk (Kd.S_below (by exact sqS zE.out) hb)
           have n3_ := Aside0.mk (blk_below (bq zc.out) hb)
           have n4_ := Aside0.mk (blk_below (bq za.out) hb)
           have n5_ := Aside0.mk (blk_below (bq zg.out) hb)
           have n6_ := Aside0.mk (below_step (lq HB.out) hb)
           clear HO_4 ze zE zc za zg HB
           have HO_4 := n0_
           have ze := n1_
           have zE := n2_
           have zc := n3_
           have za := n4_
           have zg := n5_
           have HB := n6_
           clear n0_ n1_ n2_ n3_ n4_ n5_ n6_
           (try clear hb)
           (try clear hb2)
           (try clear hk)
           (try clear hi)
           refine hK.out _ _ ⟨(blk_cell zg.out 0).trans rfl, (blk_cell zg.out 1).trans rfl, (blk_cell zg.out 2).trans rfl, (blk_cell zg.out 3).trans rfl⟩ (fun hHeld => ?_)
           clear hK K
           refine norm_ (a' := ?_) ?_ ?_
           rotate_left
           ·show Act.put _ (some 63) _ = _
            simp only [Act.put, p1_, p2_, p3_, i64_w, i32_w]
            rfl
           refine pure_ (i := 2) (N := some 64) (v := ?_) (a' := ?_) #[t_, t_, t_, f_, f_, f_, f_, f_, f_, f_, f_, f_, f_] rfl rfl (any_of HT_.out (by kernel_rfl)) (fun _ _ _ h => h) (Or.inl ⟨by rfl, ?_⟩) ?_ ?_
           rotate_left
           ·intro w'; go_simp; with_reducible rfl
           rotate_left
           ·simp only [Act.put, p1_, p2_, p3_, i64_w, i32_w]; rfl
           refine pure_ (i := 3) (N := some 65) (v := ?_) (a' := ?_) #[t_, t_, t_, t_, f_, f_, f_, f_, f_, f_, f_, f_, f_] rfl rfl (any_of HT_.out (by kernel_rfl)) (fun _ _ _ h => h) (Or.inl ⟨by rfl, ?_⟩) ?_ ?_
           rotate_left
           ·intro w'; go_simp; with_reducible rfl
           rotate_left
           ·simp only [Act.put, p1_, p2_, p3_, i64_w, i32_w]; rfl
           refine pure_ (i := 4) (N := some 66) (v := undef) (a' := ?_) #[t_, t_, t_, t_, t_, f_, f_, f_, f_, f_, f_, f_, f_] rfl rfl (any_of HT_.out (by kernel_rfl)) (fun _ _ _ h => h) (Or.inr ⟨by rfl, rfl⟩) ?_ ?_
           rotate_left
           ·simp only [Act.put, p1_, p2_, p3_, i64_w, i32_w]
            rfl
           refine pure_ (i := 5) (N := some 67) (v := undef) (a' := ?_) #[t_, t_, t_, t_, t_, t_, f_, f_, f_, f_, f_, f_, f_] rfl rfl (any_of HT_.out (by kernel_rfl)) (fun _ _ _ h => h) (Or.inr ⟨by rfl, rfl⟩) ?_ ?_
           rotate_left
           ·simp only [Act.put, p1_, p2_, p3_, i64_w, i32_w]
            rfl
           refine pure_ (i := 6) (N := some 68) (v := undef) (a' := ?_) #[t_, t_, t_, t_, t_, t_, t_, f_, f_, f_, f_, f_, f_] rfl rfl (any_of HT_.out (by kernel_rfl)) (fun _ _ _ h => h) (Or.inr ⟨by rfl, rfl⟩) ?_ ?_
           rotate_left
           ·simp only [Act.put, p1_, p2_, p3_, i64_w, i32_w]
            rfl
           refine pure_ (i := 7) (N := some 69) (v := undef) (a' := ?_) #[t_, t_, t_, t_, t_, t_, t_, t_, f_, f_, f_, f_, f_] rfl rfl (any_of HT_.out (by kernel_rfl)) (fun _ _ _ h => h) (Or.inr ⟨by rfl, rfl⟩) ?_ ?_
           rotate_left
           ·simp only [Act.put, p1_, p2_, p3_, i64_w, i32_w]
            rfl
           refine pure_ (i := 8) (N := some 70) (v := undef) (a' := ?_) #[t_, t_, t_, t_, t_, t_, t_, t_, t_, f_, f_, f_, f_] rfl rfl (any_of HT_.out (by kernel_rfl)) (fun _ _ _ h => h) (Or.inr ⟨by rfl, rfl⟩) ?_ ?_
           rotate_left
           ·simp only [Act.put, p1_, p2_, p3_, i64_w, i32_w]
            rfl
           refine pure_ (i := 9) (N := some 71) (v := undef) (a' := ?_) #[t_, t_, t_, t_, t_, t_, t_, t_, t_, t_, f_, f_, f_] rfl rfl (any_of HT_.out (by kernel_rfl)) (fun _ _ _ h => h) (Or.inr ⟨by rfl, rfl⟩) ?_ ?_
           rotate_left
           ·simp only [Act.put, p1_, p2_, p3_, i64_w, i32_w]
            rfl
           refine pure_ (i := 10) (N := some 72) (v := undef) (a' := ?_) #[t_, t_, t_, t_, t_, t_, t_, t_, t_, t_, t_, f_, f_] rfl rfl (any_of HT_.out (by kernel_rfl)) (fun _ _ _ h => h) (Or.inr ⟨by rfl, rfl⟩) ?_ ?_
           rotate_left
           ·simp only [Act.put, p1_, p2_, p3_, i64_w, i32_w]
            rfl
           refine pure_ (i := 11) (N := some 73) (v := undef) (a' := ?_) #[t_, t_, t_, t_, t_, t_, t_, t_, t_, t_, t_, t_, f_] rfl rfl (any_of HT_.out (by kernel_rfl)) (fun _ _ _ h => h) (Or.inr ⟨by rfl, rfl⟩) ?_ ?_
           rotate_left
           ·simp only [Act.put, p1_, p2_, p3_, i64_w, i32_w]
            rfl
           refine pure_ (i := 12) (N := some 74) (v := ?_) (a' := ?_) #[t_, t_, t_, t_, t_, t_, t_, t_, t_, t_, t_, t_, t_] rfl rfl (any_of HT_.out (by kernel_rfl)) (fun _ _ _ h => h) (Or.inl ⟨by rfl, ?_⟩) ?_ ?_
           rotate_left
           ·intro w'; go_simp; with_reducible rfl
           rotate_left
           ·simp only [Act.put, p1_, p2_, p3_, i64_w, i32_w]; rfl
           refine done_ (done_of HT_.out (by kernel_rfl)) ?_
           try go_wp2
           go_meet
           case rel => exact ⟨_, (true), (by first | rfl | (simp; done) | (simp [*]; done)), H', ⟨by have := HJ4.out; have := HK2.out; first | omega | exact Nat.le_refl _⟩, ⟨by (with_reducible repeat (first | apply Kd.R_alloc | apply Kd.R_drewN | apply Kd.R_drew)); exact HO_4.out⟩, ⟨by (with_reducible repeat (first | apply Kd.S_alloc | apply Kd.S_drewN | apply Kd.S_drew)); exact ze.out⟩, ⟨by (with_reducible repeat (first | apply Kd.S_alloc | apply Kd.S_drewN | apply Kd.S_drew)); exact zE.out⟩, ⟨by (with_reducible repeat (first | refine blk_drewN ?_ _ | refine blk_drew ?_ | refine blk_alloc ?_ _)); exact zc.out⟩, ⟨by (with_reducible repeat (first | refine blk_drewN ?_ _ | refine blk_drew ?_ | refine blk_alloc ?_ _)); exact za.out⟩, ⟨by (with_reducible repeat (first | refine blk_drewN ?_ _ | refine blk_drew ?_ | refine blk_alloc ?_ _)); exact zg.out⟩, ⟨by exact lq HB.out⟩⟩
         case rest =>
          clear HC35
          try clear p2
          try clear c3
          try clear c4
          try clear p5
          try clear q5
          try clear hx5
          try clear c39
          try clear c45
          try clear c46
          try clear c48
          try clear p52
          try clear q52
          try clear hx52
          try clear hx526_0
          try clear hx526_1
          try clear p526
          try clear q526
          obtain ⟨kq, x74_34, rfl, HA, HJ34, HO_4, ze, zta, zc, za, zg, HB⟩ := hcut
          cases kq with
          | zero => exact absurd HA.out (by simp [laws_FnDirty.j2])
          | succ kj34 =>
           have H := HA.out
           clear HA
           simp only [laws_FnDirty.j2] at H
           by_cases c57 : x74_34 = true
           ·subst c57
            rw [if_pos rfl] at H
            obtain rfl := Option.some.inj H
            go_wp2
            go_ret
            exact ⟨by first | rfl | (simp [errW_none, errW_some] <;> rfl) | (simp [*, errW_none, errW_some] <;> rfl), by exact lq HB.out⟩
           ·replace c57 := Bool.eq_false_iff.mpr c57
            subst c57
            rw [if_neg (show ¬ (false = true) by decide)] at H
            by_cases c58 : 0 ≤ x8_2
            ·rw [if_pos c58] at H
             have c58b0 : decide (0 ≤ x8_2) = true := decide_eq_true c58
             clear c58
             by_cases c59 : x8_2 < (zp.length : Int)
             ·rw [if_pos c59] at H
              have c59b0 : decide (x8_2 < (zp.length : Int)) = true := decide_eq_true c59
              clear c59
              obtain ⟨bq60, hbq60⟩ : ∃ b_ : Bool, b_ = ((rd_T32 zp x8_2).f1) := ⟨_, rfl⟩
              replace H : (if bq60 = true then (if zW = true then (laws_FnDirty.l0 kj34 zp (wrap64 (x6_2 + 1)) (wrap64 (x7_2 + 1)) (wrap64 (x8_2 + 1)) zu zy zA zo zr zt zs) else (laws_FnDirty.l0 kj34 zp (wrap64 (x6_2 + 1)) x7_2 (wrap64 (x8_2 + 1)) zu zy zA zo zr zt zs)) else (if zW = true then (laws_FnDirty.l0 kj34 zp x6_2 (wrap64 (x7_2 + 1)) (wrap64 (x8_2 + 1)) zu zy zA zo zr zt zs) else (laws_FnDirty.l0 kj34 zp x6_2 x7_2 (wrap64 (x8_2 + 1)) zu zy zA zo zr zt zs))) = some r := by rw [← hbq60] at H; exact H
              have Nbq60 := Aside0.mk hbq60
              clear hbq60
              by_cases c61 : bq60 = true
              ·subst c61
               rw [if_pos rfl] at H
               by_cases c62 : zW = true
               ·subst c62
                rw [if_pos rfl] at H
                have H' := Aside0.mk H
                clear H
                have p528 : 0 ≤ (x8_2 : Int) := of_decide_eq_true (by first | (with_reducible assumption) | assumption)
                have q528 : x8_2 < (zp.length : Int) := of_decide_eq_true (by first | (with_reducible assumption) | assumption)
                obtain ⟨ad528, e528, hx528_0, hx528_1⟩ := at_T32 (Kd.R_reads' HO_4.out).2.2 x8_2 p528 q528
                (try rw [← Nbq60.out] at hx528_1)
                obtain rfl : ad514 = ad528 := (by injection e528)
                replace p528 := eq_true p528
                replace q528 := eq_true q528
                have hnb63 := NB524_502.out
                have hnc63 := NB502_524.out
                have hnb64 := NB524_513.out
                have hnc64 := NB513_524.out
                have hcz65_0 : wc.cell? ⟨zf, 0, none⟩ = some (.int .i64 zo) := (blk_cell zg.out 0).trans rfl
                have hcz65_1 : wc.cell? ⟨zf, 1, none⟩ = some (.int .i64 zr) := (blk_cell zg.out 1).trans rfl
                have hcz65_2 : wc.cell? ⟨zf, 2, none⟩ = some (.int .i64 zt) := (blk_cell zg.out 2).trans rfl
                have hcz65_3 : wc.cell? ⟨zf, 3, none⟩ = some (.slice zw zs.length zx) := (blk_cell zg.out 3).trans rfl
                have hfz65_0 := blk_frozen zg.out 0
                have hfz65_1 := blk_frozen zg.out 1
                have hfz65_2 := blk_frozen zg.out 2
                have hfz65_3 := blk_frozen zg.out 3
                have hnb66 := NB513_502.out
                have hnc66 := NB502_513.out
                have hcz67_0 : wc.cell? ⟨zh, 0, none⟩ = some (.int .i64 zB) := (blk_cell za.out 0).trans rfl
                have hcz67_1 : wc.cell? ⟨zh, 1, none⟩ = some (.int .i64 zz) := (blk_cell za.out 1).trans rfl
                have hcz67_2 : wc.cell? ⟨zh, 2, none⟩ = some (.int .i64 zv) := (blk_cell za.out 2).trans rfl
                have hcz67_3 : wc.cell? ⟨zh, 3, none⟩ = some (.slice zC zn.length zD) := (blk_cell za.out 3).trans rfl
                have hfz67_0 := blk_frozen za.out 0
                have hfz67_1 := blk_frozen za.out 1
                have hfz67_2 := blk_frozen za.out 2
                have hfz67_3 := blk_frozen za.out 3
                go_wp2
                go_roundg kj34
                case measure => have := HJ4.out; have := HK2.out; have := HJ34.out; omega
                case rel => exact ⟨(wrap64 (x6_2 + 1)), (wrap64 (x7_2 + 1)), (wrap64 (x8_2 + 1)), (zo), (zr), (zt), (zs), (.slice zw zs.length zx), (by first | rfl | (simp; done) | (simp [*]; done)), (by first | rfl | (simp; done) | (simp [*]; done)), (by first | rfl | (simp; done) | (simp [*]; done)), H', ⟨by have := HJ4.out; have := HK2.out; have := HJ34.out; omega⟩, ⟨by (with_reducible repeat (first | apply Kd.R_alloc | apply Kd.R_drewN | apply Kd.R_drew)); exact Kd.R_mono (Kd.R_far (p := ⟨zh, 3, none⟩) (Kd.R_far (p := ⟨zh, 2, none⟩) (Kd.R_far (p := ⟨zh, 1, none⟩) (Kd.R_far (p := ⟨zh, 0, none⟩) (Kd.R_types HO_4.out za.out (by decide)) (fun _ hk => hk.2) (.int .i64 zo)) (fun _ hk => hk.2) (.int .i64 zr)) (fun _ hk => hk.2) (.int .i64 zt)) (fun _ hk => hk.2) (.slice zw zs.length zx)) (fun _ hk => trivial)⟩, ⟨by (with_reducible repeat (first | apply Kd.S_alloc | apply Kd.S_drewN | apply Kd.S_drew)); exact Kd.S_mono (Kd.S_far (p := ⟨zh, 3, none⟩) (Kd.S_far (p := ⟨zh, 2, none⟩) (Kd.S_far (p := ⟨zh, 1, none⟩) (Kd.S_far (p := ⟨zh, 0, none⟩) (Kd.S_types zta.out za.out (by decide)) (fun _ hk => hk.2) (.int .i64 zo)) (fun _ hk => hk.2) (.int .i64 zr)) (fun _ hk => hk.2) (.int .i64 zt)) (fun _ hk => hk.2) (.slice zw zs.length zx)) (fun _ hk => trivial)⟩, ⟨by (with_reducible repeat (first | refine blk_drewN ?_ _ | refine blk_drew ?_ | refine blk_alloc ?_ _)); refine blk_far ?_ NB502_513.out _; (with_reducible repeat (first | refine blk_drewN ?_ _ | refine blk_drew ?_ | refine blk_alloc ?_ _)); refine blk_far ?_ NB502_513.out _; (with_reducible repeat (first | refine blk_drewN ?_ _ | refine blk_drew ?_ | refine blk_alloc ?_ _)); refine blk_far ?_ NB502_513.out _; (with_reducible repeat (first | refine blk_drewN ?_ _ | refine blk_drew ?_ | refine blk_alloc ?_ _)); refine blk_far ?_ NB502_513.out _; (with_reducible repeat (first | refine blk_drewN ?_ _ | refine blk_drew ?_ | refine blk_alloc ?_ _)); exact zc.out⟩, ⟨by (with_reducible repeat (first | refine blk_drewN ?_ _ | refine blk_drew ?_ | refine blk_alloc ?_ _)); refine blk_put (cs := #[.int .i64 zo, .int .i64 zr, .int .i64 zt, .slice zC zn.length zD]) ?_ 3 _ rfl; (with_reducible repeat (first | refine blk_drewN ?_ _ | refine blk_drew ?_ | refine blk_alloc ?_ _)); refine blk_put (cs := #[.int .i64 zo, .int .i64 zr, .int .i64 zv, .slice zC zn.length zD]) ?_ 2 _ rfl; (with_reducible repeat (first | refine blk_drewN ?_ _ | refine blk_drew ?_ | refine blk_alloc ?_ _)); refine blk_put (cs := #[.int .i64 zo, .int .i64 zz, .int .i64 zv, .slice zC zn.length zD]) ?_ 1 _ rfl; (with_reducible repeat (first | refine blk_drewN ?_ _ | refine blk_drew ?_ | refine blk_alloc ?_ _)); refine blk_put (cs := #[.int .i64 zB, .int .i64 zz, .int .i64 zv, .slice zC zn.length zD]) ?_ 0 _ rfl; (with_reducible repeat (first | refine blk_drewN ?_ _ | refine blk_drew ?_ | refine blk_alloc ?_ _)); exact za.out⟩, ⟨by repeat (first | (with_reducible first | exact HB.out | apply below_alloc | apply pw_below_drewN | apply below_drew1 | refine below_set ?_ zla.out) | exact HB.out)⟩⟩
               ·replace c62 := Bool.eq_false_iff.mpr c62
                subst c62
                rw [if_neg (show ¬ (false = true) by decide)] at H
                have H' := Aside0.mk H
                clear H
                have p528 : 0 ≤ (x8_2 : Int) := of_decide_eq_true (by first | (with_reducible assumption) | assumption)
                have q528 : x8_2 < (zp.length : Int) := of_decide_eq_true (by first | (with_reducible assumption) | assumption)
                obtain ⟨ad528, e528, hx528_0, hx528_1⟩ := at_T32 (Kd.R_reads' HO_4.out).2.2 x8_2 p528 q528
                (try rw [← Nbq60.out] at hx528_1)
                obtain rfl : ad514 = ad528 := (by injection e528)
                replace p528 := eq_true p528
                replace q528 := eq_true q528
                have hnb68 := NB524_502.out
                have hnc68 := NB502_524.out
                have hnb69 := NB524_513.out
                have hnc69 := NB513_524.out
                have hcz70_0 : wc.cell? ⟨zf, 0, none⟩ = some (.int .i64 zo) := (blk_cell zg.out 0).trans rfl
                have hcz70_1 : wc.cell? ⟨zf, 1, none⟩ = some (.int .i64 zr) := (blk_cell zg.out 1).trans rfl
                have hcz70_2 : wc.cell? ⟨zf, 2, none⟩ = some (.int .i64 zt) := (blk_cell zg.out 2).trans rfl
                have hcz70_3 : wc.cell? ⟨zf, 3, none⟩ = some (.slice zw zs.length zx) := (blk_cell zg.out 3).trans rfl
                have hfz70_0 := blk_frozen zg.out 0
                have hfz70_1 := blk_frozen zg.out 1
                have hfz70_2 := blk_frozen zg.out 2
                have hfz70_3 := blk_frozen zg.out 3
                have hnb71 := NB513_502.out
                have hnc71 := NB502_513.out
                have hcz72_0 : wc.cell? ⟨zh, 0, none⟩ = some (.int .i64 zB) := (blk_cell za.out 0).trans rfl
                have hcz72_1 : wc.cell? ⟨zh, 1, none⟩ = some (.int .i64 zz) := (blk_cell za.out 1).trans rfl
                have hcz72_2 : wc.cell? ⟨zh, 2, none⟩ = some (.int .i64 zv) := (blk_cell za.out 2).trans rfl
                have hcz72_3 : wc.cell? ⟨zh, 3, none⟩ = some (.slice zC zn.length zD) := (blk_cell za.out 3).trans rfl
                have hfz72_0 := blk_frozen za.out 0
                have hfz72_1 := blk_frozen za.out 1
                have hfz72_2 := blk_frozen za.out 2
                have hfz72_3 := blk_frozen za.out 3
                go_wp2
                go_roundg kj34
                case measure => have := HJ4.out; have := HK2.out; have := HJ34.out; omega
                case rel => exact ⟨(wrap64 (x6_2 + 1)), (x7_2), (wrap64 (x8_2 + 1)), (zo), (zr), (zt), (zs), (.slice zw zs.length zx), (by first | rfl | (simp; done) | (simp [*]; done)), (by first | rfl | (simp; done) | (simp [*]; done)), (by first | rfl | (simp; done) | (simp [*]; done)), H', ⟨by have := HJ4.out; have := HK2.out; have := HJ34.out; omega⟩, ⟨by (with_reducible repeat (first | apply Kd.R_alloc | apply Kd.R_drewN | apply Kd.R_drew)); exact Kd.R_mono (Kd.R_far (p := ⟨zh, 3, none⟩) (Kd.R_far (p := ⟨zh, 2, none⟩) (Kd.R_far (p := ⟨zh, 1, none⟩) (Kd.R_far (p := ⟨zh, 0, none⟩) (Kd.R_types HO_4.out za.out (by decide)) (fun _ hk => hk.2) (.int .i64 zo)) (fun _ hk => hk.2) (.int .i64 zr)) (fun _ hk => hk.2) (.int .i64 zt)) (fun _ hk => hk.2) (.slice zw zs.length zx)) (fun _ hk => trivial)⟩, ⟨by (with_reducible repeat (first | apply Kd.S_alloc | apply Kd.S_drewN | apply Kd.S_drew)); exact Kd.S_mono (Kd.S_far (p := ⟨zh, 3, none⟩) (Kd.S_far (p := ⟨zh, 2, none⟩) (Kd.S_far (p := ⟨zh, 1, none⟩) (Kd.S_far (p := ⟨zh, 0, none⟩) (Kd.S_types zta.out za.out (by decide)) (fun _ hk => hk.2) (.int .i64 zo)) (fun _ hk => hk.2) (.int .i64 zr)) (fun _ hk => hk.2) (.int .i64 zt)) (fun _ hk => hk.2) (.slice zw zs.length zx)) (fun _ hk => trivial)⟩, ⟨by (with_reducible repeat (first | refine blk_drewN ?_ _ | refine blk_drew ?_ | refine blk_alloc ?_ _)); refine blk_far ?_ NB502_513.out _; (with_reducible repeat (first | refine blk_drewN ?_ _ | refine blk_drew ?_ | refine blk_alloc ?_ _)); refine blk_far ?_ NB502_513.out _; (with_reducible repeat (first | refine blk_drewN ?_ _ | refine blk_drew ?_ | refine blk_alloc ?_ _)); refine blk_far ?_ NB502_513.out _; (with_reducible repeat (first | refine blk_drewN ?_ _ | refine blk_drew ?_ | refine blk_alloc ?_ _)); refine blk_far ?_ NB502_513.out _; (with_reducible repeat (first | refine blk_drewN ?_ _ | refine blk_drew ?_ | refine blk_alloc ?_ _)); exact zc.out⟩, ⟨by (with_reducible repeat (first | refine blk_drewN ?_ _ | refine blk_drew ?_ | refine blk_alloc ?_ _)); refine blk_put (cs := #[.int .i64 zo, .int .i64 zr, .int .i64 zt, .slice zC zn.length zD]) ?_ 3 _ rfl; (with_reducible repeat (first | refine blk_drewN ?_ _ | refine blk_drew ?_ | refine blk_alloc ?_ _)); refine blk_put (cs := #[.int .i64 zo, .int .i64 zr, .int .i64 zv, .slice zC zn.length zD]) ?_ 2 _ rfl; (with_reducible repeat (first | refine blk_drewN ?_ _ | refine blk_drew ?_ | refine blk_alloc ?_ _)); refine blk_put (cs := #[.int .i64 zo, .int .i64 zz, .int .i64 zv, .slice zC zn.length zD]) ?_ 1 _ rfl; (with_reducible repeat (first | refine blk_drewN ?_ _ | refine blk_drew ?_ | refine blk_alloc ?_ _)); refine blk_put (cs := #[.int .i64 zB, .int .i64 zz, .int .i64 zv, .slice zC zn.length zD]) ?_ 0 _ rfl; (with_reducible repeat (first | refine blk_drewN ?_ _ | refine blk_drew ?_ | refine blk_alloc ?_ _)); exact za.out⟩, ⟨by repeat (first | (with_reducible first | exact HB.out | apply below_alloc | apply pw_below_drewN | apply below_drew1 | refine below_set ?_ zla.out) | exact HB.out)⟩⟩
              ·replace c61 := Bool.eq_false_iff.mpr c61
               subst c61
               rw [if_neg (show ¬ (false = true) by decide)] at H
               by_cases c73 : zW = true
               ·subst c73
                rw [if_pos rfl] at H
                have H' := Aside0.mk H
                clear H
                have p528 : 0 ≤ (x8_2 : Int) := of_decide_eq_true (by first | (with_reducible assumption) | assumption)
                have q528 : x8_2 < (zp.length : Int) := of_decide_eq_true (by first | (with_reducible assumption) | assumption)
                obtain ⟨ad528, e528, hx528_0, hx528_1⟩ := at_T32 (Kd.R_reads' HO_4.out).2.2 x8_2 p528 q528
                (try rw [← Nbq60.out] at hx528_1)
                obtain rfl : ad514 = ad528 := (by injection e528)
                replace p528 := eq_true p528
                replace q528 := eq_true q528
                have hnb74 := NB524_502.out
                have hnc74 := NB502_524.out
                have hnb75 := NB524_513.out
                have hnc75 := NB513_524.out
                have hcz76_0 : wc.cell? ⟨zf, 0, none⟩ = some (.int .i64 zo) := (blk_cell zg.out 0).trans rfl
                have hcz76_1 : wc.cell? ⟨zf, 1, none⟩ = some (.int .i64 zr) := (blk_cell zg.out 1).trans rfl
                have hcz76_2 : wc.cell? ⟨zf, 2, none⟩ = some (.int .i64 zt) := (blk_cell zg.out 2).trans rfl
                have hcz76_3 : wc.cell? ⟨zf, 3, none⟩ = some (.slice zw zs.length zx) := (blk_cell zg.out 3).trans rfl
                have hfz76_0 := blk_frozen zg.out 0
                have hfz76_1 := blk_frozen zg.out 1
                have hfz76_2 := blk_frozen zg.out 2
                have hfz76_3 := blk_frozen zg.out 3
                have hnb77 := NB513_502.out
                have hnc77 := NB502_513.out
                have hcz78_0 : wc.cell? ⟨zh, 0, none⟩ = some (.int .i64 zB) := (blk_cell za.out 0).trans rfl
                have hcz78_1 : wc.cell? ⟨zh, 1, none⟩ = some (.int .i64 zz) := (blk_cell za.out 1).trans rfl
                have hcz78_2 : wc.cell? ⟨zh, 2, none⟩ = some (.int .i64 zv) := (blk_cell za.out 2).trans rfl
                have hcz78_3 : wc.cell? ⟨zh, 3, none⟩ = some (.slice zC zn.length zD) := (blk_cell za.out 3).trans rfl
                have hfz78_0 := blk_frozen za.out 0
                have hfz78_1 := blk_frozen za.out 1
                have hfz78_2 := blk_frozen za.out 2
                have hfz78_3 := blk_frozen za.out 3
                go_wp2
                go_roundg kj34
                case measure => have := HJ4.out; have := HK2.out; have := HJ34.out; omega
                case rel => exact ⟨(x6_2), (wrap64 (x7_2 + 1)), (wrap64 (x8_2 + 1)), (zo), (zr), (zt), (zs), (.slice zw zs.length zx), (by first | rfl | (simp; done) | (simp [*]; done)), (by first | rfl | (simp; done) | (simp [*]; done)), (by first | rfl | (simp; done) | (simp [*]; done)), H', ⟨by have := HJ4.out; have := HK2.out; have := HJ34.out; omega⟩, ⟨by (with_reducible repeat (first | apply Kd.R_alloc | apply Kd.R_drewN | apply Kd.R_drew)); exact Kd.R_mono (Kd.R_far (p := ⟨zh, 3, none⟩) (Kd.R_far (p := ⟨zh, 2, none⟩) (Kd.R_far (p := ⟨zh, 1, none⟩) (Kd.R_far (p := ⟨zh, 0, none⟩) (Kd.R_types HO_4.out za.out (by decide)) (fun _ hk => hk.2) (.int .i64 zo)) (fun _ hk => hk.2) (.int .i64 zr)) (fun _ hk => hk.2) (.int .i64 zt)) (fun _ hk => hk.2) (.slice zw zs.length zx)) (fun _ hk => trivial)⟩, ⟨by (with_reducible repeat (first | apply Kd.S_alloc | apply Kd.S_drewN | apply Kd.S_drew)); exact Kd.S_mono (Kd.S_far (p := ⟨zh, 3, none⟩) (Kd.S_far (p := ⟨zh, 2, none⟩) (Kd.S_far (p := ⟨zh, 1, none⟩) (Kd.S_far (p := ⟨zh, 0, none⟩) (Kd.S_types zta.out za.out (by decide)) (fun _ hk => hk.2) (.int .i64 zo)) (fun _ hk => hk.2) (.int .i64 zr)) (fun _ hk => hk.2) (.int .i64 zt)) (fun _ hk => hk.2) (.slice zw zs.length zx)) (fun _ hk => trivial)⟩, ⟨by (with_reducible repeat (first | refine blk_drewN ?_ _ | refine blk_drew ?_ | refine blk_alloc ?_ _)); refine blk_far ?_ NB502_513.out _; (with_reducible repeat (first | refine blk_drewN ?_ _ | refine blk_drew ?_ | refine blk_alloc ?_ _)); refine blk_far ?_ NB502_513.out _; (with_reducible repeat (first | refine blk_drewN ?_ _ | refine blk_drew ?_ | refine blk_alloc ?_ _)); refine blk_far ?_ NB502_513.out _; (with_reducible repeat (first | refine blk_drewN ?_ _ | refine blk_drew ?_ | refine blk_alloc ?_ _)); refine blk_far ?_ NB502_513.out _; (with_reducible repeat (first | refine blk_drewN ?_ _ | refine blk_drew ?_ | refine blk_alloc ?_ _)); exact zc.out⟩, ⟨by (with_reducible repeat (first | refine blk_drewN ?_ _ | refine blk_drew ?_ | refine blk_alloc ?_ _)); refine blk_put (cs := #[.int .i64 zo, .int .i64 zr, .int .i64 zt, .slice zC zn.length zD]) ?_ 3 _ rfl; (with_reducible repeat (first | refine blk_drewN ?_ _ | refine blk_drew ?_ | refine blk_alloc ?_ _)); refine blk_put (cs := #[.int .i64 zo, .int .i64 zr, .int .i64 zv, .slice zC zn.length zD]) ?_ 2 _ rfl; (with_reducible repeat (first | refine blk_drewN ?_ _ | refine blk_drew ?_ | refine blk_alloc ?_ _)); refine blk_put (cs := #[.int .i64 zo, .int .i64 zz, .int .i64 zv, .slice zC zn.length zD]) ?_ 1 _ rfl; (with_reducible repeat (first | refine blk_drewN ?_ _ | refine blk_drew ?_ | refine blk_alloc ?_ _)); refine blk_put (cs := #[.int .i64 zB, .int .i64 zz, .int .i64 zv, .slice zC zn.length zD]) ?_ 0 _ rfl; (with_reducible repeat (first | refine blk_drewN ?_ _ | refine blk_drew ?_ | refine blk_alloc ?_ _)); exact za.out⟩, ⟨by repeat (first | (with_reducible first | exact HB.out | apply below_alloc | apply pw_below_drewN | apply below_drew1 | refine below_set ?_ zla.out) | exact HB.out)⟩⟩
               ·replace c73 := Bool.eq_false_iff.mpr c73
                subst c73
                rw [if_neg (show ¬ (false = true) by decide)] at H
                have H' := Aside0.mk H
                clear H
                have p528 : 0 ≤ (x8_2 : Int) := of_decide_eq_true (by first | (with_reducible assumption) | assumption)
                have q528 : x8_2 < (zp.length : Int) := of_decide_eq_true (by first | (with_reducible assumption) | assumption)
                obtain ⟨ad528, e528, hx528_0, hx528_1⟩ := at_T32 (Kd.R_reads' HO_4.out).2.2 x8_2 p528 q528
                (try rw [← Nbq60.out] at hx528_1)
                obtain rfl : ad514 = ad528 := (by injection e528)
                replace p528 := eq_true p528
                replace q528 := eq_true q528
                have hnb79 := NB524_502.out
                have hnc79 := NB502_524.out
                have hnb80 := NB524_513.out
                have hnc80 := NB513_524.out
                have hcz81_0 : wc.cell? ⟨zf, 0, none⟩ = some (.int .i64 zo) := (blk_cell zg.out 0).trans rfl
                have hcz81_1 : wc.cell? ⟨zf, 1, none⟩ = some (.int .i64 zr) := (blk_cell zg.out 1).trans rfl
                have hcz81_2 : wc.cell? ⟨zf, 2, none⟩ = some (.int .i64 zt) := (blk_cell zg.out 2).trans rfl
                have hcz81_3 : wc.cell? ⟨zf, 3, none⟩ = some (.slice zw zs.length zx) := (blk_cell zg.out 3).trans rfl
                have hfz81_0 := blk_frozen zg.out 0
                have hfz81_1 := blk_frozen zg.out 1
                have hfz81_2 := blk_frozen zg.out 2
                have hfz81_3 := blk_frozen zg.out 3
                have hnb82 := NB513_502.out
                have hnc82 := NB502_513.out
                have hcz83_0 : wc.cell? ⟨zh, 0, none⟩ = some (.int .i64 zB) := (blk_cell za.out 0).trans rfl
                have hcz83_1 : wc.cell? ⟨zh, 1, none⟩ = some (.int .i64 zz) := (blk_cell za.out 1).trans rfl
                have hcz83_2 : wc.cell? ⟨zh, 2, none⟩ = some (.int .i64 zv) := (blk_cell za.out 2).trans rfl
                have hcz83_3 : wc.cell? ⟨zh, 3, none⟩ = some (.slice zC zn.length zD) := (blk_cell za.out 3).trans rfl
                have hfz83_0 := blk_frozen za.out 0
                have hfz83_1 := blk_frozen za.out 1
                have hfz83_2 := blk_frozen za.out 2
                have hfz83_3 := blk_frozen za.out 3
                go_wp2
                go_roundg kj34
                case measure => have := HJ4.out; have := HK2.out; have := HJ34.out; omega
                case rel => exact ⟨(x6_2), (x7_2), (wrap64 (x8_2 + 1)), (zo), (zr), (zt), (zs), (.slice zw zs.length zx), (by first | rfl | (simp; done) | (simp [*]; done)), (by first | rfl | (simp; done) | (simp [*]; done)), (by first | rfl | (simp; done) | (simp [*]; done)), H', ⟨by have := HJ4.out; have := HK2.out; have := HJ34.out; omega⟩, ⟨by (with_reducible repeat (first | apply Kd.R_alloc | apply Kd.R_drewN | apply Kd.R_drew)); exact Kd.R_mono (Kd.R_far (p := ⟨zh, 3, none⟩) (Kd.R_far (p := ⟨zh, 2, none⟩) (Kd.R_far (p := ⟨zh, 1, none⟩) (Kd.R_far (p := ⟨zh, 0, none⟩) (Kd.R_types HO_4.out za.out (by decide)) (fun _ hk => hk.2) (.int .i64 zo)) (fun _ hk => hk.2) (.int .i64 zr)) (fun _ hk => hk.2) (.int .i64 zt)) (fun _ hk => hk.2) (.slice zw zs.length zx)) (fun _ hk => trivial)⟩, ⟨by (with_reducible repeat (first | apply Kd.S_alloc | apply Kd.S_drewN | apply Kd.S_drew)); exact Kd.S_mono (Kd.S_far (p := ⟨zh, 3, none⟩) (Kd.S_far (p := ⟨zh, 2, none⟩) (Kd.S_far (p := ⟨zh, 1, none⟩) (Kd.S_far (p := ⟨zh, 0, none⟩) (Kd.S_types zta.out za.out (by decide)) (fun _ hk => hk.2) (.int .i64 zo)) (fun _ hk => hk.2) (.int .i64 zr)) (fun _ hk => hk.2) (.int .i64 zt)) (fun _ hk => hk.2) (.slice zw zs.length zx)) (fun _ hk => trivial)⟩, ⟨by (with_reducible repeat (first | refine blk_drewN ?_ _ | refine blk_drew ?_ | refine blk_alloc ?_ _)); refine blk_far ?_ NB502_513.out _; (with_reducible repeat (first | refine blk_drewN ?_ _ | refine blk_drew ?_ | refine blk_alloc ?_ _)); refine blk_far ?_ NB502_513.out _; (with_reducible repeat (first | refine blk_drewN ?_ _ | refine blk_drew ?_ | refine blk_alloc ?_ _)); refine blk_far ?_ NB502_513.out _; (with_reducible repeat (first | refine blk_drewN ?_ _ | refine blk_drew ?_ | refine blk_alloc ?_ _)); refine blk_far ?_ NB502_513.out _; (with_reducible repeat (first | refine blk_drewN ?_ _ | refine blk_drew ?_ | refine blk_alloc ?_ _)); exact zc.out⟩, ⟨by (with_reducible repeat (first | refine blk_drewN ?_ _ | refine blk_drew ?_ | refine blk_alloc ?_ _)); refine blk_put (cs := #[.int .i64 zo, .int .i64 zr, .int .i64 zt, .slice zC zn.length zD]) ?_ 3 _ rfl; (with_reducible repeat (first | refine blk_drewN ?_ _ | refine blk_drew ?_ | refine blk_alloc ?_ _)); refine blk_put (cs := #[.int .i64 zo, .int .i64 zr, .int .i64 zv, .slice zC zn.length zD]) ?_ 2 _ rfl; (with_reducible repeat (first | refine blk_drewN ?_ _ | refine blk_drew ?_ | refine blk_alloc ?_ _)); refine blk_put (cs := #[.int .i64 zo, .int .i64 zz, .int .i64 zv, .slice zC zn.length zD]) ?_ 1 _ rfl; (with_reducible repeat (first | refine blk_drewN ?_ _ | refine blk_drew ?_ | refine blk_alloc ?_ _)); refine blk_put (cs := #[.int .i64 zB, .int .i64 zz, .int .i64 zv, .slice zC zn.length zD]) ?_ 0 _ rfl; (with_reducible repeat (first | refine blk_drewN ?_ _ | refine blk_drew ?_ | refine blk_alloc ?_ _)); exact za.out⟩, ⟨by repeat (first | (with_reducible first | exact HB.out | apply below_alloc | apply pw_below_drewN | apply below_drew1 | refine below_set ?_ zla.out) | exact HB.out)⟩⟩
             ·rw [if_neg c59] at H
              exact absurd H (by simp)
            ·rw [if_neg c58] at H
             exact absurd H (by simp)
        ·rw [if_neg c33] at H
         exact absurd H (by simp)
       ·rw [if_neg c32] at H
        have c32b0 : decide (x8_2 < (zp.length : Int)) = false := decide_eq_false c32
        clear c32
        replace H := Option.bind_eq_some_iff.mp H
        obtain ⟨⟨zj, zl, zm, zk, zV⟩, A840, H⟩ := H
        (try dsimp only at H)
        have A84 := Aside0.mk A840
        clear A840
        replace H := Option.bind_eq_some_iff.mp H
        obtain ⟨zR, A850, H⟩ := H
        (try dsimp only at H)
        have A85 := Aside0.mk A850
        clear A850
        by_cases c86 : (zR.length : Int) = 0
        ·rw [if_pos c86] at H
         have c86b0 : ((zR.length : Int) == 0) = true := beq_iff_eq.mpr c86
         have c86b1 : ((zR.length : Int) != 0) = false := bne_eq_false_iff_eq.mpr c86
         clear c86
         replace H := Option.bind_eq_some_iff.mp H
         obtain ⟨zKa, A870, H⟩ := H
         (try dsimp only at H)
         have A87 := Aside0.mk A870
         clear A870
         by_cases c88 : zKa = true
         ·subst c88
          rw [if_pos rfl] at H
          replace H := Option.bind_eq_some_iff.mp H
          obtain ⟨zY, A890, H⟩ := H
          (try dsimp only at H)
          have A89 := Aside0.mk A890
          clear A890
          by_cases c90 : zV ≤ zY
          ·rw [if_pos c90] at H
           have c90b0 : decide (zV ≤ zY) = true := decide_eq_true c90
           clear c90
           by_cases c91 : (wrap64 (zV + x7_2)) ≤ x6_2
           ·rw [if_pos c91] at H
            have c91b0 : decide ((wrap64 (zV + x7_2)) ≤ x6_2) = true := decide_eq_true c91
            clear c91
            replace H := Option.bind_eq_some_iff.mp H
            obtain ⟨zLa, A920, H⟩ := H
            (try dsimp only at H)
            have A92 := Aside0.mk A920
            clear A920
            replace H := Option.bind_eq_some_iff.mp H
            obtain ⟨zMa, A930, H⟩ := H
            (try dsimp only at H)
            have A93 := Aside0.mk A930
            clear A930
            obtain rfl := Option.some.inj H
            obtain ⟨zKb, zLb, eo94⟩ := Kd.R_slice HO_4.out
            subst eo94
            have hnb95 := NB513_502.out
            have hnc95 := NB502_513.out
            have hcz96_0 : wr.cell? ⟨zh, 0, none⟩ = some (.int .i64 zB) := (blk_cell za.out 0).trans rfl
            have hcz96_1 : wr.cell? ⟨zh, 1, none⟩ = some (.int .i64 zz) := (blk_cell za.out 1).trans rfl
            have hcz96_2 : wr.cell? ⟨zh, 2, none⟩ = some (.int .i64 zv) := (blk_cell za.out 2).trans rfl
            have hcz96_3 : wr.cell? ⟨zh, 3, none⟩ = some (u514003) := (blk_cell za.out 3).trans rfl
            have hfz96_0 := blk_frozen za.out 0
            have hfz96_1 := blk_frozen za.out 1
            have hfz96_2 := blk_frozen za.out 2
            have hfz96_3 := blk_frozen za.out 3
            obtain ⟨zea, zfa, eo97⟩ := Kd.S_slice ze.out
            subst eo97
            try go_wp2_with (first | ((with_reducible refine gate_callee (f := 47) rfl ?_); refine goesL_ (some 88) rfl rfl Try.func47 (by kernel_rfl) rfl #[.agg #[.int .i64 zB, .int .i64 zz, .int .i64 zv, .slice zea zn.length zfa]] rfl (by (try simp only [List.map_toArray, List.map_cons, List.map_nil]); first | done | rfl | (simp only [List.length_drop, List.length_take]; rfl)) ?_; (with_reducible refine (impl_CacheFlush.calls k2 zB zz zv _ _ zn zj zl zm zk zV _ ?side1 ?side2 A84.out).mono ?_); (case side1 => repeat (first | exact (Kd.S_reads' ze.out).2.2 | (with_reducible refine Kd.C_alloc ?_ _) | (with_reducible refine Kd.C_drewN ?_ _) | (with_reducible refine Kd.C_drew ?_))); (case side2 => exact (Kd.S_reads' ze.out).2.1); rintro e w98 ⟨zua, rfl, ho0, hb⟩; refine ⟨_, rfl, ?_⟩; have n0_ := Aside0.mk (Kd.R_below (rq HO_4.out) hb); have n1_ := Aside0.mk (Kd.S_elder' (by exact sqS ze.out) (Kd.S_base ho0) hb); have n2_ := Aside0.mk (Kd.S_lower (Kd.S_new' ho0 (Kd.S_lt (by exact sqS ze.out))) (below_size (lq HB.out))); have n3_ := Aside0.mk (blk_below (bq zc.out) hb); have n4_ := Aside0.mk (blk_below (bq za.out) hb); have n5_ := Aside0.mk (below_step (lq HB.out) hb); clear HO_4; clear ze; clear zc; clear za; clear HB; have HO_4 := n0_; have ze := n1_; have zi := n2_; have zc := n3_; have za := n4_; have HB := n5_; clear n0_ n1_ n2_ n3_ n4_ n5_; (try clear hb); (try clear hb2); (try clear hk); (try clear hi); (try clear ho0)) | ((with_reducible refine gate_dst (N := 12) rfl ?_); (try (refine gate_guard (by rfl) ?_; dsimp only)); refine box_event ?hg (N := 12) ?hd (cs := #[.int .i64 0, .int .i64 0, .int .i64 0, .slice none 0 0]) (t := 70) ?hr ?_; (case hd => rfl); (case hg => rfl); (case hr => first | (go_simp; done) | (go_simp; rfl)); intro zb hg w99 hbox hb; have n0_ := Aside0.mk (Kd.R_below (rq HO_4.out) hb); have n1_ := Aside0.mk (Kd.S_below (by exact sqS ze.out) hb); have n2_ := Aside0.mk (Kd.S_below (by exact sqS zi.out) hb); have n3_ := Aside0.mk (blk_below (bq zc.out) hb); have n4_ := Aside0.mk (blk_below (bq za.out) hb); have n5_ := Aside0.mk (below_step (lq HB.out) hb); have n6_ := Aside0.mk (hbox); have n7_ := Aside0.mk ((ge_new hg (lq HB.out) : w.heap.size ≤ zb)); have n8_ := Aside0.mk ((ge_new hg (lq HB.out) : w.heap.size ≤ zb)); have n9_ := Aside0.mk ((ne_new hg (bq zc.out) : zq ≠ zb)); have n10_ := Aside0.mk ((new_ne hg (bq zc.out) : zb ≠ zq)); have n11_ := Aside0.mk ((ne_new hg (bq za.out) : zh ≠ zb)); have n12_ := Aside0.mk ((new_ne hg (bq za.out) : zb ≠ zh)); clear HO_4; clear ze; clear zi; clear zc; clear za; clear HB; have HO_4 := n0_; have ze := n1_; have zi := n2_; have zc := n3_; have za := n4_; have HB := n5_; have zd := n6_; have GW536 := n7_; have zX := n8_; have NB502_536 := n9_; have NB536_502 := n10_; have NB513_536 := n11_; have NB536_513 := n12_; clear n0_ n1_ n2_ n3_ n4_ n5_ n6_ n7_ n8_ n9_ n10_ n11_ n12_; clear hb hbox hg; have hnb100 := NB536_502.out; have hnc100 := NB502_536.out; have hnb101 := NB536_513.out; have hnc101 := NB513_536.out; have hcz102_0 : w99.cell? ⟨zb, 0, none⟩ = some (.int .i64 0) := (blk_cell zd.out 0).trans rfl; have hcz102_1 : w99.cell? ⟨zb, 1, none⟩ = some (.int .i64 0) := (blk_cell zd.out 1).trans rfl; have hcz102_2 : w99.cell? ⟨zb, 2, none⟩ = some (.int .i64 0) := (blk_cell zd.out 2).trans rfl; have hcz102_3 : w99.cell? ⟨zb, 3, none⟩ = some (.slice none 0 0) := (blk_cell zd.out 3).trans rfl; have hfz102_0 := blk_frozen zd.out 0; have hfz102_1 := blk_frozen zd.out 1; have hfz102_2 := blk_frozen zd.out 2; have hfz102_3 := blk_frozen zd.out 3; obtain ⟨zH, zI, eo103⟩ := Kd.S_slice zi.out; subst eo103))
            have n0_ : Aside0 (Kd.R k32 32 ((((w99.setCell ⟨zb, 0, none⟩ (.int .i64 zj)).setCell ⟨zb, 1, none⟩ (.int .i64 zl)).setCell ⟨zb, 2, none⟩ (.int .i64 zm)).setCell ⟨zb, 3, none⟩ (.slice zH zk.length zI)) w.heap.size (fun _ => True) (.slice zKb zp.length zLb) zp) := ⟨by (with_reducible repeat (first | apply Kd.R_alloc | apply Kd.R_drewN | apply Kd.R_drew)); exact Kd.R_mono (Kd.R_far (p := ⟨zb, 3, none⟩) (Kd.R_far (p := ⟨zb, 2, none⟩) (Kd.R_far (p := ⟨zb, 1, none⟩) (Kd.R_far (p := ⟨zb, 0, none⟩) (Kd.R_types HO_4.out zd.out (by decide)) (fun _ hk => hk.2) (.int .i64 zj)) (fun _ hk => hk.2) (.int .i64 zl)) (fun _ hk => hk.2) (.int .i64 zm)) (fun _ hk => hk.2) (.slice zH zk.length zI)) (fun _ hk => trivial)⟩
            have n1_ : Aside0 (Kd.S (Kd.slice 118 k118) 116 ((((w99.setCell ⟨zb, 0, none⟩ (.int .i64 zj)).setCell ⟨zb, 1, none⟩ (.int .i64 zl)).setCell ⟨zb, 2, none⟩ (.int .i64 zm)).setCell ⟨zb, 3, none⟩ (.slice zH zk.length zI)) w.heap.size (fun k_ => some k_ ≠ (.slice zH zk.length zI : Value).ownBlock) (.slice zea zn.length zfa) zn) := ⟨by (with_reducible repeat (first | apply Kd.S_alloc | apply Kd.S_drewN | apply Kd.S_drew)); exact Kd.S_mono (Kd.S_far (p := ⟨zb, 3, none⟩) (Kd.S_far (p := ⟨zb, 2, none⟩) (Kd.S_far (p := ⟨zb, 1, none⟩) (Kd.S_far (p := ⟨zb, 0, none⟩) (Kd.S_types ze.out zd.out (by decide)) (fun _ hk => hk.2) (.int .i64 zj)) (fun _ hk => hk.2) (.int .i64 zl)) (fun _ hk => hk.2) (.int .i64 zm)) (fun _ hk => hk.2) (.slice zH zk.length zI)) (fun _ hk => hk.1.2)⟩
            have n2_ : Aside0 (Kd.S (Kd.slice 118 k118) 116 ((((w99.setCell ⟨zb, 0, none⟩ (.int .i64 zj)).setCell ⟨zb, 1, none⟩ (.int .i64 zl)).setCell ⟨zb, 2, none⟩ (.int .i64 zm)).setCell ⟨zb, 3, none⟩ (.slice zH zk.length zI)) w.heap.size (fun k_ => some k_ ≠ (.slice zea zn.length zfa : Value).ownBlock) (.slice zH zk.length zI) zk) := ⟨by (with_reducible repeat (first | apply Kd.S_alloc | apply Kd.S_drewN | apply Kd.S_drew)); exact Kd.S_mono (Kd.S_far (p := ⟨zb, 3, none⟩) (Kd.S_far (p := ⟨zb, 2, none⟩) (Kd.S_far (p := ⟨zb, 1, none⟩) (Kd.S_far (p := ⟨zb, 0, none⟩) (Kd.S_types zi.out zd.out (by decide)) (fun _ hk => hk.2) (.int .i64 zj)) (fun _ hk => hk.2) (.int .i64 zl)) (fun _ hk => hk.2) (.int .i64 zm)) (fun _ hk => hk.2) (.slice zH zk.length zI)) (fun _ hk => hk.1.2)⟩
            have n3_ : Aside0 (((((w99.setCell ⟨zb, 0, none⟩ (.int .i64 zj)).setCell ⟨zb, 1, none⟩ (.int .i64 zl)).setCell ⟨zb, 2, none⟩ (.int .i64 zm)).setCell ⟨zb, 3, none⟩ (.slice zH zk.length zI)).heap[zq]? = some (.cells #[.int .i64 zu, .int .i64 zy, .int .i64 zA] 25 (0, 0))) := ⟨by (with_reducible repeat (first | refine blk_drewN ?_ _ | refine blk_drew ?_ | refine blk_alloc ?_ _)); refine blk_far ?_ NB502_536.out _; (with_reducible repeat (first | refine blk_drewN ?_ _ | refine blk_drew ?_ | refine blk_alloc ?_ _)); refine blk_far ?_ NB502_536.out _; (with_reducible repeat (first | refine blk_drewN ?_ _ | refine blk_drew ?_ | refine blk_alloc ?_ _)); refine blk_far ?_ NB502_536.out _; (with_reducible repeat (first | refine blk_drewN ?_ _ | refine blk_drew ?_ | refine blk_alloc ?_ _)); refine blk_far ?_ NB502_536.out _; (with_reducible repeat (first | refine blk_drewN ?_ _ | refine blk_drew ?_ | refine blk_alloc ?_ _)); exact zc.out⟩
            have n4_ : Aside0 (((((w99.setCell ⟨zb, 0, none⟩ (.int .i64 zj)).setCell ⟨zb, 1, none⟩ (.int .i64 zl)).setCell ⟨zb, 2, none⟩ (.int .i64 zm)).setCell ⟨zb, 3, none⟩ (.slice zH zk.length zI)).heap[zh]? = some (.cells #[.int .i64 zB, .int .i64 zz, .int .i64 zv, .slice zea zn.length zfa] 70 (0, 0))) := ⟨by (with_reducible repeat (first | refine blk_drewN ?_ _ | refine blk_drew ?_ | refine blk_alloc ?_ _)); refine blk_far ?_ NB513_536.out _; (with_reducible repeat (first | refine blk_drewN ?_ _ | refine blk_drew ?_ | refine blk_alloc ?_ _)); refine blk_far ?_ NB513_536.out _; (with_reducible repeat (first | refine blk_drewN ?_ _ | refine blk_drew ?_ | refine blk_alloc ?_ _)); refine blk_far ?_ NB513_536.out _; (with_reducible repeat (first | refine blk_drewN ?_ _ | refine blk_drew ?_ | refine blk_alloc ?_ _)); refine blk_far ?_ NB513_536.out _; (with_reducible repeat (first | refine blk_drewN ?_ _ | refine blk_drew ?_ | refine blk_alloc ?_ _)); exact za.out⟩
            have n5_ : Aside0 (((((w99.setCell ⟨zb, 0, none⟩ (.int .i64 zj)).setCell ⟨zb, 1, none⟩ (.int .i64 zl)).setCell ⟨zb, 2, none⟩ (.int .i64 zm)).setCell ⟨zb, 3, none⟩ (.slice zH zk.length zI)).heap[zb]? = some (.cells #[.int .i64 zj, .int .i64 zl, .int .i64 zm, .slice zH zk.length zI] 70 (0, 0))) := ⟨by (with_reducible repeat (first | refine blk_drewN ?_ _ | refine blk_drew ?_ | refine blk_alloc ?_ _)); refine blk_put (cs := #[.int .i64 zj, .int .i64 zl, .int .i64 zm, .slice none 0 0]) ?_ 3 _ rfl; (with_reducible repeat (first | refine blk_drewN ?_ _ | refine blk_drew ?_ | refine blk_alloc ?_ _)); refine blk_put (cs := #[.int .i64 zj, .int .i64 zl, .int .i64 0, .slice none 0 0]) ?_ 2 _ rfl; (with_reducible repeat (first | refine blk_drewN ?_ _ | refine blk_drew ?_ | refine blk_alloc ?_ _)); refine blk_put (cs := #[.int .i64 zj, .int .i64 0, .int .i64 0, .slice none 0 0]) ?_ 1 _ rfl; (with_reducible repeat (first | refine blk_drewN ?_ _ | refine blk_drew ?_ | refine blk_alloc ?_ _)); refine blk_put (cs := #[.int .i64 0, .int .i64 0, .int .i64 0, .slice none 0 0]) ?_ 0 _ rfl; (with_reducible repeat (first | refine blk_drewN ?_ _ | refine blk_drew ?_ | refine blk_alloc ?_ _)); exact zd.out⟩
            have n6_ : Aside0 (Below w.heap.size w ((((w99.setCell ⟨zb, 0, none⟩ (.int .i64 zj)).setCell ⟨zb, 1, none⟩ (.int .i64 zl)).setCell ⟨zb, 2, none⟩ (.int .i64 zm)).setCell ⟨zb, 3, none⟩ (.slice zH zk.length zI))) := ⟨by repeat (first | (with_reducible first | exact HB.out | apply below_alloc | apply pw_below_drewN | apply below_drew1 | refine below_set ?_ zX.out) | exact HB.out)⟩
            (try clear HO_4)
            (try clear ze)
            (try clear zi)
            (try clear zc)
            (try clear za)
            (try clear zd)
            (try clear HB)
            generalize ((((w99.setCell ⟨zb, 0, none⟩ (.int .i64 zj)).setCell ⟨zb, 1, none⟩ (.int .i64 zl)).setCell ⟨zb, 2, none⟩ (.int .i64 zm)).setCell ⟨zb, 3, none⟩ (.slice zH zk.length zI)) = w104 at n0_ n1_ n2_ n3_ n4_ n5_ n6_ ⊢
            have HO_4 := n0_
            have ze := n1_
            have zi := n2_
            have zc := n3_
            have za := n4_
            have zd := n5_
            have HB := n6_
            clear n0_ n1_ n2_ n3_ n4_ n5_ n6_
            have n0_ := Aside0.mk (Kd.R_drew HO_4.out)
            have n1_ := Aside0.mk (Kd.S_drew ze.out)
            have n2_ := Aside0.mk (Kd.S_drew zi.out)
            have n3_ := Aside0.mk (blk_drew zc.out)
            have n4_ := Aside0.mk (blk_drew za.out)
            have n5_ := Aside0.mk (blk_drew zd.out)
            have n6_ := Aside0.mk (below_drew1 HB.out)
            clear HO_4 ze zi zc za zd HB
            have HO_4 := n0_
            have ze := n1_
            have zi := n2_
            have zc := n3_
            have za := n4_
            have zd := n5_
            have HB := n6_
            clear n0_ n1_ n2_ n3_ n4_ n5_ n6_
            refine start_ (n := 30) (S := fun w' => w'.cell? ⟨zb, 0, none⟩ = some (.int .i64 zj) ∧ w'.cell? ⟨zb, 1, none⟩ = some (.int .i64 zl) ∧ w'.cell? ⟨zb, 2, none⟩ = some (.int .i64 zm) ∧ w'.cell? ⟨zb, 3, none⟩ = some (.slice zH zk.length zI) ∧ w'.cell? ⟨zq, 0, none⟩ = some (.int .i64 zu) ∧ w'.cell? ⟨zq, 1, none⟩ = some (.int .i64 zy) ∧ w'.cell? ⟨zq, 2, none⟩ = some (.int .i64 zA) ∧ w'.cell? ⟨zh, 0, none⟩ = some (.int .i64 zB) ∧ w'.cell? ⟨zh, 1, none⟩ = some (.int .i64 zz) ∧ w'.cell? ⟨zh, 2, none⟩ = some (.int .i64 zv) ∧ w'.cell? ⟨zh, 3, none⟩ = some (.slice zea zn.length zfa)) (ds := []) #[f_, f_, f_, f_, f_, f_, f_, f_, f_, f_, f_, f_, f_, f_, f_, f_, f_, f_, f_, f_, f_, f_, f_, f_, f_, f_, f_, f_, f_, f_] (by kernel_rfl) rfl rfl ⟨(blk_cell zd.out 0).trans rfl, (blk_cell zd.out 1).trans rfl, (blk_cell zd.out 2).trans rfl, (blk_cell zd.out 3).trans rfl, (blk_cell zc.out 0).trans rfl, (blk_cell zc.out 1).trans rfl, (blk_cell zc.out 2).trans rfl, (blk_cell za.out 0).trans rfl, (blk_cell za.out 1).trans rfl, (blk_cell za.out 2).trans rfl, (blk_cell za.out 3).trans rfl⟩ (fun hHeld => ?_); refine with_tabW laws_FnDirty.tab20 laws_FnDirty.bits20 (fun HT_ HW_ => ?_)
            generalize w104.drew = w105 at HO_4 ze zi zc za zd HB hHeld ⊢
            refine take_ (i := 0) (N := some 91) (v := ?_) (a' := ?_) #[t_, f_, f_, f_, f_, f_, f_, f_, f_, f_, f_, f_, f_, f_, f_, f_, f_, f_, f_, f_, f_, f_, f_, f_, f_, f_, f_, f_, f_, f_] rfl rfl (take_ofW HT_.out HW_.out (by kernel_rfl)) (fun _ _ _ h => h) (Or.inl ⟨by rfl, ?_⟩) hHeld ?_ ?_
            rotate_left
            ·rintro w' ⟨s0, s1, s2, s3, s4, s5, s6, s7, s8, s9, s10⟩
             go_simp
             with_reducible rfl
            rotate_left
            ·simp only [Act.put, p1_, p2_, p3_, i64_w, i32_w]
             rfl
            refine one_ (i := 1) (N := some 92) #[t_, t_, f_, f_, f_, f_, f_, f_, f_, f_, f_, f_, f_, f_, f_, f_, f_, f_, f_, f_, f_, f_, f_, f_, f_, f_, f_, f_, f_, f_] rfl rfl (one_of HT_.out (by kernel_rfl)) (by decide) (fun K hK => ?_)
            refine goes_ Try.func48 (by kernel_rfl) rfl #[.agg #[.int .i64 zj, .int .i64 zl, .int .i64 zm, .slice zH zk.length zI]] (by rfl) rfl rfl (by (try simp only [List.map_toArray, List.map_cons, List.map_nil]); first | done | rfl | (simp only [List.length_drop, List.length_take]; rfl)) ?_
            with_reducible refine (impl_CacheLines.calls k2 zj zl zm _ _ zk zR _ ?side1 ?side2 A85.out).mono ?_
            (case side1 => repeat (first | exact (Kd.S_reads' zi.out).2.2 | (with_reducible refine Kd.C_alloc ?_ _) | (with_reducible refine Kd.C_drewN ?_ _) | (with_reducible refine Kd.C_drew ?_)))
            (case side2 => exact (Kd.S_reads' zi.out).2.1)
            rintro e w106 ⟨zva, rfl, ho0, hb⟩
            refine ⟨_, rfl, ?_⟩
            have n0_ := Aside0.mk (Kd.R_below (rq HO_4.out) hb)
            have n1_ := Aside0.mk (Kd.S_below (by exact sqS ze.out) hb)
            have n2_ := Aside0.mk (Kd.S_below (by exact sqS zi.out) hb)
            have n3_ := Aside0.mk (Kd.R_lower ho0 (below_size (lq HB.out)))
            have n4_ := Aside0.mk (blk_below (bq zc.out) hb)
            have n5_ := Aside0.mk (blk_below (bq za.out) hb)
            have n6_ := Aside0.mk (blk_below (bq zd.out) hb)
            have n7_ := Aside0.mk (below_step (lq HB.out) hb)
            clear HO_4 ze zi zc za zd HB
            have HO_4 := n0_
            have ze := n1_
            have zi := n2_
            have zF := n3_
            have zc := n4_
            have za := n5_
            have zd := n6_
            have HB := n7_
            clear n0_ n1_ n2_ n3_ n4_ n5_ n6_ n7_
            (try clear hb)
            (try clear hb2)
            (try clear hk)
            (try clear hi)
            (try clear ho0)
            obtain ⟨Ao107, co107, eo107⟩ := Kd.R_slice zF.out
            (first | subst eo107 | (injection eo107 with f1_ f2_ f3_; have f4_ := f1_.symm; have f5_ := f3_.symm; clear f1_ f2_ f3_; subst f4_; subst f5_))
            refine hK.out _ _ ⟨(blk_cell zd.out 0).trans rfl, (blk_cell zd.out 1).trans rfl, (blk_cell zd.out 2).trans rfl, (blk_cell zd.out 3).trans rfl, (blk_cell zc.out 0).trans rfl, (blk_cell zc.out 1).trans rfl, (blk_cell zc.out 2).trans rfl, (blk_cell za.out 0).trans rfl, (blk_cell za.out 1).trans rfl, (blk_cell za.out 2).trans rfl, (blk_cell za.out 3).trans rfl⟩ (fun hHeld => ?_)
            clear hK K
            refine norm_ (a' := ?_) ?_ ?_
            rotate_left
            ·show Act.put _ (some 92) _ = _
             simp only [Act.put, p1_, p2_, p3_, i64_w, i32_w]
             rfl
            refine pure_ (i := 2) (N := some 93) (v := ?_) (a' := ?_) #[t_, t_, t_, f_, f_, f_, f_, f_, f_, f_, f_, f_, f_, f_, f_, f_, f_, f_, f_, f_, f_, f_, f_, f_, f_, f_, f_, f_, f_, f_] rfl rfl (any_of HT_.out (by kernel_rfl)) (fun _ _ _ h => h) (Or.inl ⟨by rfl, ?_⟩) ?_ ?_
            rotate_left
            ·intro w'; go_simp; with_reducible rfl
            rotate_left
            ·simp only [Act.put, p1_, p2_, p3_, i64_w, i32_w]; rfl
            refine pure_ (i := 3) (N := some 94) (v := ?_) (a' := ?_) #[t_, t_, t_, t_, f_, f_, f_, f_, f_, f_, f_, f_, f_, f_, f_, f_, f_, f_, f_, f_, f_, f_, f_, f_, f_, f_, f_, f_, f_, f_] rfl rfl (any_of HT_.out (by kernel_rfl)) (fun _ _ _ h => h) (Or.inl ⟨by rfl, ?_⟩) ?_ ?_
            rotate_left
            ·intro w'; go_simp; with_reducible rfl
            rotate_left
            ·simp only [Act.put, p1_, p2_, p3_, i64_w, i32_w]; rfl
            refine pure_ (i := 4) (N := some 95) (v := ?_) (a' := ?_) #[t_, t_, t_, t_, t_, f_, f_, f_, f_, f_, f_, f_, f_, f_, f_, f_, f_, f_, f_, f_, f_, f_, f_, f_, f_, f_, f_, f_, f_, f_] rfl rfl (any_of HT_.out (by kernel_rfl)) (fun _ _ _ h => h) (Or.inl ⟨by rfl, ?_⟩) ?_ ?_
            rotate_left
            ·intro w'; go_simp; with_reducible rfl
            rotate_left
            ·simp only [Act.put, p1_, p2_, p3_, i64_w, i32_w]; rfl
            refine take_ (i := 5) (N := some 96) (v := ?_) (a' := ?_) #[t_, t_, t_, t_, t_, t_, f_, f_, f_, f_, f_, f_, f_, f_, f_, f_, f_, f_, f_, f_, f_, f_, f_, f_, f_, f_, f_, f_, f_, f_] rfl rfl (take_ofW HT_.out HW_.out (by kernel_rfl)) (fun _ _ _ h => h) (Or.inl ⟨by rfl, ?_⟩) hHeld ?_ ?_
            rotate_left
            ·rintro w' ⟨s0, s1, s2, s3, s4, s5, s6, s7, s8, s9, s10⟩
             go_simp
             with_reducible rfl
            rotate_left
            ·simp only [Act.put, p1_, p2_, p3_, i64_w, i32_w]
             rfl
            refine one_ (i := 6) (N := some 97) #[t_, t_, t_, t_, t_, t_, t_, f_, f_, f_, f_, f_, f_, f_, f_, f_, f_, f_, f_, f_, f_, f_, f_, f_, f_, f_, f_, f_, f_, f_] rfl rfl (one_of HT_.out (by kernel_rfl)) (by decide) (fun K hK => ?_)
            refine goes_ Try.func45 (by kernel_rfl) rfl #[.agg #[.int .i64 zj, .int .i64 zl, .int .i64 zm, .slice zH zk.length zI]] (by rfl) rfl rfl (by (try simp only [List.map_toArray, List.map_cons, List.map_nil]); first | done | rfl | (simp only [List.length_drop, List.length_take]; rfl)) ?_
            with_reducible refine (impl_CacheOk.calls k2 zj zl zm _ _ zk true _ ?side1 ?side2 A87.out).mono ?_
            (case side1 => repeat (first | exact (Kd.S_reads' zi.out).2.2 | (with_reducible refine Kd.C_alloc ?_ _) | (with_reducible refine Kd.C_drewN ?_ _) | (with_reducible refine Kd.C_drew ?_)))
            (case side2 => exact (Kd.S_reads' zi.out).2.1)
            rintro e w108 ⟨rfl, hb⟩
            refine ⟨_, rfl, ?_⟩
            have n0_ := Aside0.mk (Kd.R_below (rq HO_4.out) hb)
            have n1_ := Aside0.mk (Kd.S_below (by exact sqS ze.out) hb)
            have n2_ := Aside0.mk (Kd.S_below (by exact sqS zi.out) hb)
            have n3_ := Aside0.mk (Kd.R_below (rq zF.out) hb)
            have n4_ := Aside0.mk (blk_below (bq zc.out) hb)
            have n5_ := Aside0.mk (blk_below (bq za.out) hb)
            have n6_ := Aside0.mk (blk_below (bq zd.out) hb)
            have n7_ := Aside0.mk (below_step (lq HB.out) hb)
            clear HO_4 ze zi zF zc za zd HB
            have HO_4 := n0_
            have ze := n1_
            have zi := n2_
            have zF := n3_
            have zc := n4_
            have za := n5_
            have zd := n6_
            have HB := n7_
            clear n0_ n1_ n2_ n3_ n4_ n5_ n6_ n7_
            (try clear hb)
            (try clear hb2)
            (try clear hk)
            (try clear hi)
            refine hK.out _ _ ⟨(blk_cell zd.out 0).trans rfl, (blk_cell zd.out 1).trans rfl, (blk_cell zd.out 2).trans rfl, (blk_cell zd.out 3).trans rfl, (blk_cell zc.out 0).trans rfl, (blk_cell zc.out 1).trans rfl, (blk_cell zc.out 2).trans rfl, (blk_cell za.out 0).trans rfl, (blk_cell za.out 1).trans rfl, (blk_cell za.out 2).trans rfl, (blk_cell za.out 3).trans rfl⟩ (fun hHeld => ?_)
            clear hK K
            refine norm_ (a' := ?_) ?_ ?_
            rotate_left
            ·show Act.put _ (some 97) _ = _
             simp only [Act.put, p1_, p2_, p3_, i64_w, i32_w]
             rfl
            refine pure_ (i := 7) (N := some 98) (v := ?_) (a' := ?_) #[t_, t_, t_, t_, t_, t_, t_, t_, f_, f_, f_, f_, f_, f_, f_, f_, f_, f_, f_, f_, f_, f_, f_, f_, f_, f_, f_, f_, f_, f_] rfl rfl (any_of HT_.out (by kernel_rfl)) (fun _ _ _ h => h) (Or.inl ⟨by rfl, ?_⟩) ?_ ?_
            rotate_left
            ·intro w'; go_simp; with_reducible rfl
            rotate_left
            ·simp only [Act.put, p1_, p2_, p3_, i64_w, i32_w]; rfl
            refine pure_ (i := 8) (N := some 99) (v := ?_) (a' := ?_) #[t_, t_, t_, t_, t_, t_, t_, t_, t_, f_, f_, f_, f_, f_, f_, f_, f_, f_, f_, f_, f_, f_, f_, f_, f_, f_, f_, f_, f_, f_] rfl rfl (any_of HT_.out (by kernel_rfl)) (fun _ _ _ h => h) (Or.inl ⟨by rfl, ?_⟩) ?_ ?_
            rotate_left
            ·intro w'; go_simp; with_reducible rfl
            rotate_left
            ·simp only [Act.put, p1_, p2_, p3_, i64_w, i32_w]; rfl
            refine pure_ (i := 9) (N := some 100) (v := ?_) (a' := ?_) #[t_, t_, t_, t_, t_, t_, t_, t_, t_, t_, f_, f_, f_, f_, f_, f_, f_, f_, f_, f_, f_, f_, f_, f_, f_, f_, f_, f_, f_, f_] rfl rfl (any_of HT_.out (by kernel_rfl)) (fun _ _ _ h => h) (Or.inl ⟨by rfl, ?_⟩) ?_ ?_
            rotate_left
            ·intro w'; go_simp; with_reducible rfl
            rotate_left
            ·simp only [Act.put, p1_, p2_, p3_, i64_w, i32_w]; rfl
            refine take_ (i := 10) (N := some 101) (v := ?_) (a' := ?_) #[t_, t_, t_, t_, t_, t_, t_, t_, t_, t_, t_, f_, f_, f_, f_, f_, f_, f_, f_, f_, f_, f_, f_, f_, f_, f_, f_, f_, f_, f_] rfl rfl (take_ofW HT_.out HW_.out (by kernel_rfl)) (fun _ _ _ h => h) (Or.inl ⟨by rfl, ?_⟩) hHeld ?_ ?_
            rotate_left
            ·rintro w' ⟨s0, s1, s2, s3, s4, s5, s6, s7, s8, s9, s10⟩
             go_simp
             with_reducible rfl
            rotate_left
            ·simp only [Act.put, p1_, p2_, p3_, i64_w, i32_w]
             rfl
            refine one_ (i := 11) (N := some 102) #[t_, t_, t_, t_, t_, t_, t_, t_, t_, t_, t_, t_, f_, f_, f_, f_, f_, f_, f_, f_, f_, f_, f_, f_, f_, f_, f_, f_, f_, f_] rfl rfl (one_of HT_.out (by kernel_rfl)) (by decide) (fun K hK => ?_)
            refine goes_ Try.func49 (by kernel_rfl) rfl #[.agg #[.int .i64 zu, .int .i64 zy, .int .i64 zA]] (by rfl) rfl rfl (by (try simp only [List.map_toArray, List.map_cons, List.map_nil]); first | done | rfl | (simp only [List.length_drop, List.length_take]; rfl)) ?_
            with_reducible refine (impl_WorstDirty.calls zu zy zA zY _ A89.out).mono ?_
            rintro e w109 ⟨rfl, hb⟩
            refine ⟨_, rfl, ?_⟩
            have n0_ := Aside0.mk (Kd.R_below (rq HO_4.out) hb)
            have n1_ := Aside0.mk (Kd.S_below (by exact sqS ze.out) hb)
            have n2_ := Aside0.mk (Kd.S_below (by exact sqS zi.out) hb)
            have n3_ := Aside0.mk (Kd.R_below (rq zF.out) hb)
            have n4_ := Aside0.mk (blk_below (bq zc.out) hb)
            have n5_ := Aside0.mk (blk_below (bq za.out) hb)
            have n6_ := Aside0.mk (blk_below (bq zd.out) hb)
            have n7_ := Aside0.mk (below_step (lq HB.out) hb)
            clear HO_4 ze zi zF zc za zd HB
            have HO_4 := n0_
            have ze := n1_
            have zi := n2_
            have zF := n3_
            have zc := n4_
            have za := n5_
            have zd := n6_
            have HB := n7_
            clear n0_ n1_ n2_ n3_ n4_ n5_ n6_ n7_
            (try clear hb)
            (try clear hb2)
            (try clear hk)
            (try clear hi)
            refine hK.out _ _ ⟨(blk_cell zd.out 0).trans rfl, (blk_cell zd.out 1).trans rfl, (blk_cell zd.out 2).trans rfl, (blk_cell zd.out 3).trans rfl, (blk_cell zc.out 0).trans rfl, (blk_cell zc.out 1).trans rfl, (blk_cell zc.out 2).trans rfl, (blk_cell za.out 0).trans rfl, (blk_cell za.out 1).trans rfl, (blk_cell za.out 2).trans rfl, (blk_cell za.out 3).trans rfl⟩ (fun hHeld => ?_)
            clear hK K
            refine norm_ (a' := ?_) ?_ ?_
            rotate_left
            ·show Act.put _ (some 102) _ = _
             simp only [Act.put, p1_, p2_, p3_, i64_w, i32_w]
             rfl
            refine pure_ (i := 12) (N := some 103) (v := ?_) (a' := ?_) #[t_, t_, t_, t_, t_, t_, t_, t_, t_, t_, t_, t_, t_, f_, f_, f_, f_, f_, f_, f_, f_, f_, f_, f_, f_, f_, f_, f_, f_, f_] rfl rfl (any_of HT_.out (by kernel_rfl)) (fun _ _ _ h => h) (Or.inl ⟨by rfl, ?_⟩) ?_ ?_
            rotate_left
            ·intro w'; go_simp; with_reducible rfl
            rotate_left
            ·simp only [Act.put, p1_, p2_, p3_, i64_w, i32_w]; rfl
            refine pure_ (i := 13) (N := some 104) (v := ?_) (a' := ?_) #[t_, t_, t_, t_, t_, t_, t_, t_, t_, t_, t_, t_, t_, t_, f_, f_, f_, f_, f_, f_, f_, f_, f_, f_, f_, f_, f_, f_, f_, f_] rfl rfl (any_of HT_.out (by kernel_rfl)) (fun _ _ _ h => h) (Or.inl ⟨by rfl, ?_⟩) ?_ ?_
            rotate_left
            ·intro w'; go_simp; with_reducible rfl
            rotate_left
            ·simp only [Act.put, p1_, p2_, p3_, i64_w, i32_w]; rfl
            refine pure_ (i := 14) (N := some 105) (v := ?_) (a' := ?_) #[t_, t_, t_, t_, t_, t_, t_, t_, t_, t_, t_, t_, t_, t_, t_, f_, f_, f_, f_, f_, f_, f_, f_, f_, f_, f_, f_, f_, f_, f_] rfl rfl (any_of HT_.out (by kernel_rfl)) (fun _ _ _ h => h) (Or.inl ⟨by rfl, ?_⟩) ?_ ?_
            rotate_left
            ·intro w'; go_simp; with_reducible rfl
            rotate_left
            ·simp only [Act.put, p1_, p2_, p3_, i64_w, i32_w]; rfl
            refine pure_ (i := 15) (N := some 106) (v := ?_) (a' := ?_) #[t_, t_, t_, t_, t_, t_, t_, t_, t_, t_, t_, t_, t_, t_, t_, t_, f_, f_, f_, f_, f_, f_, f_, f_, f_, f_, f_, f_, f_, f_] rfl rfl (any_of HT_.out (by kernel_rfl)) (fun _ _ _ h => h) (Or.inl ⟨by rfl, ?_⟩) ?_ ?_
            rotate_left
            ·intro w'; go_simp; with_reducible rfl
            rotate_left
            ·simp only [Act.put, p1_, p2_, p3_, i64_w, i32_w]; rfl
            refine pure_ (i := 16) (N := some 107) (v := ?_) (a' := ?_) #[t_, t_, t_, t_, t_, t_, t_, t_, t_, t_, t_, t_, t_, t_, t_, t_, t_, f_, f_, f_, f_, f_, f_, f_, f_, f_, f_, f_, f_, f_] rfl rfl (any_of HT_.out (by kernel_rfl)) (fun _ _ _ h => h) (Or.inl ⟨by rfl, ?_⟩) ?_ ?_
            rotate_left
            ·intro w'; go_simp; with_reducible rfl
            rotate_left
            ·simp only [Act.put, p1_, p2_, p3_, i64_w, i32_w]; rfl
            refine pure_ (i := 17) (N := some 108) (v := ?_) (a' := ?_) #[t_, t_, t_, t_, t_, t_, t_, t_, t_, t_, t_, t_, t_, t_, t_, t_, t_, t_, f_, f_, f_, f_, f_, f_, f_, f_, f_, f_, f_, f_] rfl rfl (any_of HT_.out (by kernel_rfl)) (fun _ _ _ h => h) (Or.inl ⟨by rfl, ?_⟩) ?_ ?_
            rotate_left
            ·intro w'; go_simp; with_reducible rfl
            rotate_left
            ·simp only [Act.put, p1_, p2_, p3_, i64_w, i32_w]; rfl
            refine pure_ (i := 18) (N := some 109) (v := ?_) (a' := ?_) #[t_, t_, t_, t_, t_, t_, t_, t_, t_, t_, t_, t_, t_, t_, t_, t_, t_, t_, t_, f_, f_, f_, f_, f_, f_, f_, f_, f_, f_, f_] rfl rfl (any_of HT_.out (by kernel_rfl)) (fun _ _ _ h => h) (Or.inl ⟨by rfl, ?_⟩) ?_ ?_
            rotate_left
            ·intro w'; go_simp; with_reducible rfl
            rotate_left
            ·simp only [Act.put, p1_, p2_, p3_, i64_w, i32_w]; rfl
            refine pure_ (i := 19) (N := some 110) (v := ?_) (a' := ?_) #[t_, t_, t_, t_, t_, t_, t_, t_, t_, t_, t_, t_, t_, t_, t_, t_, t_, t_, t_, t_, f_, f_, f_, f_, f_, f_, f_, f_, f_, f_] rfl rfl (any_of HT_.out (by kernel_rfl)) (fun _ _ _ h => h) (Or.inl ⟨by rfl, ?_⟩) ?_ ?_
            rotate_left
            ·intro w'; go_simp; with_reducible rfl
            rotate_left
            ·simp only [Act.put, p1_, p2_, p3_, i64_w, i32_w]; rfl
            refine pure_ (i := 20) (N := some 111) (v := ?_) (a' := ?_) #[t_, t_, t_, t_, t_, t_, t_, t_, t_, t_, t_, t_, t_, t_, t_, t_, t_, t_, t_, t_, t_, f_, f_, f_, f_, f_, f_, f_, f_, f_] rfl rfl (any_of HT_.out (by kernel_rfl)) (fun _ _ _ h => h) (Or.inl ⟨by rfl, ?_⟩) ?_ ?_
            rotate_left
            ·intro w'; go_simp; with_reducible rfl
            rotate_left
            ·simp only [Act.put, p1_, p2_, p3_, i64_w, i32_w]; rfl
            refine pure_ (i := 21) (N := some 112) (v := ?_) (a' := ?_) #[t_, t_, t_, t_, t_, t_, t_, t_, t_, t_, t_, t_, t_, t_, t_, t_, t_, t_, t_, t_, t_, t_, f_, f_, f_, f_, f_, f_, f_, f_] rfl rfl (any_of HT_.out (by kernel_rfl)) (fun _ _ _ h => h) (Or.inl ⟨by rfl, ?_⟩) ?_ ?_
            rotate_left
            ·intro w'; go_simp; with_reducible rfl
            rotate_left
            ·simp only [Act.put, p1_, p2_, p3_, i64_w, i32_w]; rfl
            refine take_ (i := 22) (N := some 113) (v := ?_) (a' := ?_) #[t_, t_, t_, t_, t_, t_, t_, t_, t_, t_, t_, t_, t_, t_, t_, t_, t_, t_, t_, t_, t_, t_, t_, f_, f_, f_, f_, f_, f_, f_] rfl rfl (take_ofW HT_.out HW_.out (by kernel_rfl)) (fun _ _ _ h => h) (Or.inl ⟨by rfl, ?_⟩) hHeld ?_ ?_
            rotate_left
            ·rintro w' ⟨s0, s1, s2, s3, s4, s5, s6, s7, s8, s9, s10⟩
             go_simp
             with_reducible rfl
            rotate_left
            ·simp only [Act.put, p1_, p2_, p3_, i64_w, i32_w]
             rfl
            refine take_ (i := 25) (N := some 116) (v := ?_) (a' := ?_) #[t_, t_, t_, t_, t_, t_, t_, t_, t_, t_, t_, t_, t_, t_, t_, t_, t_, t_, t_, t_, t_, t_, t_, f_, f_, t_, f_, f_, f_, f_] rfl rfl (take_ofW HT_.out HW_.out (by kernel_rfl)) (fun _ _ _ h => h) (Or.inl ⟨by rfl, ?_⟩) hHeld ?_ ?_
            rotate_left
            ·rintro w' ⟨s0, s1, s2, s3, s4, s5, s6, s7, s8, s9, s10⟩
             go_simp
             with_reducible rfl
            rotate_left
            ·simp only [Act.put, p1_, p2_, p3_, i64_w, i32_w]
             rfl
            refine one_ (i := 23) (N := some 114) #[t_, t_, t_, t_, t_, t_, t_, t_, t_, t_, t_, t_, t_, t_, t_, t_, t_, t_, t_, t_, t_, t_, t_, t_, f_, t_, f_, f_, f_, f_] rfl rfl (one_of HT_.out (by kernel_rfl)) (by decide) (fun K hK => ?_)
            refine goes_ Try.func48 (by kernel_rfl) rfl #[.agg #[.int .i64 zB, .int .i64 zz, .int .i64 zv, .slice zea zn.length zfa]] (by rfl) rfl rfl (by (try simp only [List.map_toArray, List.map_cons, List.map_nil]); first | done | rfl | (simp only [List.length_drop, List.length_take]; rfl)) ?_
            with_reducible refine (impl_CacheLines.calls k2 zB zz zv _ _ zn zLa _ ?side1 ?side2 A92.out).mono ?_
            (case side1 => repeat (first | exact (Kd.S_reads' ze.out).2.2 | (with_reducible refine Kd.C_alloc ?_ _) | (with_reducible refine Kd.C_drewN ?_ _) | (with_reducible refine Kd.C_drew ?_)))
            (case side2 => exact (Kd.S_reads' ze.out).2.1)
            rintro e w110 ⟨v543, rfl, ho0, hb⟩
            refine ⟨_, rfl, ?_⟩
            have n0_ := Aside0.mk (Kd.R_below (rq HO_4.out) hb)
            have n1_ := Aside0.mk (Kd.S_below (by exact sqS ze.out) hb)
            have n2_ := Aside0.mk (Kd.S_below (by exact sqS zi.out) hb)
            have n3_ := Aside0.mk (Kd.R_elder' (rq zF.out) (Kd.R_base ho0) hb)
            have n4_ := Aside0.mk (Kd.R_lower (Kd.R_new' ho0 (Kd.R_lt (rq zF.out))) (below_size (lq HB.out)))
            have n5_ := Aside0.mk (blk_below (bq zc.out) hb)
            have n6_ := Aside0.mk (blk_below (bq za.out) hb)
            have n7_ := Aside0.mk (blk_below (bq zd.out) hb)
            have n8_ := Aside0.mk (below_step (lq HB.out) hb)
            clear HO_4 ze zi zF zc za zd HB
            have HO_4 := n0_
            have ze := n1_
            have zi := n2_
            have zF := n3_
            have zwa := n4_
            have zc := n5_
            have za := n6_
            have zd := n7_
            have HB := n8_
            clear n0_ n1_ n2_ n3_ n4_ n5_ n6_ n7_ n8_
            (try clear hb)
            (try clear hb2)
            (try clear hk)
            (try clear hi)
            (try clear ho0)
            obtain ⟨Ao111, co111, eo111⟩ := Kd.R_slice zwa.out
            (first | subst eo111 | (injection eo111 with f1_ f2_ f3_; have f4_ := f1_.symm; have f5_ := f3_.symm; clear f1_ f2_ f3_; subst f4_; subst f5_))
            refine hK.out _ _ ⟨(blk_cell zd.out 0).trans rfl, (blk_cell zd.out 1).trans rfl, (blk_cell zd.out 2).trans rfl, (blk_cell zd.out 3).trans rfl, (blk_cell zc.out 0).trans rfl, (blk_cell zc.out 1).trans rfl, (blk_cell zc.out 2).trans rfl, (blk_cell za.out 0).trans rfl, (blk_cell za.out 1).trans rfl, (blk_cell za.out 2).trans rfl, (blk_cell za.out 3).trans rfl⟩ (fun hHeld => ?_)
            clear hK K
            refine norm_ (a' := ?_) ?_ ?_
            rotate_left
            ·show Act.put _ (some 114) _ = _
             simp only [Act.put, p1_, p2_, p3_, i64_w, i32_w]
             rfl
            refine pure_ (i := 24) (N := some 115) (v := ?_) (a' := ?_) #[t_, t_, t_, t_, t_, t_, t_, t_, t_, t_, t_, t_, t_, t_, t_, t_, t_, t_, t_, t_, t_, t_, t_, t_, t_, t_, f_, f_, f_, f_] rfl rfl (any_of HT_.out (by kernel_rfl)) (fun _ _ _ h => h) (Or.inl ⟨by rfl, ?_⟩) ?_ ?_
            rotate_left
            ·intro w'; go_simp; with_reducible rfl
            rotate_left
            ·simp only [Act.put, p1_, p2_, p3_, i64_w, i32_w]; rfl
            refine one_ (i := 26) (N := some 117) #[t_, t_, t_, t_, t_, t_, t_, t_, t_, t_, t_, t_, t_, t_, t_, t_, t_, t_, t_, t_, t_, t_, t_, t_, t_, t_, t_, f_, f_, f_] rfl rfl (one_of HT_.out (by kernel_rfl)) (by decide) (fun K hK => ?_)
            refine goes_ Try.func49 (by kernel_rfl) rfl #[.agg #[.int .i64 zu, .int .i64 zy, .int .i64 zA]] (by rfl) rfl rfl (by (try simp only [List.map_toArray, List.map_cons, List.map_nil]); first | done | rfl | (simp only [List.length_drop, List.length_take]; rfl)) ?_
            with_reducible refine (impl_WorstDirty.calls zu zy zA zMa _ A93.out).mono ?_
            rintro e w112 ⟨rfl, hb⟩
            refine ⟨_, rfl, ?_⟩
            have n0_ := Aside0.mk (Kd.R_below (rq HO_4.out) hb)
            have n1_ := Aside0.mk (Kd.S_below (by exact sqS ze.out) hb)
            have n2_ := Aside0.mk (Kd.S_below (by exact sqS zi.out) hb)
            have n3_ := Aside0.mk (Kd.R_below (rq zF.out) hb)
            have n4_ := Aside0.mk (Kd.R_below (rq zwa.out) hb)
            have n5_ := Aside0.mk (blk_below (bq zc.out) hb)
            have n6_ := Aside0.mk (blk_below (bq za.out) hb)
            have n7_ := Aside0.mk (blk_below (bq zd.out) hb)
            have n8_ := Aside0.mk (below_step (lq HB.out) hb)
            clear HO_4 ze zi zF zwa zc za zd HB
            have HO_4 := n0_
            have ze := n1_
            have zi := n2_
            have zF := n3_
            have zwa := n4_
            have zc := n5_
            have za := n6_
            have zd := n7_
            have HB := n8_
            clear n0_ n1_ n2_ n3_ n4_ n5_ n6_ n7_ n8_
            (try clear hb)
            (try clear hb2)
            (try clear hk)
            (try clear hi)
            refine hK.out _ _ ⟨(blk_cell zd.out 0).trans rfl, (blk_cell zd.out 1).trans rfl, (blk_cell zd.out 2).trans rfl, (blk_cell zd.out 3).trans rfl, (blk_cell zc.out 0).trans rfl, (blk_cell zc.out 1).trans rfl, (blk_cell zc.out 2).trans rfl, (blk_cell za.out 0).trans rfl, (blk_cell za.out 1).trans rfl, (blk_cell za.out 2).trans rfl, (blk_cell za.out 3).trans rfl⟩ (fun hHeld => ?_)
            clear hK K
            refine norm_ (a' := ?_) ?_ ?_
            rotate_left
            ·show Act.put _ (some 117) _ = _
             simp only [Act.put, p1_, p2_, p3_, i64_w, i32_w]
             rfl
            refine pure_ (i := 27) (N := some 118) (v := ?_) (a' := ?_) #[t_, t_, t_, t_, t_, t_, t_, t_, t_, t_, t_, t_, t_, t_, t_, t_, t_, t_, t_, t_, t_, t_, t_, t_, t_, t_, t_, t_, f_, f_] rfl rfl (any_of HT_.out (by kernel_rfl)) (fun _ _ _ h => h) (Or.inl ⟨by rfl, ?_⟩) ?_ ?_
            rotate_left
            ·intro w'; go_simp; with_reducible rfl
            rotate_left
            ·simp only [Act.put, p1_, p2_, p3_, i64_w, i32_w]; rfl
            refine pure_ (i := 28) (N := some 119) (v := ?_) (a' := ?_) #[t_, t_, t_, t_, t_, t_, t_, t_, t_, t_, t_, t_, t_, t_, t_, t_, t_, t_, t_, t_, t_, t_, t_, t_, t_, t_, t_, t_, t_, f_] rfl rfl (any_of HT_.out (by kernel_rfl)) (fun _ _ _ h => h) (Or.inl ⟨by rfl, ?_⟩) ?_ ?_
            rotate_left
            ·intro w'; go_simp; with_reducible rfl
            rotate_left
            ·simp only [Act.put, p1_, p2_, p3_, i64_w, i32_w]; rfl
            refine pure_ (i := 29) (N := some 2) (v := ?_) (a' := ?_) #[t_, t_, t_, t_, t_, t_, t_, t_, t_, t_, t_, t_, t_, t_, t_, t_, t_, t_, t_, t_, t_, t_, t_, t_, t_, t_, t_, t_, t_, t_] rfl rfl (any_of HT_.out (by kernel_rfl)) (fun _ _ _ h => h) (Or.inl ⟨by rfl, ?_⟩) ?_ ?_
            rotate_left
            ·intro w'; go_simp; with_reducible rfl
            rotate_left
            ·simp only [Act.put, p1_, p2_, p3_, i64_w, i32_w]; rfl
            refine done_ (done_of HT_.out (by kernel_rfl)) ?_
            try go_wp2
            go_ret
            exact ⟨by first | rfl | (simp [errW_none, errW_some] <;> rfl) | (simp [*, errW_none, errW_some] <;> rfl), by exact lq HB.out⟩
           ·rw [if_neg c91] at H
            have c91b0 : decide ((wrap64 (zV + x7_2)) ≤ x6_2) = false := decide_eq_false c91
            clear c91
            obtain rfl := Option.some.inj H
            obtain ⟨zMb, zNb, eo113⟩ := Kd.R_slice HO_4.out
            subst eo113
            have hnb114 := NB513_502.out
            have hnc114 := NB502_513.out
            have hcz115_0 : wr.cell? ⟨zh, 0, none⟩ = some (.int .i64 zB) := (blk_cell za.out 0).trans rfl
            have hcz115_1 : wr.cell? ⟨zh, 1, none⟩ = some (.int .i64 zz) := (blk_cell za.out 1).trans rfl
            have hcz115_2 : wr.cell? ⟨zh, 2, none⟩ = some (.int .i64 zv) := (blk_cell za.out 2).trans rfl
            have hcz115_3 : wr.cell? ⟨zh, 3, none⟩ = some (u514003) := (blk_cell za.out 3).trans rfl
            have hfz115_0 := blk_frozen za.out 0
            have hfz115_1 := blk_frozen za.out 1
            have hfz115_2 := blk_frozen za.out 2
            have hfz115_3 := blk_frozen za.out 3
            obtain ⟨zxa, zya, eo116⟩ := Kd.S_slice ze.out
            subst eo116
            try go_wp2_with (first | ((with_reducible refine gate_callee (f := 47) rfl ?_); refine goesL_ (some 88) rfl rfl Try.func47 (by kernel_rfl) rfl #[.agg #[.int .i64 zB, .int .i64 zz, .int .i64 zv, .slice zxa zn.length zya]] rfl (by (try simp only [List.map_toArray, List.map_cons, List.map_nil]); first | done | rfl | (simp only [List.length_drop, List.length_take]; rfl)) ?_; (with_reducible refine (impl_CacheFlush.calls k2 zB zz zv _ _ zn zj zl zm zk zV _ ?side1 ?side2 A84.out).mono ?_); (case side1 => repeat (first | exact (Kd.S_reads' ze.out).2.2 | (with_reducible refine Kd.C_alloc ?_ _) | (with_reducible refine Kd.C_drewN ?_ _) | (with_reducible refine Kd.C_drew ?_))); (case side2 => exact (Kd.S_reads' ze.out).2.1); rintro e w117 ⟨zua, rfl, ho0, hb⟩; refine ⟨_, rfl, ?_⟩; have n0_ := Aside0.mk (Kd.R_below (rq HO_4.out) hb); have n1_ := Aside0.mk (Kd.S_elder' (by exact sqS ze.out) (Kd.S_base ho0) hb); have n2_ := Aside0.mk (Kd.S_lower (Kd.S_new' ho0 (Kd.S_lt (by exact sqS ze.out))) (below_size (lq HB.out))); have n3_ := Aside0.mk (blk_below (bq zc.out) hb); have n4_ := Aside0.mk (blk_below (bq za.out) hb); have n5_ := Aside0.mk (below_step (lq HB.out) hb); clear HO_4; clear ze; clear zc; clear za; clear HB; have HO_4 := n0_; have ze := n1_; have zi := n2_; have zc := n3_; have za := n4_; have HB := n5_; clear n0_ n1_ n2_ n3_ n4_ n5_; (try clear hb); (try clear hb2); (try clear hk); (try clear hi); (try clear ho0)) | ((with_reducible refine gate_dst (N := 12) rfl ?_); (try (refine gate_guard (by rfl) ?_; dsimp only)); refine box_event ?hg (N := 12) ?hd (cs := #[.int .i64 0, .int .i64 0, .int .i64 0, .slice none 0 0]) (t := 70) ?hr ?_; (case hd => rfl); (case hg => rfl); (case hr => first | (go_simp; done) | (go_simp; rfl)); intro zb hg w118 hbox hb; have n0_ := Aside0.mk (Kd.R_below (rq HO_4.out) hb); have n1_ := Aside0.mk (Kd.S_below (by exact sqS ze.out) hb); have n2_ := Aside0.mk (Kd.S_below (by exact sqS zi.out) hb); have n3_ := Aside0.mk (blk_below (bq zc.out) hb); have n4_ := Aside0.mk (blk_below (bq za.out) hb); have n5_ := Aside0.mk (below_step (lq HB.out) hb); have n6_ := Aside0.mk (hbox); have n7_ := Aside0.mk ((ge_new hg (lq HB.out) : w.heap.size ≤ zb)); have n8_ := Aside0.mk ((ge_new hg (lq HB.out) : w.heap.size ≤ zb)); have n9_ := Aside0.mk ((ne_new hg (bq zc.out) : zq ≠ zb)); have n10_ := Aside0.mk ((new_ne hg (bq zc.out) : zb ≠ zq)); have n11_ := Aside0.mk ((ne_new hg (bq za.out) : zh ≠ zb)); have n12_ := Aside0.mk ((new_ne hg (bq za.out) : zb ≠ zh)); clear HO_4; clear ze; clear zi; clear zc; clear za; clear HB; have HO_4 := n0_; have ze := n1_; have zi := n2_; have zc := n3_; have za := n4_; have HB := n5_; have zd := n6_; have GW536 := n7_; have zX := n8_; have NB502_536 := n9_; have NB536_502 := n10_; have NB513_536 := n11_; have NB536_513 := n12_; clear n0_ n1_ n2_ n3_ n4_ n5_ n6_ n7_ n8_ n9_ n10_ n11_ n12_; clear hb hbox hg; have hnb119 := NB536_502.out; have hnc119 := NB502_536.out; have hnb120 := NB536_513.out; have hnc120 := NB513_536.out; have hcz121_0 : w118.cell? ⟨zb, 0, none⟩ = some (.int .i64 0) := (blk_cell zd.out 0).trans rfl; have hcz121_1 : w118.cell? ⟨zb, 1, none⟩ = some (.int .i64 0) := (blk_cell zd.out 1).trans rfl; have hcz121_2 : w118.cell? ⟨zb, 2, none⟩ = some (.int .i64 0) := (blk_cell zd.out 2).trans rfl; have hcz121_3 : w118.cell? ⟨zb, 3, none⟩ = some (.slice none 0 0) := (blk_cell zd.out 3).trans rfl; have hfz121_0 := blk_frozen zd.out 0; have hfz121_1 := blk_frozen zd.out 1; have hfz121_2 := blk_frozen zd.out 2; have hfz121_3 := blk_frozen zd.out 3; obtain ⟨zJ, zK, eo122⟩ := Kd.S_slice zi.out; subst eo122))
            have n0_ : Aside0 (Kd.R k32 32 ((((w118.setCell ⟨zb, 0, none⟩ (.int .i64 zj)).setCell ⟨zb, 1, none⟩ (.int .i64 zl)).setCell ⟨zb, 2, none⟩ (.int .i64 zm)).setCell ⟨zb, 3, none⟩ (.slice zJ zk.length zK)) w.heap.size (fun _ => True) (.slice zMb zp.length zNb) zp) := ⟨by (with_reducible repeat (first | apply Kd.R_alloc | apply Kd.R_drewN | apply Kd.R_drew)); exact Kd.R_mono (Kd.R_far (p := ⟨zb, 3, none⟩) (Kd.R_far (p := ⟨zb, 2, none⟩) (Kd.R_far (p := ⟨zb, 1, none⟩) (Kd.R_far (p := ⟨zb, 0, none⟩) (Kd.R_types HO_4.out zd.out (by decide)) (fun _ hk => hk.2) (.int .i64 zj)) (fun _ hk => hk.2) (.int .i64 zl)) (fun _ hk => hk.2) (.int .i64 zm)) (fun _ hk => hk.2) (.slice zJ zk.length zK)) (fun _ hk => trivial)⟩
            have n1_ : Aside0 (Kd.S (Kd.slice 118 k118) 116 ((((w118.setCell ⟨zb, 0, none⟩ (.int .i64 zj)).setCell ⟨zb, 1, none⟩ (.int .i64 zl)).setCell ⟨zb, 2, none⟩ (.int .i64 zm)).setCell ⟨zb, 3, none⟩ (.slice zJ zk.length zK)) w.heap.size (fun k_ => some k_ ≠ (.slice zJ zk.length zK : Value).ownBlock) (.slice zxa zn.length zya) zn) := ⟨by (with_reducible repeat (first | apply Kd.S_alloc | apply Kd.S_drewN | apply Kd.S_drew)); exact Kd.S_mono (Kd.S_far (p := ⟨zb, 3, none⟩) (Kd.S_far (p := ⟨zb, 2, none⟩) (Kd.S_far (p := ⟨zb, 1, none⟩) (Kd.S_far (p := ⟨zb, 0, none⟩) (Kd.S_types ze.out zd.out (by decide)) (fun _ hk => hk.2) (.int .i64 zj)) (fun _ hk => hk.2) (.int .i64 zl)) (fun _ hk => hk.2) (.int .i64 zm)) (fun _ hk => hk.2) (.slice zJ zk.length zK)) (fun _ hk => hk.1.2)⟩
            have n2_ : Aside0 (Kd.S (Kd.slice 118 k118) 116 ((((w118.setCell ⟨zb, 0, none⟩ (.int .i64 zj)).setCell ⟨zb, 1, none⟩ (.int .i64 zl)).setCell ⟨zb, 2, none⟩ (.int .i64 zm)).setCell ⟨zb, 3, none⟩ (.slice zJ zk.length zK)) w.heap.size (fun k_ => some k_ ≠ (.slice zxa zn.length zya : Value).ownBlock) (.slice zJ zk.length zK) zk) := ⟨by (with_reducible repeat (first | apply Kd.S_alloc | apply Kd.S_drewN | apply Kd.S_drew)); exact Kd.S_mono (Kd.S_far (p := ⟨zb, 3, none⟩) (Kd.S_far (p := ⟨zb, 2, none⟩) (Kd.S_far (p := ⟨zb, 1, none⟩) (Kd.S_far (p := ⟨zb, 0, none⟩) (Kd.S_types zi.out zd.out (by decide)) (fun _ hk => hk.2) (.int .i64 zj)) (fun _ hk => hk.2) (.int .i64 zl)) (fun _ hk => hk.2) (.int .i64 zm)) (fun _ hk => hk.2) (.slice zJ zk.length zK)) (fun _ hk => hk.1.2)⟩
            have n3_ : Aside0 (((((w118.setCell ⟨zb, 0, none⟩ (.int .i64 zj)).setCell ⟨zb, 1, none⟩ (.int .i64 zl)).setCell ⟨zb, 2, none⟩ (.int .i64 zm)).setCell ⟨zb, 3, none⟩ (.slice zJ zk.length zK)).heap[zq]? = some (.cells #[.int .i64 zu, .int .i64 zy, .int .i64 zA] 25 (0, 0))) := ⟨by (with_reducible repeat (first | refine blk_drewN ?_ _ | refine blk_drew ?_ | refine blk_alloc ?_ _)); refine blk_far ?_ NB502_536.out _; (with_reducible repeat (first | refine blk_drewN ?_ _ | refine blk_drew ?_ | refine blk_alloc ?_ _)); refine blk_far ?_ NB502_536.out _; (with_reducible repeat (first | refine blk_drewN ?_ _ | refine blk_drew ?_ | refine blk_alloc ?_ _)); refine blk_far ?_ NB502_536.out _; (with_reducible repeat (first | refine blk_drewN ?_ _ | refine blk_drew ?_ | refine blk_alloc ?_ _)); refine blk_far ?_ NB502_536.out _; (with_reducible repeat (first | refine blk_drewN ?_ _ | refine blk_drew ?_ | refine blk_alloc ?_ _)); exact zc.out⟩
            have n4_ : Aside0 (((((w118.setCell ⟨zb, 0, none⟩ (.int .i64 zj)).setCell ⟨zb, 1, none⟩ (.int .i64 zl)).setCell ⟨zb, 2, none⟩ (.int .i64 zm)).setCell ⟨zb, 3, none⟩ (.slice zJ zk.length zK)).heap[zh]? = some (.cells #[.int .i64 zB, .int .i64 zz, .int .i64 zv, .slice zxa zn.length zya] 70 (0, 0))) := ⟨by (with_reducible repeat (first | refine blk_drewN ?_ _ | refine blk_drew ?_ | refine blk_alloc ?_ _)); refine blk_far ?_ NB513_536.out _; (with_reducible repeat (first | refine blk_drewN ?_ _ | refine blk_drew ?_ | refine blk_alloc ?_ _)); refine blk_far ?_ NB513_536.out _; (with_reducible repeat (first | refine blk_drewN ?_ _ | refine blk_drew ?_ | refine blk_alloc ?_ _)); refine blk_far ?_ NB513_536.out _; (with_reducible repeat (first | refine blk_drewN ?_ _ | refine blk_drew ?_ | refine blk_alloc ?_ _)); refine blk_far ?_ NB513_536.out _; (with_reducible repeat (first | refine blk_drewN ?_ _ | refine blk_drew ?_ | refine blk_alloc ?_ _)); exact za.out⟩
            have n5_ : Aside0 (((((w118.setCell ⟨zb, 0, none⟩ (.int .i64 zj)).setCell ⟨zb, 1, none⟩ (.int .i64 zl)).setCell ⟨zb, 2, none⟩ (.int .i64 zm)).setCell ⟨zb, 3, none⟩ (.slice zJ zk.length zK)).heap[zb]? = some (.cells #[.int .i64 zj, .int .i64 zl, .int .i64 zm, .slice zJ zk.length zK] 70 (0, 0))) := ⟨by (with_reducible repeat (first | refine blk_drewN ?_ _ | refine blk_drew ?_ | refine blk_alloc ?_ _)); refine blk_put (cs := #[.int .i64 zj, .int .i64 zl, .int .i64 zm, .slice none 0 0]) ?_ 3 _ rfl; (with_reducible repeat (first | refine blk_drewN ?_ _ | refine blk_drew ?_ | refine blk_alloc ?_ _)); refine blk_put (cs := #[.int .i64 zj, .int .i64 zl, .int .i64 0, .slice none 0 0]) ?_ 2 _ rfl; (with_reducible repeat (first | refine blk_drewN ?_ _ | refine blk_drew ?_ | refine blk_alloc ?_ _)); refine blk_put (cs := #[.int .i64 zj, .int .i64 0, .int .i64 0, .slice none 0 0]) ?_ 1 _ rfl; (with_reducible repeat (first | refine blk_drewN ?_ _ | refine blk_drew ?_ | refine blk_alloc ?_ _)); refine blk_put (cs := #[.int .i64 0, .int .i64 0, .int .i64 0, .slice none 0 0]) ?_ 0 _ rfl; (with_reducible repeat (first | refine blk_drewN ?_ _ | refine blk_drew ?_ | refine blk_alloc ?_ _)); exact zd.out⟩
            have n6_ : Aside0 (Below w.heap.size w ((((w118.setCell ⟨zb, 0, none⟩ (.int .i64 zj)).setCell ⟨zb, 1, none⟩ (.int .i64 zl)).setCell ⟨zb, 2, none⟩ (.int .i64 zm)).setCell ⟨zb, 3, none⟩ (.slice zJ zk.length zK))) := ⟨by repeat (first | (with_reducible first | exact HB.out | apply below_alloc | apply pw_below_drewN | apply below_drew1 | refine below_set ?_ zX.out) | exact HB.out)⟩
            (try clear HO_4)
            (try clear ze)
            (try clear zi)
            (try clear zc)
            (try clear za)
            (try clear zd)
            (try clear HB)
            generalize ((((w118.setCell ⟨zb, 0, none⟩ (.int .i64 zj)).setCell ⟨zb, 1, none⟩ (.int .i64 zl)).setCell ⟨zb, 2, none⟩ (.int .i64 zm)).setCell ⟨zb, 3, none⟩ (.slice zJ zk.length zK)) = w123 at n0_ n1_ n2_ n3_ n4_ n5_ n6_ ⊢
            have HO_4 := n0_
            have ze := n1_
            have zi := n2_
            have zc := n3_
            have za := n4_
            have zd := n5_
            have HB := n6_
            clear n0_ n1_ n2_ n3_ n4_ n5_ n6_
            have n0_ := Aside0.mk (Kd.R_drew HO_4.out)
            have n1_ := Aside0.mk (Kd.S_drew ze.out)
            have n2_ := Aside0.mk (Kd.S_drew zi.out)
            have n3_ := Aside0.mk (blk_drew zc.out)
            have n4_ := Aside0.mk (blk_drew za.out)
            have n5_ := Aside0.mk (blk_drew zd.out)
            have n6_ := Aside0.mk (below_drew1 HB.out)
            clear HO_4 ze zi zc za zd HB
            have HO_4 := n0_
            have ze := n1_
            have zi := n2_
            have zc := n3_
            have za := n4_
            have zd := n5_
            have HB := n6_
            clear n0_ n1_ n2_ n3_ n4_ n5_ n6_
            refine start_ (n := 30) (S := fun w' => w'.cell? ⟨zb, 0, none⟩ = some (.int .i64 zj) ∧ w'.cell? ⟨zb, 1, none⟩ = some (.int .i64 zl) ∧ w'.cell? ⟨zb, 2, none⟩ = some (.int .i64 zm) ∧ w'.cell? ⟨zb, 3, none⟩ = some (.slice zJ zk.length zK) ∧ w'.cell? ⟨zq, 0, none⟩ = some (.int .i64 zu) ∧ w'.cell? ⟨zq, 1, none⟩ = some (.int .i64 zy) ∧ w'.cell? ⟨zq, 2, none⟩ = some (.int .i64 zA)) (ds := []) #[f_, f_, f_, f_, f_, f_, f_, f_, f_, f_, f_, f_, f_, f_, f_, f_, f_, f_, f_, f_, f_, f_, f_, f_, f_, f_, f_, f_, f_, f_] (by kernel_rfl) rfl rfl ⟨(blk_cell zd.out 0).trans rfl, (blk_cell zd.out 1).trans rfl, (blk_cell zd.out 2).trans rfl, (blk_cell zd.out 3).trans rfl, (blk_cell zc.out 0).trans rfl, (blk_cell zc.out 1).trans rfl, (blk_cell zc.out 2).trans rfl⟩ (fun hHeld => ?_); refine with_tabW laws_FnDirty.tab20 laws_FnDirty.bits20 (fun HT_ HW_ => ?_)
            generalize w123.drew = w124 at HO_4 ze zi zc za zd HB hHeld ⊢
            refine take_ (i := 0) (N := some 91) (v := ?_) (a' := ?_) #[t_, f_, f_, f_, f_, f_, f_, f_, f_, f_, f_, f_, f_, f_, f_, f_, f_, f_, f_, f_, f_, f_, f_, f_, f_, f_, f_, f_, f_, f_] rfl rfl (take_ofW HT_.out HW_.out (by kernel_rfl)) (fun _ _ _ h => h) (Or.inl ⟨by rfl, ?_⟩) hHeld ?_ ?_
            rotate_left
            ·rintro w' ⟨s0, s1, s2, s3, s4, s5, s6⟩
             go_simp
             with_reducible rfl
            rotate_left
            ·simp only [Act.put, p1_, p2_, p3_, i64_w, i32_w]
             rfl
            refine one_ (i := 1) (N := some 92) #[t_, t_, f_, f_, f_, f_, f_, f_, f_, f_, f_, f_, f_, f_, f_, f_, f_, f_, f_, f_, f_, f_, f_, f_, f_, f_, f_, f_, f_, f_] rfl rfl (one_of HT_.out (by kernel_rfl)) (by decide) (fun K hK => ?_)
            refine goes_ Try.func48 (by kernel_rfl) rfl #[.agg #[.int .i64 zj, .int .i64 zl, .int .i64 zm, .slice zJ zk.length zK]] (by rfl) rfl rfl (by (try simp only [List.map_toArray, List.map_cons, List.map_nil]); first | done | rfl | (simp only [List.length_drop, List.length_take]; rfl)) ?_
            with_reducible refine (impl_CacheLines.calls k2 zj zl zm _ _ zk zR _ ?side1 ?side2 A85.out).mono ?_
            (case side1 => repeat (first | exact (Kd.S_reads' zi.out).2.2 | (with_reducible refine Kd.C_alloc ?_ _) | (with_reducible refine Kd.C_drewN ?_ _) | (with_reducible refine Kd.C_drew ?_)))
            (case side2 => exact (Kd.S_reads' zi.out).2.1)
            rintro e w125 ⟨zva, rfl, ho0, hb⟩
            refine ⟨_, rfl, ?_⟩
            have n0_ := Aside0.mk (Kd.R_below (rq HO_4.out) hb)
            have n1_ := Aside0.mk (Kd.S_below (by exact sqS ze.out) hb)
            have n2_ := Aside0.mk (Kd.S_below (by exact sqS zi.out) hb)
            have n3_ := Aside0.mk (Kd.R_lower ho0 (below_size (lq HB.out)))
            have n4_ := Aside0.mk (blk_below (bq zc.out) hb)
            have n5_ := Aside0.mk (blk_below (bq za.out) hb)
            have n6_ := Aside0.mk (blk_below (bq zd.out) hb)
            have n7_ := Aside0.mk (below_step (lq HB.out) hb)
            clear HO_4 ze zi zc za zd HB
            have HO_4 := n0_
            have ze := n1_
            have zi := n2_
            have zF := n3_
            have zc := n4_
            have za := n5_
            have zd := n6_
            have HB := n7_
            clear n0_ n1_ n2_ n3_ n4_ n5_ n6_ n7_
            (try clear hb)
            (try clear hb2)
            (try clear hk)
            (try clear hi)
            (try clear ho0)
            obtain ⟨Ao126, co126, eo126⟩ := Kd.R_slice zF.out
            (first | subst eo126 | (injection eo126 with f1_ f2_ f3_; have f4_ := f1_.symm; have f5_ := f3_.symm; clear f1_ f2_ f3_; subst f4_; subst f5_))
            refine hK.out _ _ ⟨(blk_cell zd.out 0).trans rfl, (blk_cell zd.out 1).trans rfl, (blk_cell zd.out 2).trans rfl, (blk_cell zd.out 3).trans rfl, (blk_cell zc.out 0).trans rfl, (blk_cell zc.out 1).trans rfl, (blk_cell zc.out 2).trans rfl⟩ (fun hHeld => ?_)
            clear hK K
            refine norm_ (a' := ?_) ?_ ?_
            rotate_left
            ·show Act.put _ (some 92) _ = _
             simp only [Act.put, p1_, p2_, p3_, i64_w, i32_w]
             rfl
            refine pure_ (i := 2) (N := some 93) (v := ?_) (a' := ?_) #[t_, t_, t_, f_, f_, f_, f_, f_, f_, f_, f_, f_, f_, f_, f_, f_, f_, f_, f_, f_, f_, f_, f_, f_, f_, f_, f_, f_, f_, f_] rfl rfl (any_of HT_.out (by kernel_rfl)) (fun _ _ _ h => h) (Or.inl ⟨by rfl, ?_⟩) ?_ ?_
            rotate_left
            ·intro w'; go_simp; with_reducible rfl
            rotate_left
            ·simp only [Act.put, p1_, p2_, p3_, i64_w, i32_w]; rfl
            refine pure_ (i := 3) (N := some 94) (v := ?_) (a' := ?_) #[t_, t_, t_, t_, f_, f_, f_, f_, f_, f_, f_, f_, f_, f_, f_, f_, f_, f_, f_, f_, f_, f_, f_, f_, f_, f_, f_, f_, f_, f_] rfl rfl (any_of HT_.out (by kernel_rfl)) (fun _ _ _ h => h) (Or.inl ⟨by rfl, ?_⟩) ?_ ?_
            rotate_left
            ·intro w'; go_simp; with_reducible rfl
            rotate_left
            ·simp only [Act.put, p1_, p2_, p3_, i64_w, i32_w]; rfl
            refine pure_ (i := 4) (N := some 95) (v := ?_) (a' := ?_) #[t_, t_, t_, t_, t_, f_, f_, f_, f_, f_, f_, f_, f_, f_, f_, f_, f_, f_, f_, f_, f_, f_, f_, f_, f_, f_, f_, f_, f_, f_] rfl rfl (any_of HT_.out (by kernel_rfl)) (fun _ _ _ h => h) (Or.inl ⟨by rfl, ?_⟩) ?_ ?_
            rotate_left
            ·intro w'; go_simp; with_reducible rfl
            rotate_left
            ·simp only [Act.put, p1_, p2_, p3_, i64_w, i32_w]; rfl
            refine take_ (i := 5) (N := some 96) (v := ?_) (a' := ?_) #[t_, t_, t_, t_, t_, t_, f_, f_, f_, f_, f_, f_, f_, f_, f_, f_, f_, f_, f_, f_, f_, f_, f_, f_, f_, f_, f_, f_, f_, f_] rfl rfl (take_ofW HT_.out HW_.out (by kernel_rfl)) (fun _ _ _ h => h) (Or.inl ⟨by rfl, ?_⟩) hHeld ?_ ?_
            rotate_left
            ·rintro w' ⟨s0, s1, s2, s3, s4, s5, s6⟩
             go_simp
             with_reducible rfl
            rotate_left
            ·simp only [Act.put, p1_, p2_, p3_, i64_w, i32_w]
             rfl
            refine one_ (i := 6) (N := some 97) #[t_, t_, t_, t_, t_, t_, t_, f_, f_, f_, f_, f_, f_, f_, f_, f_, f_, f_, f_, f_, f_, f_, f_, f_, f_, f_, f_, f_, f_, f_] rfl rfl (one_of HT_.out (by kernel_rfl)) (by decide) (fun K hK => ?_)
            refine goes_ Try.func45 (by kernel_rfl) rfl #[.agg #[.int .i64 zj, .int .i64 zl, .int .i64 zm, .slice zJ zk.length zK]] (by rfl) rfl rfl (by (try simp only [List.map_toArray, List.map_cons, List.map_nil]); first | done | rfl | (simp only [List.length_drop, List.length_take]; rfl)) ?_
            with_reducible refine (impl_CacheOk.calls k2 zj zl zm _ _ zk true _ ?side1 ?side2 A87.out).mono ?_
            (case side1 => repeat (first | exact (Kd.S_reads' zi.out).2.2 | (with_reducible refine Kd.C_alloc ?_ _) | (with_reducible refine Kd.C_drewN ?_ _) | (with_reducible refine Kd.C_drew ?_)))
            (case side2 => exact (Kd.S_reads' zi.out).2.1)
            rintro e w127 ⟨rfl, hb⟩
            refine ⟨_, rfl, ?_⟩
            have n0_ := Aside0.mk (Kd.R_below (rq HO_4.out) hb)
            have n1_ := Aside0.mk (Kd.S_below (by exact sqS ze.out) hb)
            have n2_ := Aside0.mk (Kd.S_below (by exact sqS zi.out) hb)
            have n3_ := Aside0.mk (Kd.R_below (rq zF.out) hb)
            have n4_ := Aside0.mk (blk_below (bq zc.out) hb)
            have n5_ := Aside0.mk (blk_below (bq za.out) hb)
            have n6_ := Aside0.mk (blk_below (bq zd.out) hb)
            have n7_ := Aside0.mk (below_step (lq HB.out) hb)
            clear HO_4 ze zi zF zc za zd HB
            have HO_4 := n0_
            have ze := n1_
            have zi := n2_
            have zF := n3_
            have zc := n4_
            have za := n5_
            have zd := n6_
            have HB := n7_
            clear n0_ n1_ n2_ n3_ n4_ n5_ n6_ n7_
            (try clear hb)
            (try clear hb2)
            (try clear hk)
            (try clear hi)
            refine hK.out _ _ ⟨(blk_cell zd.out 0).trans rfl, (blk_cell zd.out 1).trans rfl, (blk_cell zd.out 2).trans rfl, (blk_cell zd.out 3).trans rfl, (blk_cell zc.out 0).trans rfl, (blk_cell zc.out 1).trans rfl, (blk_cell zc.out 2).trans rfl⟩ (fun hHeld => ?_)
            clear hK K
            refine norm_ (a' := ?_) ?_ ?_
            rotate_left
            ·show Act.put _ (some 97) _ = _
             simp only [Act.put, p1_, p2_, p3_, i64_w, i32_w]
             rfl
            refine pure_ (i := 7) (N := some 98) (v := ?_) (a' := ?_) #[t_, t_, t_, t_, t_, t_, t_, t_, f_, f_, f_, f_, f_, f_, f_, f_, f_, f_, f_, f_, f_, f_, f_, f_, f_, f_, f_, f_, f_, f_] rfl rfl (any_of HT_.out (by kernel_rfl)) (fun _ _ _ h => h) (Or.inl ⟨by rfl, ?_⟩) ?_ ?_
            rotate_left
            ·intro w'; go_simp; with_reducible rfl
            rotate_left
            ·simp only [Act.put, p1_, p2_, p3_, i64_w, i32_w]; rfl
            refine pure_ (i := 8) (N := some 99) (v := ?_) (a' := ?_) #[t_, t_, t_, t_, t_, t_, t_, t_, t_, f_, f_, f_, f_, f_, f_, f_, f_, f_, f_, f_, f_, f_, f_, f_, f_, f_, f_, f_, f_, f_] rfl rfl (any_of HT_.out (by kernel_rfl)) (fun _ _ _ h => h) (Or.inl ⟨by rfl, ?_⟩) ?_ ?_
            rotate_left
            ·intro w'; go_simp; with_reducible rfl
            rotate_left
            ·simp only [Act.put, p1_, p2_, p3_, i64_w, i32_w]; rfl
            refine pure_ (i := 9) (N := some 100) (v := ?_) (a' := ?_) #[t_, t_, t_, t_, t_, t_, t_, t_, t_, t_, f_, f_, f_, f_, f_, f_, f_, f_, f_, f_, f_, f_, f_, f_, f_, f_, f_, f_, f_, f_] rfl rfl (any_of HT_.out (by kernel_rfl)) (fun _ _ _ h => h) (Or.inl ⟨by rfl, ?_⟩) ?_ ?_
            rotate_left
            ·intro w'; go_simp; with_reducible rfl
            rotate_left
            ·simp only [Act.put, p1_, p2_, p3_, i64_w, i32_w]; rfl
            refine take_ (i := 10) (N := some 101) (v := ?_) (a' := ?_) #[t_, t_, t_, t_, t_, t_, t_, t_, t_, t_, t_, f_, f_, f_, f_, f_, f_, f_, f_, f_, f_, f_, f_, f_, f_, f_, f_, f_, f_, f_] rfl rfl (take_ofW HT_.out HW_.out (by kernel_rfl)) (fun _ _ _ h => h) (Or.inl ⟨by rfl, ?_⟩) hHeld ?_ ?_
            rotate_left
            ·rintro w' ⟨s0, s1, s2, s3, s4, s5, s6⟩
             go_simp
             with_reducible rfl
            rotate_left
            ·simp only [Act.put, p1_, p2_, p3_, i64_w, i32_w]
             rfl
            refine one_ (i := 11) (N := some 102) #[t_, t_, t_, t_, t_, t_, t_, t_, t_, t_, t_, t_, f_, f_, f_, f_, f_, f_, f_, f_, f_, f_, f_, f_, f_, f_, f_, f_, f_, f_] rfl rfl (one_of HT_.out (by kernel_rfl)) (by decide) (fun K hK => ?_)
            refine goes_ Try.func49 (by kernel_rfl) rfl #[.agg #[.int .i64 zu, .int .i64 zy, .int .i64 zA]] (by rfl) rfl rfl (by (try simp only [List.map_toArray, List.map_cons, List.map_nil]); first | done | rfl | (simp only [List.length_drop, List.length_take]; rfl)) ?_
            with_reducible refine (impl_WorstDirty.calls zu zy zA zY _ A89.out).mono ?_
            rintro e w128 ⟨rfl, hb⟩
            refine ⟨_, rfl, ?_⟩
            have n0_ := Aside0.mk (Kd.R_below (rq HO_4.out) hb)
            have n1_ := Aside0.mk (Kd.S_below (by exact sqS ze.out) hb)
            have n2_ := Aside0.mk (Kd.S_below (by exact sqS zi.out) hb)
            have n3_ := Aside0.mk (Kd.R_below (rq zF.out) hb)
            have n4_ := Aside0.mk (blk_below (bq zc.out) hb)
            have n5_ := Aside0.mk (blk_below (bq za.out) hb)
            have n6_ := Aside0.mk (blk_below (bq zd.out) hb)
            have n7_ := Aside0.mk (below_step (lq HB.out) hb)
            clear HO_4 ze zi zF zc za zd HB
            have HO_4 := n0_
            have ze := n1_
            have zi := n2_
            have zF := n3_
            have zc := n4_
            have za := n5_
            have zd := n6_
            have HB := n7_
            clear n0_ n1_ n2_ n3_ n4_ n5_ n6_ n7_
            (try clear hb)
            (try clear hb2)
            (try clear hk)
            (try clear hi)
            refine hK.out _ _ ⟨(blk_cell zd.out 0).trans rfl, (blk_cell zd.out 1).trans rfl, (blk_cell zd.out 2).trans rfl, (blk_cell zd.out 3).trans rfl, (blk_cell zc.out 0).trans rfl, (blk_cell zc.out 1).trans rfl, (blk_cell zc.out 2).trans rfl⟩ (fun hHeld => ?_)
            clear hK K
            refine norm_ (a' := ?_) ?_ ?_
            rotate_left
            ·show Act.put _ (some 102) _ = _
             simp only [Act.put, p1_, p2_, p3_, i64_w, i32_w]
             rfl
            refine pure_ (i := 12) (N := some 103) (v := ?_) (a' := ?_) #[t_, t_, t_, t_, t_, t_, t_, t_, t_, t_, t_, t_, t_, f_, f_, f_, f_, f_, f_, f_, f_, f_, f_, f_, f_, f_, f_, f_, f_, f_] rfl rfl (any_of HT_.out (by kernel_rfl)) (fun _ _ _ h => h) (Or.inl ⟨by rfl, ?_⟩) ?_ ?_
            rotate_left
            ·intro w'; go_simp; with_reducible rfl
            rotate_left
            ·simp only [Act.put, p1_, p2_, p3_, i64_w, i32_w]; rfl
            refine pure_ (i := 13) (N := some 104) (v := ?_) (a' := ?_) #[t_, t_, t_, t_, t_, t_, t_, t_, t_, t_, t_, t_, t_, t_, f_, f_, f_, f_, f_, f_, f_, f_, f_, f_, f_, f_, f_, f_, f_, f_] rfl rfl (any_of HT_.out (by kernel_rfl)) (fun _ _ _ h => h) (Or.inl ⟨by rfl, ?_⟩) ?_ ?_
            rotate_left
            ·intro w'; go_simp; with_reducible rfl
            rotate_left
            ·simp only [Act.put, p1_, p2_, p3_, i64_w, i32_w]; rfl
            refine pure_ (i := 14) (N := some 105) (v := ?_) (a' := ?_) #[t_, t_, t_, t_, t_, t_, t_, t_, t_, t_, t_, t_, t_, t_, t_, f_, f_, f_, f_, f_, f_, f_, f_, f_, f_, f_, f_, f_, f_, f_] rfl rfl (any_of HT_.out (by kernel_rfl)) (fun _ _ _ h => h) (Or.inl ⟨by rfl, ?_⟩) ?_ ?_
            rotate_left
            ·intro w'; go_simp; with_reducible rfl
            rotate_left
            ·simp only [Act.put, p1_, p2_, p3_, i64_w, i32_w]; rfl
            refine pure_ (i := 15) (N := some 106) (v := ?_) (a' := ?_) #[t_, t_, t_, t_, t_, t_, t_, t_, t_, t_, t_, t_, t_, t_, t_, t_, f_, f_, f_, f_, f_, f_, f_, f_, f_, f_, f_, f_, f_, f_] rfl rfl (any_of HT_.out (by kernel_rfl)) (fun _ _ _ h => h) (Or.inl ⟨by rfl, ?_⟩) ?_ ?_
            rotate_left
            ·intro w'; go_simp; with_reducible rfl
            rotate_left
            ·simp only [Act.put, p1_, p2_, p3_, i64_w, i32_w]; rfl
            refine pure_ (i := 16) (N := some 107) (v := ?_) (a' := ?_) #[t_, t_, t_, t_, t_, t_, t_, t_, t_, t_, t_, t_, t_, t_, t_, t_, t_, f_, f_, f_, f_, f_, f_, f_, f_, f_, f_, f_, f_, f_] rfl rfl (any_of HT_.out (by kernel_rfl)) (fun _ _ _ h => h) (Or.inl ⟨by rfl, ?_⟩) ?_ ?_
            rotate_left
            ·intro w'; go_simp; with_reducible rfl
            rotate_left
            ·simp only [Act.put, p1_, p2_, p3_, i64_w, i32_w]; rfl
            refine pure_ (i := 17) (N := some 108) (v := ?_) (a' := ?_) #[t_, t_, t_, t_, t_, t_, t_, t_, t_, t_, t_, t_, t_, t_, t_, t_, t_, t_, f_, f_, f_, f_, f_, f_, f_, f_, f_, f_, f_, f_] rfl rfl (any_of HT_.out (by kernel_rfl)) (fun _ _ _ h => h) (Or.inl ⟨by rfl, ?_⟩) ?_ ?_
            rotate_left
            ·intro w'; go_simp; with_reducible rfl
            rotate_left
            ·simp only [Act.put, p1_, p2_, p3_, i64_w, i32_w]; rfl
            refine pure_ (i := 18) (N := some 109) (v := ?_) (a' := ?_) #[t_, t_, t_, t_, t_, t_, t_, t_, t_, t_, t_, t_, t_, t_, t_, t_, t_, t_, t_, f_, f_, f_, f_, f_, f_, f_, f_, f_, f_, f_] rfl rfl (any_of HT_.out (by kernel_rfl)) (fun _ _ _ h => h) (Or.inl ⟨by rfl, ?_⟩) ?_ ?_
            rotate_left
            ·intro w'; go_simp; with_reducible rfl
            rotate_left
            ·simp only [Act.put, p1_, p2_, p3_, i64_w, i32_w]; rfl
            refine pure_ (i := 19) (N := some 110) (v := ?_) (a' := ?_) #[t_, t_, t_, t_, t_, t_, t_, t_, t_, t_, t_, t_, t_, t_, t_, t_, t_, t_, t_, t_, f_, f_, f_, f_, f_, f_, f_, f_, f_, f_] rfl rfl (any_of HT_.out (by kernel_rfl)) (fun _ _ _ h => h) (Or.inl ⟨by rfl, ?_⟩) ?_ ?_
            rotate_left
            ·intro w'; go_simp; with_reducible rfl
            rotate_left
            ·simp only [Act.put, p1_, p2_, p3_, i64_w, i32_w]; rfl
            refine pure_ (i := 20) (N := some 111) (v := ?_) (a' := ?_) #[t_, t_, t_, t_, t_, t_, t_, t_, t_, t_, t_, t_, t_, t_, t_, t_, t_, t_, t_, t_, t_, f_, f_, f_, f_, f_, f_, f_, f_, f_] rfl rfl (any_of HT_.out (by kernel_rfl)) (fun _ _ _ h => h) (Or.inl ⟨by rfl, ?_⟩) ?_ ?_
            rotate_left
            ·intro w'; go_simp; with_reducible rfl
            rotate_left
            ·simp only [Act.put, p1_, p2_, p3_, i64_w, i32_w]; rfl
            refine pure_ (i := 21) (N := some 112) (v := ?_) (a' := ?_) #[t_, t_, t_, t_, t_, t_, t_, t_, t_, t_, t_, t_, t_, t_, t_, t_, t_, t_, t_, t_, t_, t_, f_, f_, f_, f_, f_, f_, f_, f_] rfl rfl (any_of HT_.out (by kernel_rfl)) (fun _ _ _ h => h) (Or.inl ⟨by rfl, ?_⟩) ?_ ?_
            rotate_left
            ·intro w'; go_simp; with_reducible rfl
            rotate_left
            ·simp only [Act.put, p1_, p2_, p3_, i64_w, i32_w]; rfl
            refine pure_ (i := 22) (N := some 113) (v := undef) (a' := ?_) #[t_, t_, t_, t_, t_, t_, t_, t_, t_, t_, t_, t_, t_, t_, t_, t_, t_, t_, t_, t_, t_, t_, t_, f_, f_, f_, f_, f_, f_, f_] rfl rfl (any_of HT_.out (by kernel_rfl)) (fun _ _ _ h => h) (Or.inr ⟨by rfl, rfl⟩) ?_ ?_
            rotate_left
            ·simp only [Act.put, p1_, p2_, p3_, i64_w, i32_w]
             rfl
            refine pure_ (i := 23) (N := some 114) (v := undef) (a' := ?_) #[t_, t_, t_, t_, t_, t_, t_, t_, t_, t_, t_, t_, t_, t_, t_, t_, t_, t_, t_, t_, t_, t_, t_, t_, f_, f_, f_, f_, f_, f_] rfl rfl (any_of HT_.out (by kernel_rfl)) (fun _ _ _ h => h) (Or.inr ⟨by rfl, rfl⟩) ?_ ?_
            rotate_left
            ·simp only [Act.put, p1_, p2_, p3_, i64_w, i32_w]
             rfl
            refine pure_ (i := 24) (N := some 115) (v := undef) (a' := ?_) #[t_, t_, t_, t_, t_, t_, t_, t_, t_, t_, t_, t_, t_, t_, t_, t_, t_, t_, t_, t_, t_, t_, t_, t_, t_, f_, f_, f_, f_, f_] rfl rfl (any_of HT_.out (by kernel_rfl)) (fun _ _ _ h => h) (Or.inr ⟨by rfl, rfl⟩) ?_ ?_
            rotate_left
            ·simp only [Act.put, p1_, p2_, p3_, i64_w, i32_w]
             rfl
            refine pure_ (i := 25) (N := some 116) (v := undef) (a' := ?_) #[t_, t_, t_, t_, t_, t_, t_, t_, t_, t_, t_, t_, t_, t_, t_, t_, t_, t_, t_, t_, t_, t_, t_, t_, t_, t_, f_, f_, f_, f_] rfl rfl (any_of HT_.out (by kernel_rfl)) (fun _ _ _ h => h) (Or.inr ⟨by rfl, rfl⟩) ?_ ?_
            rotate_left
            ·simp only [Act.put, p1_, p2_, p3_, i64_w, i32_w]
             rfl
            refine pure_ (i := 26) (N := some 117) (v := undef) (a' := ?_) #[t_, t_, t_, t_, t_, t_, t_, t_, t_, t_, t_, t_, t_, t_, t_, t_, t_, t_, t_, t_, t_, t_, t_, t_, t_, t_, t_, f_, f_, f_] rfl rfl (any_of HT_.out (by kernel_rfl)) (fun _ _ _ h => h) (Or.inr ⟨by rfl, rfl⟩) ?_ ?_
            rotate_left
            ·simp only [Act.put, p1_, p2_, p3_, i64_w, i32_w]
             rfl
            refine pure_ (i := 27) (N := some 118) (v := undef) (a' := ?_) #[t_, t_, t_, t_, t_, t_, t_, t_, t_, t_, t_, t_, t_, t_, t_, t_, t_, t_, t_, t_, t_, t_, t_, t_, t_, t_, t_, t_, f_, f_] rfl rfl (any_of HT_.out (by kernel_rfl)) (fun _ _ _ h => h) (Or.inr ⟨by rfl, rfl⟩) ?_ ?_
            rotate_left
            ·simp only [Act.put, p1_, p2_, p3_, i64_w, i32_w]
             rfl
            refine pure_ (i := 28) (N := some 119) (v := ?_) (a' := ?_) #[t_, t_, t_, t_, t_, t_, t_, t_, t_, t_, t_, t_, t_, t_, t_, t_, t_, t_, t_, t_, t_, t_, t_, t_, t_, t_, t_, t_, t_, f_] rfl rfl (any_of HT_.out (by kernel_rfl)) (fun _ _ _ h => h) (Or.inl ⟨by rfl, ?_⟩) ?_ ?_
            rotate_left
            ·intro w'; go_simp; with_reducible rfl
            rotate_left
            ·simp only [Act.put, p1_, p2_, p3_, i64_w, i32_w]; rfl
            refine pure_ (i := 29) (N := some 2) (v := ?_) (a' := ?_) #[t_, t_, t_, t_, t_, t_, t_, t_, t_, t_, t_, t_, t_, t_, t_, t_, t_, t_, t_, t_, t_, t_, t_, t_, t_, t_, t_, t_, t_, t_] rfl rfl (any_of HT_.out (by kernel_rfl)) (fun _ _ _ h => h) (Or.inl ⟨by rfl, ?_⟩) ?_ ?_
            rotate_left
            ·intro w'; go_simp; with_reducible rfl
            rotate_left
            ·simp only [Act.put, p1_, p2_, p3_, i64_w, i32_w]; rfl
            refine done_ (done_of HT_.out (by kernel_rfl)) ?_
            try go_wp2
            go_ret
            exact ⟨by first | rfl | (simp [errW_none, errW_some] <;> rfl) | (simp [*, errW_none, errW_some] <;> rfl), by exact lq HB.out⟩
          ·rw [if_neg c90] at H
           have c90b0 : decide (zV ≤ zY) = false := decide_eq_false c90
           clear c90
           obtain rfl := Option.some.inj H
           obtain ⟨zOb, zPb, eo129⟩ := Kd.R_slice HO_4.out
           subst eo129
           have hnb130 := NB513_502.out
           have hnc130 := NB502_513.out
           have hcz131_0 : wr.cell? ⟨zh, 0, none⟩ = some (.int .i64 zB) := (blk_cell za.out 0).trans rfl
           have hcz131_1 : wr.cell? ⟨zh, 1, none⟩ = some (.int .i64 zz) := (blk_cell za.out 1).trans rfl
           have hcz131_2 : wr.cell? ⟨zh, 2, none⟩ = some (.int .i64 zv) := (blk_cell za.out 2).trans rfl
           have hcz131_3 : wr.cell? ⟨zh, 3, none⟩ = some (u514003) := (blk_cell za.out 3).trans rfl
           have hfz131_0 := blk_frozen za.out 0
           have hfz131_1 := blk_frozen za.out 1
           have hfz131_2 := blk_frozen za.out 2
           have hfz131_3 := blk_frozen za.out 3
           obtain ⟨zza, zAa, eo132⟩ := Kd.S_slice ze.out
           subst eo132
           try go_wp2_with (first | ((with_reducible refine gate_callee (f := 47) rfl ?_); refine goesL_ (some 88) rfl rfl Try.func47 (by kernel_rfl) rfl #[.agg #[.int .i64 zB, .int .i64 zz, .int .i64 zv, .slice zza zn.length zAa]] rfl (by (try simp only [List.map_toArray, List.map_cons, List.map_nil]); first | done | rfl | (simp only [List.length_drop, List.length_take]; rfl)) ?_; (with_reducible refine (impl_CacheFlush.calls k2 zB zz zv _ _ zn zj zl zm zk zV _ ?side1 ?side2 A84.out).mono ?_); (case side1 => repeat (first | exact (Kd.S_reads' ze.out).2.2 | (with_reducible refine Kd.C_alloc ?_ _) | (with_reducible refine Kd.C_drewN ?_ _) | (with_reducible refine Kd.C_drew ?_))); (case side2 => exact (Kd.S_reads' ze.out).2.1); rintro e w133 ⟨zua, rfl, ho0, hb⟩; refine ⟨_, rfl, ?_⟩; have n0_ := Aside0.mk (Kd.R_below (rq HO_4.out) hb); have n1_ := Aside0.mk (Kd.S_elder' (by exact sqS ze.out) (Kd.S_base ho0) hb); have n2_ := Aside0.mk (Kd.S_lower (Kd.S_new' ho0 (Kd.S_lt (by exact sqS ze.out))) (below_size (lq HB.out))); have n3_ := Aside0.mk (blk_below (bq zc.out) hb); have n4_ := Aside0.mk (blk_below (bq za.out) hb); have n5_ := Aside0.mk (below_step (lq HB.out) hb); clear HO_4; clear ze; clear zc; clear za; clear HB; have HO_4 := n0_; have ze := n1_; have zi := n2_; have zc := n3_; have za := n4_; have HB := n5_; clear n0_ n1_ n2_ n3_ n4_ n5_; (try clear hb); (try clear hb2); (try clear hk); (try clear hi); (try clear ho0)) | ((with_reducible refine gate_dst (N := 12) rfl ?_); (try (refine gate_guard (by rfl) ?_; dsimp only)); refine box_event ?hg (N := 12) ?hd (cs := #[.int .i64 0, .int .i64 0, .int .i64 0, .slice none 0 0]) (t := 70) ?hr ?_; (case hd => rfl); (case hg => rfl); (case hr => first | (go_simp; done) | (go_simp; rfl)); intro zb hg w134 hbox hb; have n0_ := Aside0.mk (Kd.R_below (rq HO_4.out) hb); have n1_ := Aside0.mk (Kd.S_below (by exact sqS ze.out) hb); have n2_ := Aside0.mk (Kd.S_below (by exact sqS zi.out) hb); have n3_ := Aside0.mk (blk_below (bq zc.out) hb); have n4_ := Aside0.mk (blk_below (bq za.out) hb); have n5_ := Aside0.mk (below_step (lq HB.out) hb); have n6_ := Aside0.mk (hbox); have n7_ := Aside0.mk ((ge_new hg (lq HB.out) : w.heap.size ≤ zb)); have n8_ := Aside0.mk ((ge_new hg (lq HB.out) : w.heap.size ≤ zb)); have n9_ := Aside0.mk ((ne_new hg (bq zc.out) : zq ≠ zb)); have n10_ := Aside0.mk ((new_ne hg (bq zc.out) : zb ≠ zq)); have n11_ := Aside0.mk ((ne_new hg (bq za.out) : zh ≠ zb)); have n12_ := Aside0.mk ((new_ne hg (bq za.out) : zb ≠ zh)); clear HO_4; clear ze; clear zi; clear zc; clear za; clear HB; have HO_4 := n0_; have ze := n1_; have zi := n2_; have zc := n3_; have za := n4_; have HB := n5_; have zd := n6_; have GW536 := n7_; have zX := n8_; have NB502_536 := n9_; have NB536_502 := n10_; have NB513_536 := n11_; have NB536_513 := n12_; clear n0_ n1_ n2_ n3_ n4_ n5_ n6_ n7_ n8_ n9_ n10_ n11_ n12_; clear hb hbox hg; have hnb135 := NB536_502.out; have hnc135 := NB502_536.out; have hnb136 := NB536_513.out; have hnc136 := NB513_536.out; have hcz137_0 : w134.cell? ⟨zb, 0, none⟩ = some (.int .i64 0) := (blk_cell zd.out 0).trans rfl; have hcz137_1 : w134.cell? ⟨zb, 1, none⟩ = some (.int .i64 0) := (blk_cell zd.out 1).trans rfl; have hcz137_2 : w134.cell? ⟨zb, 2, none⟩ = some (.int .i64 0) := (blk_cell zd.out 2).trans rfl; have hcz137_3 : w134.cell? ⟨zb, 3, none⟩ = some (.slice none 0 0) := (blk_cell zd.out 3).trans rfl; have hfz137_0 := blk_frozen zd.out 0; have hfz137_1 := blk_frozen zd.out 1; have hfz137_2 := blk_frozen zd.out 2; have hfz137_3 := blk_frozen zd.out 3; obtain ⟨zL, zM, eo138⟩ := Kd.S_slice zi.out; subst eo138))
           have n0_ : Aside0 (Kd.R k32 32 ((((w134.setCell ⟨zb, 0, none⟩ (.int .i64 zj)).setCell ⟨zb, 1, none⟩ (.int .i64 zl)).setCell ⟨zb, 2, none⟩ (.int .i64 zm)).setCell ⟨zb, 3, none⟩ (.slice zL zk.length zM)) w.heap.size (fun _ => True) (.slice zOb zp.length zPb) zp) := ⟨by (with_reducible repeat (first | apply Kd.R_alloc | apply Kd.R_drewN | apply Kd.R_drew)); exact Kd.R_mono (Kd.R_far (p := ⟨zb, 3, none⟩) (Kd.R_far (p := ⟨zb, 2, none⟩) (Kd.R_far (p := ⟨zb, 1, none⟩) (Kd.R_far (p := ⟨zb, 0, none⟩) (Kd.R_types HO_4.out zd.out (by decide)) (fun _ hk => hk.2) (.int .i64 zj)) (fun _ hk => hk.2) (.int .i64 zl)) (fun _ hk => hk.2) (.int .i64 zm)) (fun _ hk => hk.2) (.slice zL zk.length zM)) (fun _ hk => trivial)⟩
           have n1_ : Aside0 (Kd.S (Kd.slice 118 k118) 116 ((((w134.setCell ⟨zb, 0, none⟩ (.int .i64 zj)).setCell ⟨zb, 1, none⟩ (.int .i64 zl)).setCell ⟨zb, 2, none⟩ (.int .i64 zm)).setCell ⟨zb, 3, none⟩ (.slice zL zk.length zM)) w.heap.size (fun k_ => some k_ ≠ (.slice zL zk.length zM : Value).ownBlock) (.slice zza zn.length zAa) zn) := ⟨by (with_reducible repeat (first | apply Kd.S_alloc | apply Kd.S_drewN | apply Kd.S_drew)); exact Kd.S_mono (Kd.S_far (p := ⟨zb, 3, none⟩) (Kd.S_far (p := ⟨zb, 2, none⟩) (Kd.S_far (p := ⟨zb, 1, none⟩) (Kd.S_far (p := ⟨zb, 0, none⟩) (Kd.S_types ze.out zd.out (by decide)) (fun _ hk => hk.2) (.int .i64 zj)) (fun _ hk => hk.2) (.int .i64 zl)) (fun _ hk => hk.2) (.int .i64 zm)) (fun _ hk => hk.2) (.slice zL zk.length zM)) (fun _ hk => hk.1.2)⟩
           have n2_ : Aside0 (Kd.S (Kd.slice 118 k118) 116 ((((w134.setCell ⟨zb, 0, none⟩ (.int .i64 zj)).setCell ⟨zb, 1, none⟩ (.int .i64 zl)).setCell ⟨zb, 2, none⟩ (.int .i64 zm)).setCell ⟨zb, 3, none⟩ (.slice zL zk.length zM)) w.heap.size (fun k_ => some k_ ≠ (.slice zza zn.length zAa : Value).ownBlock) (.slice zL zk.length zM) zk) := ⟨by (with_reducible repeat (first | apply Kd.S_alloc | apply Kd.S_drewN | apply Kd.S_drew)); exact Kd.S_mono (Kd.S_far (p := ⟨zb, 3, none⟩) (Kd.S_far (p := ⟨zb, 2, none⟩) (Kd.S_far (p := ⟨zb, 1, none⟩) (Kd.S_far (p := ⟨zb, 0, none⟩) (Kd.S_types zi.out zd.out (by decide)) (fun _ hk => hk.2) (.int .i64 zj)) (fun _ hk => hk.2) (.int .i64 zl)) (fun _ hk => hk.2) (.int .i64 zm)) (fun _ hk => hk.2) (.slice zL zk.length zM)) (fun _ hk => hk.1.2)⟩
           have n3_ : Aside0 (((((w134.setCell ⟨zb, 0, none⟩ (.int .i64 zj)).setCell ⟨zb, 1, none⟩ (.int .i64 zl)).setCell ⟨zb, 2, none⟩ (.int .i64 zm)).setCell ⟨zb, 3, none⟩ (.slice zL zk.length zM)).heap[zq]? = some (.cells #[.int .i64 zu, .int .i64 zy, .int .i64 zA] 25 (0, 0))) := ⟨by (with_reducible repeat (first | refine blk_drewN ?_ _ | refine blk_drew ?_ | refine blk_alloc ?_ _)); refine blk_far ?_ NB502_536.out _; (with_reducible repeat (first | refine blk_drewN ?_ _ | refine blk_drew ?_ | refine blk_alloc ?_ _)); refine blk_far ?_ NB502_536.out _; (with_reducible repeat (first | refine blk_drewN ?_ _ | refine blk_drew ?_ | refine blk_alloc ?_ _)); refine blk_far ?_ NB502_536.out _; (with_reducible repeat (first | refine blk_drewN ?_ _ | refine blk_drew ?_ | refine blk_alloc ?_ _)); refine blk_far ?_ NB502_536.out _; (with_reducible repeat (first | refine blk_drewN ?_ _ | refine blk_drew ?_ | refine blk_alloc ?_ _)); exact zc.out⟩
           have n4_ : Aside0 (((((w134.setCell ⟨zb, 0, none⟩ (.int .i64 zj)).setCell ⟨zb, 1, none⟩ (.int .i64 zl)).setCell ⟨zb, 2, none⟩ (.int .i64 zm)).setCell ⟨zb, 3, none⟩ (.slice zL zk.length zM)).heap[zh]? = some (.cells #[.int .i64 zB, .int .i64 zz, .int .i64 zv, .slice zza zn.length zAa] 70 (0, 0))) := ⟨by (with_reducible repeat (first | refine blk_drewN ?_ _ | refine blk_drew ?_ | refine blk_alloc ?_ _)); refine blk_far ?_ NB513_536.out _; (with_reducible repeat (first | refine blk_drewN ?_ _ | refine blk_drew ?_ | refine blk_alloc ?_ _)); refine blk_far ?_ NB513_536.out _; (with_reducible repeat (first | refine blk_drewN ?_ _ | refine blk_drew ?_ | refine blk_alloc ?_ _)); refine blk_far ?_ NB513_536.out _; (with_reducible repeat (first | refine blk_drewN ?_ _ | refine blk_drew ?_ | refine blk_alloc ?_ _)); refine blk_far ?_ NB513_536.out _; (with_reducible repeat (first | refine blk_drewN ?_ _ | refine blk_drew ?_ | refine blk_alloc ?_ _)); exact za.out⟩
           have n5_ : Aside0 (((((w134.setCell ⟨zb, 0, none⟩ (.int .i64 zj)).setCell ⟨zb, 1, none⟩ (.int .i64 zl)).setCell ⟨zb, 2, none⟩ (.int .i64 zm)).setCell ⟨zb, 3, none⟩ (.slice zL zk.length zM)).heap[zb]? = some (.cells #[.int .i64 zj, .int .i64 zl, .int .i64 zm, .slice zL zk.length zM] 70 (0, 0))) := ⟨by (with_reducible repeat (first | refine blk_drewN ?_ _ | refine blk_drew ?_ | refine blk_alloc ?_ _)); refine blk_put (cs := #[.int .i64 zj, .int .i64 zl, .int .i64 zm, .slice none 0 0]) ?_ 3 _ rfl; (with_reducible repeat (first | refine blk_drewN ?_ _ | refine blk_drew ?_ | refine blk_alloc ?_ _)); refine blk_put (cs := #[.int .i64 zj, .int .i64 zl, .int .i64 0, .slice none 0 0]) ?_ 2 _ rfl; (with_reducible repeat (first | refine blk_drewN ?_ _ | refine blk_drew ?_ | refine blk_alloc ?_ _)); refine blk_put (cs := #[.int .i64 zj, .int .i64 0, .int .i64 0, .slice none 0 0]) ?_ 1 _ rfl; (with_reducible repeat (first | refine blk_drewN ?_ _ | refine blk_drew ?_ | refine blk_alloc ?_ _)); refine blk_put (cs := #[.int .i64 0, .int .i64 0, .int .i64 0, .slice none 0 0]) ?_ 0 _ rfl; (with_reducible repeat (first | refine blk_drewN ?_ _ | refine blk_drew ?_ | refine blk_alloc ?_ _)); exact zd.out⟩
           have n6_ : Aside0 (Below w.heap.size w ((((w134.setCell ⟨zb, 0, none⟩ (.int .i64 zj)).setCell ⟨zb, 1, none⟩ (.int .i64 zl)).setCell ⟨zb, 2, none⟩ (.int .i64 zm)).setCell ⟨zb, 3, none⟩ (.slice zL zk.length zM))) := ⟨by repeat (first | (with_reducible first | exact HB.out | apply below_alloc | apply pw_below_drewN | apply below_drew1 | refine below_set ?_ zX.out) | exact HB.out)⟩
           (try clear HO_4)
           (try clear ze)
           (try clear zi)
           (try clear zc)
           (try clear za)
           (try clear zd)
           (try clear HB)
           generalize ((((w134.setCell ⟨zb, 0, none⟩ (.int .i64 zj)).setCell ⟨zb, 1, none⟩ (.int .i64 zl)).setCell ⟨zb, 2, none⟩ (.int .i64 zm)).setCell ⟨zb, 3, none⟩ (.slice zL zk.length zM)) = w139 at n0_ n1_ n2_ n3_ n4_ n5_ n6_ ⊢
           have HO_4 := n0_
           have ze := n1_
           have zi := n2_
           have zc := n3_
           have za := n4_
           have zd := n5_
           have HB := n6_
           clear n0_ n1_ n2_ n3_ n4_ n5_ n6_
           have n0_ := Aside0.mk (Kd.R_drew HO_4.out)
           have n1_ := Aside0.mk (Kd.S_drew ze.out)
           have n2_ := Aside0.mk (Kd.S_drew zi.out)
           have n3_ := Aside0.mk (blk_drew zc.out)
           have n4_ := Aside0.mk (blk_drew za.out)
           have n5_ := Aside0.mk (blk_drew zd.out)
           have n6_ := Aside0.mk (below_drew1 HB.out)
           clear HO_4 ze zi zc za zd HB
           have HO_4 := n0_
           have ze := n1_
           have zi := n2_
           have zc := n3_
           have za := n4_
           have zd := n5_
           have HB := n6_
           clear n0_ n1_ n2_ n3_ n4_ n5_ n6_
           refine start_ (n := 30) (S := fun w' => w'.cell? ⟨zb, 0, none⟩ = some (.int .i64 zj) ∧ w'.cell? ⟨zb, 1, none⟩ = some (.int .i64 zl) ∧ w'.cell? ⟨zb, 2, none⟩ = some (.int .i64 zm) ∧ w'.cell? ⟨zb, 3, none⟩ = some (.slice zL zk.length zM) ∧ w'.cell? ⟨zq, 0, none⟩ = some (.int .i64 zu) ∧ w'.cell? ⟨zq, 1, none⟩ = some (.int .i64 zy) ∧ w'.cell? ⟨zq, 2, none⟩ = some (.int .i64 zA)) (ds := []) #[f_, f_, f_, f_, f_, f_, f_, f_, f_, f_, f_, f_, f_, f_, f_, f_, f_, f_, f_, f_, f_, f_, f_, f_, f_, f_, f_, f_, f_, f_] (by kernel_rfl) rfl rfl ⟨(blk_cell zd.out 0).trans rfl, (blk_cell zd.out 1).trans rfl, (blk_cell zd.out 2).trans rfl, (blk_cell zd.out 3).trans rfl, (blk_cell zc.out 0).trans rfl, (blk_cell zc.out 1).trans rfl, (blk_cell zc.out 2).trans rfl⟩ (fun hHeld => ?_); refine with_tabW laws_FnDirty.tab20 laws_FnDirty.bits20 (fun HT_ HW_ => ?_)
           generalize w139.drew = w140 at HO_4 ze zi zc za zd HB hHeld ⊢
           refine take_ (i := 0) (N := some 91) (v := ?_) (a' := ?_) #[t_, f_, f_, f_, f_, f_, f_, f_, f_, f_, f_, f_, f_, f_, f_, f_, f_, f_, f_, f_, f_, f_, f_, f_, f_, f_, f_, f_, f_, f_] rfl rfl (take_ofW HT_.out HW_.out (by kernel_rfl)) (fun _ _ _ h => h) (Or.inl ⟨by rfl, ?_⟩) hHeld ?_ ?_
           rotate_left
           ·rintro w' ⟨s0, s1, s2, s3, s4, s5, s6⟩
            go_simp
            with_reducible rfl
           rotate_left
           ·simp only [Act.put, p1_, p2_, p3_, i64_w, i32_w]
            rfl
           refine one_ (i := 1) (N := some 92) #[t_, t_, f_, f_, f_, f_, f_, f_, f_, f_, f_, f_, f_, f_, f_, f_, f_, f_, f_, f_, f_, f_, f_, f_, f_, f_, f_, f_, f_, f_] rfl rfl (one_of HT_.out (by kernel_rfl)) (by decide) (fun K hK => ?_)
           refine goes_ Try.func48 (by kernel_rfl) rfl #[.agg #[.int .i64 zj, .int .i64 zl, .int .i64 zm, .slice zL zk.length zM]] (by rfl) rfl rfl (by (try simp only [List.map_toArray, List.map_cons, List.map_nil]); first | done | rfl | (simp only [List.length_drop, List.length_take]; rfl)) ?_
           with_reducible refine (impl_CacheLines.calls k2 zj zl zm _ _ zk zR _ ?side1 ?side2 A85.out).mono ?_
           (case side1 => repeat (first | exact (Kd.S_reads' zi.out).2.2 | (with_reducible refine Kd.C_alloc ?_ _) | (with_reducible refine Kd.C_drewN ?_ _) | (with_reducible refine Kd.C_drew ?_)))
           (case side2 => exact (Kd.S_reads' zi.out).2.1)
           rintro e w141 ⟨zva, rfl, ho0, hb⟩
           refine ⟨_, rfl, ?_⟩
           have n0_ := Aside0.mk (Kd.R_below (rq HO_4.out) hb)
           have n1_ := Aside0.mk (Kd.S_below (by exact sqS ze.out) hb)
           have n2_ := Aside0.mk (Kd.S_below (by exact sqS zi.out) hb)
           have n3_ := Aside0.mk (Kd.R_lower ho0 (below_size (lq HB.out)))
           have n4_ := Aside0.mk (blk_below (bq zc.out) hb)
           have n5_ := Aside0.mk (blk_below (bq za.out) hb)
           have n6_ := Aside0.mk (blk_below (bq zd.out) hb)
           have n7_ := Aside0.mk (below_step (lq HB.out) hb)
           clear HO_4 ze zi zc za zd HB
           have HO_4 := n0_
           have ze := n1_
           have zi := n2_
           have zF := n3_
           have zc := n4_
           have za := n5_
           have zd := n6_
           have HB := n7_
           clear n0_ n1_ n2_ n3_ n4_ n5_ n6_ n7_
           (try clear hb)
           (try clear hb2)
           (try clear hk)
           (try clear hi)
           (try clear ho0)
           obtain ⟨Ao142, co142, eo142⟩ := Kd.R_slice zF.out
           (first | subst eo142 | (injection eo142 with f1_ f2_ f3_; have f4_ := f1_.symm; have f5_ := f3_.symm; clear f1_ f2_ f3_; subst f4_; subst f5_))
           refine hK.out _ _ ⟨(blk_cell zd.out 0).trans rfl, (blk_cell zd.out 1).trans rfl, (blk_cell zd.out 2).trans rfl, (blk_cell zd.out 3).trans rfl, (blk_cell zc.out 0).trans rfl, (blk_cell zc.out 1).trans rfl, (blk_cell zc.out 2).trans rfl⟩ (fun hHeld => ?_)
           clear hK K
           refine norm_ (a' := ?_) ?_ ?_
           rotate_left
           ·show Act.put _ (some 92) _ = _
            simp only [Act.put, p1_, p2_, p3_, i64_w, i32_w]
            rfl
           refine pure_ (i := 2) (N := some 93) (v := ?_) (a' := ?_) #[t_, t_, t_, f_, f_, f_, f_, f_, f_, f_, f_, f_, f_, f_, f_, f_, f_, f_, f_, f_, f_, f_, f_, f_, f_, f_, f_, f_, f_, f_] rfl rfl (any_of HT_.out (by kernel_rfl)) (fun _ _ _ h => h) (Or.inl ⟨by rfl, ?_⟩) ?_ ?_
           rotate_left
           ·intro w'; go_simp; with_reducible rfl
           rotate_left
           ·simp only [Act.put, p1_, p2_, p3_, i64_w, i32_w]; rfl
           refine pure_ (i := 3) (N := some 94) (v := ?_) (a' := ?_) #[t_, t_, t_, t_, f_, f_, f_, f_, f_, f_, f_, f_, f_, f_, f_, f_, f_, f_, f_, f_, f_, f_, f_, f_, f_, f_, f_, f_, f_, f_] rfl rfl (any_of HT_.out (by kernel_rfl)) (fun _ _ _ h => h) (Or.inl ⟨by rfl, ?_⟩) ?_ ?_
           rotate_left
           ·intro w'; go_simp; with_reducible rfl
           rotate_left
           ·simp only [Act.put, p1_, p2_, p3_, i64_w, i32_w]; rfl
           refine pure_ (i := 4) (N := some 95) (v := ?_) (a' := ?_) #[t_, t_, t_, t_, t_, f_, f_, f_, f_, f_, f_, f_, f_, f_, f_, f_, f_, f_, f_, f_, f_, f_, f_, f_, f_, f_, f_, f_, f_, f_] rfl rfl (any_of HT_.out (by kernel_rfl)) (fun _ _ _ h => h) (Or.inl ⟨by rfl, ?_⟩) ?_ ?_
           rotate_left
           ·intro w'; go_simp; with_reducible rfl
           rotate_left
           ·simp only [Act.put, p1_, p2_, p3_, i64_w, i32_w]; rfl
           refine take_ (i := 5) (N := some 96) (v := ?_) (a' := ?_) #[t_, t_, t_, t_, t_, t_, f_, f_, f_, f_, f_, f_, f_, f_, f_, f_, f_, f_, f_, f_, f_, f_, f_, f_, f_, f_, f_, f_, f_, f_] rfl rfl (take_ofW HT_.out HW_.out (by kernel_rfl)) (fun _ _ _ h => h) (Or.inl ⟨by rfl, ?_⟩) hHeld ?_ ?_
           rotate_left
           ·rintro w' ⟨s0, s1, s2, s3, s4, s5, s6⟩
            go_simp
            with_reducible rfl
           rotate_left
           ·simp only [Act.put, p1_, p2_, p3_, i64_w, i32_w]
            rfl
           refine one_ (i := 6) (N := some 97) #[t_, t_, t_, t_, t_, t_, t_, f_, f_, f_, f_, f_, f_, f_, f_, f_, f_, f_, f_, f_, f_, f_, f_, f_, f_, f_, f_, f_, f_, f_] rfl rfl (one_of HT_.out (by kernel_rfl)) (by decide) (fun K hK => ?_)
           refine goes_ Try.func45 (by kernel_rfl) rfl #[.agg #[.int .i64 zj, .int .i64 zl, .int .i64 zm, .slice zL zk.length zM]] (by rfl) rfl rfl (by (try simp only [List.map_toArray, List.map_cons, List.map_nil]); first | done | rfl | (simp only [List.length_drop, List.length_take]; rfl)) ?_
           with_reducible refine (impl_CacheOk.calls k2 zj zl zm _ _ zk true _ ?side1 ?side2 A87.out).mono ?_
           (case side1 => repeat (first | exact (Kd.S_reads' zi.out).2.2 | (with_reducible refine Kd.C_alloc ?_ _) | (with_reducible refine Kd.C_drewN ?_ _) | (with_reducible refine Kd.C_drew ?_)))
           (case side2 => exact (Kd.S_reads' zi.out).2.1)
           rintro e w143 ⟨rfl, hb⟩
           refine ⟨_, rfl, ?_⟩
           have n0_ := Aside0.mk (Kd.R_below (rq HO_4.out) hb)
           have n1_ := Aside0.mk (Kd.S_below (by exact sqS ze.out) hb)
           have n2_ := Aside0.mk (Kd.S_below (by exact sqS zi.out) hb)
           have n3_ := Aside0.mk (Kd.R_below (rq zF.out) hb)
           have n4_ := Aside0.mk (blk_below (bq zc.out) hb)
           have n5_ := Aside0.mk (blk_below (bq za.out) hb)
           have n6_ := Aside0.mk (blk_below (bq zd.out) hb)
           have n7_ := Aside0.mk (below_step (lq HB.out) hb)
           clear HO_4 ze zi zF zc za zd HB
           have HO_4 := n0_
           have ze := n1_
           have zi := n2_
           have zF := n3_
           have zc := n4_
           have za := n5_
           have zd := n6_
           have HB := n7_
           clear n0_ n1_ n2_ n3_ n4_ n5_ n6_ n7_
           (try clear hb)
           (try clear hb2)
           (try clear hk)
           (try clear hi)
           refine hK.out _ _ ⟨(blk_cell zd.out 0).trans rfl, (blk_cell zd.out 1).trans rfl, (blk_cell zd.out 2).trans rfl, (blk_cell zd.out 3).trans rfl, (blk_cell zc.out 0).trans rfl, (blk_cell zc.out 1).trans rfl, (blk_cell zc.out 2).trans rfl⟩ (fun hHeld => ?_)
           clear hK K
           refine norm_ (a' := ?_) ?_ ?_
           rotate_left
           ·show Act.put _ (some 97) _ = _
            simp only [Act.put, p1_, p2_, p3_, i64_w, i32_w]
            rfl
           refine pure_ (i := 7) (N := some 98) (v := ?_) (a' := ?_) #[t_, t_, t_, t_, t_, t_, t_, t_, f_, f_, f_, f_, f_, f_, f_, f_, f_, f_, f_, f_, f_, f_, f_, f_, f_, f_, f_, f_, f_, f_] rfl rfl (any_of HT_.out (by kernel_rfl)) (fun _ _ _ h => h) (Or.inl ⟨by rfl, ?_⟩) ?_ ?_
           rotate_left
           ·intro w'; go_simp; with_reducible rfl
           rotate_left
           ·simp only [Act.put, p1_, p2_, p3_, i64_w, i32_w]; rfl
           refine pure_ (i := 8) (N := some 99) (v := ?_) (a' := ?_) #[t_, t_, t_, t_, t_, t_, t_, t_, t_, f_, f_, f_, f_, f_, f_, f_, f_, f_, f_, f_, f_, f_, f_, f_, f_, f_, f_, f_, f_, f_] rfl rfl (any_of HT_.out (by kernel_rfl)) (fun _ _ _ h => h) (Or.inl ⟨by rfl, ?_⟩) ?_ ?_
           rotate_left
           ·intro w'; go_simp; with_reducible rfl
           rotate_left
           ·simp only [Act.put, p1_, p2_, p3_, i64_w, i32_w]; rfl
           refine pure_ (i := 9) (N := some 100) (v := ?_) (a' := ?_) #[t_, t_, t_, t_, t_, t_, t_, t_, t_, t_, f_, f_, f_, f_, f_, f_, f_, f_, f_, f_, f_, f_, f_, f_, f_, f_, f_, f_, f_, f_] rfl rfl (any_of HT_.out (by kernel_rfl)) (fun _ _ _ h => h) (Or.inl ⟨by rfl, ?_⟩) ?_ ?_
           rotate_left
           ·intro w'; go_simp; with_reducible rfl
           rotate_left
           ·simp only [Act.put, p1_, p2_, p3_, i64_w, i32_w]; rfl
           refine take_ (i := 10) (N := some 101) (v := ?_) (a' := ?_) #[t_, t_, t_, t_, t_, t_, t_, t_, t_, t_, t_, f_, f_, f_, f_, f_, f_, f_, f_, f_, f_, f_, f_, f_, f_, f_, f_, f_, f_, f_] rfl rfl (take_ofW HT_.out HW_.out (by kernel_rfl)) (fun _ _ _ h => h) (Or.inl ⟨by rfl, ?_⟩) hHeld ?_ ?_
           rotate_left
           ·rintro w' ⟨s0, s1, s2, s3, s4, s5, s6⟩
            go_simp
            with_reducible rfl
           rotate_left
           ·simp only [Act.put, p1_, p2_, p3_, i64_w, i32_w]
            rfl
           refine one_ (i := 11) (N := some 102) #[t_, t_, t_, t_, t_, t_, t_, t_, t_, t_, t_, t_, f_, f_, f_, f_, f_, f_, f_, f_, f_, f_, f_, f_, f_, f_, f_, f_, f_, f_] rfl rfl (one_of HT_.out (by kernel_rfl)) (by decide) (fun K hK => ?_)
           refine goes_ Try.func49 (by kernel_rfl) rfl #[.agg #[.int .i64 zu, .int .i64 zy, .int .i64 zA]] (by rfl) rfl rfl (by (try simp only [List.map_toArray, List.map_cons, List.map_nil]); first | done | rfl | (simp only [List.length_drop, List.length_take]; rfl)) ?_
           with_reducible refine (impl_WorstDirty.calls zu zy zA zY _ A89.out).mono ?_
           rintro e w144 ⟨rfl, hb⟩
           refine ⟨_, rfl, ?_⟩
           have n0_ := Aside0.mk (Kd.R_below (rq HO_4.out) hb)
           have n1_ := Aside0.mk (Kd.S_below (by exact sqS ze.out) hb)
           have n2_ := Aside0.mk (Kd.S_below (by exact sqS zi.out) hb)
           have n3_ := Aside0.mk (Kd.R_below (rq zF.out) hb)
           have n4_ := Aside0.mk (blk_below (bq zc.out) hb)
           have n5_ := Aside0.mk (blk_below (bq za.out) hb)
           have n6_ := Aside0.mk (blk_below (bq zd.out) hb)
           have n7_ := Aside0.mk (below_step (lq HB.out) hb)
           clear HO_4 ze zi zF zc za zd HB
           have HO_4 := n0_
           have ze := n1_
           have zi := n2_
           have zF := n3_
           have zc := n4_
           have za := n5_
           have zd := n6_
           have HB := n7_
           clear n0_ n1_ n2_ n3_ n4_ n5_ n6_ n7_
           (try clear hb)
           (try clear hb2)
           (try clear hk)
           (try clear hi)
           refine hK.out _ _ ⟨(blk_cell zd.out 0).trans rfl, (blk_cell zd.out 1).trans rfl, (blk_cell zd.out 2).trans rfl, (blk_cell zd.out 3).trans rfl, (blk_cell zc.out 0).trans rfl, (blk_cell zc.out 1).trans rfl, (blk_cell zc.out 2).trans rfl⟩ (fun hHeld => ?_)
           clear hK K
           refine norm_ (a' := ?_) ?_ ?_
           rotate_left
           ·show Act.put _ (some 102) _ = _
            simp only [Act.put, p1_, p2_, p3_, i64_w, i32_w]
            rfl
           refine pure_ (i := 12) (N := some 103) (v := ?_) (a' := ?_) #[t_, t_, t_, t_, t_, t_, t_, t_, t_, t_, t_, t_, t_, f_, f_, f_, f_, f_, f_, f_, f_, f_, f_, f_, f_, f_, f_, f_, f_, f_] rfl rfl (any_of HT_.out (by kernel_rfl)) (fun _ _ _ h => h) (Or.inl ⟨by rfl, ?_⟩) ?_ ?_
           rotate_left
           ·intro w'; go_simp; with_reducible rfl
           rotate_left
           ·simp only [Act.put, p1_, p2_, p3_, i64_w, i32_w]; rfl
           refine pure_ (i := 13) (N := some 104) (v := ?_) (a' := ?_) #[t_, t_, t_, t_, t_, t_, t_, t_, t_, t_, t_, t_, t_, t_, f_, f_, f_, f_, f_, f_, f_, f_, f_, f_, f_, f_, f_, f_, f_, f_] rfl rfl (any_of HT_.out (by kernel_rfl)) (fun _ _ _ h => h) (Or.inl ⟨by rfl, ?_⟩) ?_ ?_
           rotate_left
           ·intro w'; go_simp; with_reducible rfl
           rotate_left
           ·simp only [Act.put, p1_, p2_, p3_, i64_w, i32_w]; rfl
           refine pure_ (i := 14) (N := some 105) (v := ?_) (a' := ?_) #[t_, t_, t_, t_, t_, t_, t_, t_, t_, t_, t_, t_, t_, t_, t_, f_, f_, f_, f_, f_, f_, f_, f_, f_, f_, f_, f_, f_, f_, f_] rfl rfl (any_of HT_.out (by kernel_rfl)) (fun _ _ _ h => h) (Or.inl ⟨by rfl, ?_⟩) ?_ ?_
           rotate_left
           ·intro w'; go_simp; with_reducible rfl
           rotate_left
           ·simp only [Act.put, p1_, p2_, p3_, i64_w, i32_w]; rfl
           refine pure_ (i := 15) (N := some 106) (v := undef) (a' := ?_) #[t_, t_, t_, t_, t_, t_, t_, t_, t_, t_, t_, t_, t_, t_, t_, t_, f_, f_, f_, f_, f_, f_, f_, f_, f_, f_, f_, f_, f_, f_] rfl rfl (any_of HT_.out (by kernel_rfl)) (fun _ _ _ h => h) (Or.inr ⟨by rfl, rfl⟩) ?_ ?_
           rotate_left
           ·simp only [Act.put, p1_, p2_, p3_, i64_w, i32_w]
            rfl
           refine pure_ (i := 16) (N := some 107) (v := undef) (a' := ?_) #[t_, t_, t_, t_, t_, t_, t_, t_, t_, t_, t_, t_, t_, t_, t_, t_, t_, f_, f_, f_, f_, f_, f_, f_, f_, f_, f_, f_, f_, f_] rfl rfl (any_of HT_.out (by kernel_rfl)) (fun _ _ _ h => h) (Or.inr ⟨by rfl, rfl⟩) ?_ ?_
           rotate_left
           ·simp only [Act.put, p1_, p2_, p3_, i64_w, i32_w]
            rfl
           refine pure_ (i := 17) (N := some 108) (v := undef) (a' := ?_) #[t_, t_, t_, t_, t_, t_, t_, t_, t_, t_, t_, t_, t_, t_, t_, t_, t_, t_, f_, f_, f_, f_, f_, f_, f_, f_, f_, f_, f_, f_] rfl rfl (any_of HT_.out (by kernel_rfl)) (fun _ _ _ h => h) (Or.inr ⟨by rfl, rfl⟩) ?_ ?_
           rotate_left
           ·simp only [Act.put, p1_, p2_, p3_, i64_w, i32_w]
            rfl
           refine pure_ (i := 18) (N := some 109) (v := undef) (a' := ?_) #[t_, t_, t_, t_, t_, t_, t_, t_, t_, t_, t_, t_, t_, t_, t_, t_, t_, t_, t_, f_, f_, f_, f_, f_, f_, f_, f_, f_, f_, f_] rfl rfl (any_of HT_.out (by kernel_rfl)) (fun _ _ _ h => h) (Or.inr ⟨by rfl, rfl⟩) ?_ ?_
           rotate_left
           ·simp only [Act.put, p1_, p2_, p3_, i64_w, i32_w]
            rfl
           refine pure_ (i := 19) (N := some 110) (v := undef) (a' := ?_) #[t_, t_, t_, t_, t_, t_, t_, t_, t_, t_, t_, t_, t_, t_, t_, t_, t_, t_, t_, t_, f_, f_, f_, f_, f_, f_, f_, f_, f_, f_] rfl rfl (any_of HT_.out (by kernel_rfl)) (fun _ _ _ h => h) (Or.inr ⟨by rfl, rfl⟩) ?_ ?_
           rotate_left
           ·simp only [Act.put, p1_, p2_, p3_, i64_w, i32_w]
            rfl
           refine pure_ (i := 20) (N := some 111) (v := ?_) (a' := ?_) #[t_, t_, t_, t_, t_, t_, t_, t_, t_, t_, t_, t_, t_, t_, t_, t_, t_, t_, t_, t_, t_, f_, f_, f_, f_, f_, f_, f_, f_, f_] rfl rfl (any_of HT_.out (by kernel_rfl)) (fun _ _ _ h => h) (Or.inl ⟨by rfl, ?_⟩) ?_ ?_
           rotate_left
           ·intro w'; go_simp; with_reducible rfl
           rotate_left
           ·simp only [Act.put, p1_, p2_, p3_, i64_w, i32_w]; rfl
           refine pure_ (i := 21) (N := some 112) (v := ?_) (a' := ?_) #[t_, t_, t_, t_, t_, t_, t_, t_, t_, t_, t_, t_, t_, t_, t_, t_, t_, t_, t_, t_, t_, t_, f_, f_, f_, f_, f_, f_, f_, f_] rfl rfl (any_of HT_.out (by kernel_rfl)) (fun _ _ _ h => h) (Or.inl ⟨by rfl, ?_⟩) ?_ ?_
           rotate_left
           ·intro w'; go_simp; with_reducible rfl
           rotate_left
           ·simp only [Act.put, p1_, p2_, p3_, i64_w, i32_w]; rfl
           refine pure_ (i := 22) (N := some 113) (v := undef) (a' := ?_) #[t_, t_, t_, t_, t_, t_, t_, t_, t_, t_, t_, t_, t_, t_, t_, t_, t_, t_, t_, t_, t_, t_, t_, f_, f_, f_, f_, f_, f_, f_] rfl rfl (any_of HT_.out (by kernel_rfl)) (fun _ _ _ h => h) (Or.inr ⟨by rfl, rfl⟩) ?_ ?_
           rotate_left
           ·simp only [Act.put, p1_, p2_, p3_, i64_w, i32_w]
            rfl
           refine pure_ (i := 23) (N := some 114) (v := undef) (a' := ?_) #[t_, t_, t_, t_, t_, t_, t_, t_, t_, t_, t_, t_, t_, t_, t_, t_, t_, t_, t_, t_, t_, t_, t_, t_, f_, f_, f_, f_, f_, f_] rfl rfl (any_of HT_.out (by kernel_rfl)) (fun _ _ _ h => h) (Or.inr ⟨by rfl, rfl⟩) ?_ ?_
           rotate_left
           ·simp only [Act.put, p1_, p2_, p3_, i64_w, i32_w]
            rfl
           refine pure_ (i := 24) (N := some 115) (v := undef) (a' := ?_) #[t_, t_, t_, t_, t_, t_, t_, t_, t_, t_, t_, t_, t_, t_, t_, t_, t_, t_, t_, t_, t_, t_, t_, t_, t_, f_, f_, f_, f_, f_] rfl rfl (any_of HT_.out (by kernel_rfl)) (fun _ _ _ h => h) (Or.inr ⟨by rfl, rfl⟩) ?_ ?_
           rotate_left
           ·simp only [Act.put, p1_, p2_, p3_, i64_w, i32_w]
            rfl
           refine pure_ (i := 25) (N := some 116) (v := undef) (a' := ?_) #[t_, t_, t_, t_, t_, t_, t_, t_, t_, t_, t_, t_, t_, t_, t_, t_, t_, t_, t_, t_, t_, t_, t_, t_, t_, t_, f_, f_, f_, f_] rfl rfl (any_of HT_.out (by kernel_rfl)) (fun _ _ _ h => h) (Or.inr ⟨by rfl, rfl⟩) ?_ ?_
           rotate_left
           ·simp only [Act.put, p1_, p2_, p3_, i64_w, i32_w]
            rfl
           refine pure_ (i := 26) (N := some 117) (v := undef) (a' := ?_) #[t_, t_, t_, t_, t_, t_, t_, t_, t_, t_, t_, t_, t_, t_, t_, t_, t_, t_, t_, t_, t_, t_, t_, t_, t_, t_, t_, f_, f_, f_] rfl rfl (any_of HT_.out (by kernel_rfl)) (fun _ _ _ h => h) (Or.inr ⟨by rfl, rfl⟩) ?_ ?_
           rotate_left
           ·simp only [Act.put, p1_, p2_, p3_, i64_w, i32_w]
            rfl
           refine pure_ (i := 27) (N := some 118) (v := undef) (a' := ?_) #[t_, t_, t_, t_, t_, t_, t_, t_, t_, t_, t_, t_, t_, t_, t_, t_, t_, t_, t_, t_, t_, t_, t_, t_, t_, t_, t_, t_, f_, f_] rfl rfl (any_of HT_.out (by kernel_rfl)) (fun _ _ _ h => h) (Or.inr ⟨by rfl, rfl⟩) ?_ ?_
           rotate_left
           ·simp only [Act.put, p1_, p2_, p3_, i64_w, i32_w]
            rfl
           refine pure_ (i := 28) (N := some 119) (v := ?_) (a' := ?_) #[t_, t_, t_, t_, t_, t_, t_, t_, t_, t_, t_, t_, t_, t_, t_, t_, t_, t_, t_, t_, t_, t_, t_, t_, t_, t_, t_, t_, t_, f_] rfl rfl (any_of HT_.out (by kernel_rfl)) (fun _ _ _ h => h) (Or.inl ⟨by rfl, ?_⟩) ?_ ?_
           rotate_left
           ·intro w'; go_simp; with_reducible rfl
           rotate_left
           ·simp only [Act.put, p1_, p2_, p3_, i64_w, i32_w]; rfl
           refine pure_ (i := 29) (N := some 2) (v := ?_) (a' := ?_) #[t_, t_, t_, t_, t_, t_, t_, t_, t_, t_, t_, t_, t_, t_, t_, t_, t_, t_, t_, t_, t_, t_, t_, t_, t_, t_, t_, t_, t_, t_] rfl rfl (any_of HT_.out (by kernel_rfl)) (fun _ _ _ h => h) (Or.inl ⟨by rfl, ?_⟩) ?_ ?_
           rotate_left
           ·intro w'; go_simp; with_reducible rfl
           rotate_left
           ·simp only [Act.put, p1_, p2_, p3_, i64_w, i32_w]; rfl
           refine done_ (done_of HT_.out (by kernel_rfl)) ?_
           try go_wp2
           go_ret
           exact ⟨by first | rfl | (simp [errW_none, errW_some] <;> rfl) | (simp [*, errW_none, errW_some] <;> rfl), by exact lq HB.out⟩
         ·replace c88 := Bool.eq_false_iff.mpr c88
          subst c88
          rw [if_neg (show ¬ (false = true) by decide)] at H
          obtain rfl := Option.some.inj H
          obtain ⟨zQb, zRb, eo145⟩ := Kd.R_slice HO_4.out
          subst eo145
          have hnb146 := NB513_502.out
          have hnc146 := NB502_513.out
          have hcz147_0 : wr.cell? ⟨zh, 0, none⟩ = some (.int .i64 zB) := (blk_cell za.out 0).trans rfl
          have hcz147_1 : wr.cell? ⟨zh, 1, none⟩ = some (.int .i64 zz) := (blk_cell za.out 1).trans rfl
          have hcz147_2 : wr.cell? ⟨zh, 2, none⟩ = some (.int .i64 zv) := (blk_cell za.out 2).trans rfl
          have hcz147_3 : wr.cell? ⟨zh, 3, none⟩ = some (u514003) := (blk_cell za.out 3).trans rfl
          have hfz147_0 := blk_frozen za.out 0
          have hfz147_1 := blk_frozen za.out 1
          have hfz147_2 := blk_frozen za.out 2
          have hfz147_3 := blk_frozen za.out 3
          obtain ⟨zBa, zCa, eo148⟩ := Kd.S_slice ze.out
          subst eo148
          try go_wp2_with (first | ((with_reducible refine gate_callee (f := 47) rfl ?_); refine goesL_ (some 88) rfl rfl Try.func47 (by kernel_rfl) rfl #[.agg #[.int .i64 zB, .int .i64 zz, .int .i64 zv, .slice zBa zn.length zCa]] rfl (by (try simp only [List.map_toArray, List.map_cons, List.map_nil]); first | done | rfl | (simp only [List.length_drop, List.length_take]; rfl)) ?_; (with_reducible refine (impl_CacheFlush.calls k2 zB zz zv _ _ zn zj zl zm zk zV _ ?side1 ?side2 A84.out).mono ?_); (case side1 => repeat (first | exact (Kd.S_reads' ze.out).2.2 | (with_reducible refine Kd.C_alloc ?_ _) | (with_reducible refine Kd.C_drewN ?_ _) | (with_reducible refine Kd.C_drew ?_))); (case side2 => exact (Kd.S_reads' ze.out).2.1); rintro e w149 ⟨zua, rfl, ho0, hb⟩; refine ⟨_, rfl, ?_⟩; have n0_ := Aside0.mk (Kd.R_below (rq HO_4.out) hb); have n1_ := Aside0.mk (Kd.S_elder' (by exact sqS ze.out) (Kd.S_base ho0) hb); have n2_ := Aside0.mk (Kd.S_lower (Kd.S_new' ho0 (Kd.S_lt (by exact sqS ze.out))) (below_size (lq HB.out))); have n3_ := Aside0.mk (blk_below (bq zc.out) hb); have n4_ := Aside0.mk (blk_below (bq za.out) hb); have n5_ := Aside0.mk (below_step (lq HB.out) hb); clear HO_4; clear ze; clear zc; clear za; clear HB; have HO_4 := n0_; have ze := n1_; have zi := n2_; have zc := n3_; have za := n4_; have HB := n5_; clear n0_ n1_ n2_ n3_ n4_ n5_; (try clear hb); (try clear hb2); (try clear hk); (try clear hi); (try clear ho0)) | ((with_reducible refine gate_dst (N := 12) rfl ?_); (try (refine gate_guard (by rfl) ?_; dsimp only)); refine box_event ?hg (N := 12) ?hd (cs := #[.int .i64 0, .int .i64 0, .int .i64 0, .slice none 0 0]) (t := 70) ?hr ?_; (case hd => rfl); (case hg => rfl); (case hr => first | (go_simp; done) | (go_simp; rfl)); intro zb hg w150 hbox hb; have n0_ := Aside0.mk (Kd.R_below (rq HO_4.out) hb); have n1_ := Aside0.mk (Kd.S_below (by exact sqS ze.out) hb); have n2_ := Aside0.mk (Kd.S_below (by exact sqS zi.out) hb); have n3_ := Aside0.mk (blk_below (bq zc.out) hb); have n4_ := Aside0.mk (blk_below (bq za.out) hb); have n5_ := Aside0.mk (below_step (lq HB.out) hb); have n6_ := Aside0.mk (hbox); have n7_ := Aside0.mk ((ge_new hg (lq HB.out) : w.heap.size ≤ zb)); have n8_ := Aside0.mk ((ge_new hg (lq HB.out) : w.heap.size ≤ zb)); have n9_ := Aside0.mk ((ne_new hg (bq zc.out) : zq ≠ zb)); have n10_ := Aside0.mk ((new_ne hg (bq zc.out) : zb ≠ zq)); have n11_ := Aside0.mk ((ne_new hg (bq za.out) : zh ≠ zb)); have n12_ := Aside0.mk ((new_ne hg (bq za.out) : zb ≠ zh)); clear HO_4; clear ze; clear zi; clear zc; clear za; clear HB; have HO_4 := n0_; have ze := n1_; have zi := n2_; have zc := n3_; have za := n4_; have HB := n5_; have zd := n6_; have GW536 := n7_; have zX := n8_; have NB502_536 := n9_; have NB536_502 := n10_; have NB513_536 := n11_; have NB536_513 := n12_; clear n0_ n1_ n2_ n3_ n4_ n5_ n6_ n7_ n8_ n9_ n10_ n11_ n12_; clear hb hbox hg; have hnb151 := NB536_502.out; have hnc151 := NB502_536.out; have hnb152 := NB536_513.out; have hnc152 := NB513_536.out; have hcz153_0 : w150.cell? ⟨zb, 0, none⟩ = some (.int .i64 0) := (blk_cell zd.out 0).trans rfl; have hcz153_1 : w150.cell? ⟨zb, 1, none⟩ = some (.int .i64 0) := (blk_cell zd.out 1).trans rfl; have hcz153_2 : w150.cell? ⟨zb, 2, none⟩ = some (.int .i64 0) := (blk_cell zd.out 2).trans rfl; have hcz153_3 : w150.cell? ⟨zb, 3, none⟩ = some (.slice none 0 0) := (blk_cell zd.out 3).trans rfl; have hfz153_0 := blk_frozen zd.out 0; have hfz153_1 := blk_frozen zd.out 1; have hfz153_2 := blk_frozen zd.out 2; have hfz153_3 := blk_frozen zd.out 3; obtain ⟨zN, zO, eo154⟩ := Kd.S_slice zi.out; subst eo154))
          have n0_ : Aside0 (Kd.R k32 32 ((((w150.setCell ⟨zb, 0, none⟩ (.int .i64 zj)).setCell ⟨zb, 1, none⟩ (.int .i64 zl)).setCell ⟨zb, 2, none⟩ (.int .i64 zm)).setCell ⟨zb, 3, none⟩ (.slice zN zk.length zO)) w.heap.size (fun _ => True) (.slice zQb zp.length zRb) zp) := ⟨by (with_reducible repeat (first | apply Kd.R_alloc | apply Kd.R_drewN | apply Kd.R_drew)); exact Kd.R_mono (Kd.R_far (p := ⟨zb, 3, none⟩) (Kd.R_far (p := ⟨zb, 2, none⟩) (Kd.R_far (p := ⟨zb, 1, none⟩) (Kd.R_far (p := ⟨zb, 0, none⟩) (Kd.R_types HO_4.out zd.out (by decide)) (fun _ hk => hk.2) (.int .i64 zj)) (fun _ hk => hk.2) (.int .i64 zl)) (fun _ hk => hk.2) (.int .i64 zm)) (fun _ hk => hk.2) (.slice zN zk.length zO)) (fun _ hk => trivial)⟩
          have n1_ : Aside0 (Kd.S (Kd.slice 118 k118) 116 ((((w150.setCell ⟨zb, 0, none⟩ (.int .i64 zj)).setCell ⟨zb, 1, none⟩ (.int .i64 zl)).setCell ⟨zb, 2, none⟩ (.int .i64 zm)).setCell ⟨zb, 3, none⟩ (.slice zN zk.length zO)) w.heap.size (fun k_ => some k_ ≠ (.slice zN zk.length zO : Value).ownBlock) (.slice zBa zn.length zCa) zn) := ⟨by (with_reducible repeat (first | apply Kd.S_alloc | apply Kd.S_drewN | apply Kd.S_drew)); exact Kd.S_mono (Kd.S_far (p := ⟨zb, 3, none⟩) (Kd.S_far (p := ⟨zb, 2, none⟩) (Kd.S_far (p := ⟨zb, 1, none⟩) (Kd.S_far (p := ⟨zb, 0, none⟩) (Kd.S_types ze.out zd.out (by decide)) (fun _ hk => hk.2) (.int .i64 zj)) (fun _ hk => hk.2) (.int .i64 zl)) (fun _ hk => hk.2) (.int .i64 zm)) (fun _ hk => hk.2) (.slice zN zk.length zO)) (fun _ hk => hk.1.2)⟩
          have n2_ : Aside0 (Kd.S (Kd.slice 118 k118) 116 ((((w150.setCell ⟨zb, 0, none⟩ (.int .i64 zj)).setCell ⟨zb, 1, none⟩ (.int .i64 zl)).setCell ⟨zb, 2, none⟩ (.int .i64 zm)).setCell ⟨zb, 3, none⟩ (.slice zN zk.length zO)) w.heap.size (fun k_ => some k_ ≠ (.slice zBa zn.length zCa : Value).ownBlock) (.slice zN zk.length zO) zk) := ⟨by (with_reducible repeat (first | apply Kd.S_alloc | apply Kd.S_drewN | apply Kd.S_drew)); exact Kd.S_mono (Kd.S_far (p := ⟨zb, 3, none⟩) (Kd.S_far (p := ⟨zb, 2, none⟩) (Kd.S_far (p := ⟨zb, 1, none⟩) (Kd.S_far (p := ⟨zb, 0, none⟩) (Kd.S_types zi.out zd.out (by decide)) (fun _ hk => hk.2) (.int .i64 zj)) (fun _ hk => hk.2) (.int .i64 zl)) (fun _ hk => hk.2) (.int .i64 zm)) (fun _ hk => hk.2) (.slice zN zk.length zO)) (fun _ hk => hk.1.2)⟩
          have n3_ : Aside0 (((((w150.setCell ⟨zb, 0, none⟩ (.int .i64 zj)).setCell ⟨zb, 1, none⟩ (.int .i64 zl)).setCell ⟨zb, 2, none⟩ (.int .i64 zm)).setCell ⟨zb, 3, none⟩ (.slice zN zk.length zO)).heap[zq]? = some (.cells #[.int .i64 zu, .int .i64 zy, .int .i64 zA] 25 (0, 0))) := ⟨by (with_reducible repeat (first | refine blk_drewN ?_ _ | refine blk_drew ?_ | refine blk_alloc ?_ _)); refine blk_far ?_ NB502_536.out _; (with_reducible repeat (first | refine blk_drewN ?_ _ | refine blk_drew ?_ | refine blk_alloc ?_ _)); refine blk_far ?_ NB502_536.out _; (with_reducible repeat (first | refine blk_drewN ?_ _ | refine blk_drew ?_ | refine blk_alloc ?_ _)); refine blk_far ?_ NB502_536.out _; (with_reducible repeat (first | refine blk_drewN ?_ _ | refine blk_drew ?_ | refine blk_alloc ?_ _)); refine blk_far ?_ NB502_536.out _; (with_reducible repeat (first | refine blk_drewN ?_ _ | refine blk_drew ?_ | refine blk_alloc ?_ _)); exact zc.out⟩
          have n4_ : Aside0 (((((w150.setCell ⟨zb, 0, none⟩ (.int .i64 zj)).setCell ⟨zb, 1, none⟩ (.int .i64 zl)).setCell ⟨zb, 2, none⟩ (.int .i64 zm)).setCell ⟨zb, 3, none⟩ (.slice zN zk.length zO)).heap[zh]? = some (.cells #[.int .i64 zB, .int .i64 zz, .int .i64 zv, .slice zBa zn.length zCa] 70 (0, 0))) := ⟨by (with_reducible repeat (first | refine blk_drewN ?_ _ | refine blk_drew ?_ | refine blk_alloc ?_ _)); refine blk_far ?_ NB513_536.out _; (with_reducible repeat (first | refine blk_drewN ?_ _ | refine blk_drew ?_ | refine blk_alloc ?_ _)); refine blk_far ?_ NB513_536.out _; (with_reducible repeat (first | refine blk_drewN ?_ _ | refine blk_drew ?_ | refine blk_alloc ?_ _)); refine blk_far ?_ NB513_536.out _; (with_reducible repeat (first | refine blk_drewN ?_ _ | refine blk_drew ?_ | refine blk_alloc ?_ _)); refine blk_far ?_ NB513_536.out _; (with_reducible repeat (first | refine blk_drewN ?_ _ | refine blk_drew ?_ | refine blk_alloc ?_ _)); exact za.out⟩
          have n5_ : Aside0 (((((w150.setCell ⟨zb, 0, none⟩ (.int .i64 zj)).setCell ⟨zb, 1, none⟩ (.int .i64 zl)).setCell ⟨zb, 2, none⟩ (.int .i64 zm)).setCell ⟨zb, 3, none⟩ (.slice zN zk.length zO)).heap[zb]? = some (.cells #[.int .i64 zj, .int .i64 zl, .int .i64 zm, .slice zN zk.length zO] 70 (0, 0))) := ⟨by (with_reducible repeat (first | refine blk_drewN ?_ _ | refine blk_drew ?_ | refine blk_alloc ?_ _)); refine blk_put (cs := #[.int .i64 zj, .int .i64 zl, .int .i64 zm, .slice none 0 0]) ?_ 3 _ rfl; (with_reducible repeat (first | refine blk_drewN ?_ _ | refine blk_drew ?_ | refine blk_alloc ?_ _)); refine blk_put (cs := #[.int .i64 zj, .int .i64 zl, .int .i64 0, .slice none 0 0]) ?_ 2 _ rfl; (with_reducible repeat (first | refine blk_drewN ?_ _ | refine blk_drew ?_ | refine blk_alloc ?_ _)); refine blk_put (cs := #[.int .i64 zj, .int .i64 0, .int .i64 0, .slice none 0 0]) ?_ 1 _ rfl; (with_reducible repeat (first | refine blk_drewN ?_ _ | refine blk_drew ?_ | refine blk_alloc ?_ _)); refine blk_put (cs := #[.int .i64 0, .int .i64 0, .int .i64 0, .slice none 0 0]) ?_ 0 _ rfl; (with_reducible repeat (first | refine blk_drewN ?_ _ | refine blk_drew ?_ | refine blk_alloc ?_ _)); exact zd.out⟩
          have n6_ : Aside0 (Below w.heap.size w ((((w150.setCell ⟨zb, 0, none⟩ (.int .i64 zj)).setCell ⟨zb, 1, none⟩ (.int .i64 zl)).setCell ⟨zb, 2, none⟩ (.int .i64 zm)).setCell ⟨zb, 3, none⟩ (.slice zN zk.length zO))) := ⟨by repeat (first | (with_reducible first | exact HB.out | apply below_alloc | apply pw_below_drewN | apply below_drew1 | refine below_set ?_ zX.out) | exact HB.out)⟩
          (try clear HO_4)
          (try clear ze)
          (try clear zi)
          (try clear zc)
          (try clear za)
          (try clear zd)
          (try clear HB)
          generalize ((((w150.setCell ⟨zb, 0, none⟩ (.int .i64 zj)).setCell ⟨zb, 1, none⟩ (.int .i64 zl)).setCell ⟨zb, 2, none⟩ (.int .i64 zm)).setCell ⟨zb, 3, none⟩ (.slice zN zk.length zO)) = w155 at n0_ n1_ n2_ n3_ n4_ n5_ n6_ ⊢
          have HO_4 := n0_
          have ze := n1_
          have zi := n2_
          have zc := n3_
          have za := n4_
          have zd := n5_
          have HB := n6_
          clear n0_ n1_ n2_ n3_ n4_ n5_ n6_
          have n0_ := Aside0.mk (Kd.R_drew HO_4.out)
          have n1_ := Aside0.mk (Kd.S_drew ze.out)
          have n2_ := Aside0.mk (Kd.S_drew zi.out)
          have n3_ := Aside0.mk (blk_drew zc.out)
          have n4_ := Aside0.mk (blk_drew za.out)
          have n5_ := Aside0.mk (blk_drew zd.out)
          have n6_ := Aside0.mk (below_drew1 HB.out)
          clear HO_4 ze zi zc za zd HB
          have HO_4 := n0_
          have ze := n1_
          have zi := n2_
          have zc := n3_
          have za := n4_
          have zd := n5_
          have HB := n6_
          clear n0_ n1_ n2_ n3_ n4_ n5_ n6_
          refine start_ (n := 30) (S := fun w' => w'.cell? ⟨zb, 0, none⟩ = some (.int .i64 zj) ∧ w'.cell? ⟨zb, 1, none⟩ = some (.int .i64 zl) ∧ w'.cell? ⟨zb, 2, none⟩ = some (.int .i64 zm) ∧ w'.cell? ⟨zb, 3, none⟩ = some (.slice zN zk.length zO)) (ds := []) #[f_, f_, f_, f_, f_, f_, f_, f_, f_, f_, f_, f_, f_, f_, f_, f_, f_, f_, f_, f_, f_, f_, f_, f_, f_, f_, f_, f_, f_, f_] (by kernel_rfl) rfl rfl ⟨(blk_cell zd.out 0).trans rfl, (blk_cell zd.out 1).trans rfl, (blk_cell zd.out 2).trans rfl, (blk_cell zd.out 3).trans rfl⟩ (fun hHeld => ?_); refine with_tabW laws_FnDirty.tab20 laws_FnDirty.bits20 (fun HT_ HW_ => ?_)
          generalize w155.drew = w156 at HO_4 ze zi zc za zd HB hHeld ⊢
          refine take_ (i := 0) (N := some 91) (v := ?_) (a' := ?_) #[t_, f_, f_, f_, f_, f_, f_, f_, f_, f_, f_, f_, f_, f_, f_, f_, f_, f_, f_, f_, f_, f_, f_, f_, f_, f_, f_, f_, f_, f_] rfl rfl (take_ofW HT_.out HW_.out (by kernel_rfl)) (fun _ _ _ h => h) (Or.inl ⟨by rfl, ?_⟩) hHeld ?_ ?_
          rotate_left
          ·rintro w' ⟨s0, s1, s2, s3⟩
           go_simp
           with_reducible rfl
          rotate_left
          ·simp only [Act.put, p1_, p2_, p3_, i64_w, i32_w]
           rfl
          refine one_ (i := 1) (N := some 92) #[t_, t_, f_, f_, f_, f_, f_, f_, f_, f_, f_, f_, f_, f_, f_, f_, f_, f_, f_, f_, f_, f_, f_, f_, f_, f_, f_, f_, f_, f_] rfl rfl (one_of HT_.out (by kernel_rfl)) (by decide) (fun K hK => ?_)
          refine goes_ Try.func48 (by kernel_rfl) rfl #[.agg #[.int .i64 zj, .int .i64 zl, .int .i64 zm, .slice zN zk.length zO]] (by rfl) rfl rfl (by (try simp only [List.map_toArray, List.map_cons, List.map_nil]); first | done | rfl | (simp only [List.length_drop, List.length_take]; rfl)) ?_
          with_reducible refine (impl_CacheLines.calls k2 zj zl zm _ _ zk zR _ ?side1 ?side2 A85.out).mono ?_
          (case side1 => repeat (first | exact (Kd.S_reads' zi.out).2.2 | (with_reducible refine Kd.C_alloc ?_ _) | (with_reducible refine Kd.C_drewN ?_ _) | (with_reducible refine Kd.C_drew ?_)))
          (case side2 => exact (Kd.S_reads' zi.out).2.1)
          rintro e w157 ⟨zva, rfl, ho0, hb⟩
          refine ⟨_, rfl, ?_⟩
          have n0_ := Aside0.mk (Kd.R_below (rq HO_4.out) hb)
          have n1_ := Aside0.mk (Kd.S_below (by exact sqS ze.out) hb)
          have n2_ := Aside0.mk (Kd.S_below (by exact sqS zi.out) hb)
          have n3_ := Aside0.mk (Kd.R_lower ho0 (below_size (lq HB.out)))
          have n4_ := Aside0.mk (blk_below (bq zc.out) hb)
          have n5_ := Aside0.mk (blk_below (bq za.out) hb)
          have n6_ := Aside0.mk (blk_below (bq zd.out) hb)
          have n7_ := Aside0.mk (below_step (lq HB.out) hb)
          clear HO_4 ze zi zc za zd HB
          have HO_4 := n0_
          have ze := n1_
          have zi := n2_
          have zF := n3_
          have zc := n4_
          have za := n5_
          have zd := n6_
          have HB := n7_
          clear n0_ n1_ n2_ n3_ n4_ n5_ n6_ n7_
          (try clear hb)
          (try clear hb2)
          (try clear hk)
          (try clear hi)
          (try clear ho0)
          obtain ⟨Ao158, co158, eo158⟩ := Kd.R_slice zF.out
          (first | subst eo158 | (injection eo158 with f1_ f2_ f3_; have f4_ := f1_.symm; have f5_ := f3_.symm; clear f1_ f2_ f3_; subst f4_; subst f5_))
          refine hK.out _ _ ⟨(blk_cell zd.out 0).trans rfl, (blk_cell zd.out 1).trans rfl, (blk_cell zd.out 2).trans rfl, (blk_cell zd.out 3).trans rfl⟩ (fun hHeld => ?_)
          clear hK K
          refine norm_ (a' := ?_) ?_ ?_
          rotate_left
          ·show Act.put _ (some 92) _ = _
           simp only [Act.put, p1_, p2_, p3_, i64_w, i32_w]
           rfl
          refine pure_ (i := 2) (N := some 93) (v := ?_) (a' := ?_) #[t_, t_, t_, f_, f_, f_, f_, f_, f_, f_, f_, f_, f_, f_, f_, f_, f_, f_, f_, f_, f_, f_, f_, f_, f_, f_, f_, f_, f_, f_] rfl rfl (any_of HT_.out (by kernel_rfl)) (fun _ _ _ h => h) (Or.inl ⟨by rfl, ?_⟩) ?_ ?_
          rotate_left
          ·intro w'; go_simp; with_reducible rfl
          rotate_left
          ·simp only [Act.put, p1_, p2_, p3_, i64_w, i32_w]; rfl
          refine pure_ (i := 3) (N := some 94) (v := ?_) (a' := ?_) #[t_, t_, t_, t_, f_, f_, f_, f_, f_, f_, f_, f_, f_, f_, f_, f_, f_, f_, f_, f_, f_, f_, f_, f_, f_, f_, f_, f_, f_, f_] rfl rfl (any_of HT_.out (by kernel_rfl)) (fun _ _ _ h => h) (Or.inl ⟨by rfl, ?_⟩) ?_ ?_
          rotate_left
          ·intro w'; go_simp; with_reducible rfl
          rotate_left
          ·simp only [Act.put, p1_, p2_, p3_, i64_w, i32_w]; rfl
          refine pure_ (i := 4) (N := some 95) (v := ?_) (a' := ?_) #[t_, t_, t_, t_, t_, f_, f_, f_, f_, f_, f_, f_, f_, f_, f_, f_, f_, f_, f_, f_, f_, f_, f_, f_, f_, f_, f_, f_, f_, f_] rfl rfl (any_of HT_.out (by kernel_rfl)) (fun _ _ _ h => h) (Or.inl ⟨by rfl, ?_⟩) ?_ ?_
          rotate_left
          ·intro w'; go_simp; with_reducible rfl
          rotate_left
          ·simp only [Act.put, p1_, p2_, p3_, i64_w, i32_w]; rfl
          refine take_ (i := 5) (N := some 96) (v := ?_) (a' := ?_) #[t_, t_, t_, t_, t_, t_, f_, f_, f_, f_, f_, f_, f_, f_, f_, f_, f_, f_, f_, f_, f_, f_, f_, f_, f_, f_, f_, f_, f_, f_] rfl rfl (take_ofW HT_.out HW_.out (by kernel_rfl)) (fun _ _ _ h => h) (Or.inl ⟨by rfl, ?_⟩) hHeld ?_ ?_
          rotate_left
          ·rintro w' ⟨s0, s1, s2, s3⟩
           go_simp
           with_reducible rfl
          rotate_left
          ·simp only [Act.put, p1_, p2_, p3_, i64_w, i32_w]
           rfl
          refine one_ (i := 6) (N := some 97) #[t_, t_, t_, t_, t_, t_, t_, f_, f_, f_, f_, f_, f_, f_, f_, f_, f_, f_, f_, f_, f_, f_, f_, f_, f_, f_, f_, f_, f_, f_] rfl rfl (one_of HT_.out (by kernel_rfl)) (by decide) (fun K hK => ?_)
          refine goes_ Try.func45 (by kernel_rfl) rfl #[.agg #[.int .i64 zj, .int .i64 zl, .int .i64 zm, .slice zN zk.length zO]] (by rfl) rfl rfl (by (try simp only [List.map_toArray, List.map_cons, List.map_nil]); first | done | rfl | (simp only [List.length_drop, List.length_take]; rfl)) ?_
          with_reducible refine (impl_CacheOk.calls k2 zj zl zm _ _ zk false _ ?side1 ?side2 A87.out).mono ?_
          (case side1 => repeat (first | exact (Kd.S_reads' zi.out).2.2 | (with_reducible refine Kd.C_alloc ?_ _) | (with_reducible refine Kd.C_drewN ?_ _) | (with_reducible refine Kd.C_drew ?_)))
          (case side2 => exact (Kd.S_reads' zi.out).2.1)
          rintro e w159 ⟨rfl, hb⟩
          refine ⟨_, rfl, ?_⟩
          have n0_ := Aside0.mk (Kd.R_below (rq HO_4.out) hb)
          have n1_ := Aside0.mk (Kd.S_below (by exact sqS ze.out) hb)
          have n2_ := Aside0.mk (Kd.S_below (by exact sqS zi.out) hb)
          have n3_ := Aside0.mk (Kd.R_below (rq zF.out) hb)
          have n4_ := Aside0.mk (blk_below (bq zc.out) hb)
          have n5_ := Aside0.mk (blk_below (bq za.out) hb)
          have n6_ := Aside0.mk (blk_below (bq zd.out) hb)
          have n7_ := Aside0.mk (below_step (lq HB.out) hb)
          clear HO_4 ze zi zF zc za zd HB
          have HO_4 := n0_
          have ze := n1_
          have zi := n2_
          have zF := n3_
          have zc := n4_
          have za := n5_
          have zd := n6_
          have HB := n7_
          clear n0_ n1_ n2_ n3_ n4_ n5_ n6_ n7_
          (try clear hb)
          (try clear hb2)
          (try clear hk)
          (try clear hi)
          refine hK.out _ _ ⟨(blk_cell zd.out 0).trans rfl, (blk_cell zd.out 1).trans rfl, (blk_cell zd.out 2).trans rfl, (blk_cell zd.out 3).trans rfl⟩ (fun hHeld => ?_)
          clear hK K
          refine norm_ (a' := ?_) ?_ ?_
          rotate_left
          ·show Act.put _ (some 97) _ = _
           simp only [Act.put, p1_, p2_, p3_, i64_w, i32_w]
           rfl
          refine pure_ (i := 7) (N := some 98) (v := ?_) (a' := ?_) #[t_, t_, t_, t_, t_, t_, t_, t_, f_, f_, f_, f_, f_, f_, f_, f_, f_, f_, f_, f_, f_, f_, f_, f_, f_, f_, f_, f_, f_, f_] rfl rfl (any_of HT_.out (by kernel_rfl)) (fun _ _ _ h => h) (Or.inl ⟨by rfl, ?_⟩) ?_ ?_
          rotate_left
          ·intro w'; go_simp; with_reducible rfl
          rotate_left
          ·simp only [Act.put, p1_, p2_, p3_, i64_w, i32_w]; rfl
          refine pure_ (i := 8) (N := some 99) (v := ?_) (a' := ?_) #[t_, t_, t_, t_, t_, t_, t_, t_, t_, f_, f_, f_, f_, f_, f_, f_, f_, f_, f_, f_, f_, f_, f_, f_, f_, f_, f_, f_, f_, f_] rfl rfl (any_of HT_.out (by kernel_rfl)) (fun _ _ _ h => h) (Or.inl ⟨by rfl, ?_⟩) ?_ ?_
          rotate_left
          ·intro w'; go_simp; with_reducible rfl
          rotate_left
          ·simp only [Act.put, p1_, p2_, p3_, i64_w, i32_w]; rfl
          refine pure_ (i := 9) (N := some 100) (v := undef) (a' := ?_) #[t_, t_, t_, t_, t_, t_, t_, t_, t_, t_, f_, f_, f_, f_, f_, f_, f_, f_, f_, f_, f_, f_, f_, f_, f_, f_, f_, f_, f_, f_] rfl rfl (any_of HT_.out (by kernel_rfl)) (fun _ _ _ h => h) (Or.inr ⟨by rfl, rfl⟩) ?_ ?_
          rotate_left
          ·simp only [Act.put, p1_, p2_, p3_, i64_w, i32_w]
           rfl
          refine pure_ (i := 10) (N := some 101) (v := undef) (a' := ?_) #[t_, t_, t_, t_, t_, t_, t_, t_, t_, t_, t_, f_, f_, f_, f_, f_, f_, f_, f_, f_, f_, f_, f_, f_, f_, f_, f_, f_, f_, f_] rfl rfl (any_of HT_.out (by kernel_rfl)) (fun _ _ _ h => h) (Or.inr ⟨by rfl, rfl⟩) ?_ ?_
          rotate_left
          ·simp only [Act.put, p1_, p2_, p3_, i64_w, i32_w]
           rfl
          refine pure_ (i := 11) (N := some 102) (v := undef) (a' := ?_) #[t_, t_, t_, t_, t_, t_, t_, t_, t_, t_, t_, t_, f_, f_, f_, f_, f_, f_, f_, f_, f_, f_, f_, f_, f_, f_, f_, f_, f_, f_] rfl rfl (any_of HT_.out (by kernel_rfl)) (fun _ _ _ h => h) (Or.inr ⟨by rfl, rfl⟩) ?_ ?_
          rotate_left
          ·simp only [Act.put, p1_, p2_, p3_, i64_w, i32_w]
           rfl
          refine pure_ (i := 12) (N := some 103) (v := undef) (a' := ?_) #[t_, t_, t_, t_, t_, t_, t_, t_, t_, t_, t_, t_, t_, f_, f_, f_, f_, f_, f_, f_, f_, f_, f_, f_, f_, f_, f_, f_, f_, f_] rfl rfl (any_of HT_.out (by kernel_rfl)) (fun _ _ _ h => h) (Or.inr ⟨by rfl, rfl⟩) ?_ ?_
          rotate_left
          ·simp only [Act.put, p1_, p2_, p3_, i64_w, i32_w]
           rfl
          refine pure_ (i := 13) (N := some 104) (v := ?_) (a' := ?_) #[t_, t_, t_, t_, t_, t_, t_, t_, t_, t_, t_, t_, t_, t_, f_, f_, f_, f_, f_, f_, f_, f_, f_, f_, f_, f_, f_, f_, f_, f_] rfl rfl (any_of HT_.out (by kernel_rfl)) (fun _ _ _ h => h) (Or.inl ⟨by rfl, ?_⟩) ?_ ?_
          rotate_left
          ·intro w'; go_simp; with_reducible rfl
          rotate_left
          ·simp only [Act.put, p1_, p2_, p3_, i64_w, i32_w]; rfl
          refine pure_ (i := 14) (N := some 105) (v := ?_) (a' := ?_) #[t_, t_, t_, t_, t_, t_, t_, t_, t_, t_, t_, t_, t_, t_, t_, f_, f_, f_, f_, f_, f_, f_, f_, f_, f_, f_, f_, f_, f_, f_] rfl rfl (any_of HT_.out (by kernel_rfl)) (fun _ _ _ h => h) (Or.inl ⟨by rfl, ?_⟩) ?_ ?_
          rotate_left
          ·intro w'; go_simp; with_reducible rfl
          rotate_left
          ·simp only [Act.put, p1_, p2_, p3_, i64_w, i32_w]; rfl
          refine pure_ (i := 15) (N := some 106) (v := undef) (a' := ?_) #[t_, t_, t_, t_, t_, t_, t_, t_, t_, t_, t_, t_, t_, t_, t_, t_, f_, f_, f_, f_, f_, f_, f_, f_, f_, f_, f_, f_, f_, f_] rfl rfl (any_of HT_.out (by kernel_rfl)) (fun _ _ _ h => h) (Or.inr ⟨by rfl, rfl⟩) ?_ ?_
          rotate_left
          ·simp only [Act.put, p1_, p2_, p3_, i64_w, i32_w]
           rfl
          refine pure_ (i := 16) (N := some 107) (v := undef) (a' := ?_) #[t_, t_, t_, t_, t_, t_, t_, t_, t_, t_, t_, t_, t_, t_, t_, t_, t_, f_, f_, f_, f_, f_, f_, f_, f_, f_, f_, f_, f_, f_] rfl rfl (any_of HT_.out (by kernel_rfl)) (fun _ _ _ h => h) (Or.inr ⟨by rfl, rfl⟩) ?_ ?_
          rotate_left
          ·simp only [Act.put, p1_, p2_, p3_, i64_w, i32_w]
           rfl
          refine pure_ (i := 17) (N := some 108) (v := undef) (a' := ?_) #[t_, t_, t_, t_, t_, t_, t_, t_, t_, t_, t_, t_, t_, t_, t_, t_, t_, t_, f_, f_, f_, f_, f_, f_, f_, f_, f_, f_, f_, f_] rfl rfl (any_of HT_.out (by kernel_rfl)) (fun _ _ _ h => h) (Or.inr ⟨by rfl, rfl⟩) ?_ ?_
          rotate_left
          ·simp only [Act.put, p1_, p2_, p3_, i64_w, i32_w]
           rfl
          refine pure_ (i := 18) (N := some 109) (v := undef) (a' := ?_) #[t_, t_, t_, t_, t_, t_, t_, t_, t_, t_, t_, t_, t_, t_, t_, t_, t_, t_, t_, f_, f_, f_, f_, f_, f_, f_, f_, f_, f_, f_] rfl rfl (any_of HT_.out (by kernel_rfl)) (fun _ _ _ h => h) (Or.inr ⟨by rfl, rfl⟩) ?_ ?_
          rotate_left
          ·simp only [Act.put, p1_, p2_, p3_, i64_w, i32_w]
           rfl
          refine pure_ (i := 19) (N := some 110) (v := undef) (a' := ?_) #[t_, t_, t_, t_, t_, t_, t_, t_, t_, t_, t_, t_, t_, t_, t_, t_, t_, t_, t_, t_, f_, f_, f_, f_, f_, f_, f_, f_, f_, f_] rfl rfl (any_of HT_.out (by kernel_rfl)) (fun _ _ _ h => h) (Or.inr ⟨by rfl, rfl⟩) ?_ ?_
          rotate_left
          ·simp only [Act.put, p1_, p2_, p3_, i64_w, i32_w]
           rfl
          refine pure_ (i := 20) (N := some 111) (v := ?_) (a' := ?_) #[t_, t_, t_, t_, t_, t_, t_, t_, t_, t_, t_, t_, t_, t_, t_, t_, t_, t_, t_, t_, t_, f_, f_, f_, f_, f_, f_, f_, f_, f_] rfl rfl (any_of HT_.out (by kernel_rfl)) (fun _ _ _ h => h) (Or.inl ⟨by rfl, ?_⟩) ?_ ?_
          rotate_left
          ·intro w'; go_simp; with_reducible rfl
          rotate_left
          ·simp only [Act.put, p1_, p2_, p3_, i64_w, i32_w]; rfl
          refine pure_ (i := 21) (N := some 112) (v := ?_) (a' := ?_) #[t_, t_, t_, t_, t_, t_, t_, t_, t_, t_, t_, t_, t_, t_, t_, t_, t_, t_, t_, t_, t_, t_, f_, f_, f_, f_, f_, f_, f_, f_] rfl rfl (any_of HT_.out (by kernel_rfl)) (fun _ _ _ h => h) (Or.inl ⟨by rfl, ?_⟩) ?_ ?_
          rotate_left
          ·intro w'; go_simp; with_reducible rfl
          rotate_left
          ·simp only [Act.put, p1_, p2_, p3_, i64_w, i32_w]; rfl
          refine pure_ (i := 22) (N := some 113) (v := undef) (a' := ?_) #[t_, t_, t_, t_, t_, t_, t_, t_, t_, t_, t_, t_, t_, t_, t_, t_, t_, t_, t_, t_, t_, t_, t_, f_, f_, f_, f_, f_, f_, f_] rfl rfl (any_of HT_.out (by kernel_rfl)) (fun _ _ _ h => h) (Or.inr ⟨by rfl, rfl⟩) ?_ ?_
          rotate_left
          ·simp only [Act.put, p1_, p2_, p3_, i64_w, i32_w]
           rfl
          refine pure_ (i := 23) (N := some 114) (v := undef) (a' := ?_) #[t_, t_, t_, t_, t_, t_, t_, t_, t_, t_, t_, t_, t_, t_, t_, t_, t_, t_, t_, t_, t_, t_, t_, t_, f_, f_, f_, f_, f_, f_] rfl rfl (any_of HT_.out (by kernel_rfl)) (fun _ _ _ h => h) (Or.inr ⟨by rfl, rfl⟩) ?_ ?_
          rotate_left
          ·simp only [Act.put, p1_, p2_, p3_, i64_w, i32_w]
           rfl
          refine pure_ (i := 24) (N := some 115) (v := undef) (a' := ?_) #[t_, t_, t_, t_, t_, t_, t_, t_, t_, t_, t_, t_, t_, t_, t_, t_, t_, t_, t_, t_, t_, t_, t_, t_, t_, f_, f_, f_, f_, f_] rfl rfl (any_of HT_.out (by kernel_rfl)) (fun _ _ _ h => h) (Or.inr ⟨by rfl, rfl⟩) ?_ ?_
          rotate_left
          ·simp only [Act.put, p1_, p2_, p3_, i64_w, i32_w]
           rfl
          refine pure_ (i := 25) (N := some 116) (v := undef) (a' := ?_) #[t_, t_, t_, t_, t_, t_, t_, t_, t_, t_, t_, t_, t_, t_, t_, t_, t_, t_, t_, t_, t_, t_, t_, t_, t_, t_, f_, f_, f_, f_] rfl rfl (any_of HT_.out (by kernel_rfl)) (fun _ _ _ h => h) (Or.inr ⟨by rfl, rfl⟩) ?_ ?_
          rotate_left
          ·simp only [Act.put, p1_, p2_, p3_, i64_w, i32_w]
           rfl
          refine pure_ (i := 26) (N := some 117) (v := undef) (a' := ?_) #[t_, t_, t_, t_, t_, t_, t_, t_, t_, t_, t_, t_, t_, t_, t_, t_, t_, t_, t_, t_, t_, t_, t_, t_, t_, t_, t_, f_, f_, f_] rfl rfl (any_of HT_.out (by kernel_rfl)) (fun _ _ _ h => h) (Or.inr ⟨by rfl, rfl⟩) ?_ ?_
          rotate_left
          ·simp only [Act.put, p1_, p2_, p3_, i64_w, i32_w]
           rfl
          refine pure_ (i := 27) (N := some 118) (v := undef) (a' := ?_) #[t_, t_, t_, t_, t_, t_, t_, t_, t_, t_, t_, t_, t_, t_, t_, t_, t_, t_, t_, t_, t_, t_, t_, t_, t_, t_, t_, t_, f_, f_] rfl rfl (any_of HT_.out (by kernel_rfl)) (fun _ _ _ h => h) (Or.inr ⟨by rfl, rfl⟩) ?_ ?_
          rotate_left
          ·simp only [Act.put, p1_, p2_, p3_, i64_w, i32_w]
           rfl
          refine pure_ (i := 28) (N := some 119) (v := ?_) (a' := ?_) #[t_, t_, t_, t_, t_, t_, t_, t_, t_, t_, t_, t_, t_, t_, t_, t_, t_, t_, t_, t_, t_, t_, t_, t_, t_, t_, t_, t_, t_, f_] rfl rfl (any_of HT_.out (by kernel_rfl)) (fun _ _ _ h => h) (Or.inl ⟨by rfl, ?_⟩) ?_ ?_
          rotate_left
          ·intro w'; go_simp; with_reducible rfl
          rotate_left
          ·simp only [Act.put, p1_, p2_, p3_, i64_w, i32_w]; rfl
          refine pure_ (i := 29) (N := some 2) (v := ?_) (a' := ?_) #[t_, t_, t_, t_, t_, t_, t_, t_, t_, t_, t_, t_, t_, t_, t_, t_, t_, t_, t_, t_, t_, t_, t_, t_, t_, t_, t_, t_, t_, t_] rfl rfl (any_of HT_.out (by kernel_rfl)) (fun _ _ _ h => h) (Or.inl ⟨by rfl, ?_⟩) ?_ ?_
          rotate_left
          ·intro w'; go_simp; with_reducible rfl
          rotate_left
          ·simp only [Act.put, p1_, p2_, p3_, i64_w, i32_w]; rfl
          refine done_ (done_of HT_.out (by kernel_rfl)) ?_
          try go_wp2
          go_ret
          exact ⟨by first | rfl | (simp [errW_none, errW_some] <;> rfl) | (simp [*, errW_none, errW_some] <;> rfl), by exact lq HB.out⟩
        ·rw [if_neg c86] at H
         have c86b0 : ((zR.length : Int) == 0) = false := beq_eq_false_iff_ne.mpr c86
         have c86b1 : ((zR.length : Int) != 0) = true := bne_iff_ne.mpr c86
         have c86b2 : ¬ (zR = []) := fun h_ => c86 (by rw [h_]; rfl)
         obtain rfl := Option.some.inj H
         obtain ⟨zSb, zTb, eo160⟩ := Kd.R_slice HO_4.out
         subst eo160
         have hnb161 := NB513_502.out
         have hnc161 := NB502_513.out
         have hcz162_0 : wr.cell? ⟨zh, 0, none⟩ = some (.int .i64 zB) := (blk_cell za.out 0).trans rfl
         have hcz162_1 : wr.cell? ⟨zh, 1, none⟩ = some (.int .i64 zz) := (blk_cell za.out 1).trans rfl
         have hcz162_2 : wr.cell? ⟨zh, 2, none⟩ = some (.int .i64 zv) := (blk_cell za.out 2).trans rfl
         have hcz162_3 : wr.cell? ⟨zh, 3, none⟩ = some (u514003) := (blk_cell za.out 3).trans rfl
         have hfz162_0 := blk_frozen za.out 0
         have hfz162_1 := blk_frozen za.out 1
         have hfz162_2 := blk_frozen za.out 2
         have hfz162_3 := blk_frozen za.out 3
         obtain ⟨zDa, zEa, eo163⟩ := Kd.S_slice ze.out
         subst eo163
         try go_wp2_with (first | ((with_reducible refine gate_callee (f := 47) rfl ?_); refine goesL_ (some 88) rfl rfl Try.func47 (by kernel_rfl) rfl #[.agg #[.int .i64 zB, .int .i64 zz, .int .i64 zv, .slice zDa zn.length zEa]] rfl (by (try simp only [List.map_toArray, List.map_cons, List.map_nil]); first | done | rfl | (simp only [List.length_drop, List.length_take]; rfl)) ?_; (with_reducible refine (impl_CacheFlush.calls k2 zB zz zv _ _ zn zj zl zm zk zV _ ?side1 ?side2 A84.out).mono ?_); (case side1 => repeat (first | exact (Kd.S_reads' ze.out).2.2 | (with_reducible refine Kd.C_alloc ?_ _) | (with_reducible refine Kd.C_drewN ?_ _) | (with_reducible refine Kd.C_drew ?_))); (case side2 => exact (Kd.S_reads' ze.out).2.1); rintro e w164 ⟨zua, rfl, ho0, hb⟩; refine ⟨_, rfl, ?_⟩; have n0_ := Aside0.mk (Kd.R_below (rq HO_4.out) hb); have n1_ := Aside0.mk (Kd.S_elder' (by exact sqS ze.out) (Kd.S_base ho0) hb); have n2_ := Aside0.mk (Kd.S_lower (Kd.S_new' ho0 (Kd.S_lt (by exact sqS ze.out))) (below_size (lq HB.out))); have n3_ := Aside0.mk (blk_below (bq zc.out) hb); have n4_ := Aside0.mk (blk_below (bq za.out) hb); have n5_ := Aside0.mk (below_step (lq HB.out) hb); clear HO_4; clear ze; clear zc; clear za; clear HB; have HO_4 := n0_; have ze := n1_; have zi := n2_; have zc := n3_; have za := n4_; have HB := n5_; clear n0_ n1_ n2_ n3_ n4_ n5_; (try clear hb); (try clear hb2); (try clear hk); (try clear hi); (try clear ho0)) | ((with_reducible refine gate_dst (N := 12) rfl ?_); (try (refine gate_guard (by rfl) ?_; dsimp only)); refine box_event ?hg (N := 12) ?hd (cs := #[.int .i64 0, .int .i64 0, .int .i64 0, .slice none 0 0]) (t := 70) ?hr ?_; (case hd => rfl); (case hg => rfl); (case hr => first | (go_simp; done) | (go_simp; rfl)); intro zb hg w165 hbox hb; have n0_ := Aside0.mk (Kd.R_below (rq HO_4.out) hb); have n1_ := Aside0.mk (Kd.S_below (by exact sqS ze.out) hb); have n2_ := Aside0.mk (Kd.S_below (by exact sqS zi.out) hb); have n3_ := Aside0.mk (blk_below (bq zc.out) hb); have n4_ := Aside0.mk (blk_below (bq za.out) hb); have n5_ := Aside0.mk (below_step (lq HB.out) hb); have n6_ := Aside0.mk (hbox); have n7_ := Aside0.mk ((ge_new hg (lq HB.out) : w.heap.size ≤ zb)); have n8_ := Aside0.mk ((ge_new hg (lq HB.out) : w.heap.size ≤ zb)); have n9_ := Aside0.mk ((ne_new hg (bq zc.out) : zq ≠ zb)); have n10_ := Aside0.mk ((new_ne hg (bq zc.out) : zb ≠ zq)); have n11_ := Aside0.mk ((ne_new hg (bq za.out) : zh ≠ zb)); have n12_ := Aside0.mk ((new_ne hg (bq za.out) : zb ≠ zh)); clear HO_4; clear ze; clear zi; clear zc; clear za; clear HB; have HO_4 := n0_; have ze := n1_; have zi := n2_; have zc := n3_; have za := n4_; have HB := n5_; have zd := n6_; have GW536 := n7_; have zX := n8_; have NB502_536 := n9_; have NB536_502 := n10_; have NB513_536 := n11_; have NB536_513 := n12_; clear n0_ n1_ n2_ n3_ n4_ n5_ n6_ n7_ n8_ n9_ n10_ n11_ n12_; clear hb hbox hg; have hnb166 := NB536_502.out; have hnc166 := NB502_536.out; have hnb167 := NB536_513.out; have hnc167 := NB513_536.out; have hcz168_0 : w165.cell? ⟨zb, 0, none⟩ = some (.int .i64 0) := (blk_cell zd.out 0).trans rfl; have hcz168_1 : w165.cell? ⟨zb, 1, none⟩ = some (.int .i64 0) := (blk_cell zd.out 1).trans rfl; have hcz168_2 : w165.cell? ⟨zb, 2, none⟩ = some (.int .i64 0) := (blk_cell zd.out 2).trans rfl; have hcz168_3 : w165.cell? ⟨zb, 3, none⟩ = some (.slice none 0 0) := (blk_cell zd.out 3).trans rfl; have hfz168_0 := blk_frozen zd.out 0; have hfz168_1 := blk_frozen zd.out 1; have hfz168_2 := blk_frozen zd.out 2; have hfz168_3 := blk_frozen zd.out 3; obtain ⟨zP, zQ, eo169⟩ := Kd.S_slice zi.out; subst eo169))
         have n0_ : Aside0 (Kd.R k32 32 ((((w165.setCell ⟨zb, 0, none⟩ (.int .i64 zj)).setCell ⟨zb, 1, none⟩ (.int .i64 zl)).setCell ⟨zb, 2, none⟩ (.int .i64 zm)).setCell ⟨zb, 3, none⟩ (.slice zP zk.length zQ)) w.heap.size (fun _ => True) (.slice zSb zp.length zTb) zp) := ⟨by (with_reducible repeat (first | apply Kd.R_alloc | apply Kd.R_drewN | apply Kd.R_drew)); exact Kd.R_mono (Kd.R_far (p := ⟨zb, 3, none⟩) (Kd.R_far (p := ⟨zb, 2, none⟩) (Kd.R_far (p := ⟨zb, 1, none⟩) (Kd.R_far (p := ⟨zb, 0, none⟩) (Kd.R_types HO_4.out zd.out (by decide)) (fun _ hk => hk.2) (.int .i64 zj)) (fun _ hk => hk.2) (.int .i64 zl)) (fun _ hk => hk.2) (.int .i64 zm)) (fun _ hk => hk.2) (.slice zP zk.length zQ)) (fun _ hk => trivial)⟩
         have n1_ : Aside0 (Kd.S (Kd.slice 118 k118) 116 ((((w165.setCell ⟨zb, 0, none⟩ (.int .i64 zj)).setCell ⟨zb, 1, none⟩ (.int .i64 zl)).setCell ⟨zb, 2, none⟩ (.int .i64 zm)).setCell ⟨zb, 3, none⟩ (.slice zP zk.length zQ)) w.heap.size (fun k_ => some k_ ≠ (.slice zP zk.length zQ : Value).ownBlock) (.slice zDa zn.length zEa) zn) := ⟨by (with_reducible repeat (first | apply Kd.S_alloc | apply Kd.S_drewN | apply Kd.S_drew)); exact Kd.S_mono (Kd.S_far (p := ⟨zb, 3, none⟩) (Kd.S_far (p := ⟨zb, 2, none⟩) (Kd.S_far (p := ⟨zb, 1, none⟩) (Kd.S_far (p := ⟨zb, 0, none⟩) (Kd.S_types ze.out zd.out (by decide)) (fun _ hk => hk.2) (.int .i64 zj)) (fun _ hk => hk.2) (.int .i64 zl)) (fun _ hk => hk.2) (.int .i64 zm)) (fun _ hk => hk.2) (.slice zP zk.length zQ)) (fun _ hk => hk.1.2)⟩
         have n2_ : Aside0 (Kd.S (Kd.slice 118 k118) 116 ((((w165.setCell ⟨zb, 0, none⟩ (.int .i64 zj)).setCell ⟨zb, 1, none⟩ (.int .i64 zl)).setCell ⟨zb, 2, none⟩ (.int .i64 zm)).setCell ⟨zb, 3, none⟩ (.slice zP zk.length zQ)) w.heap.size (fun k_ => some k_ ≠ (.slice zDa zn.length zEa : Value).ownBlock) (.slice zP zk.length zQ) zk) := ⟨by (with_reducible repeat (first | apply Kd.S_alloc | apply Kd.S_drewN | apply Kd.S_drew)); exact Kd.S_mono (Kd.S_far (p := ⟨zb, 3, none⟩) (Kd.S_far (p := ⟨zb, 2, none⟩) (Kd.S_far (p := ⟨zb, 1, none⟩) (Kd.S_far (p := ⟨zb, 0, none⟩) (Kd.S_types zi.out zd.out (by decide)) (fun _ hk => hk.2) (.int .i64 zj)) (fun _ hk => hk.2) (.int .i64 zl)) (fun _ hk => hk.2) (.int .i64 zm)) (fun _ hk => hk.2) (.slice zP zk.length zQ)) (fun _ hk => hk.1.2)⟩
         have n3_ : Aside0 (((((w165.setCell ⟨zb, 0, none⟩ (.int .i64 zj)).setCell ⟨zb, 1, none⟩ (.int .i64 zl)).setCell ⟨zb, 2, none⟩ (.int .i64 zm)).setCell ⟨zb, 3, none⟩ (.slice zP zk.length zQ)).heap[zq]? = some (.cells #[.int .i64 zu, .int .i64 zy, .int .i64 zA] 25 (0, 0))) := ⟨by (with_reducible repeat (first | refine blk_drewN ?_ _ | refine blk_drew ?_ | refine blk_alloc ?_ _)); refine blk_far ?_ NB502_536.out _; (with_reducible repeat (first | refine blk_drewN ?_ _ | refine blk_drew ?_ | refine blk_alloc ?_ _)); refine blk_far ?_ NB502_536.out _; (with_reducible repeat (first | refine blk_drewN ?_ _ | refine blk_drew ?_ | refine blk_alloc ?_ _)); refine blk_far ?_ NB502_536.out _; (with_reducible repeat (first | refine blk_drewN ?_ _ | refine blk_drew ?_ | refine blk_alloc ?_ _)); refine blk_far ?_ NB502_536.out _; (with_reducible repeat (first | refine blk_drewN ?_ _ | refine blk_drew ?_ | refine blk_alloc ?_ _)); exact zc.out⟩
         have n4_ : Aside0 (((((w165.setCell ⟨zb, 0, none⟩ (.int .i64 zj)).setCell ⟨zb, 1, none⟩ (.int .i64 zl)).setCell ⟨zb, 2, none⟩ (.int .i64 zm)).setCell ⟨zb, 3, none⟩ (.slice zP zk.length zQ)).heap[zh]? = some (.cells #[.int .i64 zB, .int .i64 zz, .int .i64 zv, .slice zDa zn.length zEa] 70 (0, 0))) := ⟨by (with_reducible repeat (first | refine blk_drewN ?_ _ | refine blk_drew ?_ | refine blk_alloc ?_ _)); refine blk_far ?_ NB513_536.out _; (with_reducible repeat (first | refine blk_drewN ?_ _ | refine blk_drew ?_ | refine blk_alloc ?_ _)); refine blk_far ?_ NB513_536.out _; (with_reducible repeat (first | refine blk_drewN ?_ _ | refine blk_drew ?_ | refine blk_alloc ?_ _)); refine blk_far ?_ NB513_536.out _; (with_reducible repeat (first | refine blk_drewN ?_ _ | refine blk_drew ?_ | refine blk_alloc ?_ _)); refine blk_far ?_ NB513_536.out _; (with_reducible repeat (first | refine blk_drewN ?_ _ | refine blk_drew ?_ | refine blk_alloc ?_ _)); exact za.out⟩
         have n5_ : Aside0 (((((w165.setCell ⟨zb, 0, none⟩ (.int .i64 zj)).setCell ⟨zb, 1, none⟩ (.int .i64 zl)).setCell ⟨zb, 2, none⟩ (.int .i64 zm)).setCell ⟨zb, 3, none⟩ (.slice zP zk.length zQ)).heap[zb]? = some (.cells #[.int .i64 zj, .int .i64 zl, .int .i64 zm, .slice zP zk.length zQ] 70 (0, 0))) := ⟨by (with_reducible repeat (first | refine blk_drewN ?_ _ | refine blk_drew ?_ | refine blk_alloc ?_ _)); refine blk_put (cs := #[.int .i64 zj, .int .i64 zl, .int .i64 zm, .slice none 0 0]) ?_ 3 _ rfl; (with_reducible repeat (first | refine blk_drewN ?_ _ | refine blk_drew ?_ | refine blk_alloc ?_ _)); refine blk_put (cs := #[.int .i64 zj, .int .i64 zl, .int .i64 0, .slice none 0 0]) ?_ 2 _ rfl; (with_reducible repeat (first | refine blk_drewN ?_ _ | refine blk_drew ?_ | refine blk_alloc ?_ _)); refine blk_put (cs := #[.int .i64 zj, .int .i64 0, .int .i64 0, .slice none 0 0]) ?_ 1 _ rfl; (with_reducible repeat (first | refine blk_drewN ?_ _ | refine blk_drew ?_ | refine blk_alloc ?_ _)); refine blk_put (cs := #[.int .i64 0, .int .i64 0, .int .i64 0, .slice none 0 0]) ?_ 0 _ rfl; (with_reducible repeat (first | refine blk_drewN ?_ _ | refine blk_drew ?_ | refine blk_alloc ?_ _)); exact zd.out⟩
         have n6_ : Aside0 (Below w.heap.size w ((((w165.setCell ⟨zb, 0, none⟩ (.int .i64 zj)).setCell ⟨zb, 1, none⟩ (.int .i64 zl)).setCell ⟨zb, 2, none⟩ (.int .i64 zm)).setCell ⟨zb, 3, none⟩ (.slice zP zk.length zQ))) := ⟨by repeat (first | (with_reducible first | exact HB.out | apply below_alloc | apply pw_below_drewN | apply below_drew1 | refine below_set ?_ zX.out) | exact HB.out)⟩
         (try clear HO_4)
         (try clear ze)
         (try clear zi)
         (try clear zc)
         (try clear za)
         (try clear zd)
         (try clear HB)
         generalize ((((w165.setCell ⟨zb, 0, none⟩ (.int .i64 zj)).setCell ⟨zb, 1, none⟩ (.int .i64 zl)).setCell ⟨zb, 2, none⟩ (.int .i64 zm)).setCell ⟨zb, 3, none⟩ (.slice zP zk.length zQ)) = w170 at n0_ n1_ n2_ n3_ n4_ n5_ n6_ ⊢
         have HO_4 := n0_
         have ze := n1_
         have zi := n2_
         have zc := n3_
         have za := n4_
         have zd := n5_
         have HB := n6_
         clear n0_ n1_ n2_ n3_ n4_ n5_ n6_
         have n0_ := Aside0.mk (Kd.R_drew HO_4.out)
         have n1_ := Aside0.mk (Kd.S_drew ze.out)
         have n2_ := Aside0.mk (Kd.S_drew zi.out)
         have n3_ := Aside0.mk (blk_drew zc.out)
         have n4_ := Aside0.mk (blk_drew za.out)
         have n5_ := Aside0.mk (blk_drew zd.out)
         have n6_ := Aside0.mk (below_drew1 HB.out)
         clear HO_4 ze zi zc za zd HB
         have HO_4 := n0_
         have ze := n1_
         have zi := n2_
         have zc := n3_
         have za := n4_
         have zd := n5_
         have HB := n6_
         clear n0_ n1_ n2_ n3_ n4_ n5_ n6_
         refine start_ (n := 30) (S := fun w' => w'.cell? ⟨zb, 0, none⟩ = some (.int .i64 zj) ∧ w'.cell? ⟨zb, 1, none⟩ = some (.int .i64 zl) ∧ w'.cell? ⟨zb, 2, none⟩ = some (.int .i64 zm) ∧ w'.cell? ⟨zb, 3, none⟩ = some (.slice zP zk.length zQ)) (ds := []) #[f_, f_, f_, f_, f_, f_, f_, f_, f_, f_, f_, f_, f_, f_, f_, f_, f_, f_, f_, f_, f_, f_, f_, f_, f_, f_, f_, f_, f_, f_] (by kernel_rfl) rfl rfl ⟨(blk_cell zd.out 0).trans rfl, (blk_cell zd.out 1).trans rfl, (blk_cell zd.out 2).trans rfl, (blk_cell zd.out 3).trans rfl⟩ (fun hHeld => ?_); refine with_tabW laws_FnDirty.tab20 laws_FnDirty.bits20 (fun HT_ HW_ => ?_)
         generalize w170.drew = w171 at HO_4 ze zi zc za zd HB hHeld ⊢
         refine take_ (i := 0) (N := some 91) (v := ?_) (a' := ?_) #[t_, f_, f_, f_, f_, f_, f_, f_, f_, f_, f_, f_, f_, f_, f_, f_, f_, f_, f_, f_, f_, f_, f_, f_, f_, f_, f_, f_, f_, f_] rfl rfl (take_ofW HT_.out HW_.out (by kernel_rfl)) (fun _ _ _ h => h) (Or.inl ⟨by rfl, ?_⟩) hHeld ?_ ?_
         rotate_left
         ·rintro w' ⟨s0, s1, s2, s3⟩
          go_simp
          with_reducible rfl
         rotate_left
         ·simp only [Act.put, p1_, p2_, p3_, i64_w, i32_w]
          rfl
         refine one_ (i := 1) (N := some 92) #[t_, t_, f_, f_, f_, f_, f_, f_, f_, f_, f_, f_, f_, f_, f_, f_, f_, f_, f_, f_, f_, f_, f_, f_, f_, f_, f_, f_, f_, f_] rfl rfl (one_of HT_.out (by kernel_rfl)) (by decide) (fun K hK => ?_)
         refine goes_ Try.func48 (by kernel_rfl) rfl #[.agg #[.int .i64 zj, .int .i64 zl, .int .i64 zm, .slice zP zk.length zQ]] (by rfl) rfl rfl (by (try simp only [List.map_toArray, List.map_cons, List.map_nil]); first | done | rfl | (simp only [List.length_drop, List.length_take]; rfl)) ?_
         with_reducible refine (impl_CacheLines.calls k2 zj zl zm _ _ zk zR _ ?side1 ?side2 A85.out).mono ?_
         (case side1 => repeat (first | exact (Kd.S_reads' zi.out).2.2 | (with_reducible refine Kd.C_alloc ?_ _) | (with_reducible refine Kd.C_drewN ?_ _) | (with_reducible refine Kd.C_drew ?_)))
         (case side2 => exact (Kd.S_reads' zi.out).2.1)
         rintro e w172 ⟨zva, rfl, ho0, hb⟩
         refine ⟨_, rfl, ?_⟩
         have n0_ := Aside0.mk (Kd.R_below (rq HO_4.out) hb)
         have n1_ := Aside0.mk (Kd.S_below (by exact sqS ze.out) hb)
         have n2_ := Aside0.mk (Kd.S_below (by exact sqS zi.out) hb)
         have n3_ := Aside0.mk (Kd.R_lower ho0 (below_size (lq HB.out)))
         have n4_ := Aside0.mk (blk_below (bq zc.out) hb)
         have n5_ := Aside0.mk (blk_below (bq za.out) hb)
         have n6_ := Aside0.mk (blk_below (bq zd.out) hb)
         have n7_ := Aside0.mk (below_step (lq HB.out) hb)
         clear HO_4 ze zi zc za zd HB
         have HO_4 := n0_
         have ze := n1_
         have zi := n2_
         have zF := n3_
         have zc := n4_
         have za := n5_
         have zd := n6_
         have HB := n7_
         clear n0_ n1_ n2_ n3_ n4_ n5_ n6_ n7_
         (try clear hb)
         (try clear hb2)
         (try clear hk)
         (try clear hi)
         (try clear ho0)
         obtain ⟨Ao173, co173, eo173⟩ := Kd.R_slice zF.out
         (first | subst eo173 | (injection eo173 with f1_ f2_ f3_; have f4_ := f1_.symm; have f5_ := f3_.symm; clear f1_ f2_ f3_; subst f4_; subst f5_))
         refine hK.out _ _ ⟨(blk_cell zd.out 0).trans rfl, (blk_cell zd.out 1).trans rfl, (blk_cell zd.out 2).trans rfl, (blk_cell zd.out 3).trans rfl⟩ (fun hHeld => ?_)
         clear hK K
         refine norm_ (a' := ?_) ?_ ?_
         rotate_left
         ·show Act.put _ (some 92) _ = _
          simp only [Act.put, p1_, p2_, p3_, i64_w, i32_w]
          rfl
         refine pure_ (i := 2) (N := some 93) (v := ?_) (a' := ?_) #[t_, t_, t_, f_, f_, f_, f_, f_, f_, f_, f_, f_, f_, f_, f_, f_, f_, f_, f_, f_, f_, f_, f_, f_, f_, f_, f_, f_, f_, f_] rfl rfl (any_of HT_.out (by kernel_rfl)) (fun _ _ _ h => h) (Or.inl ⟨by rfl, ?_⟩) ?_ ?_
         rotate_left
         ·intro w'; go_simp; with_reducible rfl
         rotate_left
         ·simp only [Act.put, p1_, p2_, p3_, i64_w, i32_w]; rfl
         refine pure_ (i := 3) (N := some 94) (v := ?_) (a' := ?_) #[t_, t_, t_, t_, f_, f_, f_, f_, f_, f_, f_, f_, f_, f_, f_, f_, f_, f_, f_, f_, f_, f_, f_, f_, f_, f_, f_, f_, f_, f_] rfl rfl (any_of HT_.out (by kernel_rfl)) (fun _ _ _ h => h) (Or.inl ⟨by rfl, ?_⟩) ?_ ?_
         rotate_left
         ·intro w'; go_simp; with_reducible rfl
         rotate_left
         ·simp only [Act.put, p1_, p2_, p3_, i64_w, i32_w]; rfl
         refine pure_ (i := 4) (N := some 95) (v := ?_) (a' := ?_) #[t_, t_, t_, t_, t_, f_, f_, f_, f_, f_, f_, f_, f_, f_, f_, f_, f_, f_, f_, f_, f_, f_, f_, f_, f_, f_, f_, f_, f_, f_] rfl rfl (any_of HT_.out (by kernel_rfl)) (fun _ _ _ h => h) (Or.inl ⟨by rfl, ?_⟩) ?_ ?_
         rotate_left
         ·intro w'; go_simp; with_reducible rfl
         rotate_left
         ·simp only [Act.put, p1_, p2_, p3_, i64_w, i32_w]; rfl
         refine pure_ (i := 5) (N := some 96) (v := undef) (a' := ?_) #[t_, t_, t_, t_, t_, t_, f_, f_, f_, f_, f_, f_, f_, f_, f_, f_, f_, f_, f_, f_, f_, f_, f_, f_, f_, f_, f_, f_, f_, f_] rfl rfl (any_of HT_.out (by kernel_rfl)) (fun _ _ _ h => h) (Or.inr ⟨by rfl, rfl⟩) ?_ ?_
         rotate_left
         ·simp only [Act.put, p1_, p2_, p3_, i64_w, i32_w]
          rfl
         refine pure_ (i := 6) (N := some 97) (v := undef) (a' := ?_) #[t_, t_, t_, t_, t_, t_, t_, f_, f_, f_, f_, f_, f_, f_, f_, f_, f_, f_, f_, f_, f_, f_, f_, f_, f_, f_, f_, f_, f_, f_] rfl rfl (any_of HT_.out (by kernel_rfl)) (fun _ _ _ h => h) (Or.inr ⟨by rfl, rfl⟩) ?_ ?_
         rotate_left
         ·simp only [Act.put, p1_, p2_, p3_, i64_w, i32_w]
          rfl
         refine pure_ (i := 7) (N := some 98) (v := ?_) (a' := ?_) #[t_, t_, t_, t_, t_, t_, t_, t_, f_, f_, f_, f_, f_, f_, f_, f_, f_, f_, f_, f_, f_, f_, f_, f_, f_, f_, f_, f_, f_, f_] rfl rfl (any_of HT_.out (by kernel_rfl)) (fun _ _ _ h => h) (Or.inl ⟨by rfl, ?_⟩) ?_ ?_
         rotate_left
         ·intro w'; go_simp; with_reducible rfl
         rotate_left
         ·simp only [Act.put, p1_, p2_, p3_, i64_w, i32_w]; rfl
         refine pure_ (i := 8) (N := some 99) (v := ?_) (a' := ?_) #[t_, t_, t_, t_, t_, t_, t_, t_, t_, f_, f_, f_, f_, f_, f_, f_, f_, f_, f_, f_, f_, f_, f_, f_, f_, f_, f_, f_, f_, f_] rfl rfl (any_of HT_.out (by kernel_rfl)) (fun _ _ _ h => h) (Or.inl ⟨by rfl, ?_⟩) ?_ ?_
         rotate_left
         ·intro w'; go_simp; with_reducible rfl
         rotate_left
         ·simp only [Act.put, p1_, p2_, p3_, i64_w, i32_w]; rfl
         refine pure_ (i := 9) (N := some 100) (v := undef) (a' := ?_) #[t_, t_, t_, t_, t_, t_, t_, t_, t_, t_, f_, f_, f_, f_, f_, f_, f_, f_, f_, f_, f_, f_, f_, f_, f_, f_, f_, f_, f_, f_] rfl rfl (any_of HT_.out (by kernel_rfl)) (fun _ _ _ h => h) (Or.inr ⟨by rfl, rfl⟩) ?_ ?_
         rotate_left
         ·simp only [Act.put, p1_, p2_, p3_, i64_w, i32_w]
          rfl
         refine pure_ (i := 10) (N := some 101) (v := undef) (a' := ?_) #[t_, t_, t_, t_, t_, t_, t_, t_, t_, t_, t_, f_, f_, f_, f_, f_, f_, f_, f_, f_, f_, f_, f_, f_, f_, f_, f_, f_, f_, f_] rfl rfl (any_of HT_.out (by kernel_rfl)) (fun _ _ _ h => h) (Or.inr ⟨by rfl, rfl⟩) ?_ ?_
         rotate_left
         ·simp only [Act.put, p1_, p2_, p3_, i64_w, i32_w]
          rfl
         refine pure_ (i := 11) (N := some 102) (v := undef) (a' := ?_) #[t_, t_, t_, t_, t_, t_, t_, t_, t_, t_, t_, t_, f_, f_, f_, f_, f_, f_, f_, f_, f_, f_, f_, f_, f_, f_, f_, f_, f_, f_] rfl rfl (any_of HT_.out (by kernel_rfl)) (fun _ _ _ h => h) (Or.inr ⟨by rfl, rfl⟩) ?_ ?_
         rotate_left
         ·simp only [Act.put, p1_, p2_, p3_, i64_w, i32_w]
          rfl
         refine pure_ (i := 12) (N := some 103) (v := undef) (a' := ?_) #[t_, t_, t_, t_, t_, t_, t_, t_, t_, t_, t_, t_, t_, f_, f_, f_, f_, f_, f_, f_, f_, f_, f_, f_, f_, f_, f_, f_, f_, f_] rfl rfl (any_of HT_.out (by kernel_rfl)) (fun _ _ _ h => h) (Or.inr ⟨by rfl, rfl⟩) ?_ ?_
         rotate_left
         ·simp only [Act.put, p1_, p2_, p3_, i64_w, i32_w]
          rfl
         refine pure_ (i := 13) (N := some 104) (v := ?_) (a' := ?_) #[t_, t_, t_, t_, t_, t_, t_, t_, t_, t_, t_, t_, t_, t_, f_, f_, f_, f_, f_, f_, f_, f_, f_, f_, f_, f_, f_, f_, f_, f_] rfl rfl (any_of HT_.out (by kernel_rfl)) (fun _ _ _ h => h) (Or.inl ⟨by rfl, ?_⟩) ?_ ?_
         rotate_left
         ·intro w'; go_simp; with_reducible rfl
         rotate_left
         ·simp only [Act.put, p1_, p2_, p3_, i64_w, i32_w]; rfl
         refine pure_ (i := 14) (N := some 105) (v := ?_) (a' := ?_) #[t_, t_, t_, t_, t_, t_, t_, t_, t_, t_, t_, t_, t_, t_, t_, f_, f_, f_, f_, f_, f_, f_, f_, f_, f_, f_, f_, f_, f_, f_] rfl rfl (any_of HT_.out (by kernel_rfl)) (fun _ _ _ h => h) (Or.inl ⟨by rfl, ?_⟩) ?_ ?_
         rotate_left
         ·intro w'; go_simp; with_reducible rfl
         rotate_left
         ·simp only [Act.put, p1_, p2_, p3_, i64_w, i32_w]; rfl
         refine pure_ (i := 15) (N := some 106) (v := undef) (a' := ?_) #[t_, t_, t_, t_, t_, t_, t_, t_, t_, t_, t_, t_, t_, t_, t_, t_, f_, f_, f_, f_, f_, f_, f_, f_, f_, f_, f_, f_, f_, f_] rfl rfl (any_of HT_.out (by kernel_rfl)) (fun _ _ _ h => h) (Or.inr ⟨by rfl, rfl⟩) ?_ ?_
         rotate_left
         ·simp only [Act.put, p1_, p2_, p3_, i64_w, i32_w]
          rfl
         refine pure_ (i := 16) (N := some 107) (v := undef) (a' := ?_) #[t_, t_, t_, t_, t_, t_, t_, t_, t_, t_, t_, t_, t_, t_, t_, t_, t_, f_, f_, f_, f_, f_, f_, f_, f_, f_, f_, f_, f_, f_] rfl rfl (any_of HT_.out (by kernel_rfl)) (fun _ _ _ h => h) (Or.inr ⟨by rfl, rfl⟩) ?_ ?_
         rotate_left
         ·simp only [Act.put, p1_, p2_, p3_, i64_w, i32_w]
          rfl
         refine pure_ (i := 17) (N := some 108) (v := undef) (a' := ?_) #[t_, t_, t_, t_, t_, t_, t_, t_, t_, t_, t_, t_, t_, t_, t_, t_, t_, t_, f_, f_, f_, f_, f_, f_, f_, f_, f_, f_, f_, f_] rfl rfl (any_of HT_.out (by kernel_rfl)) (fun _ _ _ h => h) (Or.inr ⟨by rfl, rfl⟩) ?_ ?_
         rotate_left
         ·simp only [Act.put, p1_, p2_, p3_, i64_w, i32_w]
          rfl
         refine pure_ (i := 18) (N := some 109) (v := undef) (a' := ?_) #[t_, t_, t_, t_, t_, t_, t_, t_, t_, t_, t_, t_, t_, t_, t_, t_, t_, t_, t_, f_, f_, f_, f_, f_, f_, f_, f_, f_, f_, f_] rfl rfl (any_of HT_.out (by kernel_rfl)) (fun _ _ _ h => h) (Or.inr ⟨by rfl, rfl⟩) ?_ ?_
         rotate_left
         ·simp only [Act.put, p1_, p2_, p3_, i64_w, i32_w]
          rfl
         refine pure_ (i := 19) (N := some 110) (v := undef) (a' := ?_) #[t_, t_, t_, t_, t_, t_, t_, t_, t_, t_, t_, t_, t_, t_, t_, t_, t_, t_, t_, t_, f_, f_, f_, f_, f_, f_, f_, f_, f_, f_] rfl rfl (any_of HT_.out (by kernel_rfl)) (fun _ _ _ h => h) (Or.inr ⟨by rfl, rfl⟩) ?_ ?_
         rotate_left
         ·simp only [Act.put, p1_, p2_, p3_, i64_w, i32_w]
          rfl
         refine pure_ (i := 20) (N := some 111) (v := ?_) (a' := ?_) #[t_, t_, t_, t_, t_, t_, t_, t_, t_, t_, t_, t_, t_, t_, t_, t_, t_, t_, t_, t_, t_, f_, f_, f_, f_, f_, f_, f_, f_, f_] rfl rfl (any_of HT_.out (by kernel_rfl)) (fun _ _ _ h => h) (Or.inl ⟨by rfl, ?_⟩) ?_ ?_
         rotate_left
         ·intro w'; go_simp; with_reducible rfl
         rotate_left
         ·simp only [Act.put, p1_, p2_, p3_, i64_w, i32_w]; rfl
         refine pure_ (i := 21) (N := some 112) (v := ?_) (a' := ?_) #[t_, t_, t_, t_, t_, t_, t_, t_, t_, t_, t_, t_, t_, t_, t_, t_, t_, t_, t_, t_, t_, t_, f_, f_, f_, f_, f_, f_, f_, f_] rfl rfl (any_of HT_.out (by kernel_rfl)) (fun _ _ _ h => h) (Or.inl ⟨by rfl, ?_⟩) ?_ ?_
         rotate_left
         ·intro w'; go_simp; with_reducible rfl
         rotate_left
         ·simp only [Act.put, p1_, p2_, p3_, i64_w, i32_w]; rfl
         refine pure_ (i := 22) (N := some 113) (v := undef) (a' := ?_) #[t_, t_, t_, t_, t_, t_, t_, t_, t_, t_, t_, t_, t_, t_, t_, t_, t_, t_, t_, t_, t_, t_, t_, f_, f_, f_, f_, f_, f_, f_] rfl rfl (any_of HT_.out (by kernel_rfl)) (fun _ _ _ h => h) (Or.inr ⟨by rfl, rfl⟩) ?_ ?_
         rotate_left
         ·simp only [Act.put, p1_, p2_, p3_, i64_w, i32_w]
          rfl
         refine pure_ (i := 23) (N := some 114) (v := undef) (a' := ?_) #[t_, t_, t_, t_, t_, t_, t_, t_, t_, t_, t_, t_, t_, t_, t_, t_, t_, t_, t_, t_, t_, t_, t_, t_, f_, f_, f_, f_, f_, f_] rfl rfl (any_of HT_.out (by kernel_rfl)) (fun _ _ _ h => h) (Or.inr ⟨by rfl, rfl⟩) ?_ ?_
         rotate_left
         ·simp only [Act.put, p1_, p2_, p3_, i64_w, i32_w]
          rfl
         refine pure_ (i := 24) (N := some 115) (v := undef) (a' := ?_) #[t_, t_, t_, t_, t_, t_, t_, t_, t_, t_, t_, t_, t_, t_, t_, t_, t_, t_, t_, t_, t_, t_, t_, t_, t_, f_, f_, f_, f_, f_] rfl rfl (any_of HT_.out (by kernel_rfl)) (fun _ _ _ h => h) (Or.inr ⟨by rfl, rfl⟩) ?_ ?_
         rotate_left
         ·simp only [Act.put, p1_, p2_, p3_, i64_w, i32_w]
          rfl
         refine pure_ (i := 25) (N := some 116) (v := undef) (a' := ?_) #[t_, t_, t_, t_, t_, t_, t_, t_, t_, t_, t_, t_, t_, t_, t_, t_, t_, t_, t_, t_, t_, t_, t_, t_, t_, t_, f_, f_, f_, f_] rfl rfl (any_of HT_.out (by kernel_rfl)) (fun _ _ _ h => h) (Or.inr ⟨by rfl, rfl⟩) ?_ ?_
         rotate_left
         ·simp only [Act.put, p1_, p2_, p3_, i64_w, i32_w]
          rfl
         refine pure_ (i := 26) (N := some 117) (v := undef) (a' := ?_) #[t_, t_, t_, t_, t_, t_, t_, t_, t_, t_, t_, t_, t_, t_, t_, t_, t_, t_, t_, t_, t_, t_, t_, t_, t_, t_, t_, f_, f_, f_] rfl rfl (any_of HT_.out (by kernel_rfl)) (fun _ _ _ h => h) (Or.inr ⟨by rfl, rfl⟩) ?_ ?_
         rotate_left
         ·simp only [Act.put, p1_, p2_, p3_, i64_w, i32_w]
          rfl
         refine pure_ (i := 27) (N := some 118) (v := undef) (a' := ?_) #[t_, t_, t_, t_, t_, t_, t_, t_, t_, t_, t_, t_, t_, t_, t_, t_, t_, t_, t_, t_, t_, t_, t_, t_, t_, t_, t_, t_, f_, f_] rfl rfl (any_of HT_.out (by kernel_rfl)) (fun _ _ _ h => h) (Or.inr ⟨by rfl, rfl⟩) ?_ ?_
         rotate_left
         ·simp only [Act.put, p1_, p2_, p3_, i64_w, i32_w]
          rfl
         refine pure_ (i := 28) (N := some 119) (v := ?_) (a' := ?_) #[t_, t_, t_, t_, t_, t_, t_, t_, t_, t_, t_, t_, t_, t_, t_, t_, t_, t_, t_, t_, t_, t_, t_, t_, t_, t_, t_, t_, t_, f_] rfl rfl (any_of HT_.out (by kernel_rfl)) (fun _ _ _ h => h) (Or.inl ⟨by rfl, ?_⟩) ?_ ?_
         rotate_left
         ·intro w'; go_simp; with_reducible rfl
         rotate_left
         ·simp only [Act.put, p1_, p2_, p3_, i64_w, i32_w]; rfl
         refine pure_ (i := 29) (N := some 2) (v := ?_) (a' := ?_) #[t_, t_, t_, t_, t_, t_, t_, t_, t_, t_, t_, t_, t_, t_, t_, t_, t_, t_, t_, t_, t_, t_, t_, t_, t_, t_, t_, t_, t_, t_] rfl rfl (any_of HT_.out (by kernel_rfl)) (fun _ _ _ h => h) (Or.inl ⟨by rfl, ?_⟩) ?_ ?_
         rotate_left
         ·intro w'; go_simp; with_reducible rfl
         rotate_left
         ·simp only [Act.put, p1_, p2_, p3_, i64_w, i32_w]; rfl
         refine done_ (done_of HT_.out (by kernel_rfl)) ?_
         try go_wp2
         go_ret
         exact ⟨by first | rfl | (simp [errW_none, errW_some] <;> rfl) | (simp [*, errW_none, errW_some] <;> rfl), by exact lq HB.out⟩

end Go.Proofs.Ytglehilfemfiiaa.GU
