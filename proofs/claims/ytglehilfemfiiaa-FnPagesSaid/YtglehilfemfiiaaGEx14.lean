/- Told by a program of this session, out of the translation: each function of the group as a plain Lean function, and that Go's call comes to just its answer. Lean checks it. -/
import Derived.Test.YtglehilfemfiiaaGEx0
import Derived.Test.YtglehilfemfiiaaGEx2
import Derived.Test.YtglehilfemfiiaaGEx7
import Derived.Test.YtglehilfemfiiaaGEx9
import Derived.Test.YtglehilfemfiiaaGEx13
import Derived.Test.YtglehilfemfiiaaTlrE
import Derived.Test.YtglehilfemfiiaaTluE
namespace Go.Proofs.Ytglehilfemfiiaa.GE
open Go.RowKit Go.Proofs.YtglehilfemfiiaaW.PrintWords Go.Proofs.YtglehilfemfiiaaW.PrintLast Go.Proofs.YtglehilfemfiiaaW.PrintMore Go.Proofs.Ytglehilfemfiiaa.Q
attribute [local go_sem] max2_int min2_int max_two min_two max_three min_three max_four min_four   -- for this text's walks alone
set_option linter.unusedVariables false
set_option linter.unusedSimpArgs false

/-! ### laws_FnPages: function 5 -/
mutual
def laws_FnPages.l0 : Nat → Int → List Int → List Bool → List Int → Int → Int → List Int → Option (Bool)
 | 0, _, _, _, _, _, _, _ => none
 | k + 1, x3, x4, x5, x6, x8, x345000, x345001 => if x8 < (x5.length : Int) then (laws_FnPages.j1 k x3 x4 x5 x6 x8 (decide (x8 < 150)) x345000 x345001) else (laws_FnPages.j1 k x3 x4 x5 x6 x8 false x345000 x345001)
def laws_FnPages.j1 : Nat → Int → List Int → List Bool → List Int → Int → Bool → Int → List Int → Option (Bool)
 | 0, _, _, _, _, _, _, _, _ => none
 | k + 1, x3, x4, x5, x6, x8, x39, x345000, x345001 => if x39 = true then (if 0 ≤ x8 then (if x8 < (x4.length : Int) then ((laws_has.f k x6 (wrap64 (Int.tdiv (rd x4 x8) 64))).bind fun t346 => (if t346 = true then (if (x6.length : Int) ≤ x3 then (if x8 < (x5.length : Int) then (if rdOf false x5 x8 = true then (laws_FnPages.j2 k x3 x4 x5 x6 x8 x345000 x345001) else (some false)) else (none)) else (laws_FnPages.j2 k x3 x4 x5 x6 x8 x345000 x345001)) else (if x6.length < 17592186044416 then (if x8 < (x5.length : Int) then (if rdOf false x5 x8 = true then (some false) else (laws_FnPages.j2 k x3 x4 x5 (x6 ++ [wrap64 (Int.tdiv (rd x4 x8) 64)]) x8 x345000 x345001)) else (none)) else (none)))) else (none)) else (none)) else (some true)
def laws_FnPages.j2 : Nat → Int → List Int → List Bool → List Int → Int → Int → List Int → Option (Bool)
 | 0, _, _, _, _, _, _, _ => none
 | k + 1, x3, x4, x5, x6, x8, x345000, x345001 => if 0 ≤ x8 then (if x8 < (x4.length : Int) then ((impl_TlbUse.f x345000 x345001 (rd x4 x8)).bind fun bt353 => (if x8 < (x5.length : Int) then (if (bt353.2.2 != (rdOf false x5 x8)) = true then (some false) else (if bt353.2.2 = true then ((laws_sameInts.f k bt353.2.1 x345001).bind fun t360 => (if t360 = true then ((impl_TlbHolds.f k bt353.1 bt353.2.1 (rd x4 x8)).bind fun t362 => (if t362 = true then (laws_FnPages.l0 k x3 x4 x5 x6 (wrap64 (x8 + 1)) bt353.1 bt353.2.1) else (some false))) else (some false))) else ((impl_TlbHolds.f k bt353.1 bt353.2.1 (rd x4 x8)).bind fun t364 => (if t364 = true then (laws_FnPages.l0 k x3 x4 x5 x6 (wrap64 (x8 + 1)) bt353.1 bt353.2.1) else (some false))))) else (none))) else (none)) else (none)
end
def laws_FnPages.f (k : Nat) (l0 : List Int) : Option (Bool) := (laws_big.f l0).bind fun t326 => (if t326 = true then (some true) else ((spec_DrawTlbRun.f k l0).bind fun bt327 => ((impl_TlbRun.f bt327.1 bt327.2).bind fun t331 => ((spec_TlbRun.f k bt327.1 bt327.2).bind fun t334 => (if (t331.length : Int) = (t334.length : Int) then ((impl_TlbEmpty.f bt327.1).bind fun bt340 => (laws_FnPages.l0 k bt327.1 bt327.2 t331 (([] : List Int)) 0 bt340.1 bt340.2)) else (some false))))))
theorem laws_FnPages.mono_l : ∀ k, (∀ y0 y1 y2 y3 y4 y5 y6, LeO (laws_FnPages.l0 k y0 y1 y2 y3 y4 y5 y6) (laws_FnPages.l0 (k + 1) y0 y1 y2 y3 y4 y5 y6)) ∧ (∀ y0 y1 y2 y3 y4 y5 y6 y7, LeO (laws_FnPages.j1 k y0 y1 y2 y3 y4 y5 y6 y7) (laws_FnPages.j1 (k + 1) y0 y1 y2 y3 y4 y5 y6 y7)) ∧ (∀ y0 y1 y2 y3 y4 y5 y6, LeO (laws_FnPages.j2 k y0 y1 y2 y3 y4 y5 y6) (laws_FnPages.j2 (k + 1) y0 y1 y2 y3 y4 y5 y6))
 | 0 => ⟨fun _ _ _ _ _ _ _ r h => by simp [laws_FnPages.l0] at h, fun _ _ _ _ _ _ _ _ r h => by simp [laws_FnPages.j1] at h, fun _ _ _ _ _ _ _ r h => by simp [laws_FnPages.j2] at h⟩
 | k + 1 => by
  obtain ⟨ih0, ih1, ih2⟩ := laws_FnPages.mono_l k
  refine ⟨?_, ?_, ?_⟩
  ·intro y0 y1 y2 y3 y4 y5 y6
   unfold laws_FnPages.l0
   repeat' first
   | (with_reducible exact ih0 _ _ _ _ _ _ _)
   | (with_reducible exact ih1 _ _ _ _ _ _ _ _)
   | (with_reducible exact ih2 _ _ _ _ _ _ _)
   | (with_reducible exact impl_TlbHolds.mono _ _ _ _)
   | (with_reducible exact laws_has.mono _ _ _)
   | (with_reducible exact laws_sameInts.mono _ _ _)
   | (with_reducible exact spec_DrawTlbRun.mono _ _)
   | (with_reducible exact spec_TlbRun.mono _ _ _)
   | (with_reducible exact LeO.refl _)
   | (with_reducible exact LeO.none _)
   | (with_reducible refine LeO.ite ?_ ?_)
   | (with_reducible refine LeO.bind ?_ (fun _ => ?_))
   | exact ih0 _ _ _ _ _ _ _
   | exact ih1 _ _ _ _ _ _ _ _
   | exact ih2 _ _ _ _ _ _ _
   | exact impl_TlbHolds.mono _ _ _ _
   | exact laws_has.mono _ _ _
   | exact laws_sameInts.mono _ _ _
   | exact spec_DrawTlbRun.mono _ _
   | exact spec_TlbRun.mono _ _ _
   | exact LeO.none _
   | refine LeO.ite ?_ ?_
   | refine LeO.bind ?_ (fun _ => ?_)
  ·intro y0 y1 y2 y3 y4 y5 y6 y7
   unfold laws_FnPages.j1
   repeat' first
   | (with_reducible exact ih0 _ _ _ _ _ _ _)
   | (with_reducible exact ih1 _ _ _ _ _ _ _ _)
   | (with_reducible exact ih2 _ _ _ _ _ _ _)
   | (with_reducible exact impl_TlbHolds.mono _ _ _ _)
   | (with_reducible exact laws_has.mono _ _ _)
   | (with_reducible exact laws_sameInts.mono _ _ _)
   | (with_reducible exact spec_DrawTlbRun.mono _ _)
   | (with_reducible exact spec_TlbRun.mono _ _ _)
   | (with_reducible exact LeO.refl _)
   | (with_reducible exact LeO.none _)
   | (with_reducible refine LeO.ite ?_ ?_)
   | (with_reducible refine LeO.bind ?_ (fun _ => ?_))
   | exact ih0 _ _ _ _ _ _ _
   | exact ih1 _ _ _ _ _ _ _ _
   | exact ih2 _ _ _ _ _ _ _
   | exact impl_TlbHolds.mono _ _ _ _
   | exact laws_has.mono _ _ _
   | exact laws_sameInts.mono _ _ _
   | exact spec_DrawTlbRun.mono _ _
   | exact spec_TlbRun.mono _ _ _
   | exact LeO.none _
   | refine LeO.ite ?_ ?_
   | refine LeO.bind ?_ (fun _ => ?_)
  ·intro y0 y1 y2 y3 y4 y5 y6
   unfold laws_FnPages.j2
   repeat' first
   | (with_reducible exact ih0 _ _ _ _ _ _ _)
   | (with_reducible exact ih1 _ _ _ _ _ _ _ _)
   | (with_reducible exact ih2 _ _ _ _ _ _ _)
   | (with_reducible exact impl_TlbHolds.mono _ _ _ _)
   | (with_reducible exact laws_has.mono _ _ _)
   | (with_reducible exact laws_sameInts.mono _ _ _)
   | (with_reducible exact spec_DrawTlbRun.mono _ _)
   | (with_reducible exact spec_TlbRun.mono _ _ _)
   | (with_reducible exact LeO.refl _)
   | (with_reducible exact LeO.none _)
   | (with_reducible refine LeO.ite ?_ ?_)
   | (with_reducible refine LeO.bind ?_ (fun _ => ?_))
   | exact ih0 _ _ _ _ _ _ _
   | exact ih1 _ _ _ _ _ _ _ _
   | exact ih2 _ _ _ _ _ _ _
   | exact impl_TlbHolds.mono _ _ _ _
   | exact laws_has.mono _ _ _
   | exact laws_sameInts.mono _ _ _
   | exact spec_DrawTlbRun.mono _ _
   | exact spec_TlbRun.mono _ _ _
   | exact LeO.none _
   | refine LeO.ite ?_ ?_
   | refine LeO.bind ?_ (fun _ => ?_)
theorem laws_FnPages.mono : ∀ a0 k, LeO (laws_FnPages.f k a0) (laws_FnPages.f (k + 1) a0) := by
 intro a0 k
 obtain ⟨ih0, ih1, ih2⟩ := laws_FnPages.mono_l k
 unfold laws_FnPages.f
 repeat' first
   | (with_reducible exact ih0 _ _ _ _ _ _ _)
   | (with_reducible exact ih1 _ _ _ _ _ _ _ _)
   | (with_reducible exact ih2 _ _ _ _ _ _ _)
   | (with_reducible exact impl_TlbHolds.mono _ _ _ _)
   | (with_reducible exact laws_has.mono _ _ _)
   | (with_reducible exact laws_sameInts.mono _ _ _)
   | (with_reducible exact spec_DrawTlbRun.mono _ _)
   | (with_reducible exact spec_TlbRun.mono _ _ _)
   | (with_reducible exact LeO.refl _)
   | (with_reducible exact LeO.none _)
   | (with_reducible refine LeO.ite ?_ ?_)
   | (with_reducible refine LeO.bind ?_ (fun _ => ?_))
   | exact ih0 _ _ _ _ _ _ _
   | exact ih1 _ _ _ _ _ _ _ _
   | exact ih2 _ _ _ _ _ _ _
   | exact impl_TlbHolds.mono _ _ _ _
   | exact laws_has.mono _ _ _
   | exact laws_sameInts.mono _ _ _
   | exact spec_DrawTlbRun.mono _ _
   | exact spec_TlbRun.mono _ _ _
   | exact LeO.none _
   | refine LeO.ite ?_ ?_
   | refine LeO.bind ?_ (fun _ => ?_)
def laws_FnPages.T19 : Bool × List (List Nat × List Nat) := (true, [([], []), ([], []), ([], []), ([1, 2], [1, 2]), ([3], [3]), ([0, 4], [0, 4]), ([5], [5]), ([6], [6]), ([6], [6]), ([], []), ([9, 7, 5, 0, 1, 2, 3, 4, 5, 6, 7, 9], [7, 9]), ([8, 10, 0, 1, 2, 3, 4, 5, 6, 7, 8, 9, 10], [8])])
def laws_FnPages.B19 : List Nat := [0, 0, 0, 6, 14, 31, 63, 127, 127, 0, 767, 2047]
theorem laws_FnPages.tab19 : rtab .any (opsOf Try.f5 19) = laws_FnPages.T19 := by kernel_rfl
theorem laws_FnPages.bits19 : waitsOk laws_FnPages.T19.2 laws_FnPages.B19 = true := by kernel_rfl
def laws_FnPages.T20 : Bool × List (List Nat × List Nat) := (true, [([], []), ([], []), ([], []), ([1, 2], [1, 2]), ([3], [3]), ([0, 4], [0, 4]), ([5], [5]), ([6], [6]), ([7, 6, 6], [6, 7]), ([8], [8]), ([9, 8], [8, 9]), ([8], [8]), ([11, 8], [8, 11]), ([10, 12, 8, 8], [8, 10, 12]), ([13, 8], [8, 13]), ([8, 14, 6], [6, 8, 14]), ([6, 15], [6, 15]), ([16, 13], [16]), ([17], [17]), ([17], [17]), ([17], [17]), ([19, 20, 17], [17, 19, 20]), ([21, 17], [17, 21]), ([18, 22, 17, 17], [17, 18, 22]), ([23, 17], [17, 23]), ([17, 24], [17, 24])])
def laws_FnPages.B20 : List Nat := [0, 0, 0, 6, 14, 31, 63, 127, 255, 511, 1023, 511, 2559, 8191, 16383, 32767, 65535, 131071, 262143, 262143, 262143, 1835007, 3932159, 8388607, 16777215, 33554431]
theorem laws_FnPages.tab20 : rtab .any (opsOf Try.f5 20) = laws_FnPages.T20 := by kernel_rfl
theorem laws_FnPages.bits20 : waitsOk laws_FnPages.T20.2 laws_FnPages.B20 = true := by kernel_rfl
set_option maxHeartbeats 8000000 in
set_option maxRecDepth 100000 in
theorem laws_FnPages.calls (k : Nat) (A0 : Option Addr) (c0 : Nat) (l0 : List Int) (w : World) (hr0 : Kd.C (Kd.int .u8) w A0 l0.length l0) (hc0 : l0.length ≤ c0) (h : laws_FnPages.f k l0 = some true) :
  Calls Try.prog 5 #[.slice A0 l0.length c0] w fun e w' => e = .returned (.bool true) ∧ Below w.heap.size w w' := by
 have hu40 := Try.underlying40
 have HR0 := Aside0.mk hr0
 have HC0 := Aside0.mk hc0
 clear hr0 hc0
 have HB := Aside0.mk (Below.refl w.heap.size w)
 have H : ((laws_big.f l0).bind fun t326 => (if t326 = true then (some true) else ((spec_DrawTlbRun.f k l0).bind fun bt327 => ((impl_TlbRun.f bt327.1 bt327.2).bind fun t331 => ((spec_TlbRun.f k bt327.1 bt327.2).bind fun t334 => (if (t331.length : Int) = (t334.length : Int) then ((impl_TlbEmpty.f bt327.1).bind fun bt340 => (laws_FnPages.l0 k bt327.1 bt327.2 t331 (([] : List Int)) 0 bt340.1 bt340.2)) else (some false))))))) = some true := h
 clear h
 replace H := Option.bind_eq_some_iff.mp H
 obtain ⟨t326, A20, H⟩ := H
 (try dsimp only at H)
 have A2 := Aside0.mk A20
 clear A20
 by_cases c3 : t326 = true
 ·subst c3
  rw [if_pos rfl] at H
  clear H
  go_enter Try.func5, Try.ntmps5
  go_wp2_with (first | ((with_reducible refine gate_callee (f := 10) rfl ?_); refine goesL_ (some 13) rfl rfl Try.func10 (by kernel_rfl) rfl #[.slice A0 l0.length c0] rfl (by (try simp only [List.map_toArray, List.map_cons, List.map_nil]); first | done | rfl | (simp only [List.length_drop, List.length_take]; rfl)) ?_; (with_reducible refine (laws_big.calls _ _ l0 true _ ?side1 ?side2 A2.out).mono ?_); (case side1 => repeat (first | exact HR0.out | (with_reducible refine Kd.C_alloc ?_ _) | (with_reducible refine Kd.C_drewN ?_ _) | (with_reducible refine Kd.C_drew ?_))); (case side2 => exact HC0.out); rintro e w' ⟨rfl, ⟨nd, rfl⟩⟩; refine ⟨_, rfl, ?_⟩))
  go_ret
  exact ⟨by first | rfl | (simp [errW_none, errW_some] <;> rfl) | (simp [*, errW_none, errW_some] <;> rfl), by exact lq HB.out⟩
 ·replace c3 := Bool.eq_false_iff.mpr c3
  subst c3
  rw [if_neg (show ¬ (false = true) by decide)] at H
  replace H := Option.bind_eq_some_iff.mp H
  obtain ⟨⟨t327, t328⟩, A40, H⟩ := H
  (try dsimp only at H)
  have A4 := Aside0.mk A40
  clear A40
  replace H := Option.bind_eq_some_iff.mp H
  obtain ⟨t331, A50, H⟩ := H
  (try dsimp only at H)
  have A5 := Aside0.mk A50
  clear A50
  replace H := Option.bind_eq_some_iff.mp H
  obtain ⟨t334, A60, H⟩ := H
  (try dsimp only at H)
  have A6 := Aside0.mk A60
  clear A60
  by_cases c7 : (t331.length : Int) = (t334.length : Int)
  ·rw [if_pos c7] at H
   have c7b0 : ((t331.length : Int) == (t334.length : Int)) = true := beq_iff_eq.mpr c7
   have c7b1 : ((t331.length : Int) != (t334.length : Int)) = false := bne_eq_false_iff_eq.mpr c7
   have c7b2 : (t331.length == t334.length) = true := by first | simpa using c7 | (simp at c7 ⊢; omega)
   clear c7
   obtain ⟨y337, hy337⟩ : ∃ y_ : List Int, y_ = (([] : List Int)) := ⟨_, rfl⟩
   replace H : ((impl_TlbEmpty.f t327).bind fun bt340 => (laws_FnPages.l0 k t327 t328 t331 y337 0 bt340.1 bt340.2)) = some true := by first | (rw [hy337]; with_reducible exact H) | (have H2_ := (Option.bind_some _ _).symm.trans H; rw [hy337]; with_reducible exact H2_) | (have H2_ := (Option.bind_some _ _).symm.trans H; with_reducible exact H2_) | with_reducible exact H | (rw [hy337]; exact H) | exact H
   have Ny337 := Aside0.mk hy337
   clear hy337
   replace H := Option.bind_eq_some_iff.mp H
   obtain ⟨⟨t340, t341⟩, A80, H⟩ := H
   (try dsimp only at H)
   have A8 := Aside0.mk A80
   clear A80
   have H' := Aside0.mk H
   clear H
   go_enter Try.func5, Try.ntmps5
   go_wp2_with (first | ((with_reducible refine gate_callee (f := 10) rfl ?_); refine goesL_ (some 13) rfl rfl Try.func10 (by kernel_rfl) rfl #[.slice A0 l0.length c0] rfl (by (try simp only [List.map_toArray, List.map_cons, List.map_nil]); first | done | rfl | (simp only [List.length_drop, List.length_take]; rfl)) ?_; (with_reducible refine (laws_big.calls _ _ l0 false _ ?side1 ?side2 A2.out).mono ?_); (case side1 => repeat (first | exact HR0.out | (with_reducible refine Kd.C_alloc ?_ _) | (with_reducible refine Kd.C_drewN ?_ _) | (with_reducible refine Kd.C_drew ?_))); (case side2 => exact HC0.out); rintro e w' ⟨rfl, ⟨nd, rfl⟩⟩; refine ⟨_, rfl, ?_⟩) | ((with_reducible refine gate_callee (f := 22) rfl ?_); refine goesL_ (some 16) rfl rfl Try.func22 (by kernel_rfl) rfl #[.slice A0 l0.length c0] rfl (by (try simp only [List.map_toArray, List.map_cons, List.map_nil]); first | done | rfl | (simp only [List.length_drop, List.length_take]; rfl)) ?_; (with_reducible refine (spec_DrawTlbRun.calls k _ _ l0 t327 t328 _ ?side1 ?side2 A4.out).mono ?_); (case side1 => repeat (first | exact HR0.out | (with_reducible refine Kd.C_alloc ?_ _) | (with_reducible refine Kd.C_drewN ?_ _) | (with_reducible refine Kd.C_drew ?_))); (case side2 => exact HC0.out); rintro e w9 ⟨v329, rfl, ho0, hb⟩; refine ⟨_, rfl, ?_⟩; have n0_ := Aside0.mk (Kd.R_lower ho0 (below_size (lq HB.out))); have n1_ := Aside0.mk (below_step (lq HB.out) hb); clear HB; have HO330 := n0_; have HB := n1_; clear n0_ n1_; (try clear hb); (try clear hb2); (try clear hk); (try clear hi); (try clear ho0); obtain ⟨Ao10, co10, eo10⟩ := Kd.R_slice HO330.out; subst eo10) | ((with_reducible refine gate_callee (f := 23) rfl ?_); refine goesL_ (some 21) rfl rfl Try.func23 (by kernel_rfl) rfl #[.int .i64 t327, .slice Ao10 t328.length co10] rfl (by (try simp only [List.map_toArray, List.map_cons, List.map_nil]); first | done | rfl | (simp only [List.length_drop, List.length_take]; rfl)) ?_; (with_reducible refine (impl_TlbRun.calls t327 _ _ t328 t331 _ ?side1 ?side2 A5.out).mono ?_); (case side1 => repeat (first | exact (Kd.R_reads' HO330.out).2.2 | (with_reducible refine Kd.C_alloc ?_ _) | (with_reducible refine Kd.C_drewN ?_ _) | (with_reducible refine Kd.C_drew ?_))); (case side2 => exact (Kd.R_reads' HO330.out).2.1); rintro e w11 ⟨v332, rfl, ho0, hb⟩; refine ⟨_, rfl, ?_⟩; have n0_ := Aside0.mk (Kd.R_below (rq HO330.out) hb); have n1_ := Aside0.mk (Kd.R_lower ho0 (below_size (lq HB.out))); have n2_ := Aside0.mk (below_step (lq HB.out) hb); clear HO330; clear HB; have HO330 := n0_; have HO333 := n1_; have HB := n2_; clear n0_ n1_ n2_; (try clear hb); (try clear hb2); (try clear hk); (try clear hi); (try clear ho0); obtain ⟨Ao12, co12, eo12⟩ := Kd.R_slice HO333.out; subst eo12) | ((with_reducible refine gate_callee (f := 24) rfl ?_); refine goesL_ (some 26) rfl rfl Try.func24 (by kernel_rfl) rfl #[.int .i64 t327, .slice Ao10 t328.length co10] rfl (by (try simp only [List.map_toArray, List.map_cons, List.map_nil]); first | done | rfl | (simp only [List.length_drop, List.length_take]; rfl)) ?_; (with_reducible refine (spec_TlbRun.calls k t327 _ _ t328 t334 _ ?side1 ?side2 A6.out).mono ?_); (case side1 => repeat (first | exact (Kd.R_reads' HO330.out).2.2 | (with_reducible refine Kd.C_alloc ?_ _) | (with_reducible refine Kd.C_drewN ?_ _) | (with_reducible refine Kd.C_drew ?_))); (case side2 => exact (Kd.R_reads' HO330.out).2.1); rintro e w13 ⟨v335, rfl, ho0, hb⟩; refine ⟨_, rfl, ?_⟩; have n0_ := Aside0.mk (Kd.R_below (rq HO330.out) hb); have n1_ := Aside0.mk (Kd.R_elder' (rq HO333.out) (Kd.R_base ho0) hb); have n2_ := Aside0.mk (Kd.R_lower (Kd.R_new' ho0 (Kd.R_lt (rq HO333.out))) (below_size (lq HB.out))); have n3_ := Aside0.mk (below_step (lq HB.out) hb); clear HO330; clear HO333; clear HB; have HO330 := n0_; have HO333 := n1_; have HO336 := n2_; have HB := n3_; clear n0_ n1_ n2_ n3_; (try clear hb); (try clear hb2); (try clear hk); (try clear hi); (try clear ho0); obtain ⟨Ao14, co14, eo14⟩ := Kd.R_slice HO336.out; subst eo14) | ((with_reducible refine gate_dst (N := 29) rfl ?_); refine Kd.R_lit (Kd.int .i64) _ 3 ?hg (N := 29) ?hd (xs := ([] : List Int)) (inner := []) (ok := fun _ => True) (okp := fun _ => True) ?hr ?hp (fun _ hk => hk) trivial (Below.refl _ _) (Nat.le_refl _) (by simp) ?_; (case hd => rfl); (case hg => rfl); (case hr => first | (go_simp; done) | (go_simp; rfl)); (case hp => exact (Reps.none _ _)); intro v338 w15 ho16 hb hg_ hnew_; clear hg_ hnew_; (first | rw [← Ny337.out] at ho16 | (simp only [Int.reduceToNat] at ho16; rw [← Ny337.out] at ho16)); have n0_ := Aside0.mk (Kd.R_elder' (rq HO330.out) (Kd.R_base ho16) hb); have n1_ := Aside0.mk (Kd.R_below (rq HO333.out) hb); have n2_ := Aside0.mk (Kd.R_below (rq HO336.out) hb); have n3_ := Aside0.mk (Kd.R_lower (Kd.R_new' ho16 (Kd.R_lt (rq HO330.out))) (below_size (lq HB.out))); have n4_ := Aside0.mk (below_step (lq HB.out) hb); clear HO330; clear HO333; clear HO336; clear HB; have HO330 := n0_; have HO333 := n1_; have HO336 := n2_; have HO339 := n3_; have HB := n4_; clear n0_ n1_ n2_ n3_ n4_; clear hb ho16) | ((with_reducible refine gate_callee (f := 25) rfl ?_); refine goesL_ (some 31) rfl rfl Try.func25 (by kernel_rfl) rfl #[.int .i64 t327] rfl (by (try simp only [List.map_toArray, List.map_cons, List.map_nil]); first | done | rfl | (simp only [List.length_drop, List.length_take]; rfl)) ?_; (with_reducible refine (impl_TlbEmpty.calls t327 t340 t341 _ A8.out).mono ?_); rintro e w17 ⟨v342, rfl, ho0, hb⟩; refine ⟨_, rfl, ?_⟩; have n0_ := Aside0.mk (Kd.R_elder' (rq HO330.out) (Kd.R_base ho0) hb); have n1_ := Aside0.mk (Kd.R_below (rq HO333.out) hb); have n2_ := Aside0.mk (Kd.R_below (rq HO336.out) hb); have n3_ := Aside0.mk (Kd.R_elder' (rq HO339.out) (Kd.R_base ho0) hb); have n4_ := Aside0.mk (Kd.R_lower (Kd.R_new' (Kd.R_new' ho0 (Kd.R_lt (rq HO330.out))) (Kd.R_lt (rq HO339.out))) (below_size (lq HB.out))); have n5_ := Aside0.mk (below_step (lq HB.out) hb); clear HO330; clear HO333; clear HO336; clear HO339; clear HB; have HO330 := n0_; have HO333 := n1_; have HO336 := n2_; have HO339 := n3_; have HO343 := n4_; have HB := n5_; clear n0_ n1_ n2_ n3_ n4_ n5_; (try clear hb); (try clear hb2); (try clear hk); (try clear hi); (try clear ho0)) | ((with_reducible refine gate_dst (N := 7) rfl ?_); refine box_event ?hg (N := 7) ?hd (cs := #[.int .i64 0, .slice none 0 0]) (t := 40) ?hr ?_; (case hd => rfl); (case hg => rfl); (case hr => first | (go_simp; done) | (go_simp; rfl)); intro gb344 hg w18 hbox hb; have n0_ := Aside0.mk (Kd.R_below (rq HO330.out) hb); have n1_ := Aside0.mk (Kd.R_below (rq HO333.out) hb); have n2_ := Aside0.mk (Kd.R_below (rq HO336.out) hb); have n3_ := Aside0.mk (Kd.R_below (rq HO339.out) hb); have n4_ := Aside0.mk (Kd.R_below (rq HO343.out) hb); have n5_ := Aside0.mk (below_step (lq HB.out) hb); have n6_ := Aside0.mk (hbox); have n7_ := Aside0.mk ((ge_new hg (lq HB.out) : w.heap.size ≤ gb344)); have n8_ := Aside0.mk ((ge_new hg (lq HB.out) : w.heap.size ≤ gb344)); clear HO330; clear HO333; clear HO336; clear HO339; clear HO343; clear HB; have HO330 := n0_; have HO333 := n1_; have HO336 := n2_; have HO339 := n3_; have HO343 := n4_; have HB := n5_; have BK344 := n6_; have GW344 := n7_; have GE344 := n8_; clear n0_ n1_ n2_ n3_ n4_ n5_ n6_ n7_ n8_; clear hb hbox hg; have hcz19_0 : w18.cell? ⟨gb344, 0, none⟩ = some (.int .i64 0) := (blk_cell BK344.out 0).trans rfl; have hcz19_1 : w18.cell? ⟨gb344, 1, none⟩ = some (.slice none 0 0) := (blk_cell BK344.out 1).trans rfl; have hfz19_0 := blk_frozen BK344.out 0; have hfz19_1 := blk_frozen BK344.out 1; obtain ⟨Ao20, co20, eo20⟩ := Kd.R_slice HO343.out; subst eo20))
   go_loopg [6, 8] k (fun kq v6 v8 w' => ∃ (x6_1 : List Int) (x8_1 : Int) (x345000_1 : Int) (x345001_1 : List Int) (u345001 : Value), v8 = .int .i64 x8_1 ∧ Aside0 (laws_FnPages.l0 kq t327 t328 t331 x6_1 x8_1 x345000_1 x345001_1 = some true) ∧ Aside0 (kq ≤ k) ∧ Aside0 (Kd.R (Kd.int .i64) 3 w' w.heap.size (fun k_ => some k_ ≠ (v6 : Value).ownBlock ∧ some k_ ≠ (u345001 : Value).ownBlock) (.slice Ao10 t328.length co10) t328) ∧ Aside0 (Kd.R Kd.bool 4 w' w.heap.size (fun _ => True) (.slice Ao12 t331.length co12) t331) ∧ Aside0 (Kd.R (Kd.int .i64) 3 w' w.heap.size (fun k_ => some k_ ≠ ((.slice Ao10 t328.length co10) : Value).ownBlock ∧ some k_ ≠ (u345001 : Value).ownBlock) v6 x6_1) ∧ Aside0 (Kd.Q (Kd.int .i64) 3 w' w.heap.size (fun k_ => some k_ ≠ ((.slice Ao10 t328.length co10) : Value).ownBlock ∧ some k_ ≠ (v6 : Value).ownBlock) u345001 x345001_1) ∧ Aside0 (w'.heap[gb344]? = some (.cells #[.int .i64 x345000_1, u345001] 40 (0, 0))) ∧ Aside0 (Below w.heap.size w w'))
   case atStart => exact ⟨(y337), (0), (t340), (t341), (.slice Ao20 t341.length co20), (by first | rfl | (simp; done) | (simp [*]; done)), H', ⟨Nat.le_refl _⟩, ⟨by (with_reducible repeat (first | apply Kd.R_alloc | apply Kd.R_drewN | apply Kd.R_drew)); exact Kd.R_mono (Kd.R_far (p := ⟨gb344, 1, none⟩) (Kd.R_far (p := ⟨gb344, 0, none⟩) (Kd.R_types HO330.out BK344.out (by decide)) (fun _ hk => hk.2) (.int .i64 t340)) (fun _ hk => hk.2) (.slice Ao20 t341.length co20)) (fun _ hk => ⟨hk.1.1.2, hk.1.2⟩)⟩, ⟨by (with_reducible repeat (first | apply Kd.R_alloc | apply Kd.R_drewN | apply Kd.R_drew)); exact Kd.R_mono (Kd.R_far (p := ⟨gb344, 1, none⟩) (Kd.R_far (p := ⟨gb344, 0, none⟩) (Kd.R_types HO333.out BK344.out (by decide)) (fun _ hk => hk.2) (.int .i64 t340)) (fun _ hk => hk.2) (.slice Ao20 t341.length co20)) (fun _ hk => trivial)⟩, ⟨by (with_reducible repeat (first | apply Kd.R_alloc | apply Kd.R_drewN | apply Kd.R_drew)); exact Kd.R_mono (Kd.R_far (p := ⟨gb344, 1, none⟩) (Kd.R_far (p := ⟨gb344, 0, none⟩) (Kd.R_types HO339.out BK344.out (by decide)) (fun _ hk => hk.2) (.int .i64 t340)) (fun _ hk => hk.2) (.slice Ao20 t341.length co20)) (fun _ hk => ⟨hk.1.1.2, hk.1.2⟩)⟩, ⟨Kd.Q_of_R (by (with_reducible repeat (first | apply Kd.R_alloc | apply Kd.R_drewN | apply Kd.R_drew)); exact Kd.R_mono (Kd.R_far (p := ⟨gb344, 1, none⟩) (Kd.R_far (p := ⟨gb344, 0, none⟩) (Kd.R_types HO343.out BK344.out (by decide)) (fun _ hk => hk.2) (.int .i64 t340)) (fun _ hk => hk.2) (.slice Ao20 t341.length co20)) (fun _ hk => ⟨hk.1.1.2, hk.1.2⟩))⟩, ⟨by (with_reducible repeat (first | refine blk_drewN ?_ _ | refine blk_drew ?_ | refine blk_alloc ?_ _)); refine blk_put (cs := #[.int .i64 t340, .slice none 0 0]) ?_ 1 _ rfl; (with_reducible repeat (first | refine blk_drewN ?_ _ | refine blk_drew ?_ | refine blk_alloc ?_ _)); refine blk_put (cs := #[.int .i64 0, .slice none 0 0]) ?_ 0 _ rfl; (with_reducible repeat (first | refine blk_drewN ?_ _ | refine blk_drew ?_ | refine blk_alloc ?_ _)); exact BK344.out⟩, ⟨by repeat (first | (with_reducible first | exact HB.out | apply below_alloc | apply pw_below_drewN | apply below_drew1 | refine below_set ?_ GE344.out) | exact HB.out)⟩⟩
   case round =>
    clear H'
    try clear c1
    try clear c2
    try clear p2
    try clear c3
    try clear c5
    try clear c7
    try clear c7b0
    try clear c7b1
    try clear c7b2
    try clear c10
    try clear hcz19_0
    try clear hcz19_1
    try clear hfz19_0
    try clear hfz19_1
    obtain ⟨x6_1, x8_1, x345000_1, x345001_1, u345001, rfl, HA, HK1, HO_4, HO_5, HO_6, HO_345001, BK344, HB⟩ := hrel
    cases gk with
    | zero => exact absurd HA.out (by simp [laws_FnPages.l0])
    | succ k1 =>
     have H := HA.out
     clear HA
     simp only [laws_FnPages.l0] at H
     have HC21 := Aside0.mk H
     clear H
     go_upto_region 10 with (fail)
     go_cut [39] (fun v39 wc => ∃ (kq : Nat) (x39_20 : Bool), v39 = .bool x39_20 ∧ Aside0 (laws_FnPages.j1 kq t327 t328 t331 x6_1 x8_1 x39_20 x345000_1 x345001_1 = some true) ∧ Aside0 (kq ≤ k1) ∧ Aside0 (Kd.R (Kd.int .i64) 3 wc w.heap.size (fun k_ => some k_ ≠ (u6 : Value).ownBlock ∧ some k_ ≠ (u345001 : Value).ownBlock) (.slice Ao10 t328.length co10) t328) ∧ Aside0 (Kd.R Kd.bool 4 wc w.heap.size (fun _ => True) (.slice Ao12 t331.length co12) t331) ∧ Aside0 (Kd.R (Kd.int .i64) 3 wc w.heap.size (fun k_ => some k_ ≠ ((.slice Ao10 t328.length co10) : Value).ownBlock ∧ some k_ ≠ (u345001 : Value).ownBlock) u6 x6_1) ∧ Aside0 (Kd.Q (Kd.int .i64) 3 wc w.heap.size (fun k_ => some k_ ≠ ((.slice Ao10 t328.length co10) : Value).ownBlock ∧ some k_ ≠ (u6 : Value).ownBlock) u345001 x345001_1) ∧ Aside0 (wc.heap[gb344]? = some (.cells #[.int .i64 x345000_1, u345001] 40 (0, 0))) ∧ Aside0 (Below w.heap.size w wc))
     case first =>
      have H := HC21.out
      clear HC21
      by_cases c22 : x8_1 < (t331.length : Int)
      ·rw [if_pos c22] at H
       have c22b0 : decide (x8_1 < (t331.length : Int)) = true := decide_eq_true c22
       clear c22
       (first | rw [c22b0] | (simp only [i64_w, i32_w]; rw [c22b0]) | skip)
       have H' := Aside0.mk H
       clear H
       go_wp2
       go_meet
       case rel => exact ⟨_, (decide (x8_1 < 150)), (by first | rfl | (simp; done) | (simp [*]; done)), H', ⟨by have := HK1.out; first | omega | exact Nat.le_refl _⟩, ⟨by (with_reducible repeat (first | apply Kd.R_alloc | apply Kd.R_drewN | apply Kd.R_drew)); exact HO_4.out⟩, ⟨by (with_reducible repeat (first | apply Kd.R_alloc | apply Kd.R_drewN | apply Kd.R_drew)); exact HO_5.out⟩, ⟨by (with_reducible repeat (first | apply Kd.R_alloc | apply Kd.R_drewN | apply Kd.R_drew)); exact HO_6.out⟩, ⟨by (with_reducible repeat (first | apply Kd.Q_alloc | apply Kd.Q_drewN | apply Kd.Q_drew)); exact HO_345001.out⟩, ⟨by (with_reducible repeat (first | refine blk_drewN ?_ _ | refine blk_drew ?_ | refine blk_alloc ?_ _)); exact BK344.out⟩, ⟨by exact lq HB.out⟩⟩
      ·rw [if_neg c22] at H
       have c22b0 : decide (x8_1 < (t331.length : Int)) = false := decide_eq_false c22
       clear c22
       (first | rw [c22b0] | (simp only [i64_w, i32_w]; rw [c22b0]) | skip)
       have H' := Aside0.mk H
       clear H
       go_wp2
       go_meet
       case rel => exact ⟨_, (false), (by first | rfl | (simp; done) | (simp [*]; done)), H', ⟨by have := HK1.out; first | omega | exact Nat.le_refl _⟩, ⟨by (with_reducible repeat (first | apply Kd.R_alloc | apply Kd.R_drewN | apply Kd.R_drew)); exact HO_4.out⟩, ⟨by (with_reducible repeat (first | apply Kd.R_alloc | apply Kd.R_drewN | apply Kd.R_drew)); exact HO_5.out⟩, ⟨by (with_reducible repeat (first | apply Kd.R_alloc | apply Kd.R_drewN | apply Kd.R_drew)); exact HO_6.out⟩, ⟨by (with_reducible repeat (first | apply Kd.Q_alloc | apply Kd.Q_drewN | apply Kd.Q_drew)); exact HO_345001.out⟩, ⟨by (with_reducible repeat (first | refine blk_drewN ?_ _ | refine blk_drew ?_ | refine blk_alloc ?_ _)); exact BK344.out⟩, ⟨by exact lq HB.out⟩⟩
     case rest =>
      clear HC21
      try clear c1
      try clear c2
      try clear p2
      try clear c3
      try clear c5
      try clear c7
      try clear c7b0
      try clear c7b1
      try clear c7b2
      try clear c10
      try clear c22
      try clear c22b0
      try clear hcz19_0
      try clear hcz19_1
      try clear hfz19_0
      try clear hfz19_1
      try clear p2
      obtain ⟨kq, x39_20, rfl, HA, HJ20, HO_4, HO_5, HO_6, HO_345001, BK344, HB⟩ := hcut
      cases kq with
      | zero => exact absurd HA.out (by simp [laws_FnPages.j1])
      | succ kj20 =>
       have H := HA.out
       clear HA
       simp only [laws_FnPages.j1] at H
       by_cases c23 : x39_20 = true
       ·subst c23
        rw [if_pos rfl] at H
        by_cases c24 : 0 ≤ x8_1
        ·rw [if_pos c24] at H
         have c24b0 : decide (0 ≤ x8_1) = true := decide_eq_true c24
         clear c24
         by_cases c25 : x8_1 < (t328.length : Int)
         ·rw [if_pos c25] at H
          have c25b0 : decide (x8_1 < (t328.length : Int)) = true := decide_eq_true c25
          clear c25
          replace H := Option.bind_eq_some_iff.mp H
          obtain ⟨t346, A260, H⟩ := H
          (try dsimp only at H)
          have A26 := Aside0.mk A260
          clear A260
          have HC27 := Aside0.mk H
          clear H
          have p345 : 0 ≤ (x8_1 : Int) := of_decide_eq_true (by first | (with_reducible assumption) | assumption)
          have q345 : x8_1 < (t328.length : Int) := of_decide_eq_true (by first | (with_reducible assumption) | assumption)
          obtain ⟨ad345, e345, hx345_0⟩ := Kd.at_int (Kd.R_reads' HO_4.out).2.2 x8_1 p345 q345
          cases e345
          replace p345 := eq_true p345
          replace q345 := eq_true q345
          obtain ⟨Ao28, co28, eo28⟩ := Kd.R_slice HO_6.out
          subst eo28
          go_upto_if 50 with (first | ((with_reducible refine gate_callee (f := 14) rfl ?_); refine goesL_ (some 49) rfl rfl Try.func14 (by kernel_rfl) rfl #[.slice Ao28 x6_1.length co28, .int .i64 (wrap64 (Int.tdiv (rd t328 x8_1) 64))] rfl (by (try simp only [List.map_toArray, List.map_cons, List.map_nil]); first | done | rfl | (simp only [List.length_drop, List.length_take]; rfl)) ?_; (with_reducible refine (laws_has.calls kj20 _ _ x6_1 (wrap64 (Int.tdiv (rd t328 x8_1) 64)) t346 _ ?side1 ?side2 A26.out).mono ?_); (case side1 => repeat (first | exact (Kd.R_reads' HO_6.out).2.2 | (with_reducible refine Kd.C_alloc ?_ _) | (with_reducible refine Kd.C_drewN ?_ _) | (with_reducible refine Kd.C_drew ?_))); (case side2 => exact (Kd.R_reads' HO_6.out).2.1); rintro e w' ⟨rfl, ⟨nd, rfl⟩⟩; refine ⟨_, rfl, ?_⟩))
          (try simp only [Act.put, List.setIfInBounds_toArray, List.set_cons_zero, List.set_cons_succ])
          go_cut [6] (fun v6 wc => ∃ (kq : Nat) (x6_26 : List Int), Aside0 (laws_FnPages.j2 kq t327 t328 t331 x6_26 x8_1 x345000_1 x345001_1 = some true) ∧ Aside0 (kq ≤ kj20) ∧ Aside0 (Kd.R (Kd.int .i64) 3 wc w.heap.size (fun k_ => some k_ ≠ (v6 : Value).ownBlock ∧ some k_ ≠ (u345001 : Value).ownBlock) (.slice (some ad345) t328.length co10) t328) ∧ Aside0 (Kd.R Kd.bool 4 wc w.heap.size (fun _ => True) (.slice Ao12 t331.length co12) t331) ∧ Aside0 (Kd.R (Kd.int .i64) 3 wc w.heap.size (fun k_ => some k_ ≠ ((.slice (some ad345) t328.length co10) : Value).ownBlock ∧ some k_ ≠ (u345001 : Value).ownBlock) v6 x6_26) ∧ Aside0 (Kd.Q (Kd.int .i64) 3 wc w.heap.size (fun k_ => some k_ ≠ ((.slice (some ad345) t328.length co10) : Value).ownBlock ∧ some k_ ≠ (v6 : Value).ownBlock) u345001 x345001_1) ∧ Aside0 (wc.heap[gb344]? = some (.cells #[.int .i64 x345000_1, u345001] 40 (0, 0))) ∧ Aside0 (Below w.heap.size w wc))
          case first =>
           have H := HC27.out
           clear HC27
           by_cases c29 : t346 = true
           ·subst c29
            rw [if_pos rfl] at H
            by_cases c30 : (x6_1.length : Int) ≤ t327
            ·rw [if_pos c30] at H
             have c30b0 : decide ((x6_1.length : Int) ≤ t327) = true := decide_eq_true c30
             clear c30
             (first | rw [c30b0] | (simp only [i64_w, i32_w]; rw [c30b0]) | skip)
             by_cases c31 : x8_1 < (t331.length : Int)
             ·rw [if_pos c31] at H
              have c31b0 : decide (x8_1 < (t331.length : Int)) = true := decide_eq_true c31
              clear c31
              obtain ⟨bq32, hbq32⟩ : ∃ b_ : Bool, b_ = (rdOf false t331 x8_1) := ⟨_, rfl⟩
              replace H : (if bq32 = true then (laws_FnPages.j2 kj20 t327 t328 t331 x6_1 x8_1 x345000_1 x345001_1) else (some false)) = some true := by rw [← hbq32] at H; exact H
              have Nbq32 := Aside0.mk hbq32
              clear hbq32
              by_cases c33 : bq32 = true
              ·subst c33
               rw [if_pos rfl] at H
               have H' := Aside0.mk H
               clear H
               have p347 : 0 ≤ (x8_1 : Int) := of_decide_eq_true (by first | (with_reducible assumption) | assumption)
               have q347 : x8_1 < (t331.length : Int) := of_decide_eq_true (by first | (with_reducible assumption) | assumption)
               obtain ⟨ad347, e347, hx347_0⟩ := Kd.at_bool (Kd.R_reads' HO_5.out).2.2 x8_1 p347 q347
               (try rw [← Nbq32.out] at hx347_0)
               cases e347
               replace p347 := eq_true p347
               replace q347 := eq_true q347
               go_wp2
               go_meet
               case rel => exact ⟨_, (x6_1), H', ⟨by have := HK1.out; have := HJ20.out; first | omega | exact Nat.le_refl _⟩, ⟨by (with_reducible repeat (first | apply Kd.R_alloc | apply Kd.R_drewN | apply Kd.R_drew)); exact HO_4.out⟩, ⟨by (with_reducible repeat (first | apply Kd.R_alloc | apply Kd.R_drewN | apply Kd.R_drew)); exact HO_5.out⟩, ⟨by (with_reducible repeat (first | apply Kd.R_alloc | apply Kd.R_drewN | apply Kd.R_drew)); exact HO_6.out⟩, ⟨by (with_reducible repeat (first | apply Kd.Q_alloc | apply Kd.Q_drewN | apply Kd.Q_drew)); exact HO_345001.out⟩, ⟨by (with_reducible repeat (first | refine blk_drewN ?_ _ | refine blk_drew ?_ | refine blk_alloc ?_ _)); exact BK344.out⟩, ⟨by exact lq HB.out⟩⟩
              ·replace c33 := Bool.eq_false_iff.mpr c33
               subst c33
               rw [if_neg (show ¬ (false = true) by decide)] at H
               exact absurd H (by simp)
             ·rw [if_neg c31] at H
              exact absurd H (by simp)
            ·rw [if_neg c30] at H
             have c30b0 : decide ((x6_1.length : Int) ≤ t327) = false := decide_eq_false c30
             clear c30
             (first | rw [c30b0] | (simp only [i64_w, i32_w]; rw [c30b0]) | skip)
             have H' := Aside0.mk H
             clear H
             go_wp2
             go_meet
             case rel => exact ⟨_, (x6_1), H', ⟨by have := HK1.out; have := HJ20.out; first | omega | exact Nat.le_refl _⟩, ⟨by (with_reducible repeat (first | apply Kd.R_alloc | apply Kd.R_drewN | apply Kd.R_drew)); exact HO_4.out⟩, ⟨by (with_reducible repeat (first | apply Kd.R_alloc | apply Kd.R_drewN | apply Kd.R_drew)); exact HO_5.out⟩, ⟨by (with_reducible repeat (first | apply Kd.R_alloc | apply Kd.R_drewN | apply Kd.R_drew)); exact HO_6.out⟩, ⟨by (with_reducible repeat (first | apply Kd.Q_alloc | apply Kd.Q_drewN | apply Kd.Q_drew)); exact HO_345001.out⟩, ⟨by (with_reducible repeat (first | refine blk_drewN ?_ _ | refine blk_drew ?_ | refine blk_alloc ?_ _)); exact BK344.out⟩, ⟨by exact lq HB.out⟩⟩
           ·replace c29 := Bool.eq_false_iff.mpr c29
            subst c29
            rw [if_neg (show ¬ (false = true) by decide)] at H
            by_cases c34 : x6_1.length < 17592186044416
            ·rw [if_pos c34] at H
             have LMc34 := Aside0.mk c34
             clear c34
             obtain ⟨y348, hy348⟩ : ∃ y_ : List Int, y_ = (x6_1 ++ [wrap64 (Int.tdiv (rd t328 x8_1) 64)]) := ⟨_, rfl⟩
             replace H : (if x8_1 < (t331.length : Int) then (if rdOf false t331 x8_1 = true then (some false) else (laws_FnPages.j2 kj20 t327 t328 t331 y348 x8_1 x345000_1 x345001_1)) else (none)) = some true := by first | (rw [hy348]; with_reducible exact H) | (have H2_ := (Option.bind_some _ _).symm.trans H; rw [hy348]; with_reducible exact H2_) | (have H2_ := (Option.bind_some _ _).symm.trans H; with_reducible exact H2_) | with_reducible exact H | (rw [hy348]; exact H) | exact H
             have Ny348 := Aside0.mk hy348
             clear hy348
             by_cases c35 : x8_1 < (t331.length : Int)
             ·rw [if_pos c35] at H
              have c35b0 : decide (x8_1 < (t331.length : Int)) = true := decide_eq_true c35
              clear c35
              obtain ⟨bq36, hbq36⟩ : ∃ b_ : Bool, b_ = (rdOf false t331 x8_1) := ⟨_, rfl⟩
              replace H : (if bq36 = true then (some false) else (laws_FnPages.j2 kj20 t327 t328 t331 y348 x8_1 x345000_1 x345001_1)) = some true := by rw [← hbq36] at H; exact H
              have Nbq36 := Aside0.mk hbq36
              clear hbq36
              by_cases c37 : bq36 = true
              ·subst c37
               rw [if_pos rfl] at H
               exact absurd H (by simp)
              ·replace c37 := Bool.eq_false_iff.mpr c37
               subst c37
               rw [if_neg (show ¬ (false = true) by decide)] at H
               have H' := Aside0.mk H
               clear H
               go_wp2_with (first | ((with_reducible refine gate_builtin (b := .append) (xs := #[.tmp 51, .tmp 53]) rfl ?_); at_builtin; refine Kd.R_append (Kd.int .i64) (w0 := w) w.heap.size rfl (.tmp 51) (.tmp 53) 33 3 (.int .i64 0) 8 rfl Try.underlying33 info3 rfl (by decide) (by omega) (.slice Ao28 x6_1.length co28) x6_1 (wrap64 (Int.tdiv (rd t328 x8_1) 64)) [.int .i64 (wrap64 (Int.tdiv (rd t328 x8_1) 64))] (fun k_ => some k_ ≠ (.slice (some ad345) t328.length co10 : Value).ownBlock ∧ some k_ ≠ (u345001 : Value).ownBlock) (fun _ => False) rfl rfl ?aP (fun _ hk => hk.elim) ?aF ?aO ?aB ?aS ?aL ?_; (case aP => exact rfl); (case aB => exact (lq HB.out)); (case aF => exact (fun k_ hk => ⟨Kd.fresh' (Kd.R_lt (rq HO_4.out)) k_ hk, Kd.fresh' (Kd.Q_lt (by (with_reducible repeat (first | apply Kd.Q_alloc | apply Kd.Q_drewN | apply Kd.Q_drew)); exact HO_345001.out)) k_ hk⟩)); (case aO => exact (rq HO_6.out)); (case aS => exact (below_size (lq HB.out))); (case aL => have := LMc34.out; omega); intro v349 w38 ho hb hg hat; rw [← Ny348.out] at ho; have n0_ := Aside0.mk (Kd.R_after (ok := (fun k_ => some k_ ≠ (u345001 : Value).ownBlock)) (by (with_reducible repeat (first | apply Kd.R_alloc | apply Kd.R_drewN | apply Kd.R_drew)); exact Kd.R_mono HO_4.out (fun _ hk => ⟨hk.2, hk.1⟩)) hg hat); have n1_ := Aside0.mk (Kd.R_over' (rq HO_5.out) (Kd.R_typed (rq HO_6.out)) (by decide) hg); have n2_ := Aside0.mk (Kd.Q_after (ok := (fun k_ => some k_ ≠ (.slice (some ad345) t328.length co10 : Value).ownBlock)) (by (with_reducible repeat (first | apply Kd.Q_alloc | apply Kd.Q_drewN | apply Kd.Q_drew)); exact HO_345001.out) hg hat); have n3_ := Aside0.mk (blk_grown (g := gb344) (o := .cells #[.int .i64 x345000_1, u345001] 40 (0, 0)) (bq BK344.out) hg (Kd.R_ne HO_6.out BK344.out (by decide))); have n4_ := Aside0.mk (hb); have n5_ := Aside0.mk (ho); clear HO_4; clear HO_5; clear HO_345001; clear BK344; clear HB; clear HO_6; have HO_4 := n0_; have HO_5 := n1_; have HO_345001 := n2_; have BK344 := n3_; have HB := n4_; have HO350 := n5_; clear n0_ n1_ n2_ n3_ n4_ n5_; clear ho hb hg hat; have p351 : 0 ≤ (x8_1 : Int) := of_decide_eq_true (by first | (with_reducible assumption) | assumption); have q351 : x8_1 < (t331.length : Int) := of_decide_eq_true (by first | (with_reducible assumption) | assumption); obtain ⟨ad351, e351, hx351_0⟩ := Kd.at_bool (Kd.R_reads' HO_5.out).2.2 x8_1 p351 q351; (try rw [← Nbq36.out] at hx351_0); cases e351; replace p351 := eq_true p351; replace q351 := eq_true q351))
               go_meet
               case rel => exact ⟨_, (y348), H', ⟨by have := HK1.out; have := HJ20.out; first | omega | exact Nat.le_refl _⟩, ⟨by (with_reducible repeat (first | apply Kd.R_alloc | apply Kd.R_drewN | apply Kd.R_drew)); exact Kd.R_mono HO_4.out (fun _ hk => ⟨hk.2, hk.1⟩)⟩, ⟨by (with_reducible repeat (first | apply Kd.R_alloc | apply Kd.R_drewN | apply Kd.R_drew)); exact HO_5.out⟩, ⟨by (with_reducible repeat (first | apply Kd.R_alloc | apply Kd.R_drewN | apply Kd.R_drew)); exact HO350.out⟩, ⟨by (with_reducible repeat (first | apply Kd.Q_alloc | apply Kd.Q_drewN | apply Kd.Q_drew)); exact HO_345001.out⟩, ⟨by (with_reducible repeat (first | refine blk_drewN ?_ _ | refine blk_drew ?_ | refine blk_alloc ?_ _)); exact BK344.out⟩, ⟨by exact lq HB.out⟩⟩
             ·rw [if_neg c35] at H
              exact absurd H (by simp)
            ·rw [if_neg c34] at H
             exact absurd H (by simp)
          case rest =>
           clear HC27
           try clear c1
           try clear c2
           try clear p2
           try clear c3
           try clear p3
           try clear q3
           try clear hx3
           try clear c5
           try clear p6
           try clear c7
           try clear c7b0
           try clear c7b1
           try clear c7b2
           try clear c10
           try clear c14
           try clear c22
           try clear c22b0
           try clear c23
           try clear c24
           try clear c24b0
           try clear c25
           try clear c25b0
           try clear c29
           try clear c30
           try clear c30b0
           try clear c31
           try clear c31b0
           try clear q32
           try clear c33
           try clear c34
           try clear p34
           try clear q34
           try clear hx34
           try clear c35
           try clear c35b0
           try clear p35
           try clear q35
           try clear hx35
           try clear q36
           try clear c37
           try clear hcz19_0
           try clear hcz19_1
           try clear hfz19_0
           try clear hfz19_1
           try clear hx345_0
           try clear hx347_0
           try clear hx351_0
           try clear p2
           try clear p345
           try clear p347
           try clear p351
           try clear q345
           try clear q347
           try clear q351
           obtain ⟨kq, x6_26, HA, HJ26, HO_4, HO_5, HO_6, HO_345001, BK344, HB⟩ := hcut
           cases kq with
           | zero => exact absurd HA.out (by simp [laws_FnPages.j2])
           | succ kj26 =>
            have H := HA.out
            clear HA
            simp only [laws_FnPages.j2] at H
            by_cases c39 : 0 ≤ x8_1
            ·rw [if_pos c39] at H
             have c39b0 : decide (0 ≤ x8_1) = true := decide_eq_true c39
             clear c39
             by_cases c40 : x8_1 < (t328.length : Int)
             ·rw [if_pos c40] at H
              have c40b0 : decide (x8_1 < (t328.length : Int)) = true := decide_eq_true c40
              clear c40
              replace H := Option.bind_eq_some_iff.mp H
              obtain ⟨⟨t353, t354, t357⟩, A410, H⟩ := H
              (try dsimp only at H)
              have A41 := Aside0.mk A410
              clear A410
              by_cases c42 : x8_1 < (t331.length : Int)
              ·rw [if_pos c42] at H
               have c42b0 : decide (x8_1 < (t331.length : Int)) = true := decide_eq_true c42
               clear c42
               by_cases c43 : (t357 != (rdOf false t331 x8_1)) = true
               ·rw [if_pos c43] at H
                have c43b0 : (t357 != (rdOf false t331 x8_1)) = true := c43
                (try (have c43b1 : decide (t357 = (rdOf false t331 x8_1)) = false := by simpa using c43))
                (try (have c43b2 : (t357 == (rdOf false t331 x8_1)) = false := by simpa using c43))
                (try (have c43b3 : ¬ (t357 = (rdOf false t331 x8_1)) := by simpa using c43))
                clear c43
                exact absurd H (by simp)
               ·rw [if_neg c43] at H
                have c43b0 : (t357 != (rdOf false t331 x8_1)) = false := by simpa using c43
                (try (have c43b1 : decide (t357 = (rdOf false t331 x8_1)) = true := by simpa using c43))
                (try (have c43b2 : (t357 == (rdOf false t331 x8_1)) = true := by simpa using c43))
                clear c43
                by_cases c44 : t357 = true
                ·subst c44
                 rw [if_pos rfl] at H
                 replace H := Option.bind_eq_some_iff.mp H
                 obtain ⟨t360, A450, H⟩ := H
                 (try dsimp only at H)
                 have A45 := Aside0.mk A450
                 clear A450
                 by_cases c46 : t360 = true
                 ·subst c46
                  rw [if_pos rfl] at H
                  replace H := Option.bind_eq_some_iff.mp H
                  obtain ⟨t362, A470, H⟩ := H
                  (try dsimp only at H)
                  have A47 := Aside0.mk A470
                  clear A470
                  by_cases c48 : t362 = true
                  ·subst c48
                   rw [if_pos rfl] at H
                   have H' := Aside0.mk H
                   clear H
                   obtain ⟨Ao49, co49, eo49, _⟩ := Kd.Q_slice HO_345001.out
                   subst eo49
                   try go_wp2
                   have n0_ := Aside0.mk (Kd.R_drew HO_4.out)
                   have n1_ := Aside0.mk (Kd.R_drew HO_5.out)
                   have n2_ := Aside0.mk (Kd.R_drew HO_6.out)
                   have n3_ := Aside0.mk (Kd.Q_drew HO_345001.out)
                   have n4_ := Aside0.mk (blk_drew BK344.out)
                   have n5_ := Aside0.mk (below_drew1 HB.out)
                   clear HO_4
                   clear HO_5
                   clear HO_6
                   clear HO_345001
                   clear BK344
                   clear HB
                   have HO_4 := n0_
                   have HO_5 := n1_
                   have HO_6 := n2_
                   have HO_345001 := n3_
                   have BK344 := n4_
                   have HB := n5_
                   clear n0_ n1_ n2_ n3_ n4_ n5_
                   have p352 : 0 ≤ (x8_1 : Int) := of_decide_eq_true (by first | (with_reducible assumption) | assumption)
                   have q352 : x8_1 < (t328.length : Int) := of_decide_eq_true (by first | (with_reducible assumption) | assumption)
                   obtain ⟨ad352, e352, hx352_0⟩ := Kd.at_int (Kd.R_reads' HO_4.out).2.2 x8_1 p352 q352
                   obtain rfl : ad345 = ad352 := (by injection e352)
                   replace p352 := eq_true p352
                   replace q352 := eq_true q352
                   refine start_ (n := 12) (S := fun w' => w'.cell? ⟨gb344, 0, none⟩ = some (.int .i64 x345000_1) ∧ w'.cell? ⟨gb344, 1, none⟩ = some (.slice Ao49 x345001_1.length co49) ∧ w'.cell? (ad345.add (x8_1).toNat) = some (.int .i64 (rd t328 x8_1))) (ds := []) #[false, false, false, false, false, false, false, false, false, false, false, false] (by kernel_rfl) rfl rfl ⟨(blk_cell BK344.out 0).trans rfl, (blk_cell BK344.out 1).trans rfl, hx352_0⟩ (fun hHeld => ?_); refine with_tabW laws_FnPages.tab19 laws_FnPages.bits19 (fun HT_ HW_ => ?_)
                   generalize wc.drew = w50 at HO_4 HO_5 HO_6 HO_345001 BK344 HB hx352_0 hHeld ⊢
                   refine pure_ (i := 1) (N := some 72) (v := ?_) (a' := ?_) #[false, true, false, false, false, false, false, false, false, false, false, false] rfl rfl (any_of HT_.out (by kernel_rfl)) (fun _ _ _ h => h) (Or.inl ⟨by rfl, ?_⟩) ?_ ?_
                   rotate_left
                   ·intro w'
                    go_simp
                    with_reducible rfl
                   rotate_left
                   ·simp only [Act.put, List.setIfInBounds_toArray, List.set_cons_zero, List.set_cons_succ, i64_w, i32_w]
                    rfl
                   refine pure_ (i := 2) (N := some 73) (v := ?_) (a' := ?_) #[false, true, true, false, false, false, false, false, false, false, false, false] rfl rfl (any_of HT_.out (by kernel_rfl)) (fun _ _ _ h => h) (Or.inl ⟨by rfl, ?_⟩) ?_ ?_
                   rotate_left
                   ·intro w'
                    go_simp
                    with_reducible rfl
                   rotate_left
                   ·simp only [Act.put, List.setIfInBounds_toArray, List.set_cons_zero, List.set_cons_succ, i64_w, i32_w]
                    rfl
                   refine pure_ (i := 3) (N := some 74) (v := ?_) (a' := ?_) #[false, true, true, true, false, false, false, false, false, false, false, false] rfl rfl (any_of HT_.out (by kernel_rfl)) (fun _ _ _ h => h) (Or.inl ⟨by rfl, ?_⟩) ?_ ?_
                   rotate_left
                   ·intro w'
                    go_simp
                    with_reducible rfl
                   rotate_left
                   ·simp only [Act.put, List.setIfInBounds_toArray, List.set_cons_zero, List.set_cons_succ, i64_w, i32_w]
                    rfl
                   refine take_ (i := 0) (N := some 71) (v := ?_) (a' := ?_) #[true, true, true, true, false, false, false, false, false, false, false, false] rfl rfl (take_ofW HT_.out HW_.out (by kernel_rfl)) (fun _ _ _ h => h) (Or.inl ⟨by rfl, ?_⟩) hHeld ?_ ?_
                   rotate_left
                   ·rintro w' ⟨s0, s1, s2⟩
                    go_simp
                    with_reducible rfl
                   rotate_left
                   ·simp only [Act.put, List.setIfInBounds_toArray, List.set_cons_zero, List.set_cons_succ, i64_w, i32_w]
                    rfl
                   refine take_ (i := 4) (N := some 75) (v := ?_) (a' := ?_) #[true, true, true, true, true, false, false, false, false, false, false, false] rfl rfl (take_ofW HT_.out HW_.out (by kernel_rfl)) (fun _ _ _ h => h) (Or.inl ⟨by rfl, ?_⟩) hHeld ?_ ?_
                   rotate_left
                   ·rintro w' ⟨s0, s1, s2⟩
                    go_simp
                    with_reducible rfl
                   rotate_left
                   ·simp only [Act.put, List.setIfInBounds_toArray, List.set_cons_zero, List.set_cons_succ, i64_w, i32_w]
                    rfl
                   refine join_ (σ := Value × Nat) 2 #[true, true, true, true, true, true, true, true, true, true, false, false] (fun s_ => [(76, .tuple #[.agg #[.int .i64 t353, s_.1], .bool true]), (10, .pointer (some ⟨s_.2, 0, none⟩)), (70, .tuple #[.agg #[.int .i64 t353, s_.1], .bool true]), (77, .agg #[.int .i64 t353, s_.1]), (78, .bool true)]) (fun s_ w' => (w'.cell? ⟨gb344, 0, none⟩ = some (.int .i64 x345000_1) ∧ w'.cell? ⟨gb344, 1, none⟩ = some (.slice Ao49 x345001_1.length co49) ∧ w'.cell? (ad345.add (x8_1).toNat) = some (.int .i64 (rd t328 x8_1))) ∧ (Kd.Q (Kd.int .i64) 3 w' w.heap.size (fun k_ => some k_ ≠ (.slice Ao49 x345001_1.length co49 : Value).ownBlock ∧ some k_ ≠ (.slice (some ad345) t328.length co10 : Value).ownBlock ∧ some k_ ≠ (u6 : Value).ownBlock) s_.1 t354) ∧ (Kd.Q (Kd.int .i64) 3 w' w.heap.size (fun k_ => some k_ ≠ (s_.1 : Value).ownBlock ∧ some k_ ≠ (.slice (some ad345) t328.length co10 : Value).ownBlock ∧ some k_ ≠ (u6 : Value).ownBlock) (.slice Ao49 x345001_1.length co49) x345001_1) ∧ (Kd.R (Kd.int .i64) 3 w' w.heap.size (fun k_ => some k_ ≠ (s_.1 : Value).ownBlock ∧ some k_ ≠ (.slice Ao49 x345001_1.length co49 : Value).ownBlock ∧ some k_ ≠ (u6 : Value).ownBlock) (.slice (some ad345) t328.length co10) t328) ∧ (Kd.R Kd.bool 4 w' w.heap.size (fun _ => True) (.slice Ao12 t331.length co12) t331) ∧ (Kd.R (Kd.int .i64) 3 w' w.heap.size (fun k_ => some k_ ≠ (s_.1 : Value).ownBlock ∧ some k_ ≠ (.slice Ao49 x345001_1.length co49 : Value).ownBlock ∧ some k_ ≠ (.slice (some ad345) t328.length co10 : Value).ownBlock) u6 x6_26) ∧ (w'.heap[gb344]? = some (.cells #[.int .i64 x345000_1, .slice Ao49 x345001_1.length co49] 40 (0, 0))) ∧ (w'.heap[s_.2]? = some (.cells #[.int .i64 0, .slice none 0 0] 40 (0, 0))) ∧ (w.heap.size ≤ s_.2) ∧ (w.heap.size ≤ s_.2) ∧ (gb344 ≠ s_.2) ∧ (s_.2 ≠ gb344) ∧ (Below w.heap.size w w')) ?_ ?_
                   rotate_left
                   ·intro hCont
                    refine two_ (i := 5) (j := 9) (Ni := some 76) (Nj := some 10) #[true, true, true, true, true, true, false, false, false, false, false, false] #[true, true, true, true, true, false, false, false, false, true, false, false] rfl rfl rfl rfl (two_of HT_.out (by kernel_rfl)) (by decide) (by decide) (fun K hK => ?_) (fun K hK => ?_)
                    ·skip
                     refine goes_ Try.func18 (by kernel_rfl) rfl #[.agg #[.int .i64 x345000_1, .slice Ao49 x345001_1.length co49], .int .i64 (rd t328 x8_1)] (by rfl) rfl rfl (by (try simp only [List.map_toArray, List.map_cons, List.map_nil]); first | done | rfl | (simp only [List.length_drop, List.length_take]; rfl)) ?_
                     with_reducible refine (impl_TlbUse.calls x345000_1 _ _ x345001_1 (rd t328 x8_1) t353 t354 true _ ?side1 ?side2 A41.out).mono ?_
                     (case side1 => repeat (first | exact (Kd.Q_reads' HO_345001.out).2.2 | (with_reducible refine Kd.C_alloc ?_ _) | (with_reducible refine Kd.C_drewN ?_ _) | (with_reducible refine Kd.C_drew ?_)))
                     (case side2 => exact (Kd.Q_reads' HO_345001.out).2.1)
                     rintro e w51 ⟨v355, rfl, ho0, hb⟩
                     have HS2_ := (hb.cell (World.block_lt_of_cell? _ _ (hHeld.2.2))).trans (hHeld.2.2)
                     refine ⟨_, rfl, ?_⟩
                     have n0_ := Aside0.mk (Kd.R_elder' (rq HO_4.out) (Kd.Q_base ho0) hb)
                     have n1_ := Aside0.mk (Kd.R_below (rq HO_5.out) hb)
                     have n2_ := Aside0.mk (Kd.R_elder' (rq HO_6.out) (Kd.Q_base ho0) hb)
                     have n3_ := Aside0.mk (Kd.Q_elder' (by (with_reducible repeat (first | apply Kd.Q_alloc | apply Kd.Q_drewN | apply Kd.Q_drew)); exact HO_345001.out) (Kd.Q_base ho0) hb)
                     have n4_ := Aside0.mk (Kd.Q_lower (Kd.Q_new' (Kd.Q_new' (Kd.Q_new' ho0 (Kd.R_lt (rq HO_4.out))) (Kd.R_lt (rq HO_6.out))) (Kd.Q_lt (by (with_reducible repeat (first | apply Kd.Q_alloc | apply Kd.Q_drewN | apply Kd.Q_drew)); exact HO_345001.out))) (below_size (lq HB.out)))
                     have n5_ := Aside0.mk (blk_below (bq BK344.out) hb)
                     have n6_ := Aside0.mk (below_step (lq HB.out) hb)
                     clear HO_4
                     clear HO_5
                     clear HO_6
                     clear HO_345001
                     clear BK344
                     clear HB
                     have HO_4 := n0_
                     have HO_5 := n1_
                     have HO_6 := n2_
                     have HO_345001 := n3_
                     have HO356 := n4_
                     have BK344 := n5_
                     have HB := n6_
                     clear n0_ n1_ n2_ n3_ n4_ n5_ n6_
                     (try clear hb)
                     (try clear hb2)
                     (try clear hk)
                     (try clear hi)
                     (try clear ho0)
                     refine hK.out _ _ ⟨(blk_cell BK344.out 0).trans rfl, (blk_cell BK344.out 1).trans rfl, HS2_⟩ (fun hHeld => ?_)
                     clear hK K
                     refine norm_ (a' := ?_) ?_ ?_
                     rotate_left
                     ·show Act.put _ (some 76) _ = _
                      simp only [Act.put, List.setIfInBounds_toArray, List.set_cons_zero, List.set_cons_succ, i64_w, i32_w]
                      rfl
                     refine pure_ (i := 6) (N := some 70) (v := ?_) (a' := ?_) #[true, true, true, true, true, true, true, false, false, false, false, false] rfl rfl (any_of HT_.out (by kernel_rfl)) (fun _ _ _ h => h) (Or.inl ⟨by rfl, ?_⟩) ?_ ?_
                     rotate_left
                     ·intro w'
                      go_simp
                      with_reducible rfl
                     rotate_left
                     ·simp only [Act.put, List.setIfInBounds_toArray, List.set_cons_zero, List.set_cons_succ, i64_w, i32_w]
                      rfl
                     refine pure_ (i := 7) (N := some 77) (v := ?_) (a' := ?_) #[true, true, true, true, true, true, true, true, false, false, false, false] rfl rfl (any_of HT_.out (by kernel_rfl)) (fun _ _ _ h => h) (Or.inl ⟨by rfl, ?_⟩) ?_ ?_
                     rotate_left
                     ·intro w'
                      go_simp
                      with_reducible rfl
                     rotate_left
                     ·simp only [Act.put, List.setIfInBounds_toArray, List.set_cons_zero, List.set_cons_succ, i64_w, i32_w]
                      rfl
                     refine pure_ (i := 8) (N := some 78) (v := ?_) (a' := ?_) #[true, true, true, true, true, true, true, true, true, false, false, false] rfl rfl (any_of HT_.out (by kernel_rfl)) (fun _ _ _ h => h) (Or.inl ⟨by rfl, ?_⟩) ?_ ?_
                     rotate_left
                     ·intro w'
                      go_simp
                      with_reducible rfl
                     rotate_left
                     ·simp only [Act.put, List.setIfInBounds_toArray, List.set_cons_zero, List.set_cons_succ, i64_w, i32_w]
                      rfl
                     refine one_ (i := 9) (N := some 10) #[true, true, true, true, true, true, true, true, true, true, false, false] rfl rfl (one_of HT_.out (by kernel_rfl)) (by decide) (fun K hK => ?_)
                     refine box_step ?hg (N := 10) ?hd (cs := #[.int .i64 0, .slice none 0 0]) (t := 40) ?hr ?_; (case hd => rfl); (case hg => rfl); (case hr => first | (go_simp; done) | (go_simp; rfl))
                     intro gb358 hg w52 hbox hb
                     have HS2_ := (hb.cell (World.block_lt_of_cell? _ _ (hHeld.2.2))).trans (hHeld.2.2)
                     have n0_ := Aside0.mk (Kd.R_below (rq HO_4.out) hb)
                     have n1_ := Aside0.mk (Kd.R_below (rq HO_5.out) hb)
                     have n2_ := Aside0.mk (Kd.R_below (rq HO_6.out) hb)
                     have n3_ := Aside0.mk (Kd.Q_below (by (with_reducible repeat (first | apply Kd.Q_alloc | apply Kd.Q_drewN | apply Kd.Q_drew)); exact HO_345001.out) hb)
                     have n4_ := Aside0.mk (Kd.Q_below (by (with_reducible repeat (first | apply Kd.Q_alloc | apply Kd.Q_drewN | apply Kd.Q_drew)); exact HO356.out) hb)
                     have n5_ := Aside0.mk (blk_below (bq BK344.out) hb)
                     have n6_ := Aside0.mk (below_step (lq HB.out) hb)
                     have n7_ := Aside0.mk (hbox)
                     have n8_ := Aside0.mk ((ge_new hg (lq HB.out) : w.heap.size ≤ gb358))
                     have n9_ := Aside0.mk ((ge_new hg (lq HB.out) : w.heap.size ≤ gb358))
                     have n10_ := Aside0.mk ((ne_new hg (bq BK344.out) : gb344 ≠ gb358))
                     have n11_ := Aside0.mk ((new_ne hg (bq BK344.out) : gb358 ≠ gb344))
                     clear HO_4
                     clear HO_5
                     clear HO_6
                     clear HO_345001
                     clear HO356
                     clear BK344
                     clear HB
                     have HO_4 := n0_
                     have HO_5 := n1_
                     have HO_6 := n2_
                     have HO_345001 := n3_
                     have HO356 := n4_
                     have BK344 := n5_
                     have HB := n6_
                     have BK358 := n7_
                     have GW358 := n8_
                     have GE358 := n9_
                     have NB344_358 := n10_
                     have NB358_344 := n11_
                     clear n0_ n1_ n2_ n3_ n4_ n5_ n6_ n7_ n8_ n9_ n10_ n11_
                     clear hb hbox hg
                     refine hK.out _ _ ⟨(blk_cell BK344.out 0).trans rfl, (blk_cell BK344.out 1).trans rfl, HS2_⟩ (fun hHeld => ?_)
                     clear hK K
                     refine norm_ (a' := ?_) ?_ ?_
                     rotate_left
                     ·show Act.put _ (some 10) _ = _
                      simp only [Act.put, List.setIfInBounds_toArray, List.set_cons_zero, List.set_cons_succ, i64_w, i32_w]
                      rfl
                     exact norm_ (by simp only [putAll, Act.put, List.setIfInBounds_toArray, List.set_cons_zero, List.set_cons_succ]) (hCont (v355, gb358) _ ⟨hHeld, (by (with_reducible repeat (first | apply Kd.Q_alloc | apply Kd.Q_drewN | apply Kd.Q_drew)); exact Kd.Q_mono HO356.out (fun _ hk => ⟨hk.2, ⟨hk.1.1.2, hk.1.2⟩⟩)), (by (with_reducible repeat (first | apply Kd.Q_alloc | apply Kd.Q_drewN | apply Kd.Q_drew)); exact Kd.Q_mono HO_345001.out (fun _ hk => ⟨hk.2, ⟨hk.1.1, hk.1.2⟩⟩)), (by (with_reducible repeat (first | apply Kd.R_alloc | apply Kd.R_drewN | apply Kd.R_drew)); exact Kd.R_mono HO_4.out (fun _ hk => ⟨hk.2, ⟨hk.1.2, hk.1.1⟩⟩)), (rq HO_5.out), (by (with_reducible repeat (first | apply Kd.R_alloc | apply Kd.R_drewN | apply Kd.R_drew)); exact Kd.R_mono HO_6.out (fun _ hk => ⟨hk.2, ⟨hk.1.2, hk.1.1⟩⟩)), (bq BK344.out), (bq BK358.out), GW358.out, GE358.out, NB344_358.out, NB358_344.out, (lq HB.out)⟩)
                    ·skip
                     refine box_step ?hg (N := 10) ?hd (cs := #[.int .i64 0, .slice none 0 0]) (t := 40) ?hr ?_; (case hd => rfl); (case hg => rfl); (case hr => first | (go_simp; done) | (go_simp; rfl))
                     intro gb358 hg w51 hbox hb
                     have HS2_ := (hb.cell (World.block_lt_of_cell? _ _ (hHeld.2.2))).trans (hHeld.2.2)
                     have n0_ := Aside0.mk (Kd.R_below (rq HO_4.out) hb)
                     have n1_ := Aside0.mk (Kd.R_below (rq HO_5.out) hb)
                     have n2_ := Aside0.mk (Kd.R_below (rq HO_6.out) hb)
                     have n3_ := Aside0.mk (Kd.Q_below (by (with_reducible repeat (first | apply Kd.Q_alloc | apply Kd.Q_drewN | apply Kd.Q_drew)); exact HO_345001.out) hb)
                     have n4_ := Aside0.mk (blk_below (bq BK344.out) hb)
                     have n5_ := Aside0.mk (below_step (lq HB.out) hb)
                     have n6_ := Aside0.mk (hbox)
                     have n7_ := Aside0.mk ((ge_new hg (lq HB.out) : w.heap.size ≤ gb358))
                     have n8_ := Aside0.mk ((ge_new hg (lq HB.out) : w.heap.size ≤ gb358))
                     have n9_ := Aside0.mk ((ne_new hg (bq BK344.out) : gb344 ≠ gb358))
                     have n10_ := Aside0.mk ((new_ne hg (bq BK344.out) : gb358 ≠ gb344))
                     clear HO_4
                     clear HO_5
                     clear HO_6
                     clear HO_345001
                     clear BK344
                     clear HB
                     have HO_4 := n0_
                     have HO_5 := n1_
                     have HO_6 := n2_
                     have HO_345001 := n3_
                     have BK344 := n4_
                     have HB := n5_
                     have BK358 := n6_
                     have GW358 := n7_
                     have GE358 := n8_
                     have NB344_358 := n9_
                     have NB358_344 := n10_
                     clear n0_ n1_ n2_ n3_ n4_ n5_ n6_ n7_ n8_ n9_ n10_
                     clear hb hbox hg
                     refine hK.out _ _ ⟨(blk_cell BK344.out 0).trans rfl, (blk_cell BK344.out 1).trans rfl, HS2_⟩ (fun hHeld => ?_)
                     clear hK K
                     refine norm_ (a' := ?_) ?_ ?_
                     rotate_left
                     ·show Act.put _ (some 10) _ = _
                      simp only [Act.put, List.setIfInBounds_toArray, List.set_cons_zero, List.set_cons_succ, i64_w, i32_w]
                      rfl
                     refine one_ (i := 5) (N := some 76) #[true, true, true, true, true, true, false, false, false, true, false, false] rfl rfl (one_of HT_.out (by kernel_rfl)) (by decide) (fun K hK => ?_)
                     refine goes_ Try.func18 (by kernel_rfl) rfl #[.agg #[.int .i64 x345000_1, .slice Ao49 x345001_1.length co49], .int .i64 (rd t328 x8_1)] (by rfl) rfl rfl (by (try simp only [List.map_toArray, List.map_cons, List.map_nil]); first | done | rfl | (simp only [List.length_drop, List.length_take]; rfl)) ?_
                     with_reducible refine (impl_TlbUse.calls x345000_1 _ _ x345001_1 (rd t328 x8_1) t353 t354 true _ ?side1 ?side2 A41.out).mono ?_
                     (case side1 => repeat (first | exact (Kd.Q_reads' HO_345001.out).2.2 | (with_reducible refine Kd.C_alloc ?_ _) | (with_reducible refine Kd.C_drewN ?_ _) | (with_reducible refine Kd.C_drew ?_)))
                     (case side2 => exact (Kd.Q_reads' HO_345001.out).2.1)
                     rintro e w52 ⟨v355, rfl, ho0, hb⟩
                     have HS2_ := (hb.cell (World.block_lt_of_cell? _ _ (hHeld.2.2))).trans (hHeld.2.2)
                     refine ⟨_, rfl, ?_⟩
                     have n0_ := Aside0.mk (Kd.R_elder' (rq HO_4.out) (Kd.Q_base ho0) hb)
                     have n1_ := Aside0.mk (Kd.R_below (rq HO_5.out) hb)
                     have n2_ := Aside0.mk (Kd.R_elder' (rq HO_6.out) (Kd.Q_base ho0) hb)
                     have n3_ := Aside0.mk (Kd.Q_elder' (by (with_reducible repeat (first | apply Kd.Q_alloc | apply Kd.Q_drewN | apply Kd.Q_drew)); exact HO_345001.out) (Kd.Q_base ho0) hb)
                     have n4_ := Aside0.mk (Kd.Q_lower (Kd.Q_new' (Kd.Q_new' (Kd.Q_new' ho0 (Kd.R_lt (rq HO_4.out))) (Kd.R_lt (rq HO_6.out))) (Kd.Q_lt (by (with_reducible repeat (first | apply Kd.Q_alloc | apply Kd.Q_drewN | apply Kd.Q_drew)); exact HO_345001.out))) (below_size (lq HB.out)))
                     have n5_ := Aside0.mk (blk_below (bq BK344.out) hb)
                     have n6_ := Aside0.mk (blk_below (bq BK358.out) hb)
                     have n7_ := Aside0.mk (below_step (lq HB.out) hb)
                     clear HO_4
                     clear HO_5
                     clear HO_6
                     clear HO_345001
                     clear BK344
                     clear BK358
                     clear HB
                     have HO_4 := n0_
                     have HO_5 := n1_
                     have HO_6 := n2_
                     have HO_345001 := n3_
                     have HO356 := n4_
                     have BK344 := n5_
                     have BK358 := n6_
                     have HB := n7_
                     clear n0_ n1_ n2_ n3_ n4_ n5_ n6_ n7_
                     (try clear hb)
                     (try clear hb2)
                     (try clear hk)
                     (try clear hi)
                     (try clear ho0)
                     refine hK.out _ _ ⟨(blk_cell BK344.out 0).trans rfl, (blk_cell BK344.out 1).trans rfl, HS2_⟩ (fun hHeld => ?_)
                     clear hK K
                     refine norm_ (a' := ?_) ?_ ?_
                     rotate_left
                     ·show Act.put _ (some 76) _ = _
                      simp only [Act.put, List.setIfInBounds_toArray, List.set_cons_zero, List.set_cons_succ, i64_w, i32_w]
                      rfl
                     refine pure_ (i := 6) (N := some 70) (v := ?_) (a' := ?_) #[true, true, true, true, true, true, true, false, false, true, false, false] rfl rfl (any_of HT_.out (by kernel_rfl)) (fun _ _ _ h => h) (Or.inl ⟨by rfl, ?_⟩) ?_ ?_
                     rotate_left
                     ·intro w'
                      go_simp
                      with_reducible rfl
                     rotate_left
                     ·simp only [Act.put, List.setIfInBounds_toArray, List.set_cons_zero, List.set_cons_succ, i64_w, i32_w]
                      rfl
                     refine pure_ (i := 7) (N := some 77) (v := ?_) (a' := ?_) #[true, true, true, true, true, true, true, true, false, true, false, false] rfl rfl (any_of HT_.out (by kernel_rfl)) (fun _ _ _ h => h) (Or.inl ⟨by rfl, ?_⟩) ?_ ?_
                     rotate_left
                     ·intro w'
                      go_simp
                      with_reducible rfl
                     rotate_left
                     ·simp only [Act.put, List.setIfInBounds_toArray, List.set_cons_zero, List.set_cons_succ, i64_w, i32_w]
                      rfl
                     refine pure_ (i := 8) (N := some 78) (v := ?_) (a' := ?_) #[true, true, true, true, true, true, true, true, true, true, false, false] rfl rfl (any_of HT_.out (by kernel_rfl)) (fun _ _ _ h => h) (Or.inl ⟨by rfl, ?_⟩) ?_ ?_
                     rotate_left
                     ·intro w'
                      go_simp
                      with_reducible rfl
                     rotate_left
                     ·simp only [Act.put, List.setIfInBounds_toArray, List.set_cons_zero, List.set_cons_succ, i64_w, i32_w]
                      rfl
                     exact norm_ (by simp only [putAll, Act.put, List.setIfInBounds_toArray, List.set_cons_zero, List.set_cons_succ]) (hCont (v355, gb358) _ ⟨hHeld, (by (with_reducible repeat (first | apply Kd.Q_alloc | apply Kd.Q_drewN | apply Kd.Q_drew)); exact Kd.Q_mono HO356.out (fun _ hk => ⟨hk.2, ⟨hk.1.1.2, hk.1.2⟩⟩)), (by (with_reducible repeat (first | apply Kd.Q_alloc | apply Kd.Q_drewN | apply Kd.Q_drew)); exact Kd.Q_mono HO_345001.out (fun _ hk => ⟨hk.2, ⟨hk.1.1, hk.1.2⟩⟩)), (by (with_reducible repeat (first | apply Kd.R_alloc | apply Kd.R_drewN | apply Kd.R_drew)); exact Kd.R_mono HO_4.out (fun _ hk => ⟨hk.2, ⟨hk.1.2, hk.1.1⟩⟩)), (rq HO_5.out), (by (with_reducible repeat (first | apply Kd.R_alloc | apply Kd.R_drewN | apply Kd.R_drew)); exact Kd.R_mono HO_6.out (fun _ hk => ⟨hk.2, ⟨hk.1.2, hk.1.1⟩⟩)), (bq BK344.out), (bq BK358.out), GW358.out, GE358.out, NB344_358.out, NB358_344.out, (lq HB.out)⟩)
                   rintro ⟨v355, gb358⟩ w53 ⟨hS_, h0_, h1_, h2_, h3_, h4_, h5_, h6_, h7_, h8_, h9_, h10_, h11_⟩
                   have n0_ : Aside0 (Kd.Q (Kd.int .i64) 3 w53 w.heap.size (fun k_ => some k_ ≠ (.slice Ao49 x345001_1.length co49 : Value).ownBlock ∧ some k_ ≠ (.slice (some ad345) t328.length co10 : Value).ownBlock ∧ some k_ ≠ (u6 : Value).ownBlock) v355 t354) := ⟨h0_⟩
                   have n1_ : Aside0 (Kd.Q (Kd.int .i64) 3 w53 w.heap.size (fun k_ => some k_ ≠ (v355 : Value).ownBlock ∧ some k_ ≠ (.slice (some ad345) t328.length co10 : Value).ownBlock ∧ some k_ ≠ (u6 : Value).ownBlock) (.slice Ao49 x345001_1.length co49) x345001_1) := ⟨h1_⟩
                   have n2_ : Aside0 (Kd.R (Kd.int .i64) 3 w53 w.heap.size (fun k_ => some k_ ≠ (v355 : Value).ownBlock ∧ some k_ ≠ (.slice Ao49 x345001_1.length co49 : Value).ownBlock ∧ some k_ ≠ (u6 : Value).ownBlock) (.slice (some ad345) t328.length co10) t328) := ⟨h2_⟩
                   have n3_ : Aside0 (Kd.R Kd.bool 4 w53 w.heap.size (fun _ => True) (.slice Ao12 t331.length co12) t331) := ⟨h3_⟩
                   have n4_ : Aside0 (Kd.R (Kd.int .i64) 3 w53 w.heap.size (fun k_ => some k_ ≠ (v355 : Value).ownBlock ∧ some k_ ≠ (.slice Ao49 x345001_1.length co49 : Value).ownBlock ∧ some k_ ≠ (.slice (some ad345) t328.length co10 : Value).ownBlock) u6 x6_26) := ⟨h4_⟩
                   have n5_ : Aside0 (w53.heap[gb344]? = some (.cells #[.int .i64 x345000_1, .slice Ao49 x345001_1.length co49] 40 (0, 0))) := ⟨h5_⟩
                   have n6_ : Aside0 (w53.heap[gb358]? = some (.cells #[.int .i64 0, .slice none 0 0] 40 (0, 0))) := ⟨h6_⟩
                   have n7_ : Aside0 (w.heap.size ≤ gb358) := ⟨h7_⟩
                   have n8_ : Aside0 (w.heap.size ≤ gb358) := ⟨h8_⟩
                   have n9_ : Aside0 (gb344 ≠ gb358) := ⟨h9_⟩
                   have n10_ : Aside0 (gb358 ≠ gb344) := ⟨h10_⟩
                   have n11_ : Aside0 (Below w.heap.size w w53) := ⟨h11_⟩
                   clear HO_4
                   clear HO_5
                   clear HO_6
                   clear HO_345001
                   clear BK344
                   clear HB
                   clear h0_ h1_ h2_ h3_ h4_ h5_ h6_ h7_ h8_ h9_ h10_ h11_
                   have HO356 := n0_
                   have HO_345001 := n1_
                   have HO_4 := n2_
                   have HO_5 := n3_
                   have HO_6 := n4_
                   have BK344 := n5_
                   have BK358 := n6_
                   have GW358 := n7_
                   have GE358 := n8_
                   have NB344_358 := n9_
                   have NB358_344 := n10_
                   have HB := n11_
                   clear n0_ n1_ n2_ n3_ n4_ n5_ n6_ n7_ n8_ n9_ n10_ n11_
                   have hHeld : w53.cell? ⟨gb344, 0, none⟩ = some (.int .i64 x345000_1) ∧ w53.cell? ⟨gb344, 1, none⟩ = some (.slice Ao49 x345001_1.length co49) ∧ w53.cell? (ad345.add (x8_1).toNat) = some (.int .i64 (rd t328 x8_1)) := hS_
                   obtain ⟨Ao55, co55, eo55, _⟩ := Kd.Q_slice HO356.out
                   (first | subst eo55 | (injection eo55 with f1_ f2_ f3_; have f4_ := f1_.symm; have f5_ := f3_.symm; clear f1_ f2_ f3_; subst f4_; subst f5_))
                   refine norm_ (a' := ?_) ?_ ?_
                   rotate_left
                   ·simp only [putAll, Act.put, List.setIfInBounds_toArray, List.set_cons_zero, List.set_cons_succ]
                    rfl
                   refine one_ (i := 10) (N := none) #[true, true, true, true, true, true, true, true, true, true, true, false] rfl rfl (one_of HT_.out (by kernel_rfl)) (by decide) (fun K hK => ?_)
                   have hs54 : w53.cell? ⟨gb358, 0, none⟩ = some (.int .i64 0) := (blk_cell BK358.out 0).trans rfl
                   have hfs54 := blk_frozen BK358.out 0
                   have hns54_0 := NB344_358.out
                   have hms54_0 := NB358_344.out
                   have hs56 : w53.cell? ⟨gb358, 1, none⟩ = some (.slice none 0 0) := (blk_cell BK358.out 1).trans rfl
                   have hfs56 := blk_frozen BK358.out 1
                   have hns56_0 := NB344_358.out
                   have hms56_0 := NB358_344.out
                   refine skip_ (w1 := ?_) (by rfl) rfl ?_ ?_
                   rotate_left
                   ·go_simp
                    rfl
                   refine hK.out _ _ ⟨((cell_far (p := ⟨gb358, _, none⟩) NB344_358.out _).trans (((cell_far (p := ⟨gb358, _, none⟩) NB344_358.out _).trans (hHeld.1)))), ((cell_far (p := ⟨gb358, _, none⟩) NB344_358.out _).trans (((cell_far (p := ⟨gb358, _, none⟩) NB344_358.out _).trans (hHeld.2.1)))), ((cell_far (p := ⟨gb358, _, none⟩) (by first | exact Kd.own_blk (Kd.R_ne HO_4.out BK358.out (by decide)) | (rw [add_block]; exact Kd.own_blk (Kd.R_ne HO_4.out BK358.out (by decide))) | (show (Addr.add _ _).block ≠ _; rw [add_block]; exact Kd.own_blk (Kd.R_ne HO_4.out BK358.out (by decide))) | (dsimp only; exact Kd.own_blk (Kd.R_ne HO_4.out BK358.out (by decide)))) _).trans (((cell_far (p := ⟨gb358, _, none⟩) (by first | exact Kd.own_blk (Kd.R_ne HO_4.out BK358.out (by decide)) | (rw [add_block]; exact Kd.own_blk (Kd.R_ne HO_4.out BK358.out (by decide))) | (show (Addr.add _ _).block ≠ _; rw [add_block]; exact Kd.own_blk (Kd.R_ne HO_4.out BK358.out (by decide))) | (dsimp only; exact Kd.own_blk (Kd.R_ne HO_4.out BK358.out (by decide)))) _).trans (hHeld.2.2))))⟩ (fun hHeld => ?_)
                   clear hK K
                   refine pure_ (i := 11) (N := some 11) (v := ?_) (a' := ?_) #[true, true, true, true, true, true, true, true, true, true, true, true] rfl rfl (any_of HT_.out (by kernel_rfl)) (fun _ _ _ h => h) (Or.inl ⟨by rfl, ?_⟩) ?_ ?_
                   rotate_left
                   ·intro w'
                    go_simp
                    with_reducible rfl
                   rotate_left
                   ·simp only [Act.put, List.setIfInBounds_toArray, List.set_cons_zero, List.set_cons_succ, i64_w, i32_w]
                    rfl
                   refine done_ (done_of HT_.out (by kernel_rfl)) ?_
                   try go_wp2
                   have n0_ : Aside0 (Kd.R (Kd.int .i64) 3 ((w53.setCell ⟨gb358, 0, none⟩ (.int .i64 t353)).setCell ⟨gb358, 1, none⟩ (.slice Ao55 t354.length co55)) w.heap.size (fun k_ => some k_ ≠ (u6 : Value).ownBlock ∧ some k_ ≠ (.slice Ao49 x345001_1.length co49 : Value).ownBlock ∧ some k_ ≠ (.slice Ao55 t354.length co55 : Value).ownBlock) (.slice (some ad345) t328.length co10) t328) := ⟨by (with_reducible repeat (first | apply Kd.R_alloc | apply Kd.R_drewN | apply Kd.R_drew)); exact Kd.R_mono (Kd.R_far (p := ⟨gb358, 1, none⟩) (Kd.R_far (p := ⟨gb358, 0, none⟩) (Kd.R_types HO_4.out BK358.out (by decide)) (fun _ hk => hk.2) (.int .i64 t353)) (fun _ hk => hk.2) (.slice Ao55 t354.length co55)) (fun _ hk => ⟨hk.1.2.2, ⟨hk.1.2.1, hk.1.1⟩⟩)⟩
                   have n1_ : Aside0 (Kd.R Kd.bool 4 ((w53.setCell ⟨gb358, 0, none⟩ (.int .i64 t353)).setCell ⟨gb358, 1, none⟩ (.slice Ao55 t354.length co55)) w.heap.size (fun _ => True) (.slice Ao12 t331.length co12) t331) := ⟨by (with_reducible repeat (first | apply Kd.R_alloc | apply Kd.R_drewN | apply Kd.R_drew)); exact Kd.R_mono (Kd.R_far (p := ⟨gb358, 1, none⟩) (Kd.R_far (p := ⟨gb358, 0, none⟩) (Kd.R_types HO_5.out BK358.out (by decide)) (fun _ hk => hk.2) (.int .i64 t353)) (fun _ hk => hk.2) (.slice Ao55 t354.length co55)) (fun _ hk => trivial)⟩
                   have n2_ : Aside0 (Kd.R (Kd.int .i64) 3 ((w53.setCell ⟨gb358, 0, none⟩ (.int .i64 t353)).setCell ⟨gb358, 1, none⟩ (.slice Ao55 t354.length co55)) w.heap.size (fun k_ => some k_ ≠ (.slice (some ad345) t328.length co10 : Value).ownBlock ∧ some k_ ≠ (.slice Ao49 x345001_1.length co49 : Value).ownBlock ∧ some k_ ≠ (.slice Ao55 t354.length co55 : Value).ownBlock) u6 x6_26) := ⟨by (with_reducible repeat (first | apply Kd.R_alloc | apply Kd.R_drewN | apply Kd.R_drew)); exact Kd.R_mono (Kd.R_far (p := ⟨gb358, 1, none⟩) (Kd.R_far (p := ⟨gb358, 0, none⟩) (Kd.R_types HO_6.out BK358.out (by decide)) (fun _ hk => hk.2) (.int .i64 t353)) (fun _ hk => hk.2) (.slice Ao55 t354.length co55)) (fun _ hk => ⟨hk.1.2.2, ⟨hk.1.2.1, hk.1.1⟩⟩)⟩
                   have n3_ : Aside0 (Kd.Q (Kd.int .i64) 3 ((w53.setCell ⟨gb358, 0, none⟩ (.int .i64 t353)).setCell ⟨gb358, 1, none⟩ (.slice Ao55 t354.length co55)) w.heap.size (fun k_ => some k_ ≠ (.slice (some ad345) t328.length co10 : Value).ownBlock ∧ some k_ ≠ (u6 : Value).ownBlock ∧ some k_ ≠ (.slice Ao55 t354.length co55 : Value).ownBlock) (.slice Ao49 x345001_1.length co49) x345001_1) := ⟨by (with_reducible repeat (first | apply Kd.Q_alloc | apply Kd.Q_drewN | apply Kd.Q_drew)); exact Kd.Q_mono (Kd.Q_far (p := ⟨gb358, 1, none⟩) (Kd.Q_far (p := ⟨gb358, 0, none⟩) (Kd.Q_types HO_345001.out BK358.out (by decide)) (fun _ hk => hk.2) (.int .i64 t353)) (fun _ hk => hk.2) (.slice Ao55 t354.length co55)) (fun _ hk => ⟨hk.1.2.1, ⟨hk.1.2.2, hk.1.1⟩⟩)⟩
                   have n4_ : Aside0 (Kd.Q (Kd.int .i64) 3 ((w53.setCell ⟨gb358, 0, none⟩ (.int .i64 t353)).setCell ⟨gb358, 1, none⟩ (.slice Ao55 t354.length co55)) w.heap.size (fun k_ => some k_ ≠ (.slice (some ad345) t328.length co10 : Value).ownBlock ∧ some k_ ≠ (u6 : Value).ownBlock ∧ some k_ ≠ (.slice Ao49 x345001_1.length co49 : Value).ownBlock) (.slice Ao55 t354.length co55) t354) := ⟨by (with_reducible repeat (first | apply Kd.Q_alloc | apply Kd.Q_drewN | apply Kd.Q_drew)); exact Kd.Q_mono (Kd.Q_far (p := ⟨gb358, 1, none⟩) (Kd.Q_far (p := ⟨gb358, 0, none⟩) (Kd.Q_types HO356.out BK358.out (by decide)) (fun _ hk => hk.2) (.int .i64 t353)) (fun _ hk => hk.2) (.slice Ao55 t354.length co55)) (fun _ hk => ⟨hk.1.2.1, ⟨hk.1.2.2, hk.1.1⟩⟩)⟩
                   have n5_ : Aside0 (((w53.setCell ⟨gb358, 0, none⟩ (.int .i64 t353)).setCell ⟨gb358, 1, none⟩ (.slice Ao55 t354.length co55)).heap[gb344]? = some (.cells #[.int .i64 x345000_1, .slice Ao49 x345001_1.length co49] 40 (0, 0))) := ⟨by (with_reducible repeat (first | refine blk_drewN ?_ _ | refine blk_drew ?_ | refine blk_alloc ?_ _)); refine blk_far ?_ NB344_358.out _; (with_reducible repeat (first | refine blk_drewN ?_ _ | refine blk_drew ?_ | refine blk_alloc ?_ _)); refine blk_far ?_ NB344_358.out _; (with_reducible repeat (first | refine blk_drewN ?_ _ | refine blk_drew ?_ | refine blk_alloc ?_ _)); exact BK344.out⟩
                   have n6_ : Aside0 (((w53.setCell ⟨gb358, 0, none⟩ (.int .i64 t353)).setCell ⟨gb358, 1, none⟩ (.slice Ao55 t354.length co55)).heap[gb358]? = some (.cells #[.int .i64 t353, .slice Ao55 t354.length co55] 40 (0, 0))) := ⟨by (with_reducible repeat (first | refine blk_drewN ?_ _ | refine blk_drew ?_ | refine blk_alloc ?_ _)); refine blk_put (cs := #[.int .i64 t353, .slice none 0 0]) ?_ 1 _ rfl; (with_reducible repeat (first | refine blk_drewN ?_ _ | refine blk_drew ?_ | refine blk_alloc ?_ _)); refine blk_put (cs := #[.int .i64 0, .slice none 0 0]) ?_ 0 _ rfl; (with_reducible repeat (first | refine blk_drewN ?_ _ | refine blk_drew ?_ | refine blk_alloc ?_ _)); exact BK358.out⟩
                   have n7_ : Aside0 (Below w.heap.size w ((w53.setCell ⟨gb358, 0, none⟩ (.int .i64 t353)).setCell ⟨gb358, 1, none⟩ (.slice Ao55 t354.length co55))) := ⟨by repeat (first | (with_reducible first | exact HB.out | apply below_alloc | apply pw_below_drewN | apply below_drew1 | refine below_set ?_ GE358.out) | exact HB.out)⟩
                   (try clear HO_4)
                   (try clear HO_5)
                   (try clear HO_6)
                   (try clear HO_345001)
                   (try clear HO356)
                   (try clear BK344)
                   (try clear BK358)
                   (try clear HB)
                   generalize ((w53.setCell ⟨gb358, 0, none⟩ (.int .i64 t353)).setCell ⟨gb358, 1, none⟩ (.slice Ao55 t354.length co55)) = w57 at n0_ n1_ n2_ n3_ n4_ n5_ n6_ n7_ ⊢
                   have HO_4 := n0_
                   have HO_5 := n1_
                   have HO_6 := n2_
                   have HO_345001 := n3_
                   have HO356 := n4_
                   have BK344 := n5_
                   have BK358 := n6_
                   have HB := n7_
                   clear n0_ n1_ n2_ n3_ n4_ n5_ n6_ n7_
                   have n0_ := Aside0.mk (Kd.R_drew HO_4.out)
                   have n1_ := Aside0.mk (Kd.R_drew HO_5.out)
                   have n2_ := Aside0.mk (Kd.R_drew HO_6.out)
                   have n3_ := Aside0.mk (Kd.Q_drew HO_345001.out)
                   have n4_ := Aside0.mk (Kd.Q_drew HO356.out)
                   have n5_ := Aside0.mk (blk_drew BK344.out)
                   have n6_ := Aside0.mk (blk_drew BK358.out)
                   have n7_ := Aside0.mk (below_drew1 HB.out)
                   clear HO_4
                   clear HO_5
                   clear HO_6
                   clear HO_345001
                   clear HO356
                   clear BK344
                   clear BK358
                   clear HB
                   have HO_4 := n0_
                   have HO_5 := n1_
                   have HO_6 := n2_
                   have HO_345001 := n3_
                   have HO356 := n4_
                   have BK344 := n5_
                   have BK358 := n6_
                   have HB := n7_
                   clear n0_ n1_ n2_ n3_ n4_ n5_ n6_ n7_
                   have p359 : 0 ≤ (x8_1 : Int) := of_decide_eq_true (by first | (with_reducible assumption) | assumption)
                   have q359 : x8_1 < (t331.length : Int) := of_decide_eq_true (by first | (with_reducible assumption) | assumption)
                   obtain ⟨ad359, e359, hx359_0⟩ := Kd.at_bool (Kd.R_reads' HO_5.out).2.2 x8_1 p359 q359
                   cases e359
                   replace p359 := eq_true p359
                   replace q359 := eq_true q359
                   have p361 : 0 ≤ (x8_1 : Int) := of_decide_eq_true (by first | (with_reducible assumption) | assumption)
                   have q361 : x8_1 < (t328.length : Int) := of_decide_eq_true (by first | (with_reducible assumption) | assumption)
                   obtain ⟨ad361, e361, hx361_0⟩ := Kd.at_int (Kd.R_reads' HO_4.out).2.2 x8_1 p361 q361
                   obtain rfl : ad345 = ad361 := (by injection e361)
                   replace p361 := eq_true p361
                   replace q361 := eq_true q361
                   refine start_ (n := 26) (S := fun w' => w'.cell? ⟨gb358, 0, none⟩ = some (.int .i64 t353) ∧ w'.cell? ⟨gb358, 1, none⟩ = some (.slice Ao55 t354.length co55) ∧ w'.cell? ⟨gb344, 0, none⟩ = some (.int .i64 x345000_1) ∧ w'.cell? ⟨gb344, 1, none⟩ = some (.slice Ao49 x345001_1.length co49) ∧ w'.cell? (ad359.add (x8_1).toNat) = some (.bool (rdOf false t331 x8_1)) ∧ w'.cell? (ad345.add (x8_1).toNat) = some (.int .i64 (rd t328 x8_1))) (ds := []) #[false, false, false, false, false, false, false, false, false, false, false, false, false, false, false, false, false, false, false, false, false, false, false, false, false, false] (by kernel_rfl) rfl rfl ⟨(blk_cell BK358.out 0).trans rfl, (blk_cell BK358.out 1).trans rfl, (blk_cell BK344.out 0).trans rfl, (blk_cell BK344.out 1).trans rfl, hx359_0, hx361_0⟩ (fun hHeld => ?_); refine with_tabW laws_FnPages.tab20 laws_FnPages.bits20 (fun HT_ HW_ => ?_)
                   generalize w57.drew = w58 at HO_4 HO_5 HO_6 HO_345001 HO356 BK344 BK358 HB hx359_0 hx361_0 hHeld ⊢
                   refine pure_ (i := 0) (N := some 79) (v := ?_) (a' := ?_) #[true, false, false, false, false, false, false, false, false, false, false, false, false, false, false, false, false, false, false, false, false, false, false, false, false, false] rfl rfl (any_of HT_.out (by kernel_rfl)) (fun _ _ _ h => h) (Or.inl ⟨by rfl, ?_⟩) ?_ ?_
                   rotate_left
                   ·intro w'
                    go_simp
                    with_reducible rfl
                   rotate_left
                   ·simp only [Act.put, List.setIfInBounds_toArray, List.set_cons_zero, List.set_cons_succ, i64_w, i32_w]
                    rfl
                   refine pure_ (i := 1) (N := some 80) (v := ?_) (a' := ?_) #[true, true, false, false, false, false, false, false, false, false, false, false, false, false, false, false, false, false, false, false, false, false, false, false, false, false] rfl rfl (any_of HT_.out (by kernel_rfl)) (fun _ _ _ h => h) (Or.inl ⟨by rfl, ?_⟩) ?_ ?_
                   rotate_left
                   ·intro w'
                    go_simp
                    with_reducible rfl
                   rotate_left
                   ·simp only [Act.put, List.setIfInBounds_toArray, List.set_cons_zero, List.set_cons_succ, i64_w, i32_w]
                    rfl
                   refine pure_ (i := 2) (N := some 81) (v := ?_) (a' := ?_) #[true, true, true, false, false, false, false, false, false, false, false, false, false, false, false, false, false, false, false, false, false, false, false, false, false, false] rfl rfl (any_of HT_.out (by kernel_rfl)) (fun _ _ _ h => h) (Or.inl ⟨by rfl, ?_⟩) ?_ ?_
                   rotate_left
                   ·intro w'
                    go_simp
                    with_reducible rfl
                   rotate_left
                   ·simp only [Act.put, List.setIfInBounds_toArray, List.set_cons_zero, List.set_cons_succ, i64_w, i32_w]
                    rfl
                   refine pure_ (i := 3) (N := some 82) (v := ?_) (a' := ?_) #[true, true, true, true, false, false, false, false, false, false, false, false, false, false, false, false, false, false, false, false, false, false, false, false, false, false] rfl rfl (any_of HT_.out (by kernel_rfl)) (fun _ _ _ h => h) (Or.inl ⟨by rfl, ?_⟩) ?_ ?_
                   rotate_left
                   ·intro w'
                    go_simp
                    with_reducible rfl
                   rotate_left
                   ·simp only [Act.put, List.setIfInBounds_toArray, List.set_cons_zero, List.set_cons_succ, i64_w, i32_w]
                    rfl
                   refine take_ (i := 4) (N := some 83) (v := ?_) (a' := ?_) #[true, true, true, true, true, false, false, false, false, false, false, false, false, false, false, false, false, false, false, false, false, false, false, false, false, false] rfl rfl (take_ofW HT_.out HW_.out (by kernel_rfl)) (fun _ _ _ h => h) (Or.inl ⟨by rfl, ?_⟩) hHeld ?_ ?_
                   rotate_left
                   ·rintro w' ⟨s0, s1, s2, s3, s4, s5⟩
                    go_simp
                    with_reducible rfl
                   rotate_left
                   ·simp only [Act.put, List.setIfInBounds_toArray, List.set_cons_zero, List.set_cons_succ, i64_w, i32_w]
                    rfl
                   refine pure_ (i := 5) (N := some 84) (v := ?_) (a' := ?_) #[true, true, true, true, true, true, false, false, false, false, false, false, false, false, false, false, false, false, false, false, false, false, false, false, false, false] rfl rfl (any_of HT_.out (by kernel_rfl)) (fun _ _ _ h => h) (Or.inl ⟨by rfl, ?_⟩) ?_ ?_
                   rotate_left
                   ·intro w'
                    go_simp
                    with_reducible rfl
                   rotate_left
                   ·simp only [Act.put, List.setIfInBounds_toArray, List.set_cons_zero, List.set_cons_succ, i64_w, i32_w]
                    rfl
                   refine pure_ (i := 6) (N := some 85) (v := ?_) (a' := ?_) #[true, true, true, true, true, true, true, false, false, false, false, false, false, false, false, false, false, false, false, false, false, false, false, false, false, false] rfl rfl (any_of HT_.out (by kernel_rfl)) (fun _ _ _ h => h) (Or.inl ⟨by rfl, ?_⟩) ?_ ?_
                   rotate_left
                   ·intro w'
                    go_simp
                    with_reducible rfl
                   rotate_left
                   ·simp only [Act.put, List.setIfInBounds_toArray, List.set_cons_zero, List.set_cons_succ, i64_w, i32_w]
                    rfl
                   refine pure_ (i := 7) (N := some 86) (v := ?_) (a' := ?_) #[true, true, true, true, true, true, true, true, false, false, false, false, false, false, false, false, false, false, false, false, false, false, false, false, false, false] rfl rfl (any_of HT_.out (by kernel_rfl)) (fun _ _ _ h => h) (Or.inl ⟨by rfl, ?_⟩) ?_ ?_
                   rotate_left
                   ·intro w'
                    go_simp
                    with_reducible rfl
                   rotate_left
                   ·simp only [Act.put, List.setIfInBounds_toArray, List.set_cons_zero, List.set_cons_succ, i64_w, i32_w]
                    rfl
                   refine pure_ (i := 8) (N := some 87) (v := ?_) (a' := ?_) #[true, true, true, true, true, true, true, true, true, false, false, false, false, false, false, false, false, false, false, false, false, false, false, false, false, false] rfl rfl (any_of HT_.out (by kernel_rfl)) (fun _ _ _ h => h) (Or.inl ⟨by rfl, ?_⟩) ?_ ?_
                   rotate_left
                   ·intro w'
                    go_simp
                    with_reducible rfl
                   rotate_left
                   ·simp only [Act.put, List.setIfInBounds_toArray, List.set_cons_zero, List.set_cons_succ, i64_w, i32_w]
                    rfl
                   refine pure_ (i := 9) (N := some 88) (v := ?_) (a' := ?_) #[true, true, true, true, true, true, true, true, true, true, false, false, false, false, false, false, false, false, false, false, false, false, false, false, false, false] rfl rfl (any_of HT_.out (by kernel_rfl)) (fun _ _ _ h => h) (Or.inl ⟨by rfl, ?_⟩) ?_ ?_
                   rotate_left
                   ·intro w'
                    go_simp
                    with_reducible rfl
                   rotate_left
                   ·simp only [Act.put, List.setIfInBounds_toArray, List.set_cons_zero, List.set_cons_succ, i64_w, i32_w]
                    rfl
                   refine pure_ (i := 11) (N := some 90) (v := ?_) (a' := ?_) #[true, true, true, true, true, true, true, true, true, true, false, true, false, false, false, false, false, false, false, false, false, false, false, false, false, false] rfl rfl (any_of HT_.out (by kernel_rfl)) (fun _ _ _ h => h) (Or.inl ⟨by rfl, ?_⟩) ?_ ?_
                   rotate_left
                   ·intro w'
                    go_simp
                    with_reducible rfl
                   rotate_left
                   ·simp only [Act.put, List.setIfInBounds_toArray, List.set_cons_zero, List.set_cons_succ, i64_w, i32_w]
                    rfl
                   refine take_ (i := 10) (N := some 89) (v := ?_) (a' := ?_) #[true, true, true, true, true, true, true, true, true, true, true, true, false, false, false, false, false, false, false, false, false, false, false, false, false, false] rfl rfl (take_ofW HT_.out HW_.out (by kernel_rfl)) (fun _ _ _ h => h) (Or.inl ⟨by rfl, ?_⟩) hHeld ?_ ?_
                   rotate_left
                   ·rintro w' ⟨s0, s1, s2, s3, s4, s5⟩
                    go_simp
                    with_reducible rfl
                   rotate_left
                   ·simp only [Act.put, List.setIfInBounds_toArray, List.set_cons_zero, List.set_cons_succ, i64_w, i32_w]
                    rfl
                   refine take_ (i := 12) (N := some 91) (v := ?_) (a' := ?_) #[true, true, true, true, true, true, true, true, true, true, true, true, true, false, false, false, false, false, false, false, false, false, false, false, false, false] rfl rfl (take_ofW HT_.out HW_.out (by kernel_rfl)) (fun _ _ _ h => h) (Or.inl ⟨by rfl, ?_⟩) hHeld ?_ ?_
                   rotate_left
                   ·rintro w' ⟨s0, s1, s2, s3, s4, s5⟩
                    go_simp
                    with_reducible rfl
                   rotate_left
                   ·simp only [Act.put, List.setIfInBounds_toArray, List.set_cons_zero, List.set_cons_succ, i64_w, i32_w]
                    rfl
                   refine one_ (i := 13) (N := some 92) #[true, true, true, true, true, true, true, true, true, true, true, true, true, true, false, false, false, false, false, false, false, false, false, false, false, false] rfl rfl (one_of HT_.out (by kernel_rfl)) (by decide) (fun K hK => ?_)
                   refine goes_ Try.func26 (by kernel_rfl) rfl #[.slice Ao55 t354.length co55, .slice Ao49 x345001_1.length co49] (by rfl) rfl rfl (by (try simp only [List.map_toArray, List.map_cons, List.map_nil]); first | done | rfl | (simp only [List.length_drop, List.length_take]; rfl)) ?_
                   with_reducible refine (laws_sameInts.calls kj26 _ _ t354 _ _ x345001_1 true _ ?side1 ?side2 ?side3 ?side4 A45.out).mono ?_
                   (case side1 => repeat (first | exact (Kd.Q_reads' HO356.out).2.2 | (with_reducible refine Kd.C_alloc ?_ _) | (with_reducible refine Kd.C_drewN ?_ _) | (with_reducible refine Kd.C_drew ?_)))
                   (case side2 => exact (Kd.Q_reads' HO356.out).2.1)
                   (case side3 => repeat (first | exact (Kd.Q_reads' HO_345001.out).2.2 | (with_reducible refine Kd.C_alloc ?_ _) | (with_reducible refine Kd.C_drewN ?_ _) | (with_reducible refine Kd.C_drew ?_)))
                   (case side4 => exact (Kd.Q_reads' HO_345001.out).2.1)
                   rintro e w' ⟨rfl, ⟨nd, rfl⟩⟩
                   refine ⟨_, rfl, ?_⟩
                   refine hK.out _ _ ⟨(blk_cell BK358.out 0).trans rfl, (blk_cell BK358.out 1).trans rfl, (blk_cell BK344.out 0).trans rfl, (blk_cell BK344.out 1).trans rfl, hHeld.2.2.2.2.1, hHeld.2.2.2.2.2⟩ (fun hHeld => ?_)
                   clear hK K
                   refine norm_ (a' := ?_) ?_ ?_
                   rotate_left
                   ·show Act.put _ (some 92) _ = _
                    simp only [Act.put, List.setIfInBounds_toArray, List.set_cons_zero, List.set_cons_succ, i64_w, i32_w]
                    rfl
                   refine pure_ (i := 14) (N := some 93) (v := ?_) (a' := ?_) #[true, true, true, true, true, true, true, true, true, true, true, true, true, true, true, false, false, false, false, false, false, false, false, false, false, false] rfl rfl (any_of HT_.out (by kernel_rfl)) (fun _ _ _ h => h) (Or.inl ⟨by rfl, ?_⟩) ?_ ?_
                   rotate_left
                   ·intro w'
                    go_simp
                    with_reducible rfl
                   rotate_left
                   ·simp only [Act.put, List.setIfInBounds_toArray, List.set_cons_zero, List.set_cons_succ, i64_w, i32_w]
                    rfl
                   refine pure_ (i := 15) (N := some 94) (v := ?_) (a' := ?_) #[true, true, true, true, true, true, true, true, true, true, true, true, true, true, true, true, false, false, false, false, false, false, false, false, false, false] rfl rfl (any_of HT_.out (by kernel_rfl)) (fun _ _ _ h => h) (Or.inl ⟨by rfl, ?_⟩) ?_ ?_
                   rotate_left
                   ·intro w'
                    go_simp
                    with_reducible rfl
                   rotate_left
                   ·simp only [Act.put, List.setIfInBounds_toArray, List.set_cons_zero, List.set_cons_succ, i64_w, i32_w]
                    rfl
                   refine pure_ (i := 16) (N := some 95) (v := ?_) (a' := ?_) #[true, true, true, true, true, true, true, true, true, true, true, true, true, true, true, true, true, false, false, false, false, false, false, false, false, false] rfl rfl (any_of HT_.out (by kernel_rfl)) (fun _ _ _ h => h) (Or.inl ⟨by rfl, ?_⟩) ?_ ?_
                   rotate_left
                   ·intro w'
                    go_simp
                    with_reducible rfl
                   rotate_left
                   ·simp only [Act.put, List.setIfInBounds_toArray, List.set_cons_zero, List.set_cons_succ, i64_w, i32_w]
                    rfl
                   refine pure_ (i := 17) (N := some 96) (v := ?_) (a' := ?_) #[true, true, true, true, true, true, true, true, true, true, true, true, true, true, true, true, true, true, false, false, false, false, false, false, false, false] rfl rfl (any_of HT_.out (by kernel_rfl)) (fun _ _ _ h => h) (Or.inl ⟨by rfl, ?_⟩) ?_ ?_
                   rotate_left
                   ·intro w'
                    go_simp
                    with_reducible rfl
                   rotate_left
                   ·simp only [Act.put, List.setIfInBounds_toArray, List.set_cons_zero, List.set_cons_succ, i64_w, i32_w]
                    rfl
                   refine pure_ (i := 19) (N := some 98) (v := ?_) (a' := ?_) #[true, true, true, true, true, true, true, true, true, true, true, true, true, true, true, true, true, true, false, true, false, false, false, false, false, false] rfl rfl (any_of HT_.out (by kernel_rfl)) (fun _ _ _ h => h) (Or.inl ⟨by rfl, ?_⟩) ?_ ?_
                   rotate_left
                   ·intro w'
                    go_simp
                    with_reducible rfl
                   rotate_left
                   ·simp only [Act.put, List.setIfInBounds_toArray, List.set_cons_zero, List.set_cons_succ, i64_w, i32_w]
                    rfl
                   refine pure_ (i := 20) (N := some 99) (v := ?_) (a' := ?_) #[true, true, true, true, true, true, true, true, true, true, true, true, true, true, true, true, true, true, false, true, true, false, false, false, false, false] rfl rfl (any_of HT_.out (by kernel_rfl)) (fun _ _ _ h => h) (Or.inl ⟨by rfl, ?_⟩) ?_ ?_
                   rotate_left
                   ·intro w'
                    go_simp
                    with_reducible rfl
                   rotate_left
                   ·simp only [Act.put, List.setIfInBounds_toArray, List.set_cons_zero, List.set_cons_succ, i64_w, i32_w]
                    rfl
                   refine pure_ (i := 21) (N := some 100) (v := ?_) (a' := ?_) #[true, true, true, true, true, true, true, true, true, true, true, true, true, true, true, true, true, true, false, true, true, true, false, false, false, false] rfl rfl (any_of HT_.out (by kernel_rfl)) (fun _ _ _ h => h) (Or.inl ⟨by rfl, ?_⟩) ?_ ?_
                   rotate_left
                   ·intro w'
                    go_simp
                    with_reducible rfl
                   rotate_left
                   ·simp only [Act.put, List.setIfInBounds_toArray, List.set_cons_zero, List.set_cons_succ, i64_w, i32_w]
                    rfl
                   refine take_ (i := 18) (N := some 97) (v := ?_) (a' := ?_) #[true, true, true, true, true, true, true, true, true, true, true, true, true, true, true, true, true, true, true, true, true, true, false, false, false, false] rfl rfl (take_ofW HT_.out HW_.out (by kernel_rfl)) (fun _ _ _ h => h) (Or.inl ⟨by rfl, ?_⟩) hHeld ?_ ?_
                   rotate_left
                   ·rintro w' ⟨s0, s1, s2, s3, s4, s5⟩
                    go_simp
                    with_reducible rfl
                   rotate_left
                   ·simp only [Act.put, List.setIfInBounds_toArray, List.set_cons_zero, List.set_cons_succ, i64_w, i32_w]
                    rfl
                   refine take_ (i := 22) (N := some 101) (v := ?_) (a' := ?_) #[true, true, true, true, true, true, true, true, true, true, true, true, true, true, true, true, true, true, true, true, true, true, true, false, false, false] rfl rfl (take_ofW HT_.out HW_.out (by kernel_rfl)) (fun _ _ _ h => h) (Or.inl ⟨by rfl, ?_⟩) hHeld ?_ ?_
                   rotate_left
                   ·rintro w' ⟨s0, s1, s2, s3, s4, s5⟩
                    go_simp
                    with_reducible rfl
                   rotate_left
                   ·simp only [Act.put, List.setIfInBounds_toArray, List.set_cons_zero, List.set_cons_succ, i64_w, i32_w]
                    rfl
                   refine one_ (i := 23) (N := some 102) #[true, true, true, true, true, true, true, true, true, true, true, true, true, true, true, true, true, true, true, true, true, true, true, true, false, false] rfl rfl (one_of HT_.out (by kernel_rfl)) (by decide) (fun K hK => ?_)
                   refine goes_ Try.func27 (by kernel_rfl) rfl #[.agg #[.int .i64 t353, .slice Ao55 t354.length co55], .int .i64 (rd t328 x8_1)] (by rfl) rfl rfl (by (try simp only [List.map_toArray, List.map_cons, List.map_nil]); first | done | rfl | (simp only [List.length_drop, List.length_take]; rfl)) ?_
                   with_reducible refine (impl_TlbHolds.calls kj26 t353 _ _ t354 (rd t328 x8_1) true _ ?side1 ?side2 A47.out).mono ?_
                   (case side1 => repeat (first | exact (Kd.Q_reads' HO356.out).2.2 | (with_reducible refine Kd.C_alloc ?_ _) | (with_reducible refine Kd.C_drewN ?_ _) | (with_reducible refine Kd.C_drew ?_)))
                   (case side2 => exact (Kd.Q_reads' HO356.out).2.1)
                   rintro e w59 ⟨rfl, hb⟩
                   have HS4_ := (hb.cell (World.block_lt_of_cell? _ _ (hHeld.2.2.2.2.1))).trans (hHeld.2.2.2.2.1)
                   have HS5_ := (hb.cell (World.block_lt_of_cell? _ _ (hHeld.2.2.2.2.2))).trans (hHeld.2.2.2.2.2)
                   refine ⟨_, rfl, ?_⟩
                   have n0_ := Aside0.mk (Kd.R_below (rq HO_4.out) hb)
                   have n1_ := Aside0.mk (Kd.R_below (rq HO_5.out) hb)
                   have n2_ := Aside0.mk (Kd.R_below (rq HO_6.out) hb)
                   have n3_ := Aside0.mk (Kd.Q_below (by (with_reducible repeat (first | apply Kd.Q_alloc | apply Kd.Q_drewN | apply Kd.Q_drew)); exact HO_345001.out) hb)
                   have n4_ := Aside0.mk (Kd.Q_below (by (with_reducible repeat (first | apply Kd.Q_alloc | apply Kd.Q_drewN | apply Kd.Q_drew)); exact HO356.out) hb)
                   have n5_ := Aside0.mk (blk_below (bq BK344.out) hb)
                   have n6_ := Aside0.mk (blk_below (bq BK358.out) hb)
                   have n7_ := Aside0.mk (below_step (lq HB.out) hb)
                   clear HO_4
                   clear HO_5
                   clear HO_6
                   clear HO_345001
                   clear HO356
                   clear BK344
                   clear BK358
                   clear HB
                   have HO_4 := n0_
                   have HO_5 := n1_
                   have HO_6 := n2_
                   have HO_345001 := n3_
                   have HO356 := n4_
                   have BK344 := n5_
                   have BK358 := n6_
                   have HB := n7_
                   clear n0_ n1_ n2_ n3_ n4_ n5_ n6_ n7_
                   (try clear hb)
                   (try clear hb2)
                   (try clear hk)
                   (try clear hi)
                   refine hK.out _ _ ⟨(blk_cell BK358.out 0).trans rfl, (blk_cell BK358.out 1).trans rfl, (blk_cell BK344.out 0).trans rfl, (blk_cell BK344.out 1).trans rfl, HS4_, HS5_⟩ (fun hHeld => ?_)
                   clear hK K
                   refine norm_ (a' := ?_) ?_ ?_
                   rotate_left
                   ·show Act.put _ (some 102) _ = _
                    simp only [Act.put, List.setIfInBounds_toArray, List.set_cons_zero, List.set_cons_succ, i64_w, i32_w]
                    rfl
                   refine pure_ (i := 24) (N := some 103) (v := ?_) (a' := ?_) #[true, true, true, true, true, true, true, true, true, true, true, true, true, true, true, true, true, true, true, true, true, true, true, true, true, false] rfl rfl (any_of HT_.out (by kernel_rfl)) (fun _ _ _ h => h) (Or.inl ⟨by rfl, ?_⟩) ?_ ?_
                   rotate_left
                   ·intro w'
                    go_simp
                    with_reducible rfl
                   rotate_left
                   ·simp only [Act.put, List.setIfInBounds_toArray, List.set_cons_zero, List.set_cons_succ, i64_w, i32_w]
                    rfl
                   refine pure_ (i := 25) (N := some 104) (v := ?_) (a' := ?_) #[true, true, true, true, true, true, true, true, true, true, true, true, true, true, true, true, true, true, true, true, true, true, true, true, true, true] rfl rfl (any_of HT_.out (by kernel_rfl)) (fun _ _ _ h => h) (Or.inl ⟨by rfl, ?_⟩) ?_ ?_
                   rotate_left
                   ·intro w'
                    go_simp
                    with_reducible rfl
                   rotate_left
                   ·simp only [Act.put, List.setIfInBounds_toArray, List.set_cons_zero, List.set_cons_succ, i64_w, i32_w]
                    rfl
                   refine done_ (done_of HT_.out (by kernel_rfl)) ?_
                   have hnb60 := NB358_344.out
                   have hnc60 := NB344_358.out
                   have hcz61_0 : w59.cell? ⟨gb358, 0, none⟩ = some (.int .i64 t353) := (blk_cell BK358.out 0).trans rfl
                   have hcz61_1 : w59.cell? ⟨gb358, 1, none⟩ = some (.slice Ao55 t354.length co55) := (blk_cell BK358.out 1).trans rfl
                   have hfz61_0 := blk_frozen BK358.out 0
                   have hfz61_1 := blk_frozen BK358.out 1
                   have hcz62_0 : w59.cell? ⟨gb344, 0, none⟩ = some (.int .i64 x345000_1) := (blk_cell BK344.out 0).trans rfl
                   have hcz62_1 : w59.cell? ⟨gb344, 1, none⟩ = some (.slice Ao49 x345001_1.length co49) := (blk_cell BK344.out 1).trans rfl
                   have hfz62_0 := blk_frozen BK344.out 0
                   have hfz62_1 := blk_frozen BK344.out 1
                   try go_wp2
                   go_roundg kj26
                   case measure => have := HK1.out; have := HJ20.out; have := HJ26.out; omega
                   case rel => exact ⟨(x6_26), (wrap64 (x8_1 + 1)), (t353), (t354), (.slice Ao55 t354.length co55), (by first | rfl | (simp; done) | (simp [*]; done)), H', ⟨by have := HK1.out; have := HJ20.out; have := HJ26.out; omega⟩, ⟨by (with_reducible repeat (first | apply Kd.R_alloc | apply Kd.R_drewN | apply Kd.R_drew)); exact Kd.R_mono (Kd.R_far (p := ⟨gb344, 1, none⟩) (Kd.R_far (p := ⟨gb344, 0, none⟩) (Kd.R_types HO_4.out BK344.out (by decide)) (fun _ hk => hk.2) (.int .i64 t353)) (fun _ hk => hk.2) (.slice Ao55 t354.length co55)) (fun _ hk => ⟨hk.1.1, hk.1.2.2⟩)⟩, ⟨by (with_reducible repeat (first | apply Kd.R_alloc | apply Kd.R_drewN | apply Kd.R_drew)); exact Kd.R_mono (Kd.R_far (p := ⟨gb344, 1, none⟩) (Kd.R_far (p := ⟨gb344, 0, none⟩) (Kd.R_types HO_5.out BK344.out (by decide)) (fun _ hk => hk.2) (.int .i64 t353)) (fun _ hk => hk.2) (.slice Ao55 t354.length co55)) (fun _ hk => trivial)⟩, ⟨by (with_reducible repeat (first | apply Kd.R_alloc | apply Kd.R_drewN | apply Kd.R_drew)); exact Kd.R_mono (Kd.R_far (p := ⟨gb344, 1, none⟩) (Kd.R_far (p := ⟨gb344, 0, none⟩) (Kd.R_types HO_6.out BK344.out (by decide)) (fun _ hk => hk.2) (.int .i64 t353)) (fun _ hk => hk.2) (.slice Ao55 t354.length co55)) (fun _ hk => ⟨hk.1.1, hk.1.2.2⟩)⟩, ⟨by (with_reducible repeat (first | apply Kd.Q_alloc | apply Kd.Q_drewN | apply Kd.Q_drew)); exact Kd.Q_mono (Kd.Q_far (p := ⟨gb344, 1, none⟩) (Kd.Q_far (p := ⟨gb344, 0, none⟩) (Kd.Q_types HO356.out BK344.out (by decide)) (fun _ hk => hk.2) (.int .i64 t353)) (fun _ hk => hk.2) (.slice Ao55 t354.length co55)) (fun _ hk => ⟨hk.1.1, hk.1.2.1⟩)⟩, ⟨by (with_reducible repeat (first | refine blk_drewN ?_ _ | refine blk_drew ?_ | refine blk_alloc ?_ _)); refine blk_put (cs := #[.int .i64 t353, .slice Ao49 x345001_1.length co49]) ?_ 1 _ rfl; (with_reducible repeat (first | refine blk_drewN ?_ _ | refine blk_drew ?_ | refine blk_alloc ?_ _)); refine blk_put (cs := #[.int .i64 x345000_1, .slice Ao49 x345001_1.length co49]) ?_ 0 _ rfl; (with_reducible repeat (first | refine blk_drewN ?_ _ | refine blk_drew ?_ | refine blk_alloc ?_ _)); exact BK344.out⟩, ⟨by repeat (first | (with_reducible first | exact HB.out | apply below_alloc | apply pw_below_drewN | apply below_drew1 | refine below_set ?_ GE344.out) | exact HB.out)⟩⟩
                  ·replace c48 := Bool.eq_false_iff.mpr c48
                   subst c48
                   rw [if_neg (show ¬ (false = true) by decide)] at H
                   exact absurd H (by simp)
                 ·replace c46 := Bool.eq_false_iff.mpr c46
                  subst c46
                  rw [if_neg (show ¬ (false = true) by decide)] at H
                  exact absurd H (by simp)
                ·replace c44 := Bool.eq_false_iff.mpr c44
                 subst c44
                 rw [if_neg (show ¬ (false = true) by decide)] at H
                 replace H := Option.bind_eq_some_iff.mp H
                 obtain ⟨t364, A630, H⟩ := H
                 (try dsimp only at H)
                 have A63 := Aside0.mk A630
                 clear A630
                 by_cases c64 : t364 = true
                 ·subst c64
                  rw [if_pos rfl] at H
                  have H' := Aside0.mk H
                  clear H
                  obtain ⟨Ao65, co65, eo65, _⟩ := Kd.Q_slice HO_345001.out
                  subst eo65
                  try go_wp2
                  have n0_ := Aside0.mk (Kd.R_drew HO_4.out)
                  have n1_ := Aside0.mk (Kd.R_drew HO_5.out)
                  have n2_ := Aside0.mk (Kd.R_drew HO_6.out)
                  have n3_ := Aside0.mk (Kd.Q_drew HO_345001.out)
                  have n4_ := Aside0.mk (blk_drew BK344.out)
                  have n5_ := Aside0.mk (below_drew1 HB.out)
                  clear HO_4
                  clear HO_5
                  clear HO_6
                  clear HO_345001
                  clear BK344
                  clear HB
                  have HO_4 := n0_
                  have HO_5 := n1_
                  have HO_6 := n2_
                  have HO_345001 := n3_
                  have BK344 := n4_
                  have HB := n5_
                  clear n0_ n1_ n2_ n3_ n4_ n5_
                  have p352 : 0 ≤ (x8_1 : Int) := of_decide_eq_true (by first | (with_reducible assumption) | assumption)
                  have q352 : x8_1 < (t328.length : Int) := of_decide_eq_true (by first | (with_reducible assumption) | assumption)
                  obtain ⟨ad352, e352, hx352_0⟩ := Kd.at_int (Kd.R_reads' HO_4.out).2.2 x8_1 p352 q352
                  obtain rfl : ad345 = ad352 := (by injection e352)
                  replace p352 := eq_true p352
                  replace q352 := eq_true q352
                  refine start_ (n := 12) (S := fun w' => w'.cell? ⟨gb344, 0, none⟩ = some (.int .i64 x345000_1) ∧ w'.cell? ⟨gb344, 1, none⟩ = some (.slice Ao65 x345001_1.length co65) ∧ w'.cell? (ad345.add (x8_1).toNat) = some (.int .i64 (rd t328 x8_1))) (ds := []) #[false, false, false, false, false, false, false, false, false, false, false, false] (by kernel_rfl) rfl rfl ⟨(blk_cell BK344.out 0).trans rfl, (blk_cell BK344.out 1).trans rfl, hx352_0⟩ (fun hHeld => ?_); refine with_tabW laws_FnPages.tab19 laws_FnPages.bits19 (fun HT_ HW_ => ?_)
                  generalize wc.drew = w66 at HO_4 HO_5 HO_6 HO_345001 BK344 HB hx352_0 hHeld ⊢
                  refine pure_ (i := 1) (N := some 72) (v := ?_) (a' := ?_) #[false, true, false, false, false, false, false, false, false, false, false, false] rfl rfl (any_of HT_.out (by kernel_rfl)) (fun _ _ _ h => h) (Or.inl ⟨by rfl, ?_⟩) ?_ ?_
                  rotate_left
                  ·intro w'
                   go_simp
                   with_reducible rfl
                  rotate_left
                  ·simp only [Act.put, List.setIfInBounds_toArray, List.set_cons_zero, List.set_cons_succ, i64_w, i32_w]
                   rfl
                  refine pure_ (i := 2) (N := some 73) (v := ?_) (a' := ?_) #[false, true, true, false, false, false, false, false, false, false, false, false] rfl rfl (any_of HT_.out (by kernel_rfl)) (fun _ _ _ h => h) (Or.inl ⟨by rfl, ?_⟩) ?_ ?_
                  rotate_left
                  ·intro w'
                   go_simp
                   with_reducible rfl
                  rotate_left
                  ·simp only [Act.put, List.setIfInBounds_toArray, List.set_cons_zero, List.set_cons_succ, i64_w, i32_w]
                   rfl
                  refine pure_ (i := 3) (N := some 74) (v := ?_) (a' := ?_) #[false, true, true, true, false, false, false, false, false, false, false, false] rfl rfl (any_of HT_.out (by kernel_rfl)) (fun _ _ _ h => h) (Or.inl ⟨by rfl, ?_⟩) ?_ ?_
                  rotate_left
                  ·intro w'
                   go_simp
                   with_reducible rfl
                  rotate_left
                  ·simp only [Act.put, List.setIfInBounds_toArray, List.set_cons_zero, List.set_cons_succ, i64_w, i32_w]
                   rfl
                  refine take_ (i := 0) (N := some 71) (v := ?_) (a' := ?_) #[true, true, true, true, false, false, false, false, false, false, false, false] rfl rfl (take_ofW HT_.out HW_.out (by kernel_rfl)) (fun _ _ _ h => h) (Or.inl ⟨by rfl, ?_⟩) hHeld ?_ ?_
                  rotate_left
                  ·rintro w' ⟨s0, s1, s2⟩
                   go_simp
                   with_reducible rfl
                  rotate_left
                  ·simp only [Act.put, List.setIfInBounds_toArray, List.set_cons_zero, List.set_cons_succ, i64_w, i32_w]
                   rfl
                  refine take_ (i := 4) (N := some 75) (v := ?_) (a' := ?_) #[true, true, true, true, true, false, false, false, false, false, false, false] rfl rfl (take_ofW HT_.out HW_.out (by kernel_rfl)) (fun _ _ _ h => h) (Or.inl ⟨by rfl, ?_⟩) hHeld ?_ ?_
                  rotate_left
                  ·rintro w' ⟨s0, s1, s2⟩
                   go_simp
                   with_reducible rfl
                  rotate_left
                  ·simp only [Act.put, List.setIfInBounds_toArray, List.set_cons_zero, List.set_cons_succ, i64_w, i32_w]
                   rfl
                  refine join_ (σ := Value × Nat) 2 #[true, true, true, true, true, true, true, true, true, true, false, false] (fun s_ => [(76, .tuple #[.agg #[.int .i64 t353, s_.1], .bool false]), (10, .pointer (some ⟨s_.2, 0, none⟩)), (70, .tuple #[.agg #[.int .i64 t353, s_.1], .bool false]), (77, .agg #[.int .i64 t353, s_.1]), (78, .bool false)]) (fun s_ w' => (w'.cell? ⟨gb344, 0, none⟩ = some (.int .i64 x345000_1) ∧ w'.cell? ⟨gb344, 1, none⟩ = some (.slice Ao65 x345001_1.length co65) ∧ w'.cell? (ad345.add (x8_1).toNat) = some (.int .i64 (rd t328 x8_1))) ∧ (Kd.Q (Kd.int .i64) 3 w' w.heap.size (fun k_ => some k_ ≠ (.slice Ao65 x345001_1.length co65 : Value).ownBlock ∧ some k_ ≠ (.slice (some ad345) t328.length co10 : Value).ownBlock ∧ some k_ ≠ (u6 : Value).ownBlock) s_.1 t354) ∧ (Kd.Q (Kd.int .i64) 3 w' w.heap.size (fun k_ => some k_ ≠ (s_.1 : Value).ownBlock ∧ some k_ ≠ (.slice (some ad345) t328.length co10 : Value).ownBlock ∧ some k_ ≠ (u6 : Value).ownBlock) (.slice Ao65 x345001_1.length co65) x345001_1) ∧ (Kd.R (Kd.int .i64) 3 w' w.heap.size (fun k_ => some k_ ≠ (s_.1 : Value).ownBlock ∧ some k_ ≠ (.slice Ao65 x345001_1.length co65 : Value).ownBlock ∧ some k_ ≠ (u6 : Value).ownBlock) (.slice (some ad345) t328.length co10) t328) ∧ (Kd.R Kd.bool 4 w' w.heap.size (fun _ => True) (.slice Ao12 t331.length co12) t331) ∧ (Kd.R (Kd.int .i64) 3 w' w.heap.size (fun k_ => some k_ ≠ (s_.1 : Value).ownBlock ∧ some k_ ≠ (.slice Ao65 x345001_1.length co65 : Value).ownBlock ∧ some k_ ≠ (.slice (some ad345) t328.length co10 : Value).ownBlock) u6 x6_26) ∧ (w'.heap[gb344]? = some (.cells #[.int .i64 x345000_1, .slice Ao65 x345001_1.length co65] 40 (0, 0))) ∧ (w'.heap[s_.2]? = some (.cells #[.int .i64 0, .slice none 0 0] 40 (0, 0))) ∧ (w.heap.size ≤ s_.2) ∧ (w.heap.size ≤ s_.2) ∧ (gb344 ≠ s_.2) ∧ (s_.2 ≠ gb344) ∧ (Below w.heap.size w w')) ?_ ?_
                  rotate_left
                  ·intro hCont
                   refine two_ (i := 5) (j := 9) (Ni := some 76) (Nj := some 10) #[true, true, true, true, true, true, false, false, false, false, false, false] #[true, true, true, true, true, false, false, false, false, true, false, false] rfl rfl rfl rfl (two_of HT_.out (by kernel_rfl)) (by decide) (by decide) (fun K hK => ?_) (fun K hK => ?_)
                   ·skip
                    refine goes_ Try.func18 (by kernel_rfl) rfl #[.agg #[.int .i64 x345000_1, .slice Ao65 x345001_1.length co65], .int .i64 (rd t328 x8_1)] (by rfl) rfl rfl (by (try simp only [List.map_toArray, List.map_cons, List.map_nil]); first | done | rfl | (simp only [List.length_drop, List.length_take]; rfl)) ?_
                    with_reducible refine (impl_TlbUse.calls x345000_1 _ _ x345001_1 (rd t328 x8_1) t353 t354 false _ ?side1 ?side2 A41.out).mono ?_
                    (case side1 => repeat (first | exact (Kd.Q_reads' HO_345001.out).2.2 | (with_reducible refine Kd.C_alloc ?_ _) | (with_reducible refine Kd.C_drewN ?_ _) | (with_reducible refine Kd.C_drew ?_)))
                    (case side2 => exact (Kd.Q_reads' HO_345001.out).2.1)
                    rintro e w67 ⟨v355, rfl, ho0, hb⟩
                    have HS2_ := (hb.cell (World.block_lt_of_cell? _ _ (hHeld.2.2))).trans (hHeld.2.2)
                    refine ⟨_, rfl, ?_⟩
                    have n0_ := Aside0.mk (Kd.R_elder' (rq HO_4.out) (Kd.Q_base ho0) hb)
                    have n1_ := Aside0.mk (Kd.R_below (rq HO_5.out) hb)
                    have n2_ := Aside0.mk (Kd.R_elder' (rq HO_6.out) (Kd.Q_base ho0) hb)
                    have n3_ := Aside0.mk (Kd.Q_elder' (by (with_reducible repeat (first | apply Kd.Q_alloc | apply Kd.Q_drewN | apply Kd.Q_drew)); exact HO_345001.out) (Kd.Q_base ho0) hb)
                    have n4_ := Aside0.mk (Kd.Q_lower (Kd.Q_new' (Kd.Q_new' (Kd.Q_new' ho0 (Kd.R_lt (rq HO_4.out))) (Kd.R_lt (rq HO_6.out))) (Kd.Q_lt (by (with_reducible repeat (first | apply Kd.Q_alloc | apply Kd.Q_drewN | apply Kd.Q_drew)); exact HO_345001.out))) (below_size (lq HB.out)))
                    have n5_ := Aside0.mk (blk_below (bq BK344.out) hb)
                    have n6_ := Aside0.mk (below_step (lq HB.out) hb)
                    clear HO_4
                    clear HO_5
                    clear HO_6
                    clear HO_345001
                    clear BK344
                    clear HB
                    have HO_4 := n0_
                    have HO_5 := n1_
                    have HO_6 := n2_
                    have HO_345001 := n3_
                    have HO356 := n4_
                    have BK344 := n5_
                    have HB := n6_
                    clear n0_ n1_ n2_ n3_ n4_ n5_ n6_
                    (try clear hb)
                    (try clear hb2)
                    (try clear hk)
                    (try clear hi)
                    (try clear ho0)
                    refine hK.out _ _ ⟨(blk_cell BK344.out 0).trans rfl, (blk_cell BK344.out 1).trans rfl, HS2_⟩ (fun hHeld => ?_)
                    clear hK K
                    refine norm_ (a' := ?_) ?_ ?_
                    rotate_left
                    ·show Act.put _ (some 76) _ = _
                     simp only [Act.put, List.setIfInBounds_toArray, List.set_cons_zero, List.set_cons_succ, i64_w, i32_w]
                     rfl
                    refine pure_ (i := 6) (N := some 70) (v := ?_) (a' := ?_) #[true, true, true, true, true, true, true, false, false, false, false, false] rfl rfl (any_of HT_.out (by kernel_rfl)) (fun _ _ _ h => h) (Or.inl ⟨by rfl, ?_⟩) ?_ ?_
                    rotate_left
                    ·intro w'
                     go_simp
                     with_reducible rfl
                    rotate_left
                    ·simp only [Act.put, List.setIfInBounds_toArray, List.set_cons_zero, List.set_cons_succ, i64_w, i32_w]
                     rfl
                    refine pure_ (i := 7) (N := some 77) (v := ?_) (a' := ?_) #[true, true, true, true, true, true, true, true, false, false, false, false] rfl rfl (any_of HT_.out (by kernel_rfl)) (fun _ _ _ h => h) (Or.inl ⟨by rfl, ?_⟩) ?_ ?_
                    rotate_left
                    ·intro w'
                     go_simp
                     with_reducible rfl
                    rotate_left
                    ·simp only [Act.put, List.setIfInBounds_toArray, List.set_cons_zero, List.set_cons_succ, i64_w, i32_w]
                     rfl
                    refine pure_ (i := 8) (N := some 78) (v := ?_) (a' := ?_) #[true, true, true, true, true, true, true, true, true, false, false, false] rfl rfl (any_of HT_.out (by kernel_rfl)) (fun _ _ _ h => h) (Or.inl ⟨by rfl, ?_⟩) ?_ ?_
                    rotate_left
                    ·intro w'
                     go_simp
                     with_reducible rfl
                    rotate_left
                    ·simp only [Act.put, List.setIfInBounds_toArray, List.set_cons_zero, List.set_cons_succ, i64_w, i32_w]
                     rfl
                    refine one_ (i := 9) (N := some 10) #[true, true, true, true, true, true, true, true, true, true, false, false] rfl rfl (one_of HT_.out (by kernel_rfl)) (by decide) (fun K hK => ?_)
                    refine box_step ?hg (N := 10) ?hd (cs := #[.int .i64 0, .slice none 0 0]) (t := 40) ?hr ?_; (case hd => rfl); (case hg => rfl); (case hr => first | (go_simp; done) | (go_simp; rfl))
                    intro gb358 hg w68 hbox hb
                    have HS2_ := (hb.cell (World.block_lt_of_cell? _ _ (hHeld.2.2))).trans (hHeld.2.2)
                    have n0_ := Aside0.mk (Kd.R_below (rq HO_4.out) hb)
                    have n1_ := Aside0.mk (Kd.R_below (rq HO_5.out) hb)
                    have n2_ := Aside0.mk (Kd.R_below (rq HO_6.out) hb)
                    have n3_ := Aside0.mk (Kd.Q_below (by (with_reducible repeat (first | apply Kd.Q_alloc | apply Kd.Q_drewN | apply Kd.Q_drew)); exact HO_345001.out) hb)
                    have n4_ := Aside0.mk (Kd.Q_below (by (with_reducible repeat (first | apply Kd.Q_alloc | apply Kd.Q_drewN | apply Kd.Q_drew)); exact HO356.out) hb)
                    have n5_ := Aside0.mk (blk_below (bq BK344.out) hb)
                    have n6_ := Aside0.mk (below_step (lq HB.out) hb)
                    have n7_ := Aside0.mk (hbox)
                    have n8_ := Aside0.mk ((ge_new hg (lq HB.out) : w.heap.size ≤ gb358))
                    have n9_ := Aside0.mk ((ge_new hg (lq HB.out) : w.heap.size ≤ gb358))
                    have n10_ := Aside0.mk ((ne_new hg (bq BK344.out) : gb344 ≠ gb358))
                    have n11_ := Aside0.mk ((new_ne hg (bq BK344.out) : gb358 ≠ gb344))
                    clear HO_4
                    clear HO_5
                    clear HO_6
                    clear HO_345001
                    clear HO356
                    clear BK344
                    clear HB
                    have HO_4 := n0_
                    have HO_5 := n1_
                    have HO_6 := n2_
                    have HO_345001 := n3_
                    have HO356 := n4_
                    have BK344 := n5_
                    have HB := n6_
                    have BK358 := n7_
                    have GW358 := n8_
                    have GE358 := n9_
                    have NB344_358 := n10_
                    have NB358_344 := n11_
                    clear n0_ n1_ n2_ n3_ n4_ n5_ n6_ n7_ n8_ n9_ n10_ n11_
                    clear hb hbox hg
                    refine hK.out _ _ ⟨(blk_cell BK344.out 0).trans rfl, (blk_cell BK344.out 1).trans rfl, HS2_⟩ (fun hHeld => ?_)
                    clear hK K
                    refine norm_ (a' := ?_) ?_ ?_
                    rotate_left
                    ·show Act.put _ (some 10) _ = _
                     simp only [Act.put, List.setIfInBounds_toArray, List.set_cons_zero, List.set_cons_succ, i64_w, i32_w]
                     rfl
                    exact norm_ (by simp only [putAll, Act.put, List.setIfInBounds_toArray, List.set_cons_zero, List.set_cons_succ]) (hCont (v355, gb358) _ ⟨hHeld, (by (with_reducible repeat (first | apply Kd.Q_alloc | apply Kd.Q_drewN | apply Kd.Q_drew)); exact Kd.Q_mono HO356.out (fun _ hk => ⟨hk.2, ⟨hk.1.1.2, hk.1.2⟩⟩)), (by (with_reducible repeat (first | apply Kd.Q_alloc | apply Kd.Q_drewN | apply Kd.Q_drew)); exact Kd.Q_mono HO_345001.out (fun _ hk => ⟨hk.2, ⟨hk.1.1, hk.1.2⟩⟩)), (by (with_reducible repeat (first | apply Kd.R_alloc | apply Kd.R_drewN | apply Kd.R_drew)); exact Kd.R_mono HO_4.out (fun _ hk => ⟨hk.2, ⟨hk.1.2, hk.1.1⟩⟩)), (rq HO_5.out), (by (with_reducible repeat (first | apply Kd.R_alloc | apply Kd.R_drewN | apply Kd.R_drew)); exact Kd.R_mono HO_6.out (fun _ hk => ⟨hk.2, ⟨hk.1.2, hk.1.1⟩⟩)), (bq BK344.out), (bq BK358.out), GW358.out, GE358.out, NB344_358.out, NB358_344.out, (lq HB.out)⟩)
                   ·skip
                    refine box_step ?hg (N := 10) ?hd (cs := #[.int .i64 0, .slice none 0 0]) (t := 40) ?hr ?_; (case hd => rfl); (case hg => rfl); (case hr => first | (go_simp; done) | (go_simp; rfl))
                    intro gb358 hg w67 hbox hb
                    have HS2_ := (hb.cell (World.block_lt_of_cell? _ _ (hHeld.2.2))).trans (hHeld.2.2)
                    have n0_ := Aside0.mk (Kd.R_below (rq HO_4.out) hb)
                    have n1_ := Aside0.mk (Kd.R_below (rq HO_5.out) hb)
                    have n2_ := Aside0.mk (Kd.R_below (rq HO_6.out) hb)
                    have n3_ := Aside0.mk (Kd.Q_below (by (with_reducible repeat (first | apply Kd.Q_alloc | apply Kd.Q_drewN | apply Kd.Q_drew)); exact HO_345001.out) hb)
                    have n4_ := Aside0.mk (blk_below (bq BK344.out) hb)
                    have n5_ := Aside0.mk (below_step (lq HB.out) hb)
                    have n6_ := Aside0.mk (hbox)
                    have n7_ := Aside0.mk ((ge_new hg (lq HB.out) : w.heap.size ≤ gb358))
                    have n8_ := Aside0.mk ((ge_new hg (lq HB.out) : w.heap.size ≤ gb358))
                    have n9_ := Aside0.mk ((ne_new hg (bq BK344.out) : gb344 ≠ gb358))
                    have n10_ := Aside0.mk ((new_ne hg (bq BK344.out) : gb358 ≠ gb344))
                    clear HO_4
                    clear HO_5
                    clear HO_6
                    clear HO_345001
                    clear BK344
                    clear HB
                    have HO_4 := n0_
                    have HO_5 := n1_
                    have HO_6 := n2_
                    have HO_345001 := n3_
                    have BK344 := n4_
                    have HB := n5_
                    have BK358 := n6_
                    have GW358 := n7_
                    have GE358 := n8_
                    have NB344_358 := n9_
                    have NB358_344 := n10_
                    clear n0_ n1_ n2_ n3_ n4_ n5_ n6_ n7_ n8_ n9_ n10_
                    clear hb hbox hg
                    refine hK.out _ _ ⟨(blk_cell BK344.out 0).trans rfl, (blk_cell BK344.out 1).trans rfl, HS2_⟩ (fun hHeld => ?_)
                    clear hK K
                    refine norm_ (a' := ?_) ?_ ?_
                    rotate_left
                    ·show Act.put _ (some 10) _ = _
                     simp only [Act.put, List.setIfInBounds_toArray, List.set_cons_zero, List.set_cons_succ, i64_w, i32_w]
                     rfl
                    refine one_ (i := 5) (N := some 76) #[true, true, true, true, true, true, false, false, false, true, false, false] rfl rfl (one_of HT_.out (by kernel_rfl)) (by decide) (fun K hK => ?_)
                    refine goes_ Try.func18 (by kernel_rfl) rfl #[.agg #[.int .i64 x345000_1, .slice Ao65 x345001_1.length co65], .int .i64 (rd t328 x8_1)] (by rfl) rfl rfl (by (try simp only [List.map_toArray, List.map_cons, List.map_nil]); first | done | rfl | (simp only [List.length_drop, List.length_take]; rfl)) ?_
                    with_reducible refine (impl_TlbUse.calls x345000_1 _ _ x345001_1 (rd t328 x8_1) t353 t354 false _ ?side1 ?side2 A41.out).mono ?_
                    (case side1 => repeat (first | exact (Kd.Q_reads' HO_345001.out).2.2 | (with_reducible refine Kd.C_alloc ?_ _) | (with_reducible refine Kd.C_drewN ?_ _) | (with_reducible refine Kd.C_drew ?_)))
                    (case side2 => exact (Kd.Q_reads' HO_345001.out).2.1)
                    rintro e w68 ⟨v355, rfl, ho0, hb⟩
                    have HS2_ := (hb.cell (World.block_lt_of_cell? _ _ (hHeld.2.2))).trans (hHeld.2.2)
                    refine ⟨_, rfl, ?_⟩
                    have n0_ := Aside0.mk (Kd.R_elder' (rq HO_4.out) (Kd.Q_base ho0) hb)
                    have n1_ := Aside0.mk (Kd.R_below (rq HO_5.out) hb)
                    have n2_ := Aside0.mk (Kd.R_elder' (rq HO_6.out) (Kd.Q_base ho0) hb)
                    have n3_ := Aside0.mk (Kd.Q_elder' (by (with_reducible repeat (first | apply Kd.Q_alloc | apply Kd.Q_drewN | apply Kd.Q_drew)); exact HO_345001.out) (Kd.Q_base ho0) hb)
                    have n4_ := Aside0.mk (Kd.Q_lower (Kd.Q_new' (Kd.Q_new' (Kd.Q_new' ho0 (Kd.R_lt (rq HO_4.out))) (Kd.R_lt (rq HO_6.out))) (Kd.Q_lt (by (with_reducible repeat (first | apply Kd.Q_alloc | apply Kd.Q_drewN | apply Kd.Q_drew)); exact HO_345001.out))) (below_size (lq HB.out)))
                    have n5_ := Aside0.mk (blk_below (bq BK344.out) hb)
                    have n6_ := Aside0.mk (blk_below (bq BK358.out) hb)
                    have n7_ := Aside0.mk (below_step (lq HB.out) hb)
                    clear HO_4
                    clear HO_5
                    clear HO_6
                    clear HO_345001
                    clear BK344
                    clear BK358
                    clear HB
                    have HO_4 := n0_
                    have HO_5 := n1_
                    have HO_6 := n2_
                    have HO_345001 := n3_
                    have HO356 := n4_
                    have BK344 := n5_
                    have BK358 := n6_
                    have HB := n7_
                    clear n0_ n1_ n2_ n3_ n4_ n5_ n6_ n7_
                    (try clear hb)
                    (try clear hb2)
                    (try clear hk)
                    (try clear hi)
                    (try clear ho0)
                    refine hK.out _ _ ⟨(blk_cell BK344.out 0).trans rfl, (blk_cell BK344.out 1).trans rfl, HS2_⟩ (fun hHeld => ?_)
                    clear hK K
                    refine norm_ (a' := ?_) ?_ ?_
                    rotate_left
                    ·show Act.put _ (some 76) _ = _
                     simp only [Act.put, List.setIfInBounds_toArray, List.set_cons_zero, List.set_cons_succ, i64_w, i32_w]
                     rfl
                    refine pure_ (i := 6) (N := some 70) (v := ?_) (a' := ?_) #[true, true, true, true, true, true, true, false, false, true, false, false] rfl rfl (any_of HT_.out (by kernel_rfl)) (fun _ _ _ h => h) (Or.inl ⟨by rfl, ?_⟩) ?_ ?_
                    rotate_left
                    ·intro w'
                     go_simp
                     with_reducible rfl
                    rotate_left
                    ·simp only [Act.put, List.setIfInBounds_toArray, List.set_cons_zero, List.set_cons_succ, i64_w, i32_w]
                     rfl
                    refine pure_ (i := 7) (N := some 77) (v := ?_) (a' := ?_) #[true, true, true, true, true, true, true, true, false, true, false, false] rfl rfl (any_of HT_.out (by kernel_rfl)) (fun _ _ _ h => h) (Or.inl ⟨by rfl, ?_⟩) ?_ ?_
                    rotate_left
                    ·intro w'
                     go_simp
                     with_reducible rfl
                    rotate_left
                    ·simp only [Act.put, List.setIfInBounds_toArray, List.set_cons_zero, List.set_cons_succ, i64_w, i32_w]
                     rfl
                    refine pure_ (i := 8) (N := some 78) (v := ?_) (a' := ?_) #[true, true, true, true, true, true, true, true, true, true, false, false] rfl rfl (any_of HT_.out (by kernel_rfl)) (fun _ _ _ h => h) (Or.inl ⟨by rfl, ?_⟩) ?_ ?_
                    rotate_left
                    ·intro w'
                     go_simp
                     with_reducible rfl
                    rotate_left
                    ·simp only [Act.put, List.setIfInBounds_toArray, List.set_cons_zero, List.set_cons_succ, i64_w, i32_w]
                     rfl
                    exact norm_ (by simp only [putAll, Act.put, List.setIfInBounds_toArray, List.set_cons_zero, List.set_cons_succ]) (hCont (v355, gb358) _ ⟨hHeld, (by (with_reducible repeat (first | apply Kd.Q_alloc | apply Kd.Q_drewN | apply Kd.Q_drew)); exact Kd.Q_mono HO356.out (fun _ hk => ⟨hk.2, ⟨hk.1.1.2, hk.1.2⟩⟩)), (by (with_reducible repeat (first | apply Kd.Q_alloc | apply Kd.Q_drewN | apply Kd.Q_drew)); exact Kd.Q_mono HO_345001.out (fun _ hk => ⟨hk.2, ⟨hk.1.1, hk.1.2⟩⟩)), (by (with_reducible repeat (first | apply Kd.R_alloc | apply Kd.R_drewN | apply Kd.R_drew)); exact Kd.R_mono HO_4.out (fun _ hk => ⟨hk.2, ⟨hk.1.2, hk.1.1⟩⟩)), (rq HO_5.out), (by (with_reducible repeat (first | apply Kd.R_alloc | apply Kd.R_drewN | apply Kd.R_drew)); exact Kd.R_mono HO_6.out (fun _ hk => ⟨hk.2, ⟨hk.1.2, hk.1.1⟩⟩)), (bq BK344.out), (bq BK358.out), GW358.out, GE358.out, NB344_358.out, NB358_344.out, (lq HB.out)⟩)
                  rintro ⟨v355, gb358⟩ w69 ⟨hS_, h0_, h1_, h2_, h3_, h4_, h5_, h6_, h7_, h8_, h9_, h10_, h11_⟩
                  have n0_ : Aside0 (Kd.Q (Kd.int .i64) 3 w69 w.heap.size (fun k_ => some k_ ≠ (.slice Ao65 x345001_1.length co65 : Value).ownBlock ∧ some k_ ≠ (.slice (some ad345) t328.length co10 : Value).ownBlock ∧ some k_ ≠ (u6 : Value).ownBlock) v355 t354) := ⟨h0_⟩
                  have n1_ : Aside0 (Kd.Q (Kd.int .i64) 3 w69 w.heap.size (fun k_ => some k_ ≠ (v355 : Value).ownBlock ∧ some k_ ≠ (.slice (some ad345) t328.length co10 : Value).ownBlock ∧ some k_ ≠ (u6 : Value).ownBlock) (.slice Ao65 x345001_1.length co65) x345001_1) := ⟨h1_⟩
                  have n2_ : Aside0 (Kd.R (Kd.int .i64) 3 w69 w.heap.size (fun k_ => some k_ ≠ (v355 : Value).ownBlock ∧ some k_ ≠ (.slice Ao65 x345001_1.length co65 : Value).ownBlock ∧ some k_ ≠ (u6 : Value).ownBlock) (.slice (some ad345) t328.length co10) t328) := ⟨h2_⟩
                  have n3_ : Aside0 (Kd.R Kd.bool 4 w69 w.heap.size (fun _ => True) (.slice Ao12 t331.length co12) t331) := ⟨h3_⟩
                  have n4_ : Aside0 (Kd.R (Kd.int .i64) 3 w69 w.heap.size (fun k_ => some k_ ≠ (v355 : Value).ownBlock ∧ some k_ ≠ (.slice Ao65 x345001_1.length co65 : Value).ownBlock ∧ some k_ ≠ (.slice (some ad345) t328.length co10 : Value).ownBlock) u6 x6_26) := ⟨h4_⟩
                  have n5_ : Aside0 (w69.heap[gb344]? = some (.cells #[.int .i64 x345000_1, .slice Ao65 x345001_1.length co65] 40 (0, 0))) := ⟨h5_⟩
                  have n6_ : Aside0 (w69.heap[gb358]? = some (.cells #[.int .i64 0, .slice none 0 0] 40 (0, 0))) := ⟨h6_⟩
                  have n7_ : Aside0 (w.heap.size ≤ gb358) := ⟨h7_⟩
                  have n8_ : Aside0 (w.heap.size ≤ gb358) := ⟨h8_⟩
                  have n9_ : Aside0 (gb344 ≠ gb358) := ⟨h9_⟩
                  have n10_ : Aside0 (gb358 ≠ gb344) := ⟨h10_⟩
                  have n11_ : Aside0 (Below w.heap.size w w69) := ⟨h11_⟩
                  clear HO_4
                  clear HO_5
                  clear HO_6
                  clear HO_345001
                  clear BK344
                  clear HB
                  clear h0_ h1_ h2_ h3_ h4_ h5_ h6_ h7_ h8_ h9_ h10_ h11_
                  have HO356 := n0_
                  have HO_345001 := n1_
                  have HO_4 := n2_
                  have HO_5 := n3_
                  have HO_6 := n4_
                  have BK344 := n5_
                  have BK358 := n6_
                  have GW358 := n7_
                  have GE358 := n8_
                  have NB344_358 := n9_
                  have NB358_344 := n10_
                  have HB := n11_
                  clear n0_ n1_ n2_ n3_ n4_ n5_ n6_ n7_ n8_ n9_ n10_ n11_
                  have hHeld : w69.cell? ⟨gb344, 0, none⟩ = some (.int .i64 x345000_1) ∧ w69.cell? ⟨gb344, 1, none⟩ = some (.slice Ao65 x345001_1.length co65) ∧ w69.cell? (ad345.add (x8_1).toNat) = some (.int .i64 (rd t328 x8_1)) := hS_
                  obtain ⟨Ao71, co71, eo71, _⟩ := Kd.Q_slice HO356.out
                  (first | subst eo71 | (injection eo71 with f1_ f2_ f3_; have f4_ := f1_.symm; have f5_ := f3_.symm; clear f1_ f2_ f3_; subst f4_; subst f5_))
                  refine norm_ (a' := ?_) ?_ ?_
                  rotate_left
                  ·simp only [putAll, Act.put, List.setIfInBounds_toArray, List.set_cons_zero, List.set_cons_succ]
                   rfl
                  refine one_ (i := 10) (N := none) #[true, true, true, true, true, true, true, true, true, true, true, false] rfl rfl (one_of HT_.out (by kernel_rfl)) (by decide) (fun K hK => ?_)
                  have hs70 : w69.cell? ⟨gb358, 0, none⟩ = some (.int .i64 0) := (blk_cell BK358.out 0).trans rfl
                  have hfs70 := blk_frozen BK358.out 0
                  have hns70_0 := NB344_358.out
                  have hms70_0 := NB358_344.out
                  have hs72 : w69.cell? ⟨gb358, 1, none⟩ = some (.slice none 0 0) := (blk_cell BK358.out 1).trans rfl
                  have hfs72 := blk_frozen BK358.out 1
                  have hns72_0 := NB344_358.out
                  have hms72_0 := NB358_344.out
                  refine skip_ (w1 := ?_) (by rfl) rfl ?_ ?_
                  rotate_left
                  ·go_simp
                   rfl
                  refine hK.out _ _ ⟨((cell_far (p := ⟨gb358, _, none⟩) NB344_358.out _).trans (((cell_far (p := ⟨gb358, _, none⟩) NB344_358.out _).trans (hHeld.1)))), ((cell_far (p := ⟨gb358, _, none⟩) NB344_358.out _).trans (((cell_far (p := ⟨gb358, _, none⟩) NB344_358.out _).trans (hHeld.2.1)))), ((cell_far (p := ⟨gb358, _, none⟩) (by first | exact Kd.own_blk (Kd.R_ne HO_4.out BK358.out (by decide)) | (rw [add_block]; exact Kd.own_blk (Kd.R_ne HO_4.out BK358.out (by decide))) | (show (Addr.add _ _).block ≠ _; rw [add_block]; exact Kd.own_blk (Kd.R_ne HO_4.out BK358.out (by decide))) | (dsimp only; exact Kd.own_blk (Kd.R_ne HO_4.out BK358.out (by decide)))) _).trans (((cell_far (p := ⟨gb358, _, none⟩) (by first | exact Kd.own_blk (Kd.R_ne HO_4.out BK358.out (by decide)) | (rw [add_block]; exact Kd.own_blk (Kd.R_ne HO_4.out BK358.out (by decide))) | (show (Addr.add _ _).block ≠ _; rw [add_block]; exact Kd.own_blk (Kd.R_ne HO_4.out BK358.out (by decide))) | (dsimp only; exact Kd.own_blk (Kd.R_ne HO_4.out BK358.out (by decide)))) _).trans (hHeld.2.2))))⟩ (fun hHeld => ?_)
                  clear hK K
                  refine pure_ (i := 11) (N := some 11) (v := ?_) (a' := ?_) #[true, true, true, true, true, true, true, true, true, true, true, true] rfl rfl (any_of HT_.out (by kernel_rfl)) (fun _ _ _ h => h) (Or.inl ⟨by rfl, ?_⟩) ?_ ?_
                  rotate_left
                  ·intro w'
                   go_simp
                   with_reducible rfl
                  rotate_left
                  ·simp only [Act.put, List.setIfInBounds_toArray, List.set_cons_zero, List.set_cons_succ, i64_w, i32_w]
                   rfl
                  refine done_ (done_of HT_.out (by kernel_rfl)) ?_
                  try go_wp2
                  have n0_ : Aside0 (Kd.R (Kd.int .i64) 3 ((w69.setCell ⟨gb358, 0, none⟩ (.int .i64 t353)).setCell ⟨gb358, 1, none⟩ (.slice Ao71 t354.length co71)) w.heap.size (fun k_ => some k_ ≠ (u6 : Value).ownBlock ∧ some k_ ≠ (.slice Ao65 x345001_1.length co65 : Value).ownBlock ∧ some k_ ≠ (.slice Ao71 t354.length co71 : Value).ownBlock) (.slice (some ad345) t328.length co10) t328) := ⟨by (with_reducible repeat (first | apply Kd.R_alloc | apply Kd.R_drewN | apply Kd.R_drew)); exact Kd.R_mono (Kd.R_far (p := ⟨gb358, 1, none⟩) (Kd.R_far (p := ⟨gb358, 0, none⟩) (Kd.R_types HO_4.out BK358.out (by decide)) (fun _ hk => hk.2) (.int .i64 t353)) (fun _ hk => hk.2) (.slice Ao71 t354.length co71)) (fun _ hk => ⟨hk.1.2.2, ⟨hk.1.2.1, hk.1.1⟩⟩)⟩
                  have n1_ : Aside0 (Kd.R Kd.bool 4 ((w69.setCell ⟨gb358, 0, none⟩ (.int .i64 t353)).setCell ⟨gb358, 1, none⟩ (.slice Ao71 t354.length co71)) w.heap.size (fun _ => True) (.slice Ao12 t331.length co12) t331) := ⟨by (with_reducible repeat (first | apply Kd.R_alloc | apply Kd.R_drewN | apply Kd.R_drew)); exact Kd.R_mono (Kd.R_far (p := ⟨gb358, 1, none⟩) (Kd.R_far (p := ⟨gb358, 0, none⟩) (Kd.R_types HO_5.out BK358.out (by decide)) (fun _ hk => hk.2) (.int .i64 t353)) (fun _ hk => hk.2) (.slice Ao71 t354.length co71)) (fun _ hk => trivial)⟩
                  have n2_ : Aside0 (Kd.R (Kd.int .i64) 3 ((w69.setCell ⟨gb358, 0, none⟩ (.int .i64 t353)).setCell ⟨gb358, 1, none⟩ (.slice Ao71 t354.length co71)) w.heap.size (fun k_ => some k_ ≠ (.slice (some ad345) t328.length co10 : Value).ownBlock ∧ some k_ ≠ (.slice Ao65 x345001_1.length co65 : Value).ownBlock ∧ some k_ ≠ (.slice Ao71 t354.length co71 : Value).ownBlock) u6 x6_26) := ⟨by (with_reducible repeat (first | apply Kd.R_alloc | apply Kd.R_drewN | apply Kd.R_drew)); exact Kd.R_mono (Kd.R_far (p := ⟨gb358, 1, none⟩) (Kd.R_far (p := ⟨gb358, 0, none⟩) (Kd.R_types HO_6.out BK358.out (by decide)) (fun _ hk => hk.2) (.int .i64 t353)) (fun _ hk => hk.2) (.slice Ao71 t354.length co71)) (fun _ hk => ⟨hk.1.2.2, ⟨hk.1.2.1, hk.1.1⟩⟩)⟩
                  have n3_ : Aside0 (Kd.Q (Kd.int .i64) 3 ((w69.setCell ⟨gb358, 0, none⟩ (.int .i64 t353)).setCell ⟨gb358, 1, none⟩ (.slice Ao71 t354.length co71)) w.heap.size (fun k_ => some k_ ≠ (.slice (some ad345) t328.length co10 : Value).ownBlock ∧ some k_ ≠ (u6 : Value).ownBlock ∧ some k_ ≠ (.slice Ao71 t354.length co71 : Value).ownBlock) (.slice Ao65 x345001_1.length co65) x345001_1) := ⟨by (with_reducible repeat (first | apply Kd.Q_alloc | apply Kd.Q_drewN | apply Kd.Q_drew)); exact Kd.Q_mono (Kd.Q_far (p := ⟨gb358, 1, none⟩) (Kd.Q_far (p := ⟨gb358, 0, none⟩) (Kd.Q_types HO_345001.out BK358.out (by decide)) (fun _ hk => hk.2) (.int .i64 t353)) (fun _ hk => hk.2) (.slice Ao71 t354.length co71)) (fun _ hk => ⟨hk.1.2.1, ⟨hk.1.2.2, hk.1.1⟩⟩)⟩
                  have n4_ : Aside0 (Kd.Q (Kd.int .i64) 3 ((w69.setCell ⟨gb358, 0, none⟩ (.int .i64 t353)).setCell ⟨gb358, 1, none⟩ (.slice Ao71 t354.length co71)) w.heap.size (fun k_ => some k_ ≠ (.slice (some ad345) t328.length co10 : Value).ownBlock ∧ some k_ ≠ (u6 : Value).ownBlock ∧ some k_ ≠ (.slice Ao65 x345001_1.length co65 : Value).ownBlock) (.slice Ao71 t354.length co71) t354) := ⟨by (with_reducible repeat (first | apply Kd.Q_alloc | apply Kd.Q_drewN | apply Kd.Q_drew)); exact Kd.Q_mono (Kd.Q_far (p := ⟨gb358, 1, none⟩) (Kd.Q_far (p := ⟨gb358, 0, none⟩) (Kd.Q_types HO356.out BK358.out (by decide)) (fun _ hk => hk.2) (.int .i64 t353)) (fun _ hk => hk.2) (.slice Ao71 t354.length co71)) (fun _ hk => ⟨hk.1.2.1, ⟨hk.1.2.2, hk.1.1⟩⟩)⟩
                  have n5_ : Aside0 (((w69.setCell ⟨gb358, 0, none⟩ (.int .i64 t353)).setCell ⟨gb358, 1, none⟩ (.slice Ao71 t354.length co71)).heap[gb344]? = some (.cells #[.int .i64 x345000_1, .slice Ao65 x345001_1.length co65] 40 (0, 0))) := ⟨by (with_reducible repeat (first | refine blk_drewN ?_ _ | refine blk_drew ?_ | refine blk_alloc ?_ _)); refine blk_far ?_ NB344_358.out _; (with_reducible repeat (first | refine blk_drewN ?_ _ | refine blk_drew ?_ | refine blk_alloc ?_ _)); refine blk_far ?_ NB344_358.out _; (with_reducible repeat (first | refine blk_drewN ?_ _ | refine blk_drew ?_ | refine blk_alloc ?_ _)); exact BK344.out⟩
                  have n6_ : Aside0 (((w69.setCell ⟨gb358, 0, none⟩ (.int .i64 t353)).setCell ⟨gb358, 1, none⟩ (.slice Ao71 t354.length co71)).heap[gb358]? = some (.cells #[.int .i64 t353, .slice Ao71 t354.length co71] 40 (0, 0))) := ⟨by (with_reducible repeat (first | refine blk_drewN ?_ _ | refine blk_drew ?_ | refine blk_alloc ?_ _)); refine blk_put (cs := #[.int .i64 t353, .slice none 0 0]) ?_ 1 _ rfl; (with_reducible repeat (first | refine blk_drewN ?_ _ | refine blk_drew ?_ | refine blk_alloc ?_ _)); refine blk_put (cs := #[.int .i64 0, .slice none 0 0]) ?_ 0 _ rfl; (with_reducible repeat (first | refine blk_drewN ?_ _ | refine blk_drew ?_ | refine blk_alloc ?_ _)); exact BK358.out⟩
                  have n7_ : Aside0 (Below w.heap.size w ((w69.setCell ⟨gb358, 0, none⟩ (.int .i64 t353)).setCell ⟨gb358, 1, none⟩ (.slice Ao71 t354.length co71))) := ⟨by repeat (first | (with_reducible first | exact HB.out | apply below_alloc | apply pw_below_drewN | apply below_drew1 | refine below_set ?_ GE358.out) | exact HB.out)⟩
                  (try clear HO_4)
                  (try clear HO_5)
                  (try clear HO_6)
                  (try clear HO_345001)
                  (try clear HO356)
                  (try clear BK344)
                  (try clear BK358)
                  (try clear HB)
                  generalize ((w69.setCell ⟨gb358, 0, none⟩ (.int .i64 t353)).setCell ⟨gb358, 1, none⟩ (.slice Ao71 t354.length co71)) = w73 at n0_ n1_ n2_ n3_ n4_ n5_ n6_ n7_ ⊢
                  have HO_4 := n0_
                  have HO_5 := n1_
                  have HO_6 := n2_
                  have HO_345001 := n3_
                  have HO356 := n4_
                  have BK344 := n5_
                  have BK358 := n6_
                  have HB := n7_
                  clear n0_ n1_ n2_ n3_ n4_ n5_ n6_ n7_
                  have n0_ := Aside0.mk (Kd.R_drew HO_4.out)
                  have n1_ := Aside0.mk (Kd.R_drew HO_5.out)
                  have n2_ := Aside0.mk (Kd.R_drew HO_6.out)
                  have n3_ := Aside0.mk (Kd.Q_drew HO_345001.out)
                  have n4_ := Aside0.mk (Kd.Q_drew HO356.out)
                  have n5_ := Aside0.mk (blk_drew BK344.out)
                  have n6_ := Aside0.mk (blk_drew BK358.out)
                  have n7_ := Aside0.mk (below_drew1 HB.out)
                  clear HO_4
                  clear HO_5
                  clear HO_6
                  clear HO_345001
                  clear HO356
                  clear BK344
                  clear BK358
                  clear HB
                  have HO_4 := n0_
                  have HO_5 := n1_
                  have HO_6 := n2_
                  have HO_345001 := n3_
                  have HO356 := n4_
                  have BK344 := n5_
                  have BK358 := n6_
                  have HB := n7_
                  clear n0_ n1_ n2_ n3_ n4_ n5_ n6_ n7_
                  have p359 : 0 ≤ (x8_1 : Int) := of_decide_eq_true (by first | (with_reducible assumption) | assumption)
                  have q359 : x8_1 < (t331.length : Int) := of_decide_eq_true (by first | (with_reducible assumption) | assumption)
                  obtain ⟨ad359, e359, hx359_0⟩ := Kd.at_bool (Kd.R_reads' HO_5.out).2.2 x8_1 p359 q359
                  cases e359
                  replace p359 := eq_true p359
                  replace q359 := eq_true q359
                  have p363 : 0 ≤ (x8_1 : Int) := of_decide_eq_true (by first | (with_reducible assumption) | assumption)
                  have q363 : x8_1 < (t328.length : Int) := of_decide_eq_true (by first | (with_reducible assumption) | assumption)
                  obtain ⟨ad363, e363, hx363_0⟩ := Kd.at_int (Kd.R_reads' HO_4.out).2.2 x8_1 p363 q363
                  obtain rfl : ad345 = ad363 := (by injection e363)
                  replace p363 := eq_true p363
                  replace q363 := eq_true q363
                  refine start_ (n := 26) (S := fun w' => w'.cell? ⟨gb358, 0, none⟩ = some (.int .i64 t353) ∧ w'.cell? ⟨gb358, 1, none⟩ = some (.slice Ao71 t354.length co71) ∧ w'.cell? (ad359.add (x8_1).toNat) = some (.bool (rdOf false t331 x8_1)) ∧ w'.cell? (ad345.add (x8_1).toNat) = some (.int .i64 (rd t328 x8_1))) (ds := []) #[false, false, false, false, false, false, false, false, false, false, false, false, false, false, false, false, false, false, false, false, false, false, false, false, false, false] (by kernel_rfl) rfl rfl ⟨(blk_cell BK358.out 0).trans rfl, (blk_cell BK358.out 1).trans rfl, hx359_0, hx363_0⟩ (fun hHeld => ?_); refine with_tabW laws_FnPages.tab20 laws_FnPages.bits20 (fun HT_ HW_ => ?_)
                  generalize w73.drew = w74 at HO_4 HO_5 HO_6 HO_345001 HO356 BK344 BK358 HB hx359_0 hx363_0 hHeld ⊢
                  refine pure_ (i := 0) (N := some 79) (v := ?_) (a' := ?_) #[true, false, false, false, false, false, false, false, false, false, false, false, false, false, false, false, false, false, false, false, false, false, false, false, false, false] rfl rfl (any_of HT_.out (by kernel_rfl)) (fun _ _ _ h => h) (Or.inl ⟨by rfl, ?_⟩) ?_ ?_
                  rotate_left
                  ·intro w'
                   go_simp
                   with_reducible rfl
                  rotate_left
                  ·simp only [Act.put, List.setIfInBounds_toArray, List.set_cons_zero, List.set_cons_succ, i64_w, i32_w]
                   rfl
                  refine pure_ (i := 1) (N := some 80) (v := ?_) (a' := ?_) #[true, true, false, false, false, false, false, false, false, false, false, false, false, false, false, false, false, false, false, false, false, false, false, false, false, false] rfl rfl (any_of HT_.out (by kernel_rfl)) (fun _ _ _ h => h) (Or.inl ⟨by rfl, ?_⟩) ?_ ?_
                  rotate_left
                  ·intro w'
                   go_simp
                   with_reducible rfl
                  rotate_left
                  ·simp only [Act.put, List.setIfInBounds_toArray, List.set_cons_zero, List.set_cons_succ, i64_w, i32_w]
                   rfl
                  refine pure_ (i := 2) (N := some 81) (v := ?_) (a' := ?_) #[true, true, true, false, false, false, false, false, false, false, false, false, false, false, false, false, false, false, false, false, false, false, false, false, false, false] rfl rfl (any_of HT_.out (by kernel_rfl)) (fun _ _ _ h => h) (Or.inl ⟨by rfl, ?_⟩) ?_ ?_
                  rotate_left
                  ·intro w'
                   go_simp
                   with_reducible rfl
                  rotate_left
                  ·simp only [Act.put, List.setIfInBounds_toArray, List.set_cons_zero, List.set_cons_succ, i64_w, i32_w]
                   rfl
                  refine pure_ (i := 3) (N := some 82) (v := ?_) (a' := ?_) #[true, true, true, true, false, false, false, false, false, false, false, false, false, false, false, false, false, false, false, false, false, false, false, false, false, false] rfl rfl (any_of HT_.out (by kernel_rfl)) (fun _ _ _ h => h) (Or.inl ⟨by rfl, ?_⟩) ?_ ?_
                  rotate_left
                  ·intro w'
                   go_simp
                   with_reducible rfl
                  rotate_left
                  ·simp only [Act.put, List.setIfInBounds_toArray, List.set_cons_zero, List.set_cons_succ, i64_w, i32_w]
                   rfl
                  refine take_ (i := 4) (N := some 83) (v := ?_) (a' := ?_) #[true, true, true, true, true, false, false, false, false, false, false, false, false, false, false, false, false, false, false, false, false, false, false, false, false, false] rfl rfl (take_ofW HT_.out HW_.out (by kernel_rfl)) (fun _ _ _ h => h) (Or.inl ⟨by rfl, ?_⟩) hHeld ?_ ?_
                  rotate_left
                  ·rintro w' ⟨s0, s1, s2, s3⟩
                   go_simp
                   with_reducible rfl
                  rotate_left
                  ·simp only [Act.put, List.setIfInBounds_toArray, List.set_cons_zero, List.set_cons_succ, i64_w, i32_w]
                   rfl
                  refine pure_ (i := 5) (N := some 84) (v := ?_) (a' := ?_) #[true, true, true, true, true, true, false, false, false, false, false, false, false, false, false, false, false, false, false, false, false, false, false, false, false, false] rfl rfl (any_of HT_.out (by kernel_rfl)) (fun _ _ _ h => h) (Or.inl ⟨by rfl, ?_⟩) ?_ ?_
                  rotate_left
                  ·intro w'
                   go_simp
                   with_reducible rfl
                  rotate_left
                  ·simp only [Act.put, List.setIfInBounds_toArray, List.set_cons_zero, List.set_cons_succ, i64_w, i32_w]
                   rfl
                  refine pure_ (i := 6) (N := some 85) (v := ?_) (a' := ?_) #[true, true, true, true, true, true, true, false, false, false, false, false, false, false, false, false, false, false, false, false, false, false, false, false, false, false] rfl rfl (any_of HT_.out (by kernel_rfl)) (fun _ _ _ h => h) (Or.inl ⟨by rfl, ?_⟩) ?_ ?_
                  rotate_left
                  ·intro w'
                   go_simp
                   with_reducible rfl
                  rotate_left
                  ·simp only [Act.put, List.setIfInBounds_toArray, List.set_cons_zero, List.set_cons_succ, i64_w, i32_w]
                   rfl
                  refine pure_ (i := 7) (N := some 86) (v := ?_) (a' := ?_) #[true, true, true, true, true, true, true, true, false, false, false, false, false, false, false, false, false, false, false, false, false, false, false, false, false, false] rfl rfl (any_of HT_.out (by kernel_rfl)) (fun _ _ _ h => h) (Or.inl ⟨by rfl, ?_⟩) ?_ ?_
                  rotate_left
                  ·intro w'
                   go_simp
                   with_reducible rfl
                  rotate_left
                  ·simp only [Act.put, List.setIfInBounds_toArray, List.set_cons_zero, List.set_cons_succ, i64_w, i32_w]
                   rfl
                  refine pure_ (i := 8) (N := some 87) (v := ?_) (a' := ?_) #[true, true, true, true, true, true, true, true, true, false, false, false, false, false, false, false, false, false, false, false, false, false, false, false, false, false] rfl rfl (any_of HT_.out (by kernel_rfl)) (fun _ _ _ h => h) (Or.inl ⟨by rfl, ?_⟩) ?_ ?_
                  rotate_left
                  ·intro w'
                   go_simp
                   with_reducible rfl
                  rotate_left
                  ·simp only [Act.put, List.setIfInBounds_toArray, List.set_cons_zero, List.set_cons_succ, i64_w, i32_w]
                   rfl
                  refine pure_ (i := 9) (N := some 88) (v := undef) (a' := ?_) #[true, true, true, true, true, true, true, true, true, true, false, false, false, false, false, false, false, false, false, false, false, false, false, false, false, false] rfl rfl (any_of HT_.out (by kernel_rfl)) (fun _ _ _ h => h) (Or.inr ⟨by rfl, rfl⟩) ?_ ?_
                  rotate_left
                  ·simp only [Act.put, List.setIfInBounds_toArray, List.set_cons_zero, List.set_cons_succ, i64_w, i32_w]
                   rfl
                  refine pure_ (i := 10) (N := some 89) (v := undef) (a' := ?_) #[true, true, true, true, true, true, true, true, true, true, true, false, false, false, false, false, false, false, false, false, false, false, false, false, false, false] rfl rfl (any_of HT_.out (by kernel_rfl)) (fun _ _ _ h => h) (Or.inr ⟨by rfl, rfl⟩) ?_ ?_
                  rotate_left
                  ·simp only [Act.put, List.setIfInBounds_toArray, List.set_cons_zero, List.set_cons_succ, i64_w, i32_w]
                   rfl
                  refine pure_ (i := 11) (N := some 90) (v := undef) (a' := ?_) #[true, true, true, true, true, true, true, true, true, true, true, true, false, false, false, false, false, false, false, false, false, false, false, false, false, false] rfl rfl (any_of HT_.out (by kernel_rfl)) (fun _ _ _ h => h) (Or.inr ⟨by rfl, rfl⟩) ?_ ?_
                  rotate_left
                  ·simp only [Act.put, List.setIfInBounds_toArray, List.set_cons_zero, List.set_cons_succ, i64_w, i32_w]
                   rfl
                  refine pure_ (i := 12) (N := some 91) (v := undef) (a' := ?_) #[true, true, true, true, true, true, true, true, true, true, true, true, true, false, false, false, false, false, false, false, false, false, false, false, false, false] rfl rfl (any_of HT_.out (by kernel_rfl)) (fun _ _ _ h => h) (Or.inr ⟨by rfl, rfl⟩) ?_ ?_
                  rotate_left
                  ·simp only [Act.put, List.setIfInBounds_toArray, List.set_cons_zero, List.set_cons_succ, i64_w, i32_w]
                   rfl
                  refine pure_ (i := 13) (N := some 92) (v := undef) (a' := ?_) #[true, true, true, true, true, true, true, true, true, true, true, true, true, true, false, false, false, false, false, false, false, false, false, false, false, false] rfl rfl (any_of HT_.out (by kernel_rfl)) (fun _ _ _ h => h) (Or.inr ⟨by rfl, rfl⟩) ?_ ?_
                  rotate_left
                  ·simp only [Act.put, List.setIfInBounds_toArray, List.set_cons_zero, List.set_cons_succ, i64_w, i32_w]
                   rfl
                  refine pure_ (i := 14) (N := some 93) (v := undef) (a' := ?_) #[true, true, true, true, true, true, true, true, true, true, true, true, true, true, true, false, false, false, false, false, false, false, false, false, false, false] rfl rfl (any_of HT_.out (by kernel_rfl)) (fun _ _ _ h => h) (Or.inr ⟨by rfl, rfl⟩) ?_ ?_
                  rotate_left
                  ·simp only [Act.put, List.setIfInBounds_toArray, List.set_cons_zero, List.set_cons_succ, i64_w, i32_w]
                   rfl
                  refine pure_ (i := 15) (N := some 94) (v := ?_) (a' := ?_) #[true, true, true, true, true, true, true, true, true, true, true, true, true, true, true, true, false, false, false, false, false, false, false, false, false, false] rfl rfl (any_of HT_.out (by kernel_rfl)) (fun _ _ _ h => h) (Or.inl ⟨by rfl, ?_⟩) ?_ ?_
                  rotate_left
                  ·intro w'
                   go_simp
                   with_reducible rfl
                  rotate_left
                  ·simp only [Act.put, List.setIfInBounds_toArray, List.set_cons_zero, List.set_cons_succ, i64_w, i32_w]
                   rfl
                  refine pure_ (i := 16) (N := some 95) (v := ?_) (a' := ?_) #[true, true, true, true, true, true, true, true, true, true, true, true, true, true, true, true, true, false, false, false, false, false, false, false, false, false] rfl rfl (any_of HT_.out (by kernel_rfl)) (fun _ _ _ h => h) (Or.inl ⟨by rfl, ?_⟩) ?_ ?_
                  rotate_left
                  ·intro w'
                   go_simp
                   with_reducible rfl
                  rotate_left
                  ·simp only [Act.put, List.setIfInBounds_toArray, List.set_cons_zero, List.set_cons_succ, i64_w, i32_w]
                   rfl
                  refine pure_ (i := 17) (N := some 96) (v := ?_) (a' := ?_) #[true, true, true, true, true, true, true, true, true, true, true, true, true, true, true, true, true, true, false, false, false, false, false, false, false, false] rfl rfl (any_of HT_.out (by kernel_rfl)) (fun _ _ _ h => h) (Or.inl ⟨by rfl, ?_⟩) ?_ ?_
                  rotate_left
                  ·intro w'
                   go_simp
                   with_reducible rfl
                  rotate_left
                  ·simp only [Act.put, List.setIfInBounds_toArray, List.set_cons_zero, List.set_cons_succ, i64_w, i32_w]
                   rfl
                  refine pure_ (i := 19) (N := some 98) (v := ?_) (a' := ?_) #[true, true, true, true, true, true, true, true, true, true, true, true, true, true, true, true, true, true, false, true, false, false, false, false, false, false] rfl rfl (any_of HT_.out (by kernel_rfl)) (fun _ _ _ h => h) (Or.inl ⟨by rfl, ?_⟩) ?_ ?_
                  rotate_left
                  ·intro w'
                   go_simp
                   with_reducible rfl
                  rotate_left
                  ·simp only [Act.put, List.setIfInBounds_toArray, List.set_cons_zero, List.set_cons_succ, i64_w, i32_w]
                   rfl
                  refine pure_ (i := 20) (N := some 99) (v := ?_) (a' := ?_) #[true, true, true, true, true, true, true, true, true, true, true, true, true, true, true, true, true, true, false, true, true, false, false, false, false, false] rfl rfl (any_of HT_.out (by kernel_rfl)) (fun _ _ _ h => h) (Or.inl ⟨by rfl, ?_⟩) ?_ ?_
                  rotate_left
                  ·intro w'
                   go_simp
                   with_reducible rfl
                  rotate_left
                  ·simp only [Act.put, List.setIfInBounds_toArray, List.set_cons_zero, List.set_cons_succ, i64_w, i32_w]
                   rfl
                  refine pure_ (i := 21) (N := some 100) (v := ?_) (a' := ?_) #[true, true, true, true, true, true, true, true, true, true, true, true, true, true, true, true, true, true, false, true, true, true, false, false, false, false] rfl rfl (any_of HT_.out (by kernel_rfl)) (fun _ _ _ h => h) (Or.inl ⟨by rfl, ?_⟩) ?_ ?_
                  rotate_left
                  ·intro w'
                   go_simp
                   with_reducible rfl
                  rotate_left
                  ·simp only [Act.put, List.setIfInBounds_toArray, List.set_cons_zero, List.set_cons_succ, i64_w, i32_w]
                   rfl
                  refine take_ (i := 18) (N := some 97) (v := ?_) (a' := ?_) #[true, true, true, true, true, true, true, true, true, true, true, true, true, true, true, true, true, true, true, true, true, true, false, false, false, false] rfl rfl (take_ofW HT_.out HW_.out (by kernel_rfl)) (fun _ _ _ h => h) (Or.inl ⟨by rfl, ?_⟩) hHeld ?_ ?_
                  rotate_left
                  ·rintro w' ⟨s0, s1, s2, s3⟩
                   go_simp
                   with_reducible rfl
                  rotate_left
                  ·simp only [Act.put, List.setIfInBounds_toArray, List.set_cons_zero, List.set_cons_succ, i64_w, i32_w]
                   rfl
                  refine take_ (i := 22) (N := some 101) (v := ?_) (a' := ?_) #[true, true, true, true, true, true, true, true, true, true, true, true, true, true, true, true, true, true, true, true, true, true, true, false, false, false] rfl rfl (take_ofW HT_.out HW_.out (by kernel_rfl)) (fun _ _ _ h => h) (Or.inl ⟨by rfl, ?_⟩) hHeld ?_ ?_
                  rotate_left
                  ·rintro w' ⟨s0, s1, s2, s3⟩
                   go_simp
                   with_reducible rfl
                  rotate_left
                  ·simp only [Act.put, List.setIfInBounds_toArray, List.set_cons_zero, List.set_cons_succ, i64_w, i32_w]
                   rfl
                  refine one_ (i := 23) (N := some 102) #[true, true, true, true, true, true, true, true, true, true, true, true, true, true, true, true, true, true, true, true, true, true, true, true, false, false] rfl rfl (one_of HT_.out (by kernel_rfl)) (by decide) (fun K hK => ?_)
                  refine goes_ Try.func27 (by kernel_rfl) rfl #[.agg #[.int .i64 t353, .slice Ao71 t354.length co71], .int .i64 (rd t328 x8_1)] (by rfl) rfl rfl (by (try simp only [List.map_toArray, List.map_cons, List.map_nil]); first | done | rfl | (simp only [List.length_drop, List.length_take]; rfl)) ?_
                  with_reducible refine (impl_TlbHolds.calls kj26 t353 _ _ t354 (rd t328 x8_1) true _ ?side1 ?side2 A63.out).mono ?_
                  (case side1 => repeat (first | exact (Kd.Q_reads' HO356.out).2.2 | (with_reducible refine Kd.C_alloc ?_ _) | (with_reducible refine Kd.C_drewN ?_ _) | (with_reducible refine Kd.C_drew ?_)))
                  (case side2 => exact (Kd.Q_reads' HO356.out).2.1)
                  rintro e w75 ⟨rfl, hb⟩
                  have HS2_ := (hb.cell (World.block_lt_of_cell? _ _ (hHeld.2.2.1))).trans (hHeld.2.2.1)
                  have HS3_ := (hb.cell (World.block_lt_of_cell? _ _ (hHeld.2.2.2))).trans (hHeld.2.2.2)
                  refine ⟨_, rfl, ?_⟩
                  have n0_ := Aside0.mk (Kd.R_below (rq HO_4.out) hb)
                  have n1_ := Aside0.mk (Kd.R_below (rq HO_5.out) hb)
                  have n2_ := Aside0.mk (Kd.R_below (rq HO_6.out) hb)
                  have n3_ := Aside0.mk (Kd.Q_below (by (with_reducible repeat (first | apply Kd.Q_alloc | apply Kd.Q_drewN | apply Kd.Q_drew)); exact HO_345001.out) hb)
                  have n4_ := Aside0.mk (Kd.Q_below (by (with_reducible repeat (first | apply Kd.Q_alloc | apply Kd.Q_drewN | apply Kd.Q_drew)); exact HO356.out) hb)
                  have n5_ := Aside0.mk (blk_below (bq BK344.out) hb)
                  have n6_ := Aside0.mk (blk_below (bq BK358.out) hb)
                  have n7_ := Aside0.mk (below_step (lq HB.out) hb)
                  clear HO_4
                  clear HO_5
                  clear HO_6
                  clear HO_345001
                  clear HO356
                  clear BK344
                  clear BK358
                  clear HB
                  have HO_4 := n0_
                  have HO_5 := n1_
                  have HO_6 := n2_
                  have HO_345001 := n3_
                  have HO356 := n4_
                  have BK344 := n5_
                  have BK358 := n6_
                  have HB := n7_
                  clear n0_ n1_ n2_ n3_ n4_ n5_ n6_ n7_
                  (try clear hb)
                  (try clear hb2)
                  (try clear hk)
                  (try clear hi)
                  refine hK.out _ _ ⟨(blk_cell BK358.out 0).trans rfl, (blk_cell BK358.out 1).trans rfl, HS2_, HS3_⟩ (fun hHeld => ?_)
                  clear hK K
                  refine norm_ (a' := ?_) ?_ ?_
                  rotate_left
                  ·show Act.put _ (some 102) _ = _
                   simp only [Act.put, List.setIfInBounds_toArray, List.set_cons_zero, List.set_cons_succ, i64_w, i32_w]
                   rfl
                  refine pure_ (i := 24) (N := some 103) (v := ?_) (a' := ?_) #[true, true, true, true, true, true, true, true, true, true, true, true, true, true, true, true, true, true, true, true, true, true, true, true, true, false] rfl rfl (any_of HT_.out (by kernel_rfl)) (fun _ _ _ h => h) (Or.inl ⟨by rfl, ?_⟩) ?_ ?_
                  rotate_left
                  ·intro w'
                   go_simp
                   with_reducible rfl
                  rotate_left
                  ·simp only [Act.put, List.setIfInBounds_toArray, List.set_cons_zero, List.set_cons_succ, i64_w, i32_w]
                   rfl
                  refine pure_ (i := 25) (N := some 104) (v := ?_) (a' := ?_) #[true, true, true, true, true, true, true, true, true, true, true, true, true, true, true, true, true, true, true, true, true, true, true, true, true, true] rfl rfl (any_of HT_.out (by kernel_rfl)) (fun _ _ _ h => h) (Or.inl ⟨by rfl, ?_⟩) ?_ ?_
                  rotate_left
                  ·intro w'
                   go_simp
                   with_reducible rfl
                  rotate_left
                  ·simp only [Act.put, List.setIfInBounds_toArray, List.set_cons_zero, List.set_cons_succ, i64_w, i32_w]
                   rfl
                  refine done_ (done_of HT_.out (by kernel_rfl)) ?_
                  have hnb76 := NB358_344.out
                  have hnc76 := NB344_358.out
                  have hcz77_0 : w75.cell? ⟨gb358, 0, none⟩ = some (.int .i64 t353) := (blk_cell BK358.out 0).trans rfl
                  have hcz77_1 : w75.cell? ⟨gb358, 1, none⟩ = some (.slice Ao71 t354.length co71) := (blk_cell BK358.out 1).trans rfl
                  have hfz77_0 := blk_frozen BK358.out 0
                  have hfz77_1 := blk_frozen BK358.out 1
                  have hcz78_0 : w75.cell? ⟨gb344, 0, none⟩ = some (.int .i64 x345000_1) := (blk_cell BK344.out 0).trans rfl
                  have hcz78_1 : w75.cell? ⟨gb344, 1, none⟩ = some (.slice Ao65 x345001_1.length co65) := (blk_cell BK344.out 1).trans rfl
                  have hfz78_0 := blk_frozen BK344.out 0
                  have hfz78_1 := blk_frozen BK344.out 1
                  try go_wp2
                  go_roundg kj26
                  case measure => have := HK1.out; have := HJ20.out; have := HJ26.out; omega
                  case rel => exact ⟨(x6_26), (wrap64 (x8_1 + 1)), (t353), (t354), (.slice Ao71 t354.length co71), (by first | rfl | (simp; done) | (simp [*]; done)), H', ⟨by have := HK1.out; have := HJ20.out; have := HJ26.out; omega⟩, ⟨by (with_reducible repeat (first | apply Kd.R_alloc | apply Kd.R_drewN | apply Kd.R_drew)); exact Kd.R_mono (Kd.R_far (p := ⟨gb344, 1, none⟩) (Kd.R_far (p := ⟨gb344, 0, none⟩) (Kd.R_types HO_4.out BK344.out (by decide)) (fun _ hk => hk.2) (.int .i64 t353)) (fun _ hk => hk.2) (.slice Ao71 t354.length co71)) (fun _ hk => ⟨hk.1.1, hk.1.2.2⟩)⟩, ⟨by (with_reducible repeat (first | apply Kd.R_alloc | apply Kd.R_drewN | apply Kd.R_drew)); exact Kd.R_mono (Kd.R_far (p := ⟨gb344, 1, none⟩) (Kd.R_far (p := ⟨gb344, 0, none⟩) (Kd.R_types HO_5.out BK344.out (by decide)) (fun _ hk => hk.2) (.int .i64 t353)) (fun _ hk => hk.2) (.slice Ao71 t354.length co71)) (fun _ hk => trivial)⟩, ⟨by (with_reducible repeat (first | apply Kd.R_alloc | apply Kd.R_drewN | apply Kd.R_drew)); exact Kd.R_mono (Kd.R_far (p := ⟨gb344, 1, none⟩) (Kd.R_far (p := ⟨gb344, 0, none⟩) (Kd.R_types HO_6.out BK344.out (by decide)) (fun _ hk => hk.2) (.int .i64 t353)) (fun _ hk => hk.2) (.slice Ao71 t354.length co71)) (fun _ hk => ⟨hk.1.1, hk.1.2.2⟩)⟩, ⟨by (with_reducible repeat (first | apply Kd.Q_alloc | apply Kd.Q_drewN | apply Kd.Q_drew)); exact Kd.Q_mono (Kd.Q_far (p := ⟨gb344, 1, none⟩) (Kd.Q_far (p := ⟨gb344, 0, none⟩) (Kd.Q_types HO356.out BK344.out (by decide)) (fun _ hk => hk.2) (.int .i64 t353)) (fun _ hk => hk.2) (.slice Ao71 t354.length co71)) (fun _ hk => ⟨hk.1.1, hk.1.2.1⟩)⟩, ⟨by (with_reducible repeat (first | refine blk_drewN ?_ _ | refine blk_drew ?_ | refine blk_alloc ?_ _)); refine blk_put (cs := #[.int .i64 t353, .slice Ao65 x345001_1.length co65]) ?_ 1 _ rfl; (with_reducible repeat (first | refine blk_drewN ?_ _ | refine blk_drew ?_ | refine blk_alloc ?_ _)); refine blk_put (cs := #[.int .i64 x345000_1, .slice Ao65 x345001_1.length co65]) ?_ 0 _ rfl; (with_reducible repeat (first | refine blk_drewN ?_ _ | refine blk_drew ?_ | refine blk_alloc ?_ _)); exact BK344.out⟩, ⟨by repeat (first | (with_reducible first | exact HB.out | apply below_alloc | apply pw_below_drewN | apply below_drew1 | refine below_set ?_ GE344.out) | exact HB.out)⟩⟩
                 ·replace c64 := Bool.eq_false_iff.mpr c64
                  subst c64
                  rw [if_neg (show ¬ (false = true) by decide)] at H
                  exact absurd H (by simp)
              ·rw [if_neg c42] at H
               exact absurd H (by simp)
             ·rw [if_neg c40] at H
              exact absurd H (by simp)
            ·rw [if_neg c39] at H
             exact absurd H (by simp)
         ·rw [if_neg c25] at H
          exact absurd H (by simp)
        ·rw [if_neg c24] at H
         exact absurd H (by simp)
       ·replace c23 := Bool.eq_false_iff.mpr c23
        subst c23
        rw [if_neg (show ¬ (false = true) by decide)] at H
        clear H
        go_wp2
        go_ret
        exact ⟨by first | rfl | (simp [errW_none, errW_some] <;> rfl) | (simp [*, errW_none, errW_some] <;> rfl), by exact lq HB.out⟩
  ·rw [if_neg c7] at H
   have c7b0 : ((t331.length : Int) == (t334.length : Int)) = false := beq_eq_false_iff_ne.mpr c7
   have c7b1 : ((t331.length : Int) != (t334.length : Int)) = true := bne_iff_ne.mpr c7
   have c7b2 : (t331.length == t334.length) = false := by first | simpa using c7 | (simp at c7 ⊢; omega)
   exact absurd H (by simp)

/-- THE ONE PURE STATEMENT of laws_FnPages: yours. -/
def laws_FnPages.Pure : Prop := ∀ (l0 : List Int), l0.length ≤ maxLen → l0.length * 1 ≤ 140737488351232 → (∀ x ∈ l0, (Lit.int .u8 x).wf = true) → ∃ k, laws_FnPages.f k l0 = some true
theorem laws_FnPages.walk (P : laws_FnPages.Pure) (a0 : Option Addr) (len0 cap0 : Nat) (z0 : List Int) (w : World) (w0 : (a0 = none ∧ len0 = 0 ∧ cap0 = 0 ∧ z0 = []) ∨ ∃ x, a0 = some x ∧ len0 ≤ cap0 ∧ cap0 ≤ maxLen ∧ z0.length = cap0 ∧ (∀ i, i < z0.length → w.cell? (x.add i) = some (.int .u8 (z0.getD i 0))) ∧ ∀ n ∈ z0, (Lit.int .u8 n).wf = true) (y0 : len0 * 1 ≤ 140737488351232) :
  Calls Try.prog 5 #[.slice a0 len0 cap0] w fun e w' => e = .returned (.bool true) ∧ Below w.heap.size w w' := by
 obtain ⟨l0, rfl, hr0, hm0, hw0, hc0⟩ := ReadsInt.ofRowC w0
 obtain ⟨k, h⟩ := P l0 hm0 y0 hw0
 refine (laws_FnPages.calls k _ _ l0 w (Kd.C_of_reads (d := (0 : Int)) (h1 := fun _ => rfl) hr0) hc0 h).mono ?_
 rintro e w' ⟨rfl, hd⟩
 exact ⟨rfl, hd⟩

end Go.Proofs.Ytglehilfemfiiaa.GE
