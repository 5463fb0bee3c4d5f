/- Told by a program of this session, out of the translation: each function of the group as a plain Lean function, and that Go's call comes to just its answer. Lean checks it. -/
import Derived.Test.YtpdfihapnnnglaaGBx0
import Derived.Test.YtpdfihapnnnglaaGBx5
import Derived.Test.YtpdfihapnnnglaaGBx6
namespace Go.Proofs.Ytpdfihapnnnglaa.GB
open Go.RowKit Go.Proofs.YtpdfihapnnnglaaW.PrintWords Go.Proofs.YtpdfihapnnnglaaW.PrintLast Go.Proofs.YtpdfihapnnnglaaW.PrintMore Go.Proofs.Ytpdfihapnnnglaa.Q
attribute [local go_sem] max2_int min2_int max_two min_two max_three min_three max_four min_four   -- for this text's walks alone
set_option linter.unusedVariables false
set_option linter.unusedSimpArgs false

/-! ### laws_FnArithmetic: function 6 -/
mutual
def laws_FnArithmetic.j0 : Nat → Int → Int → Int → Int → Bool → Option (Bool)
 | 0, _, _, _, _, _ => none
 | k + 1, x3, x4, x13, x15, x98 => if x98 = true then (some false) else (if x3 = x4 then (if ((x13 + x15) % 4294967296) = 0 then (laws_FnArithmetic.j1 k x3 x4 false) else (laws_FnArithmetic.j1 k x3 x4 true)) else (laws_FnArithmetic.j1 k x3 x4 (((x13 + x15) % 4294967296) != 1)))
def laws_FnArithmetic.j1 : Nat → Int → Int → Bool → Option (Bool)
 | 0, _, _, _ => none
 | k + 1, x3, x4, x118 => if x118 = true then (some false) else ((impl_Alu.f 10 x3 x4).bind fun bt242 => (if x4 = 0 then (if bt242.2 = 5 then (some (bt242.1 == 0)) else (some false)) else ((impl_Alu.f 9 bt242.1 x4).bind fun bt244 => (if (wrap64 (x3)) ≥ 2147483648 then (if 0 ≤ (IntKind.u64.wrap (wrap64 (Int.tmod x4 32))) then (if (shl .i64 1 (IntKind.u64.wrap (wrap64 (Int.tmod x4 32)))) = 0 then (none) else (if (wrap64 ((wrap64 (x3)) - 4294967296)) < 0 then (if (Int.tmod (wrap64 ((wrap64 (x3)) - 4294967296)) (shl .i64 1 (IntKind.u64.wrap (wrap64 (Int.tmod x4 32))))) = 0 then (if bt242.2 = 0 then (if ((x3 - bt244.1) % 4294967296) < x4 then (if bt244.1 ≤ x3 then ((impl_SarWord.f x3 x4).bind fun t246 => (some (t246 == ((wrap64 (Int.tdiv (wrap64 ((wrap64 (x3)) - 4294967296)) (shl .i64 1 (IntKind.u64.wrap (wrap64 (Int.tmod x4 32)))))) % 4294967296)))) else (some false)) else (some false)) else (some false)) else (if bt242.2 = 0 then (if ((x3 - bt244.1) % 4294967296) < x4 then (if bt244.1 ≤ x3 then ((impl_SarWord.f x3 x4).bind fun t247 => (some (t247 == ((wrap64 ((wrap64 (Int.tdiv (wrap64 ((wrap64 (x3)) - 4294967296)) (shl .i64 1 (IntKind.u64.wrap (wrap64 (Int.tmod x4 32)))))) - 1)) % 4294967296)))) else (some false)) else (some false)) else (some false))) else (if bt242.2 = 0 then (if ((x3 - bt244.1) % 4294967296) < x4 then (if bt244.1 ≤ x3 then ((impl_SarWord.f x3 x4).bind fun t248 => (some (t248 == ((wrap64 (Int.tdiv (wrap64 ((wrap64 (x3)) - 4294967296)) (shl .i64 1 (IntKind.u64.wrap (wrap64 (Int.tmod x4 32)))))) % 4294967296)))) else (some false)) else (some false)) else (some false)))) else (none)) else (if 0 ≤ (IntKind.u64.wrap (wrap64 (Int.tmod x4 32))) then (if (shl .i64 1 (IntKind.u64.wrap (wrap64 (Int.tmod x4 32)))) = 0 then (none) else (if (wrap64 (x3)) < 0 then (if (Int.tmod (wrap64 (x3)) (shl .i64 1 (IntKind.u64.wrap (wrap64 (Int.tmod x4 32))))) = 0 then (if bt242.2 = 0 then (if ((x3 - bt244.1) % 4294967296) < x4 then (if bt244.1 ≤ x3 then ((impl_SarWord.f x3 x4).bind fun t249 => (some (t249 == ((wrap64 (Int.tdiv (wrap64 (x3)) (shl .i64 1 (IntKind.u64.wrap (wrap64 (Int.tmod x4 32)))))) % 4294967296)))) else (some false)) else (some false)) else (some false)) else (if bt242.2 = 0 then (if ((x3 - bt244.1) % 4294967296) < x4 then (if bt244.1 ≤ x3 then ((impl_SarWord.f x3 x4).bind fun t250 => (some (t250 == ((wrap64 ((wrap64 (Int.tdiv (wrap64 (x3)) (shl .i64 1 (IntKind.u64.wrap (wrap64 (Int.tmod x4 32)))))) - 1)) % 4294967296)))) else (some false)) else (some false)) else (some false))) else (if bt242.2 = 0 then (if ((x3 - bt244.1) % 4294967296) < x4 then (if bt244.1 ≤ x3 then ((impl_SarWord.f x3 x4).bind fun t251 => (some (t251 == ((wrap64 (Int.tdiv (wrap64 (x3)) (shl .i64 1 (IntKind.u64.wrap (wrap64 (Int.tmod x4 32)))))) % 4294967296)))) else (some false)) else (some false)) else (some false)))) else (none))))))
end
def laws_FnArithmetic.f (k : Nat) (l0 : List Int) : Option (Bool) := (laws_big.f l0).bind fun t225 => (if t225 = true then (some true) else ((spec_DrawAddWord.f k l0).bind fun bt226 => ((impl_Alu.f 1 bt226.1 bt226.2).bind fun bt228 => ((impl_Alu.f 2 bt228.1 bt226.2).bind fun bt230 => ((impl_Alu.f 5 bt226.1 bt226.2).bind fun bt232 => ((impl_Alu.f 5 bt232.1 bt226.2).bind fun bt234 => ((impl_Alu.f 11 bt226.1 bt226.2).bind fun bt236 => ((impl_Alu.f 11 bt226.2 bt226.1).bind fun bt238 => ((impl_AddWord.f bt226.1 bt226.2).bind fun bt240 => (if bt230.2 = 0 then (if bt230.1 = bt226.1 then (if bt234.1 = bt226.1 then (if bt240.1 = bt228.1 then (laws_FnArithmetic.j0 k bt226.1 bt226.2 bt236.1 bt238.1 (bt240.2 != (decide (bt228.1 < bt226.1)))) else (laws_FnArithmetic.j0 k bt226.1 bt226.2 bt236.1 bt238.1 true)) else (laws_FnArithmetic.j0 k bt226.1 bt226.2 bt236.1 bt238.1 true)) else (laws_FnArithmetic.j0 k bt226.1 bt226.2 bt236.1 bt238.1 true)) else (laws_FnArithmetic.j0 k bt226.1 bt226.2 bt236.1 bt238.1 true)))))))))))
theorem laws_FnArithmetic.mono_l : ∀ k, (∀ y0 y1 y2 y3 y4, LeO (laws_FnArithmetic.j0 k y0 y1 y2 y3 y4) (laws_FnArithmetic.j0 (k + 1) y0 y1 y2 y3 y4)) ∧ (∀ y0 y1 y2, LeO (laws_FnArithmetic.j1 k y0 y1 y2) (laws_FnArithmetic.j1 (k + 1) y0 y1 y2))
 | 0 => ⟨fun _ _ _ _ _ r h => by simp [laws_FnArithmetic.j0] at h, fun _ _ _ r h => by simp [laws_FnArithmetic.j1] at h⟩
 | k + 1 => by
  obtain ⟨ih0, ih1⟩ := laws_FnArithmetic.mono_l k
  refine ⟨?_, ?_⟩
  ·intro y0 y1 y2 y3 y4
   unfold laws_FnArithmetic.j0
   repeat' first
   | (with_reducible exact ih0 _ _ _ _ _)
   | (with_reducible exact ih1 _ _ _)
   | (with_reducible exact spec_DrawAddWord.mono _ _)
   | (with_reducible exact LeO.refl _)
   | (with_reducible exact LeO.none _)
   | (with_reducible refine LeO.ite ?_ ?_)
   | (with_reducible refine LeO.bind ?_ (fun _ => ?_))
   | exact ih0 _ _ _ _ _
   | exact ih1 _ _ _
   | exact spec_DrawAddWord.mono _ _
   | exact LeO.none _
   | refine LeO.ite ?_ ?_
   | refine LeO.bind ?_ (fun _ => ?_)
  ·intro y0 y1 y2
   unfold laws_FnArithmetic.j1
   repeat' first
   | (with_reducible exact ih0 _ _ _ _ _)
   | (with_reducible exact ih1 _ _ _)
   | (with_reducible exact spec_DrawAddWord.mono _ _)
   | (with_reducible exact LeO.refl _)
   | (with_reducible exact LeO.none _)
   | (with_reducible refine LeO.ite ?_ ?_)
   | (with_reducible refine LeO.bind ?_ (fun _ => ?_))
   | exact ih0 _ _ _ _ _
   | exact ih1 _ _ _
   | exact spec_DrawAddWord.mono _ _
   | exact LeO.none _
   | refine LeO.ite ?_ ?_
   | refine LeO.bind ?_ (fun _ => ?_)
theorem laws_FnArithmetic.mono : ∀ a0 k, LeO (laws_FnArithmetic.f k a0) (laws_FnArithmetic.f (k + 1) a0) := by
 intro a0 k
 obtain ⟨ih0, ih1⟩ := laws_FnArithmetic.mono_l k
 unfold laws_FnArithmetic.f
 repeat' first
   | (with_reducible exact ih0 _ _ _ _ _)
   | (with_reducible exact ih1 _ _ _)
   | (with_reducible exact spec_DrawAddWord.mono _ _)
   | (with_reducible exact LeO.refl _)
   | (with_reducible exact LeO.none _)
   | (with_reducible refine LeO.ite ?_ ?_)
   | (with_reducible refine LeO.bind ?_ (fun _ => ?_))
   | exact ih0 _ _ _ _ _
   | exact ih1 _ _ _
   | exact spec_DrawAddWord.mono _ _
   | exact LeO.none _
   | refine LeO.ite ?_ ?_
   | refine LeO.bind ?_ (fun _ => ?_)
set_option maxHeartbeats 8000000 in
set_option maxRecDepth 100000 in
theorem laws_FnArithmetic.calls (k : Nat) (A0 : Option Addr) (c0 : Nat) (l0 : List Int) (r : Bool) (w : World) (hr0 : Kd.C (Kd.int .u8) w A0 l0.length l0) (hc0 : l0.length ≤ c0) (h : laws_FnArithmetic.f k l0 = some r) :
  Calls Try.prog 6 #[.slice A0 l0.length c0] w fun e w' => e = .returned (.bool r) ∧ Below w.heap.size w w' := by
 have HR0 := Aside0.mk hr0
 have HC0 := Aside0.mk hc0
 clear hr0 hc0
 have HB := Aside0.mk (Below.refl w.heap.size w)
 have H : ((laws_big.f l0).bind fun t225 => (if t225 = true then (some true) else ((spec_DrawAddWord.f k l0).bind fun bt226 => ((impl_Alu.f 1 bt226.1 bt226.2).bind fun bt228 => ((impl_Alu.f 2 bt228.1 bt226.2).bind fun bt230 => ((impl_Alu.f 5 bt226.1 bt226.2).bind fun bt232 => ((impl_Alu.f 5 bt232.1 bt226.2).bind fun bt234 => ((impl_Alu.f 11 bt226.1 bt226.2).bind fun bt236 => ((impl_Alu.f 11 bt226.2 bt226.1).bind fun bt238 => ((impl_AddWord.f bt226.1 bt226.2).bind fun bt240 => (if bt230.2 = 0 then (if bt230.1 = bt226.1 then (if bt234.1 = bt226.1 then (if bt240.1 = bt228.1 then (laws_FnArithmetic.j0 k bt226.1 bt226.2 bt236.1 bt238.1 (bt240.2 != (decide (bt228.1 < bt226.1)))) else (laws_FnArithmetic.j0 k bt226.1 bt226.2 bt236.1 bt238.1 true)) else (laws_FnArithmetic.j0 k bt226.1 bt226.2 bt236.1 bt238.1 true)) else (laws_FnArithmetic.j0 k bt226.1 bt226.2 bt236.1 bt238.1 true)) else (laws_FnArithmetic.j0 k bt226.1 bt226.2 bt236.1 bt238.1 true)))))))))))) = some r := h
 clear h
 replace H := Option.bind_eq_some_iff.mp H
 obtain ⟨t225, A20, H⟩ := H
 (try dsimp only at H)
 have A2 := Aside0.mk A20
 clear A20
 by_cases c3 : t225 = true
 ·subst c3
  rw [if_pos rfl] at H
  obtain rfl := Option.some.inj H
  go_enter Try.func6, Try.ntmps6
  go_wp2_with (first | ((with_reducible refine gate_callee (f := 21) rfl ?_); refine goesL_ (some 27) rfl rfl Try.func21 (by kernel_rfl) rfl #[.slice A0 l0.length c0] rfl (by (try simp only [List.map_toArray, List.map_cons, List.map_nil]); first | done | rfl | (simp only [List.length_drop, List.length_take]; rfl)) ?_; (with_reducible refine (laws_big.calls _ _ l0 true _ ?side1 ?side2 A2.out).mono ?_); (case side1 => repeat (first | exact HR0.out | (with_reducible refine Kd.C_alloc ?_ _) | (with_reducible refine Kd.C_drewN ?_ _) | (with_reducible refine Kd.C_drew ?_))); (case side2 => exact HC0.out); rintro e w' ⟨rfl, ⟨nd, rfl⟩⟩; refine ⟨_, rfl, ?_⟩))
  go_ret
  exact ⟨by first | rfl | (simp [errW_none, errW_some] <;> rfl) | (simp [*, errW_none, errW_some] <;> rfl), by exact lq HB.out⟩
 ·replace c3 := Bool.eq_false_iff.mpr c3
  subst c3
  rw [if_neg (show ¬ (false = true) by decide)] at H
  replace H := Option.bind_eq_some_iff.mp H
  obtain ⟨⟨t226, t227⟩, A40, H⟩ := H
  (try dsimp only at H)
  have A4 := Aside0.mk A40
  clear A40
  replace H := Option.bind_eq_some_iff.mp H
  obtain ⟨⟨t228, t229⟩, A50, H⟩ := H
  (try dsimp only at H)
  have A5 := Aside0.mk A50
  clear A50
  replace H := Option.bind_eq_some_iff.mp H
  obtain ⟨⟨t230, t231⟩, A60, H⟩ := H
  (try dsimp only at H)
  have A6 := Aside0.mk A60
  clear A60
  replace H := Option.bind_eq_some_iff.mp H
  obtain ⟨⟨t232, t233⟩, A70, H⟩ := H
  (try dsimp only at H)
  have A7 := Aside0.mk A70
  clear A70
  replace H := Option.bind_eq_some_iff.mp H
  obtain ⟨⟨t234, t235⟩, A80, H⟩ := H
  (try dsimp only at H)
  have A8 := Aside0.mk A80
  clear A80
  replace H := Option.bind_eq_some_iff.mp H
  obtain ⟨⟨t236, t237⟩, A90, H⟩ := H
  (try dsimp only at H)
  have A9 := Aside0.mk A90
  clear A90
  replace H := Option.bind_eq_some_iff.mp H
  obtain ⟨⟨t238, t239⟩, A100, H⟩ := H
  (try dsimp only at H)
  have A10 := Aside0.mk A100
  clear A100
  replace H := Option.bind_eq_some_iff.mp H
  obtain ⟨⟨t240, t241⟩, A110, H⟩ := H
  (try dsimp only at H)
  have A11 := Aside0.mk A110
  clear A110
  have HC12 := Aside0.mk H
  clear H
  go_enter Try.func6, Try.ntmps6
  go_upto_region 11 with (first | ((with_reducible refine gate_callee (f := 21) rfl ?_); refine goesL_ (some 27) rfl rfl Try.func21 (by kernel_rfl) rfl #[.slice A0 l0.length c0] rfl (by (try simp only [List.map_toArray, List.map_cons, List.map_nil]); first | done | rfl | (simp only [List.length_drop, List.length_take]; rfl)) ?_; (with_reducible refine (laws_big.calls _ _ l0 false _ ?side1 ?side2 A2.out).mono ?_); (case side1 => repeat (first | exact HR0.out | (with_reducible refine Kd.C_alloc ?_ _) | (with_reducible refine Kd.C_drewN ?_ _) | (with_reducible refine Kd.C_drew ?_))); (case side2 => exact HC0.out); rintro e w' ⟨rfl, ⟨nd, rfl⟩⟩; refine ⟨_, rfl, ?_⟩) | ((with_reducible refine gate_callee (f := 22) rfl ?_); refine goesL_ (some 30) rfl rfl Try.func22 (by kernel_rfl) rfl #[.slice A0 l0.length c0] rfl (by (try simp only [List.map_toArray, List.map_cons, List.map_nil]); first | done | rfl | (simp only [List.length_drop, List.length_take]; rfl)) ?_; (with_reducible refine (spec_DrawAddWord.calls k _ _ l0 t226 t227 _ ?side1 ?side2 A4.out).mono ?_); (case side1 => repeat (first | exact HR0.out | (with_reducible refine Kd.C_alloc ?_ _) | (with_reducible refine Kd.C_drewN ?_ _) | (with_reducible refine Kd.C_drew ?_))); (case side2 => exact HC0.out); rintro e w13 ⟨rfl, hb⟩; refine ⟨_, rfl, ?_⟩; have n0_ := Aside0.mk (below_step (lq HB.out) hb); clear HB; have HB := n0_; clear n0_; (try clear hb); (try clear hb2); (try clear hk); (try clear hi)) | ((with_reducible refine gate_callee (f := 23) rfl ?_); refine goesL_ (some 36) rfl rfl Try.func23 (by kernel_rfl) rfl #[.int .i64 1, .int .u32 t226, .int .u32 t227] rfl (by (try simp only [List.map_toArray, List.map_cons, List.map_nil]); first | done | rfl | (simp only [List.length_drop, List.length_take]; rfl)) ?_; (with_reducible refine (impl_Alu.calls 1 t226 t227 t228 t229 _ A5.out).mono ?_); rintro e w' ⟨rfl, ⟨nd, rfl⟩⟩; refine ⟨_, rfl, ?_⟩) | ((with_reducible refine gate_callee (f := 23) rfl ?_); refine goesL_ (some 42) rfl rfl Try.func23 (by kernel_rfl) rfl #[.int .i64 2, .int .u32 t228, .int .u32 t227] rfl (by (try simp only [List.map_toArray, List.map_cons, List.map_nil]); first | done | rfl | (simp only [List.length_drop, List.length_take]; rfl)) ?_; (with_reducible refine (impl_Alu.calls 2 t228 t227 t230 t231 _ A6.out).mono ?_); rintro e w' ⟨rfl, ⟨nd, rfl⟩⟩; refine ⟨_, rfl, ?_⟩) | ((with_reducible refine gate_callee (f := 23) rfl ?_); refine goesL_ (some 48) rfl rfl Try.func23 (by kernel_rfl) rfl #[.int .i64 5, .int .u32 t226, .int .u32 t227] rfl (by (try simp only [List.map_toArray, List.map_cons, List.map_nil]); first | done | rfl | (simp only [List.length_drop, List.length_take]; rfl)) ?_; (with_reducible refine (impl_Alu.calls 5 t226 t227 t232 t233 _ A7.out).mono ?_); rintro e w' ⟨rfl, ⟨nd, rfl⟩⟩; refine ⟨_, rfl, ?_⟩) | ((with_reducible refine gate_callee (f := 23) rfl ?_); refine goesL_ (some 54) rfl rfl Try.func23 (by kernel_rfl) rfl #[.int .i64 5, .int .u32 t232, .int .u32 t227] rfl (by (try simp only [List.map_toArray, List.map_cons, List.map_nil]); first | done | rfl | (simp only [List.length_drop, List.length_take]; rfl)) ?_; (with_reducible refine (impl_Alu.calls 5 t232 t227 t234 t235 _ A8.out).mono ?_); rintro e w' ⟨rfl, ⟨nd, rfl⟩⟩; refine ⟨_, rfl, ?_⟩) | ((with_reducible refine gate_callee (f := 23) rfl ?_); refine goesL_ (some 60) rfl rfl Try.func23 (by kernel_rfl) rfl #[.int .i64 11, .int .u32 t226, .int .u32 t227] rfl (by (try simp only [List.map_toArray, List.map_cons, List.map_nil]); first | done | rfl | (simp only [List.length_drop, List.length_take]; rfl)) ?_; (with_reducible refine (impl_Alu.calls 11 t226 t227 t236 t237 _ A9.out).mono ?_); rintro e w' ⟨rfl, ⟨nd, rfl⟩⟩; refine ⟨_, rfl, ?_⟩) | ((with_reducible refine gate_callee (f := 23) rfl ?_); refine goesL_ (some 66) rfl rfl Try.func23 (by kernel_rfl) rfl #[.int .i64 11, .int .u32 t227, .int .u32 t226] rfl (by (try simp only [List.map_toArray, List.map_cons, List.map_nil]); first | done | rfl | (simp only [List.length_drop, List.length_take]; rfl)) ?_; (with_reducible refine (impl_Alu.calls 11 t227 t226 t238 t239 _ A10.out).mono ?_); rintro e w' ⟨rfl, ⟨nd, rfl⟩⟩; refine ⟨_, rfl, ?_⟩) | ((with_reducible refine gate_callee (f := 24) rfl ?_); refine goesL_ (some 72) rfl rfl Try.func24 (by kernel_rfl) rfl #[.int .u32 t226, .int .u32 t227] rfl (by (try simp only [List.map_toArray, List.map_cons, List.map_nil]); first | done | rfl | (simp only [List.length_drop, List.length_take]; rfl)) ?_; (with_reducible refine (impl_AddWord.calls t226 t227 t240 t241 _ A11.out).mono ?_); rintro e w' ⟨rfl, ⟨nd, rfl⟩⟩; refine ⟨_, rfl, ?_⟩))
  (try simp only [Act.put, List.setIfInBounds_toArray, List.set_cons_zero, List.set_cons_succ])
  go_cut [98] (fun v98 wc => ∃ (kq : Nat) (x98_11 : Bool), v98 = .bool x98_11 ∧ Aside0 (laws_FnArithmetic.j0 kq t226 t227 t236 t238 x98_11 = some r) ∧ Aside0 (kq ≤ k) ∧ Aside0 (Below w.heap.size w wc))
  case first =>
   have H := HC12.out
   clear HC12
   by_cases c14 : t231 = 0
   ·rw [if_pos c14] at H
    have c14b0 : (t231 == 0) = true := beq_iff_eq.mpr c14
    have c14b1 : (t231 != 0) = false := bne_eq_false_iff_eq.mpr c14
    clear c14
    (first | rw [c14b0] | (simp only [i64_w, i32_w]; rw [c14b0]) | skip)
    by_cases c15 : t230 = t226
    ·rw [if_pos c15] at H
     have c15b0 : (t230 == t226) = true := beq_iff_eq.mpr c15
     have c15b1 : (t230 != t226) = false := bne_eq_false_iff_eq.mpr c15
     clear c15
     by_cases c16 : t234 = t226
     ·rw [if_pos c16] at H
      have c16b0 : (t234 == t226) = true := beq_iff_eq.mpr c16
      have c16b1 : (t234 != t226) = false := bne_eq_false_iff_eq.mpr c16
      clear c16
      by_cases c17 : t240 = t228
      ·rw [if_pos c17] at H
       have c17b0 : (t240 == t228) = true := beq_iff_eq.mpr c17
       have c17b1 : (t240 != t228) = false := bne_eq_false_iff_eq.mpr c17
       clear c17
       have H' := Aside0.mk H
       clear H
       go_wp2
       go_meet
       case rel => exact ⟨_, ((t241 != (decide (t228 < t226)))), (by first | rfl | (simp; done) | (simp [*]; done)), H', ⟨by first | omega | exact Nat.le_refl _⟩, ⟨by exact lq HB.out⟩⟩
      ·rw [if_neg c17] at H
       have c17b0 : (t240 == t228) = false := beq_eq_false_iff_ne.mpr c17
       have c17b1 : (t240 != t228) = true := bne_iff_ne.mpr c17
       have H' := Aside0.mk H
       clear H
       go_wp2
       go_meet
       case rel => exact ⟨_, (true), (by first | rfl | (simp; done) | (simp [*]; done)), H', ⟨by first | omega | exact Nat.le_refl _⟩, ⟨by exact lq HB.out⟩⟩
     ·rw [if_neg c16] at H
      have c16b0 : (t234 == t226) = false := beq_eq_false_iff_ne.mpr c16
      have c16b1 : (t234 != t226) = true := bne_iff_ne.mpr c16
      have H' := Aside0.mk H
      clear H
      go_wp2
      go_meet
      case rel => exact ⟨_, (true), (by first | rfl | (simp; done) | (simp [*]; done)), H', ⟨by first | omega | exact Nat.le_refl _⟩, ⟨by exact lq HB.out⟩⟩
    ·rw [if_neg c15] at H
     have c15b0 : (t230 == t226) = false := beq_eq_false_iff_ne.mpr c15
     have c15b1 : (t230 != t226) = true := bne_iff_ne.mpr c15
     have H' := Aside0.mk H
     clear H
     go_wp2
     go_meet
     case rel => exact ⟨_, (true), (by first | rfl | (simp; done) | (simp [*]; done)), H', ⟨by first | omega | exact Nat.le_refl _⟩, ⟨by exact lq HB.out⟩⟩
   ·rw [if_neg c14] at H
    have c14b0 : (t231 == 0) = false := beq_eq_false_iff_ne.mpr c14
    have c14b1 : (t231 != 0) = true := bne_iff_ne.mpr c14
    (first | rw [c14b0] | (simp only [i64_w, i32_w]; rw [c14b0]) | skip)
    have H' := Aside0.mk H
    clear H
    go_wp2
    go_meet
    case rel => exact ⟨_, (true), (by first | rfl | (simp; done) | (simp [*]; done)), H', ⟨by first | omega | exact Nat.le_refl _⟩, ⟨by exact lq HB.out⟩⟩
  case rest =>
   clear HC12
   try clear c1
   try clear c2
   try clear p2
   try clear c3
   try clear c6
   try clear c14
   try clear c14b0
   try clear c14b1
   try clear c15
   try clear c15b0
   try clear c15b1
   try clear c16
   try clear c16b0
   try clear c16b1
   try clear c17
   try clear c17b0
   try clear c17b1
   obtain ⟨kq, x98_11, rfl, HA, HJ11, HB⟩ := hcut
   cases kq with
   | zero => exact absurd HA.out (by simp [laws_FnArithmetic.j0])
   | succ kj11 =>
    have H := HA.out
    clear HA
    simp only [laws_FnArithmetic.j0] at H
    by_cases c18 : x98_11 = true
    ·subst c18
     rw [if_pos rfl] at H
     obtain rfl := Option.some.inj H
     go_wp2
     go_ret
     exact ⟨by first | rfl | (simp [errW_none, errW_some] <;> rfl) | (simp [*, errW_none, errW_some] <;> rfl), by exact lq HB.out⟩
    ·replace c18 := Bool.eq_false_iff.mpr c18
     subst c18
     rw [if_neg (show ¬ (false = true) by decide)] at H
     have HC19 := Aside0.mk H
     clear H
     go_upto_region 13 with (fail)
     go_cut [118] (fun v118 wc => ∃ (kq : Nat) (x118_18 : Bool), v118 = .bool x118_18 ∧ Aside0 (laws_FnArithmetic.j1 kq t226 t227 x118_18 = some r) ∧ Aside0 (kq ≤ kj11) ∧ Aside0 (Below w.heap.size w wc))
     case first =>
      have H := HC19.out
      clear HC19
      by_cases c20 : t226 = t227
      ·rw [if_pos c20] at H
       have c20b0 : (t226 == t227) = true := beq_iff_eq.mpr c20
       have c20b1 : (t226 != t227) = false := bne_eq_false_iff_eq.mpr c20
       clear c20
       (first | rw [c20b0] | (simp only [i64_w, i32_w]; rw [c20b0]) | skip)
       by_cases c21 : ((t236 + t238) % 4294967296) = 0
       ·rw [if_pos c21] at H
        have c21b0 : (((t236 + t238) % 4294967296) == 0) = true := beq_iff_eq.mpr c21
        have c21b1 : (((t236 + t238) % 4294967296) != 0) = false := bne_eq_false_iff_eq.mpr c21
        clear c21
        have H' := Aside0.mk H
        clear H
        go_wp2
        go_meet
        case rel => exact ⟨_, (false), (by first | rfl | (simp; done) | (simp [*]; done)), H', ⟨by have := HJ11.out; first | omega | exact Nat.le_refl _⟩, ⟨by exact lq HB.out⟩⟩
       ·rw [if_neg c21] at H
        have c21b0 : (((t236 + t238) % 4294967296) == 0) = false := beq_eq_false_iff_ne.mpr c21
        have c21b1 : (((t236 + t238) % 4294967296) != 0) = true := bne_iff_ne.mpr c21
        have H' := Aside0.mk H
        clear H
        go_wp2
        go_meet
        case rel => exact ⟨_, (true), (by first | rfl | (simp; done) | (simp [*]; done)), H', ⟨by have := HJ11.out; first | omega | exact Nat.le_refl _⟩, ⟨by exact lq HB.out⟩⟩
      ·rw [if_neg c20] at H
       have c20b0 : (t226 == t227) = false := beq_eq_false_iff_ne.mpr c20
       have c20b1 : (t226 != t227) = true := bne_iff_ne.mpr c20
       (first | rw [c20b0] | (simp only [i64_w, i32_w]; rw [c20b0]) | skip)
       have H' := Aside0.mk H
       clear H
       go_wp2
       go_meet
       case rel => exact ⟨_, ((((t236 + t238) % 4294967296) != 1)), (by first | rfl | (simp; done) | (simp [*]; done)), H', ⟨by have := HJ11.out; first | omega | exact Nat.le_refl _⟩, ⟨by exact lq HB.out⟩⟩
     case rest =>
      clear HC19
      try clear c1
      try clear c2
      try clear p2
      try clear c3
      try clear c6
      try clear c14
      try clear c14b0
      try clear c14b1
      try clear c15
      try clear c15b0
      try clear c15b1
      try clear c16
      try clear c16b0
      try clear c16b1
      try clear c17
      try clear c17b0
      try clear c17b1
      try clear c18
      try clear c20
      try clear c20b0
      try clear c20b1
      try clear c21
      try clear c21b0
      try clear c21b1
      try clear p2
      obtain ⟨kq, x118_18, rfl, HA, HJ18, HB⟩ := hcut
      cases kq with
      | zero => exact absurd HA.out (by simp [laws_FnArithmetic.j1])
      | succ kj18 =>
       have H := HA.out
       clear HA
       simp only [laws_FnArithmetic.j1] at H
       by_cases c22 : x118_18 = true
       ·subst c22
        rw [if_pos rfl] at H
        obtain rfl := Option.some.inj H
        go_wp2
        go_ret
        exact ⟨by first | rfl | (simp [errW_none, errW_some] <;> rfl) | (simp [*, errW_none, errW_some] <;> rfl), by exact lq HB.out⟩
       ·replace c22 := Bool.eq_false_iff.mpr c22
        subst c22
        rw [if_neg (show ¬ (false = true) by decide)] at H
        replace H := Option.bind_eq_some_iff.mp H
        obtain ⟨⟨t242, t243⟩, A230, H⟩ := H
        (try dsimp only at H)
        have A23 := Aside0.mk A230
        clear A230
        by_cases c24 : t227 = 0
        ·rw [if_pos c24] at H
         have c24b0 : (t227 == 0) = true := beq_iff_eq.mpr c24
         have c24b1 : (t227 != 0) = false := bne_eq_false_iff_eq.mpr c24
         clear c24
         by_cases c25 : t243 = 5
         ·rw [if_pos c25] at H
          have c25b0 : (t243 == 5) = true := beq_iff_eq.mpr c25
          have c25b1 : (t243 != 5) = false := bne_eq_false_iff_eq.mpr c25
          clear c25
          obtain rfl := Option.some.inj H
          go_wp2_with (first | ((with_reducible refine gate_callee (f := 23) rfl ?_); refine goesL_ (some 122) rfl rfl Try.func23 (by kernel_rfl) rfl #[.int .i64 10, .int .u32 t226, .int .u32 t227] rfl (by (try simp only [List.map_toArray, List.map_cons, List.map_nil]); first | done | rfl | (simp only [List.length_drop, List.length_take]; rfl)) ?_; (with_reducible refine (impl_Alu.calls 10 t226 t227 t242 t243 _ A23.out).mono ?_); rintro e w' ⟨rfl, ⟨nd, rfl⟩⟩; refine ⟨_, rfl, ?_⟩))
          go_ret
          exact ⟨by first | rfl | (simp [errW_none, errW_some] <;> rfl) | (simp [*, errW_none, errW_some] <;> rfl), by exact lq HB.out⟩
         ·rw [if_neg c25] at H
          have c25b0 : (t243 == 5) = false := beq_eq_false_iff_ne.mpr c25
          have c25b1 : (t243 != 5) = true := bne_iff_ne.mpr c25
          obtain rfl := Option.some.inj H
          go_wp2_with (first | ((with_reducible refine gate_callee (f := 23) rfl ?_); refine goesL_ (some 122) rfl rfl Try.func23 (by kernel_rfl) rfl #[.int .i64 10, .int .u32 t226, .int .u32 t227] rfl (by (try simp only [List.map_toArray, List.map_cons, List.map_nil]); first | done | rfl | (simp only [List.length_drop, List.length_take]; rfl)) ?_; (with_reducible refine (impl_Alu.calls 10 t226 t227 t242 t243 _ A23.out).mono ?_); rintro e w' ⟨rfl, ⟨nd, rfl⟩⟩; refine ⟨_, rfl, ?_⟩))
          go_ret
          exact ⟨by first | rfl | (simp [errW_none, errW_some] <;> rfl) | (simp [*, errW_none, errW_some] <;> rfl), by exact lq HB.out⟩
        ·rw [if_neg c24] at H
         have c24b0 : (t227 == 0) = false := beq_eq_false_iff_ne.mpr c24
         have c24b1 : (t227 != 0) = true := bne_iff_ne.mpr c24
         replace H := Option.bind_eq_some_iff.mp H
         obtain ⟨⟨t244, t245⟩, A260, H⟩ := H
         (try dsimp only at H)
         have A26 := Aside0.mk A260
         clear A260
         by_cases c27 : (wrap64 (t226)) ≥ 2147483648
         ·rw [if_pos c27] at H
          have c27b0 : decide (2147483648 ≤ (wrap64 (t226))) = true := decide_eq_true c27
          clear c27
          obtain ⟨ji28, hji28⟩ : ∃ j_ : Int, (IntKind.u64.wrap (wrap64 (Int.tmod t227 32))) = j_ := ⟨_, rfl⟩
          replace H : (if 0 ≤ (ji28) then (if (shl .i64 1 (ji28)) = 0 then (none) else (if (wrap64 ((wrap64 (t226)) - 4294967296)) < 0 then (if (Int.tmod (wrap64 ((wrap64 (t226)) - 4294967296)) (shl .i64 1 (ji28))) = 0 then (if t243 = 0 then (if ((t226 - t244) % 4294967296) < t227 then (if t244 ≤ t226 then ((impl_SarWord.f t226 t227).bind fun t246 => (some (t246 == ((wrap64 (Int.tdiv (wrap64 ((wrap64 (t226)) - 4294967296)) (shl .i64 1 (ji28)))) % 4294967296)))) else (some false)) else (some false)) else (some false)) else (if t243 = 0 then (if ((t226 - t244) % 4294967296) < t227 then (if t244 ≤ t226 then ((impl_SarWord.f t226 t227).bind fun t247 => (some (t247 == ((wrap64 ((wrap64 (Int.tdiv (wrap64 ((wrap64 (t226)) - 4294967296)) (shl .i64 1 (ji28)))) - 1)) % 4294967296)))) else (some false)) else (some false)) else (some false))) else (if t243 = 0 then (if ((t226 - t244) % 4294967296) < t227 then (if t244 ≤ t226 then ((impl_SarWord.f t226 t227).bind fun t248 => (some (t248 == ((wrap64 (Int.tdiv (wrap64 ((wrap64 (t226)) - 4294967296)) (shl .i64 1 (ji28)))) % 4294967296)))) else (some false)) else (some false)) else (some false)))) else (none)) = some r := by first | (rw [hji28] at H; exact H) | (simp only [hji28] at H ⊢; exact H)
          (try rw [hji28] at A23)
          (try rw [hji28] at A26)
          by_cases c29 : 0 ≤ (ji28)
          ·rw [if_pos c29] at H
           have c29b0 := eq_true c29
           have c29b1 : decide (0 ≤ (ji28)) = true := decide_eq_true c29
           clear c29
           obtain ⟨ji30, hji30⟩ : ∃ j_ : Int, (shl .i64 1 (ji28)) = j_ := ⟨_, rfl⟩
           replace H : (if (ji30) = 0 then (none) else (if (wrap64 ((wrap64 (t226)) - 4294967296)) < 0 then (if (Int.tmod (wrap64 ((wrap64 (t226)) - 4294967296)) (ji30)) = 0 then (if t243 = 0 then (if ((t226 - t244) % 4294967296) < t227 then (if t244 ≤ t226 then ((impl_SarWord.f t226 t227).bind fun t246 => (some (t246 == ((wrap64 (Int.tdiv (wrap64 ((wrap64 (t226)) - 4294967296)) (ji30))) % 4294967296)))) else (some false)) else (some false)) else (some false)) else (if t243 = 0 then (if ((t226 - t244) % 4294967296) < t227 then (if t244 ≤ t226 then ((impl_SarWord.f t226 t227).bind fun t247 => (some (t247 == ((wrap64 ((wrap64 (Int.tdiv (wrap64 ((wrap64 (t226)) - 4294967296)) (ji30))) - 1)) % 4294967296)))) else (some false)) else (some false)) else (some false))) else (if t243 = 0 then (if ((t226 - t244) % 4294967296) < t227 then (if t244 ≤ t226 then ((impl_SarWord.f t226 t227).bind fun t248 => (some (t248 == ((wrap64 (Int.tdiv (wrap64 ((wrap64 (t226)) - 4294967296)) (ji30))) % 4294967296)))) else (some false)) else (some false)) else (some false)))) = some r := by first | (rw [hji30] at H; exact H) | (simp only [hji30] at H ⊢; exact H)
           (try rw [hji30] at A23)
           (try rw [hji30] at A26)
           have hji30_ : (IntKind.i64.wrap (1 * 2 ^ min (ji28).toNat 64)) = ji30 := hji30
           have hji30z : (ji28) ≤ 64 → (IntKind.i64.wrap (1 * 2 ^ (ji28).toNat)) = ji30 := shl_small hji30
           have hji30u : (IntKind.i64.wrap (2 ^ min (ji28).toNat 64)) = ji30 := by have h_ := hji30_; rw [Int.one_mul] at h_; exact h_
           have hji30v : (ji28) ≤ 64 → (IntKind.i64.wrap (2 ^ (ji28).toNat)) = ji30 := fun hle_ => by have h_ := hji30z hle_; rw [Int.one_mul] at h_; exact h_
           have hji30y : (wrap64 (1 * 2 ^ min (ji28).toNat 64)) = ji30 := (i64_w _).symm.trans hji30_
           have hji30x : (ji28) ≤ 64 → (wrap64 (1 * 2 ^ (ji28).toNat)) = ji30 := fun h_ => (i64_w _).symm.trans (hji30z h_)
           by_cases c31 : (ji30) = 0
           ·rw [if_pos c31] at H
            exact absurd H (by simp)
           ·rw [if_neg c31] at H
            have c31b0 : ((ji30) == 0) = false := beq_eq_false_iff_ne.mpr c31
            have c31b1 : ((ji30) != 0) = true := bne_iff_ne.mpr c31
            by_cases c32 : (wrap64 ((wrap64 (t226)) - 4294967296)) < 0
            ·rw [if_pos c32] at H
             have c32b0 : decide ((wrap64 ((wrap64 (t226)) - 4294967296)) < 0) = true := decide_eq_true c32
             clear c32
             have c33b0 := eq_true (of_decide_eq_true (by first | (with_reducible assumption) | assumption) : 0 ≤ (ji28))
             by_cases c34 : (Int.tmod (wrap64 ((wrap64 (t226)) - 4294967296)) (ji30)) = 0
             ·rw [if_pos c34] at H
              have c34b0 : ((Int.tmod (wrap64 ((wrap64 (t226)) - 4294967296)) (ji30)) == 0) = true := beq_iff_eq.mpr c34
              have c34b1 : ((Int.tmod (wrap64 ((wrap64 (t226)) - 4294967296)) (ji30)) != 0) = false := bne_eq_false_iff_eq.mpr c34
              clear c34
              by_cases c35 : t243 = 0
              ·rw [if_pos c35] at H
               have c35b0 : (t243 == 0) = true := beq_iff_eq.mpr c35
               have c35b1 : (t243 != 0) = false := bne_eq_false_iff_eq.mpr c35
               clear c35
               by_cases c36 : ((t226 - t244) % 4294967296) < t227
               ·rw [if_pos c36] at H
                have c36b0 : decide (((t226 - t244) % 4294967296) < t227) = true := decide_eq_true c36
                clear c36
                by_cases c37 : t244 ≤ t226
                ·rw [if_pos c37] at H
                 have c37b0 : decide (t244 ≤ t226) = true := decide_eq_true c37
                 clear c37
                 replace H := Option.bind_eq_some_iff.mp H
                 obtain ⟨t246, A380, H⟩ := H
                 (try dsimp only at H)
                 have A38 := Aside0.mk A380
                 clear A380
                 obtain rfl := Option.some.inj H
                 go_wp2_with (first | ((with_reducible refine gate_callee (f := 23) rfl ?_); refine goesL_ (some 122) rfl rfl Try.func23 (by kernel_rfl) rfl #[.int .i64 10, .int .u32 t226, .int .u32 t227] rfl (by (try simp only [List.map_toArray, List.map_cons, List.map_nil]); first | done | rfl | (simp only [List.length_drop, List.length_take]; rfl)) ?_; (with_reducible refine (impl_Alu.calls 10 t226 t227 t242 t243 _ A23.out).mono ?_); rintro e w' ⟨rfl, ⟨nd, rfl⟩⟩; refine ⟨_, rfl, ?_⟩) | ((with_reducible refine gate_callee (f := 23) rfl ?_); refine goesL_ (some 136) rfl rfl Try.func23 (by kernel_rfl) rfl #[.int .i64 9, .int .u32 t242, .int .u32 t227] rfl (by (try simp only [List.map_toArray, List.map_cons, List.map_nil]); first | done | rfl | (simp only [List.length_drop, List.length_take]; rfl)) ?_; (with_reducible refine (impl_Alu.calls 9 t242 t227 t244 t245 _ A26.out).mono ?_); rintro e w' ⟨rfl, ⟨nd, rfl⟩⟩; refine ⟨_, rfl, ?_⟩) | (go_at_call 25; (with_reducible refine (impl_SarWord.calls t226 t227 t246 _ A38.out).mono ?_); rintro e w' ⟨rfl, ⟨nd, rfl⟩⟩))
                 go_ret
                 exact ⟨by first | rfl | (simp [errW_none, errW_some] <;> rfl) | (simp only [← hji28, ← hji30]; first | rfl | (simp [errW_none, errW_some] <;> rfl)) | (simp [*, errW_none, errW_some] <;> rfl), by exact lq HB.out⟩
                ·rw [if_neg c37] at H
                 have c37b0 : decide (t244 ≤ t226) = false := decide_eq_false c37
                 clear c37
                 obtain rfl := Option.some.inj H
                 go_wp2_with (first | ((with_reducible refine gate_callee (f := 23) rfl ?_); refine goesL_ (some 122) rfl rfl Try.func23 (by kernel_rfl) rfl #[.int .i64 10, .int .u32 t226, .int .u32 t227] rfl (by (try simp only [List.map_toArray, List.map_cons, List.map_nil]); first | done | rfl | (simp only [List.length_drop, List.length_take]; rfl)) ?_; (with_reducible refine (impl_Alu.calls 10 t226 t227 t242 t243 _ A23.out).mono ?_); rintro e w' ⟨rfl, ⟨nd, rfl⟩⟩; refine ⟨_, rfl, ?_⟩) | ((with_reducible refine gate_callee (f := 23) rfl ?_); refine goesL_ (some 136) rfl rfl Try.func23 (by kernel_rfl) rfl #[.int .i64 9, .int .u32 t242, .int .u32 t227] rfl (by (try simp only [List.map_toArray, List.map_cons, List.map_nil]); first | done | rfl | (simp only [List.length_drop, List.length_take]; rfl)) ?_; (with_reducible refine (impl_Alu.calls 9 t242 t227 t244 t245 _ A26.out).mono ?_); rintro e w' ⟨rfl, ⟨nd, rfl⟩⟩; refine ⟨_, rfl, ?_⟩))
                 go_ret
                 exact ⟨by first | rfl | (simp [errW_none, errW_some] <;> rfl) | (simp only [← hji28, ← hji30]; first | rfl | (simp [errW_none, errW_some] <;> rfl)) | (simp [*, errW_none, errW_some] <;> rfl), by exact lq HB.out⟩
               ·rw [if_neg c36] at H
                have c36b0 : decide (((t226 - t244) % 4294967296) < t227) = false := decide_eq_false c36
                clear c36
                obtain rfl := Option.some.inj H
                go_wp2_with (first | ((with_reducible refine gate_callee (f := 23) rfl ?_); refine goesL_ (some 122) rfl rfl Try.func23 (by kernel_rfl) rfl #[.int .i64 10, .int .u32 t226, .int .u32 t227] rfl (by (try simp only [List.map_toArray, List.map_cons, List.map_nil]); first | done | rfl | (simp only [List.length_drop, List.length_take]; rfl)) ?_; (with_reducible refine (impl_Alu.calls 10 t226 t227 t242 t243 _ A23.out).mono ?_); rintro e w' ⟨rfl, ⟨nd, rfl⟩⟩; refine ⟨_, rfl, ?_⟩) | ((with_reducible refine gate_callee (f := 23) rfl ?_); refine goesL_ (some 136) rfl rfl Try.func23 (by kernel_rfl) rfl #[.int .i64 9, .int .u32 t242, .int .u32 t227] rfl (by (try simp only [List.map_toArray, List.map_cons, List.map_nil]); first | done | rfl | (simp only [List.length_drop, List.length_take]; rfl)) ?_; (with_reducible refine (impl_Alu.calls 9 t242 t227 t244 t245 _ A26.out).mono ?_); rintro e w' ⟨rfl, ⟨nd, rfl⟩⟩; refine ⟨_, rfl, ?_⟩))
                go_ret
                exact ⟨by first | rfl | (simp [errW_none, errW_some] <;> rfl) | (simp only [← hji28, ← hji30]; first | rfl | (simp [errW_none, errW_some] <;> rfl)) | (simp [*, errW_none, errW_some] <;> rfl), by exact lq HB.out⟩
              ·rw [if_neg c35] at H
               have c35b0 : (t243 == 0) = false := beq_eq_false_iff_ne.mpr c35
               have c35b1 : (t243 != 0) = true := bne_iff_ne.mpr c35
               obtain rfl := Option.some.inj H
               go_wp2_with (first | ((with_reducible refine gate_callee (f := 23) rfl ?_); refine goesL_ (some 122) rfl rfl Try.func23 (by kernel_rfl) rfl #[.int .i64 10, .int .u32 t226, .int .u32 t227] rfl (by (try simp only [List.map_toArray, List.map_cons, List.map_nil]); first | done | rfl | (simp only [List.length_drop, List.length_take]; rfl)) ?_; (with_reducible refine (impl_Alu.calls 10 t226 t227 t242 t243 _ A23.out).mono ?_); rintro e w' ⟨rfl, ⟨nd, rfl⟩⟩; refine ⟨_, rfl, ?_⟩) | ((with_reducible refine gate_callee (f := 23) rfl ?_); refine goesL_ (some 136) rfl rfl Try.func23 (by kernel_rfl) rfl #[.int .i64 9, .int .u32 t242, .int .u32 t227] rfl (by (try simp only [List.map_toArray, List.map_cons, List.map_nil]); first | done | rfl | (simp only [List.length_drop, List.length_take]; rfl)) ?_; (with_reducible refine (impl_Alu.calls 9 t242 t227 t244 t245 _ A26.out).mono ?_); rintro e w' ⟨rfl, ⟨nd, rfl⟩⟩; refine ⟨_, rfl, ?_⟩))
               go_ret
               exact ⟨by first | rfl | (simp [errW_none, errW_some] <;> rfl) | (simp only [← hji28, ← hji30]; first | rfl | (simp [errW_none, errW_some] <;> rfl)) | (simp [*, errW_none, errW_some] <;> rfl), by exact lq HB.out⟩
             ·rw [if_neg c34] at H
              have c34b0 : ((Int.tmod (wrap64 ((wrap64 (t226)) - 4294967296)) (ji30)) == 0) = false := beq_eq_false_iff_ne.mpr c34
              have c34b1 : ((Int.tmod (wrap64 ((wrap64 (t226)) - 4294967296)) (ji30)) != 0) = true := bne_iff_ne.mpr c34
              by_cases c39 : t243 = 0
              ·rw [if_pos c39] at H
               have c39b0 : (t243 == 0) = true := beq_iff_eq.mpr c39
               have c39b1 : (t243 != 0) = false := bne_eq_false_iff_eq.mpr c39
               clear c39
               by_cases c40 : ((t226 - t244) % 4294967296) < t227
               ·rw [if_pos c40] at H
                have c40b0 : decide (((t226 - t244) % 4294967296) < t227) = true := decide_eq_true c40
                clear c40
                by_cases c41 : t244 ≤ t226
                ·rw [if_pos c41] at H
                 have c41b0 : decide (t244 ≤ t226) = true := decide_eq_true c41
                 clear c41
                 replace H := Option.bind_eq_some_iff.mp H
                 obtain ⟨t247, A420, H⟩ := H
                 (try dsimp only at H)
                 have A42 := Aside0.mk A420
                 clear A420
                 obtain rfl := Option.some.inj H
                 go_wp2_with (first | ((with_reducible refine gate_callee (f := 23) rfl ?_); refine goesL_ (some 122) rfl rfl Try.func23 (by kernel_rfl) rfl #[.int .i64 10, .int .u32 t226, .int .u32 t227] rfl (by (try simp only [List.map_toArray, List.map_cons, List.map_nil]); first | done | rfl | (simp only [List.length_drop, List.length_take]; rfl)) ?_; (with_reducible refine (impl_Alu.calls 10 t226 t227 t242 t243 _ A23.out).mono ?_); rintro e w' ⟨rfl, ⟨nd, rfl⟩⟩; refine ⟨_, rfl, ?_⟩) | ((with_reducible refine gate_callee (f := 23) rfl ?_); refine goesL_ (some 136) rfl rfl Try.func23 (by kernel_rfl) rfl #[.int .i64 9, .int .u32 t242, .int .u32 t227] rfl (by (try simp only [List.map_toArray, List.map_cons, List.map_nil]); first | done | rfl | (simp only [List.length_drop, List.length_take]; rfl)) ?_; (with_reducible refine (impl_Alu.calls 9 t242 t227 t244 t245 _ A26.out).mono ?_); rintro e w' ⟨rfl, ⟨nd, rfl⟩⟩; refine ⟨_, rfl, ?_⟩) | (go_at_call 25; (with_reducible refine (impl_SarWord.calls t226 t227 t247 _ A42.out).mono ?_); rintro e w' ⟨rfl, ⟨nd, rfl⟩⟩))
                 go_ret
                 exact ⟨by first | rfl | (simp [errW_none, errW_some] <;> rfl) | (simp only [← hji28, ← hji30]; first | rfl | (simp [errW_none, errW_some] <;> rfl)) | (simp [*, errW_none, errW_some] <;> rfl), by exact lq HB.out⟩
                ·rw [if_neg c41] at H
                 have c41b0 : decide (t244 ≤ t226) = false := decide_eq_false c41
                 clear c41
                 obtain rfl := Option.some.inj H
                 go_wp2_with (first | ((with_reducible refine gate_callee (f := 23) rfl ?_); refine goesL_ (some 122) rfl rfl Try.func23 (by kernel_rfl) rfl #[.int .i64 10, .int .u32 t226, .int .u32 t227] rfl (by (try simp only [List.map_toArray, List.map_cons, List.map_nil]); first | done | rfl | (simp only [List.length_drop, List.length_take]; rfl)) ?_; (with_reducible refine (impl_Alu.calls 10 t226 t227 t242 t243 _ A23.out).mono ?_); rintro e w' ⟨rfl, ⟨nd, rfl⟩⟩; refine ⟨_, rfl, ?_⟩) | ((with_reducible refine gate_callee (f := 23) rfl ?_); refine goesL_ (some 136) rfl rfl Try.func23 (by kernel_rfl) rfl #[.int .i64 9, .int .u32 t242, .int .u32 t227] rfl (by (try simp only [List.map_toArray, List.map_cons, List.map_nil]); first | done | rfl | (simp only [List.length_drop, List.length_take]; rfl)) ?_; (with_reducible refine (impl_Alu.calls 9 t242 t227 t244 t245 _ A26.out).mono ?_); rintro e w' ⟨rfl, ⟨nd, rfl⟩⟩; refine ⟨_, rfl, ?_⟩))
                 go_ret
                 exact ⟨by first | rfl | (simp [errW_none, errW_some] <;> rfl) | (simp only [← hji28, ← hji30]; first | rfl | (simp [errW_none, errW_some] <;> rfl)) | (simp [*, errW_none, errW_some] <;> rfl), by exact lq HB.out⟩
               ·rw [if_neg c40] at H
                have c40b0 : decide (((t226 - t244) % 4294967296) < t227) = false := decide_eq_false c40
                clear c40
                obtain rfl := Option.some.inj H
                go_wp2_with (first | ((with_reducible refine gate_callee (f := 23) rfl ?_); refine goesL_ (some 122) rfl rfl Try.func23 (by kernel_rfl) rfl #[.int .i64 10, .int .u32 t226, .int .u32 t227] rfl (by (try simp only [List.map_toArray, List.map_cons, List.map_nil]); first | done | rfl | (simp only [List.length_drop, List.length_take]; rfl)) ?_; (with_reducible refine (impl_Alu.calls 10 t226 t227 t242 t243 _ A23.out).mono ?_); rintro e w' ⟨rfl, ⟨nd, rfl⟩⟩; refine ⟨_, rfl, ?_⟩) | ((with_reducible refine gate_callee (f := 23) rfl ?_); refine goesL_ (some 136) rfl rfl Try.func23 (by kernel_rfl) rfl #[.int .i64 9, .int .u32 t242, .int .u32 t227] rfl (by (try simp only [List.map_toArray, List.map_cons, List.map_nil]); first | done | rfl | (simp only [List.length_drop, List.length_take]; rfl)) ?_; (with_reducible refine (impl_Alu.calls 9 t242 t227 t244 t245 _ A26.out).mono ?_); rintro e w' ⟨rfl, ⟨nd, rfl⟩⟩; refine ⟨_, rfl, ?_⟩))
                go_ret
                exact ⟨by first | rfl | (simp [errW_none, errW_some] <;> rfl) | (simp only [← hji28, ← hji30]; first | rfl | (simp [errW_none, errW_some] <;> rfl)) | (simp [*, errW_none, errW_some] <;> rfl), by exact lq HB.out⟩
              ·rw [if_neg c39] at H
               have c39b0 : (t243 == 0) = false := beq_eq_false_iff_ne.mpr c39
               have c39b1 : (t243 != 0) = true := bne_iff_ne.mpr c39
               obtain rfl := Option.some.inj H
               go_wp2_with (first | ((with_reducible refine gate_callee (f := 23) rfl ?_); refine goesL_ (some 122) rfl rfl Try.func23 (by kernel_rfl) rfl #[.int .i64 10, .int .u32 t226, .int .u32 t227] rfl (by (try simp only [List.map_toArray, List.map_cons, List.map_nil]); first | done | rfl | (simp only [List.length_drop, List.length_take]; rfl)) ?_; (with_reducible refine (impl_Alu.calls 10 t226 t227 t242 t243 _ A23.out).mono ?_); rintro e w' ⟨rfl, ⟨nd, rfl⟩⟩; refine ⟨_, rfl, ?_⟩) | ((with_reducible refine gate_callee (f := 23) rfl ?_); refine goesL_ (some 136) rfl rfl Try.func23 (by kernel_rfl) rfl #[.int .i64 9, .int .u32 t242, .int .u32 t227] rfl (by (try simp only [List.map_toArray, List.map_cons, List.map_nil]); first | done | rfl | (simp only [List.length_drop, List.length_take]; rfl)) ?_; (with_reducible refine (impl_Alu.calls 9 t242 t227 t244 t245 _ A26.out).mono ?_); rintro e w' ⟨rfl, ⟨nd, rfl⟩⟩; refine ⟨_, rfl, ?_⟩))
               go_ret
               exact ⟨by first | rfl | (simp [errW_none, errW_some] <;> rfl) | (simp only [← hji28, ← hji30]; first | rfl | (simp [errW_none, errW_some] <;> rfl)) | (simp [*, errW_none, errW_some] <;> rfl), by exact lq HB.out⟩
            ·rw [if_neg c32] at H
             have c32b0 : decide ((wrap64 ((wrap64 (t226)) - 4294967296)) < 0) = false := decide_eq_false c32
             clear c32
             by_cases c43 : t243 = 0
             ·rw [if_pos c43] at H
              have c43b0 : (t243 == 0) = true := beq_iff_eq.mpr c43
              have c43b1 : (t243 != 0) = false := bne_eq_false_iff_eq.mpr c43
              clear c43
              by_cases c44 : ((t226 - t244) % 4294967296) < t227
              ·rw [if_pos c44] at H
               have c44b0 : decide (((t226 - t244) % 4294967296) < t227) = true := decide_eq_true c44
               clear c44
               by_cases c45 : t244 ≤ t226
               ·rw [if_pos c45] at H
                have c45b0 : decide (t244 ≤ t226) = true := decide_eq_true c45
                clear c45
                replace H := Option.bind_eq_some_iff.mp H
                obtain ⟨t248, A460, H⟩ := H
                (try dsimp only at H)
                have A46 := Aside0.mk A460
                clear A460
                obtain rfl := Option.some.inj H
                go_wp2_with (first | ((with_reducible refine gate_callee (f := 23) rfl ?_); refine goesL_ (some 122) rfl rfl Try.func23 (by kernel_rfl) rfl #[.int .i64 10, .int .u32 t226, .int .u32 t227] rfl (by (try simp only [List.map_toArray, List.map_cons, List.map_nil]); first | done | rfl | (simp only [List.length_drop, List.length_take]; rfl)) ?_; (with_reducible refine (impl_Alu.calls 10 t226 t227 t242 t243 _ A23.out).mono ?_); rintro e w' ⟨rfl, ⟨nd, rfl⟩⟩; refine ⟨_, rfl, ?_⟩) | ((with_reducible refine gate_callee (f := 23) rfl ?_); refine goesL_ (some 136) rfl rfl Try.func23 (by kernel_rfl) rfl #[.int .i64 9, .int .u32 t242, .int .u32 t227] rfl (by (try simp only [List.map_toArray, List.map_cons, List.map_nil]); first | done | rfl | (simp only [List.length_drop, List.length_take]; rfl)) ?_; (with_reducible refine (impl_Alu.calls 9 t242 t227 t244 t245 _ A26.out).mono ?_); rintro e w' ⟨rfl, ⟨nd, rfl⟩⟩; refine ⟨_, rfl, ?_⟩) | (go_at_call 25; (with_reducible refine (impl_SarWord.calls t226 t227 t248 _ A46.out).mono ?_); rintro e w' ⟨rfl, ⟨nd, rfl⟩⟩))
                go_ret
                exact ⟨by first | rfl | (simp [errW_none, errW_some] <;> rfl) | (simp only [← hji28, ← hji30]; first | rfl | (simp [errW_none, errW_some] <;> rfl)) | (simp [*, errW_none, errW_some] <;> rfl), by exact lq HB.out⟩
               ·rw [if_neg c45] at H
                have c45b0 : decide (t244 ≤ t226) = false := decide_eq_false c45
                clear c45
                obtain rfl := Option.some.inj H
                go_wp2_with (first | ((with_reducible refine gate_callee (f := 23) rfl ?_); refine goesL_ (some 122) rfl rfl Try.func23 (by kernel_rfl) rfl #[.int .i64 10, .int .u32 t226, .int .u32 t227] rfl (by (try simp only [List.map_toArray, List.map_cons, List.map_nil]); first | done | rfl | (simp only [List.length_drop, List.length_take]; rfl)) ?_; (with_reducible refine (impl_Alu.calls 10 t226 t227 t242 t243 _ A23.out).mono ?_); rintro e w' ⟨rfl, ⟨nd, rfl⟩⟩; refine ⟨_, rfl, ?_⟩) | ((with_reducible refine gate_callee (f := 23) rfl ?_); refine goesL_ (some 136) rfl rfl Try.func23 (by kernel_rfl) rfl #[.int .i64 9, .int .u32 t242, .int .u32 t227] rfl (by (try simp only [List.map_toArray, List.map_cons, List.map_nil]); first | done | rfl | (simp only [List.length_drop, List.length_take]; rfl)) ?_; (with_reducible refine (impl_Alu.calls 9 t242 t227 t244 t245 _ A26.out).mono ?_); rintro e w' ⟨rfl, ⟨nd, rfl⟩⟩; refine ⟨_, rfl, ?_⟩))
                go_ret
                exact ⟨by first | rfl | (simp [errW_none, errW_some] <;> rfl) | (simp only [← hji28, ← hji30]; first | rfl | (simp [errW_none, errW_some] <;> rfl)) | (simp [*, errW_none, errW_some] <;> rfl), by exact lq HB.out⟩
              ·rw [if_neg c44] at H
               have c44b0 : decide (((t226 - t244) % 4294967296) < t227) = false := decide_eq_false c44
               clear c44
               obtain rfl := Option.some.inj H
               go_wp2_with (first | ((with_reducible refine gate_callee (f := 23) rfl ?_); refine goesL_ (some 122) rfl rfl Try.func23 (by kernel_rfl) rfl #[.int .i64 10, .int .u32 t226, .int .u32 t227] rfl (by (try simp only [List.map_toArray, List.map_cons, List.map_nil]); first | done | rfl | (simp only [List.length_drop, List.length_take]; rfl)) ?_; (with_reducible refine (impl_Alu.calls 10 t226 t227 t242 t243 _ A23.out).mono ?_); rintro e w' ⟨rfl, ⟨nd, rfl⟩⟩; refine ⟨_, rfl, ?_⟩) | ((with_reducible refine gate_callee (f := 23) rfl ?_); refine goesL_ (some 136) rfl rfl Try.func23 (by kernel_rfl) rfl #[.int .i64 9, .int .u32 t242, .int .u32 t227] rfl (by (try simp only [List.map_toArray, List.map_cons, List.map_nil]); first | done | rfl | (simp only [List.length_drop, List.length_take]; rfl)) ?_; (with_reducible refine (impl_Alu.calls 9 t242 t227 t244 t245 _ A26.out).mono ?_); rintro e w' ⟨rfl, ⟨nd, rfl⟩⟩; refine ⟨_, rfl, ?_⟩))
               go_ret
               exact ⟨by first | rfl | (simp [errW_none, errW_some] <;> rfl) | (simp only [← hji28, ← hji30]; first | rfl | (simp [errW_none, errW_some] <;> rfl)) | (simp [*, errW_none, errW_some] <;> rfl), by exact lq HB.out⟩
             ·rw [if_neg c43] at H
              have c43b0 : (t243 == 0) = false := beq_eq_false_iff_ne.mpr c43
              have c43b1 : (t243 != 0) = true := bne_iff_ne.mpr c43
              obtain rfl := Option.some.inj H
              go_wp2_with (first | ((with_reducible refine gate_callee (f := 23) rfl ?_); refine goesL_ (some 122) rfl rfl Try.func23 (by kernel_rfl) rfl #[.int .i64 10, .int .u32 t226, .int .u32 t227] rfl (by (try simp only [List.map_toArray, List.map_cons, List.map_nil]); first | done | rfl | (simp only [List.length_drop, List.length_take]; rfl)) ?_; (with_reducible refine (impl_Alu.calls 10 t226 t227 t242 t243 _ A23.out).mono ?_); rintro e w' ⟨rfl, ⟨nd, rfl⟩⟩; refine ⟨_, rfl, ?_⟩) | ((with_reducible refine gate_callee (f := 23) rfl ?_); refine goesL_ (some 136) rfl rfl Try.func23 (by kernel_rfl) rfl #[.int .i64 9, .int .u32 t242, .int .u32 t227] rfl (by (try simp only [List.map_toArray, List.map_cons, List.map_nil]); first | done | rfl | (simp only [List.length_drop, List.length_take]; rfl)) ?_; (with_reducible refine (impl_Alu.calls 9 t242 t227 t244 t245 _ A26.out).mono ?_); rintro e w' ⟨rfl, ⟨nd, rfl⟩⟩; refine ⟨_, rfl, ?_⟩))
              go_ret
              exact ⟨by first | rfl | (simp [errW_none, errW_some] <;> rfl) | (simp only [← hji28, ← hji30]; first | rfl | (simp [errW_none, errW_some] <;> rfl)) | (simp [*, errW_none, errW_some] <;> rfl), by exact lq HB.out⟩
          ·rw [if_neg c29] at H
           exact absurd H (by simp)
         ·rw [if_neg c27] at H
          have c27b0 : decide (2147483648 ≤ (wrap64 (t226))) = false := decide_eq_false c27
          clear c27
          obtain ⟨ji47, hji47⟩ : ∃ j_ : Int, (IntKind.u64.wrap (wrap64 (Int.tmod t227 32))) = j_ := ⟨_, rfl⟩
          replace H : (if 0 ≤ (ji47) then (if (shl .i64 1 (ji47)) = 0 then (none) else (if (wrap64 (t226)) < 0 then (if (Int.tmod (wrap64 (t226)) (shl .i64 1 (ji47))) = 0 then (if t243 = 0 then (if ((t226 - t244) % 4294967296) < t227 then (if t244 ≤ t226 then ((impl_SarWord.f t226 t227).bind fun t249 => (some (t249 == ((wrap64 (Int.tdiv (wrap64 (t226)) (shl .i64 1 (ji47)))) % 4294967296)))) else (some false)) else (some false)) else (some false)) else (if t243 = 0 then (if ((t226 - t244) % 4294967296) < t227 then (if t244 ≤ t226 then ((impl_SarWord.f t226 t227).bind fun t250 => (some (t250 == ((wrap64 ((wrap64 (Int.tdiv (wrap64 (t226)) (shl .i64 1 (ji47)))) - 1)) % 4294967296)))) else (some false)) else (some false)) else (some false))) else (if t243 = 0 then (if ((t226 - t244) % 4294967296) < t227 then (if t244 ≤ t226 then ((impl_SarWord.f t226 t227).bind fun t251 => (some (t251 == ((wrap64 (Int.tdiv (wrap64 (t226)) (shl .i64 1 (ji47)))) % 4294967296)))) else (some false)) else (some false)) else (some false)))) else (none)) = some r := by first | (rw [hji47] at H; exact H) | (simp only [hji47] at H ⊢; exact H)
          (try rw [hji47] at A23)
          (try rw [hji47] at A26)
          by_cases c48 : 0 ≤ (ji47)
          ·rw [if_pos c48] at H
           have c48b0 := eq_true c48
           have c48b1 : decide (0 ≤ (ji47)) = true := decide_eq_true c48
           clear c48
           obtain ⟨ji49, hji49⟩ : ∃ j_ : Int, (shl .i64 1 (ji47)) = j_ := ⟨_, rfl⟩
           replace H : (if (ji49) = 0 then (none) else (if (wrap64 (t226)) < 0 then (if (Int.tmod (wrap64 (t226)) (ji49)) = 0 then (if t243 = 0 then (if ((t226 - t244) % 4294967296) < t227 then (if t244 ≤ t226 then ((impl_SarWord.f t226 t227).bind fun t249 => (some (t249 == ((wrap64 (Int.tdiv (wrap64 (t226)) (ji49))) % 4294967296)))) else (some false)) else (some false)) else (some false)) else (if t243 = 0 then (if ((t226 - t244) % 4294967296) < t227 then (if t244 ≤ t226 then ((impl_SarWord.f t226 t227).bind fun t250 => (some (t250 == ((wrap64 ((wrap64 (Int.tdiv (wrap64 (t226)) (ji49))) - 1)) % 4294967296)))) else (some false)) else (some false)) else (some false))) else (if t243 = 0 then (if ((t226 - t244) % 4294967296) < t227 then (if t244 ≤ t226 then ((impl_SarWord.f t226 t227).bind fun t251 => (some (t251 == ((wrap64 (Int.tdiv (wrap64 (t226)) (ji49))) % 4294967296)))) else (some false)) else (some false)) else (some false)))) = some r := by first | (rw [hji49] at H; exact H) | (simp only [hji49] at H ⊢; exact H)
           (try rw [hji49] at A23)
           (try rw [hji49] at A26)
           have hji49_ : (IntKind.i64.wrap (1 * 2 ^ min (ji47).toNat 64)) = ji49 := hji49
           have hji49z : (ji47) ≤ 64 → (IntKind.i64.wrap (1 * 2 ^ (ji47).toNat)) = ji49 := shl_small hji49
           have hji49u : (IntKind.i64.wrap (2 ^ min (ji47).toNat 64)) = ji49 := by have h_ := hji49_; rw [Int.one_mul] at h_; exact h_
           have hji49v : (ji47) ≤ 64 → (IntKind.i64.wrap (2 ^ (ji47).toNat)) = ji49 := fun hle_ => by have h_ := hji49z hle_; rw [Int.one_mul] at h_; exact h_
           have hji49y : (wrap64 (1 * 2 ^ min (ji47).toNat 64)) = ji49 := (i64_w _).symm.trans hji49_
           have hji49x : (ji47) ≤ 64 → (wrap64 (1 * 2 ^ (ji47).toNat)) = ji49 := fun h_ => (i64_w _).symm.trans (hji49z h_)
           by_cases c50 : (ji49) = 0
           ·rw [if_pos c50] at H
            exact absurd H (by simp)
           ·rw [if_neg c50] at H
            have c50b0 : ((ji49) == 0) = false := beq_eq_false_iff_ne.mpr c50
            have c50b1 : ((ji49) != 0) = true := bne_iff_ne.mpr c50
            by_cases c51 : (wrap64 (t226)) < 0
            ·rw [if_pos c51] at H
             have c51b0 : decide ((wrap64 (t226)) < 0) = true := decide_eq_true c51
             clear c51
             have c52b0 := eq_true (of_decide_eq_true (by first | (with_reducible assumption) | assumption) : 0 ≤ (ji47))
             by_cases c53 : (Int.tmod (wrap64 (t226)) (ji49)) = 0
             ·rw [if_pos c53] at H
              have c53b0 : ((Int.tmod (wrap64 (t226)) (ji49)) == 0) = true := beq_iff_eq.mpr c53
              have c53b1 : ((Int.tmod (wrap64 (t226)) (ji49)) != 0) = false := bne_eq_false_iff_eq.mpr c53
              clear c53
              by_cases c54 : t243 = 0
              ·rw [if_pos c54] at H
               have c54b0 : (t243 == 0) = true := beq_iff_eq.mpr c54
               have c54b1 : (t243 != 0) = false := bne_eq_false_iff_eq.mpr c54
               clear c54
               by_cases c55 : ((t226 - t244) % 4294967296) < t227
               ·rw [if_pos c55] at H
                have c55b0 : decide (((t226 - t244) % 4294967296) < t227) = true := decide_eq_true c55
                clear c55
                by_cases c56 : t244 ≤ t226
                ·rw [if_pos c56] at H
                 have c56b0 : decide (t244 ≤ t226) = true := decide_eq_true c56
                 clear c56
                 replace H := Option.bind_eq_some_iff.mp H
                 obtain ⟨t249, A570, H⟩ := H
                 (try dsimp only at H)
                 have A57 := Aside0.mk A570
                 clear A570
                 obtain rfl := Option.some.inj H
                 go_wp2_with (first | ((with_reducible refine gate_callee (f := 23) rfl ?_); refine goesL_ (some 122) rfl rfl Try.func23 (by kernel_rfl) rfl #[.int .i64 10, .int .u32 t226, .int .u32 t227] rfl (by (try simp only [List.map_toArray, List.map_cons, List.map_nil]); first | done | rfl | (simp only [List.length_drop, List.length_take]; rfl)) ?_; (with_reducible refine (impl_Alu.calls 10 t226 t227 t242 t243 _ A23.out).mono ?_); rintro e w' ⟨rfl, ⟨nd, rfl⟩⟩; refine ⟨_, rfl, ?_⟩) | ((with_reducible refine gate_callee (f := 23) rfl ?_); refine goesL_ (some 136) rfl rfl Try.func23 (by kernel_rfl) rfl #[.int .i64 9, .int .u32 t242, .int .u32 t227] rfl (by (try simp only [List.map_toArray, List.map_cons, List.map_nil]); first | done | rfl | (simp only [List.length_drop, List.length_take]; rfl)) ?_; (with_reducible refine (impl_Alu.calls 9 t242 t227 t244 t245 _ A26.out).mono ?_); rintro e w' ⟨rfl, ⟨nd, rfl⟩⟩; refine ⟨_, rfl, ?_⟩) | (go_at_call 25; (with_reducible refine (impl_SarWord.calls t226 t227 t249 _ A57.out).mono ?_); rintro e w' ⟨rfl, ⟨nd, rfl⟩⟩))
                 go_ret
                 exact ⟨by first | rfl | (simp [errW_none, errW_some] <;> rfl) | (simp only [← hji47, ← hji49]; first | rfl | (simp [errW_none, errW_some] <;> rfl)) | (simp [*, errW_none, errW_some] <;> rfl), by exact lq HB.out⟩
                ·rw [if_neg c56] at H
                 have c56b0 : decide (t244 ≤ t226) = false := decide_eq_false c56
                 clear c56
                 obtain rfl := Option.some.inj H
                 go_wp2_with (first | ((with_reducible refine gate_callee (f := 23) rfl ?_); refine goesL_ (some 122) rfl rfl Try.func23 (by kernel_rfl) rfl #[.int .i64 10, .int .u32 t226, .int .u32 t227] rfl (by (try simp only [List.map_toArray, List.map_cons, List.map_nil]); first | done | rfl | (simp only [List.length_drop, List.length_take]; rfl)) ?_; (with_reducible refine (impl_Alu.calls 10 t226 t227 t242 t243 _ A23.out).mono ?_); rintro e w' ⟨rfl, ⟨nd, rfl⟩⟩; refine ⟨_, rfl, ?_⟩) | ((with_reducible refine gate_callee (f := 23) rfl ?_); refine goesL_ (some 136) rfl rfl Try.func23 (by kernel_rfl) rfl #[.int .i64 9, .int .u32 t242, .int .u32 t227] rfl (by (try simp only [List.map_toArray, List.map_cons, List.map_nil]); first | done | rfl | (simp only [List.length_drop, List.length_take]; rfl)) ?_; (with_reducible refine (impl_Alu.calls 9 t242 t227 t244 t245 _ A26.out).mono ?_); rintro e w' ⟨rfl, ⟨nd, rfl⟩⟩; refine ⟨_, rfl, ?_⟩))
                 go_ret
                 exact ⟨by first | rfl | (simp [errW_none, errW_some] <;> rfl) | (simp only [← hji47, ← hji49]; first | rfl | (simp [errW_none, errW_some] <;> rfl)) | (simp [*, errW_none, errW_some] <;> rfl), by exact lq HB.out⟩
               ·rw [if_neg c55] at H
                have c55b0 : decide (((t226 - t244) % 4294967296) < t227) = false := decide_eq_false c55
                clear c55
                obtain rfl := Option.some.inj H
                go_wp2_with (first | ((with_reducible refine gate_callee (f := 23) rfl ?_); refine goesL_ (some 122) rfl rfl Try.func23 (by kernel_rfl) rfl #[.int .i64 10, .int .u32 t226, .int .u32 t227] rfl (by (try simp only [List.map_toArray, List.map_cons, List.map_nil]); first | done | rfl | (simp only [List.length_drop, List.length_take]; rfl)) ?_; (with_reducible refine (impl_Alu.calls 10 t226 t227 t242 t243 _ A23.out).mono ?_); rintro e w' ⟨rfl, ⟨nd, rfl⟩⟩; refine ⟨_, rfl, ?_⟩) | ((with_reducible refine gate_callee (f := 23) rfl ?_); refine goesL_ (some 136) rfl rfl Try.func23 (by kernel_rfl) rfl #[.int .i64 9, .int .u32 t242, .int .u32 t227] rfl (by (try simp only [List.map_toArray, List.map_cons, List.map_nil]); first | done | rfl | (simp only [List.length_drop, List.length_take]; rfl)) ?_; (with_reducible refine (impl_Alu.calls 9 t242 t227 t244 t245 _ A26.out).mono ?_); rintro e w' ⟨rfl, ⟨nd, rfl⟩⟩; refine ⟨_, rfl, ?_⟩))
                go_ret
                exact ⟨by first | rfl | (simp [errW_none, errW_some] <;> rfl) | (simp only [← hji47, ← hji49]; first | rfl | (simp [errW_none, errW_some] <;> rfl)) | (simp [*, errW_none, errW_some] <;> rfl), by exact lq HB.out⟩
              ·rw [if_neg c54] at H
               have c54b0 : (t243 == 0) = false := beq_eq_false_iff_ne.mpr c54
               have c54b1 : (t243 != 0) = true := bne_iff_ne.mpr c54
               obtain rfl := Option.some.inj H
               go_wp2_with (first | ((with_reducible refine gate_callee (f := 23) rfl ?_); refine goesL_ (some 122) rfl rfl Try.func23 (by kernel_rfl) rfl #[.int .i64 10, .int .u32 t226, .int .u32 t227] rfl (by (try simp only [List.map_toArray, List.map_cons, List.map_nil]); first | done | rfl | (simp only [List.length_drop, List.length_take]; rfl)) ?_; (with_reducible refine (impl_Alu.calls 10 t226 t227 t242 t243 _ A23.out).mono ?_); rintro e w' ⟨rfl, ⟨nd, rfl⟩⟩; refine ⟨_, rfl, ?_⟩) | ((with_reducible refine gate_callee (f := 23) rfl ?_); refine goesL_ (some 136) rfl rfl Try.func23 (by kernel_rfl) rfl #[.int .i64 9, .int .u32 t242, .int .u32 t227] rfl (by (try simp only [List.map_toArray, List.map_cons, List.map_nil]); first | done | rfl | (simp only [List.length_drop, List.length_take]; rfl)) ?_; (with_reducible refine (impl_Alu.calls 9 t242 t227 t244 t245 _ A26.out).mono ?_); rintro e w' ⟨rfl, ⟨nd, rfl⟩⟩; refine ⟨_, rfl, ?_⟩))
               go_ret
               exact ⟨by first | rfl | (simp [errW_none, errW_some] <;> rfl) | (simp only [← hji47, ← hji49]; first | rfl | (simp [errW_none, errW_some] <;> rfl)) | (simp [*, errW_none, errW_some] <;> rfl), by exact lq HB.out⟩
             ·rw [if_neg c53] at H
              have c53b0 : ((Int.tmod (wrap64 (t226)) (ji49)) == 0) = false := beq_eq_false_iff_ne.mpr c53
              have c53b1 : ((Int.tmod (wrap64 (t226)) (ji49)) != 0) = true := bne_iff_ne.mpr c53
              by_cases c58 : t243 = 0
              ·rw [if_pos c58] at H
               have c58b0 : (t243 == 0) = true := beq_iff_eq.mpr c58
               have c58b1 : (t243 != 0) = false := bne_eq_false_iff_eq.mpr c58
               clear c58
               by_cases c59 : ((t226 - t244) % 4294967296) < t227
               ·rw [if_pos c59] at H
                have c59b0 : decide (((t226 - t244) % 4294967296) < t227) = true := decide_eq_true c59
                clear c59
                by_cases c60 : t244 ≤ t226
                ·rw [if_pos c60] at H
                 have c60b0 : decide (t244 ≤ t226) = true := decide_eq_true c60
                 clear c60
                 replace H := Option.bind_eq_some_iff.mp H
                 obtain ⟨t250, A610, H⟩ := H
                 (try dsimp only at H)
                 have A61 := Aside0.mk A610
                 clear A610
                 obtain rfl := Option.some.inj H
                 go_wp2_with (first | ((with_reducible refine gate_callee (f := 23) rfl ?_); refine goesL_ (some 122) rfl rfl Try.func23 (by kernel_rfl) rfl #[.int .i64 10, .int .u32 t226, .int .u32 t227] rfl (by (try simp only [List.map_toArray, List.map_cons, List.map_nil]); first | done | rfl | (simp only [List.length_drop, List.length_take]; rfl)) ?_; (with_reducible refine (impl_Alu.calls 10 t226 t227 t242 t243 _ A23.out).mono ?_); rintro e w' ⟨rfl, ⟨nd, rfl⟩⟩; refine ⟨_, rfl, ?_⟩) | ((with_reducible refine gate_callee (f := 23) rfl ?_); refine goesL_ (some 136) rfl rfl Try.func23 (by kernel_rfl) rfl #[.int .i64 9, .int .u32 t242, .int .u32 t227] rfl (by (try simp only [List.map_toArray, List.map_cons, List.map_nil]); first | done | rfl | (simp only [List.length_drop, List.length_take]; rfl)) ?_; (with_reducible refine (impl_Alu.calls 9 t242 t227 t244 t245 _ A26.out).mono ?_); rintro e w' ⟨rfl, ⟨nd, rfl⟩⟩; refine ⟨_, rfl, ?_⟩) | (go_at_call 25; (with_reducible refine (impl_SarWord.calls t226 t227 t250 _ A61.out).mono ?_); rintro e w' ⟨rfl, ⟨nd, rfl⟩⟩))
                 go_ret
                 exact ⟨by first | rfl | (simp [errW_none, errW_some] <;> rfl) | (simp only [← hji47, ← hji49]; first | rfl | (simp [errW_none, errW_some] <;> rfl)) | (simp [*, errW_none, errW_some] <;> rfl), by exact lq HB.out⟩
                ·rw [if_neg c60] at H
                 have c60b0 : decide (t244 ≤ t226) = false := decide_eq_false c60
                 clear c60
                 obtain rfl := Option.some.inj H
                 go_wp2_with (first | ((with_reducible refine gate_callee (f := 23) rfl ?_); refine goesL_ (some 122) rfl rfl Try.func23 (by kernel_rfl) rfl #[.int .i64 10, .int .u32 t226, .int .u32 t227] rfl (by (try simp only [List.map_toArray, List.map_cons, List.map_nil]); first | done | rfl | (simp only [List.length_drop, List.length_take]; rfl)) ?_; (with_reducible refine (impl_Alu.calls 10 t226 t227 t242 t243 _ A23.out).mono ?_); rintro e w' ⟨rfl, ⟨nd, rfl⟩⟩; refine ⟨_, rfl, ?_⟩) | ((with_reducible refine gate_callee (f := 23) rfl ?_); refine goesL_ (some 136) rfl rfl Try.func23 (by kernel_rfl) rfl #[.int .i64 9, .int .u32 t242, .int .u32 t227] rfl (by (try simp only [List.map_toArray, List.map_cons, List.map_nil]); first | done | rfl | (simp only [List.length_drop, List.length_take]; rfl)) ?_; (with_reducible refine (impl_Alu.calls 9 t242 t227 t244 t245 _ A26.out).mono ?_); rintro e w' ⟨rfl, ⟨nd, rfl⟩⟩; refine ⟨_, rfl, ?_⟩))
                 go_ret
                 exact ⟨by first | rfl | (simp [errW_none, errW_some] <;> rfl) | (simp only [← hji47, ← hji49]; first | rfl | (simp [errW_none, errW_some] <;> rfl)) | (simp [*, errW_none, errW_some] <;> rfl), by exact lq HB.out⟩
               ·rw [if_neg c59] at H
                have c59b0 : decide (((t226 - t244) % 4294967296) < t227) = false := decide_eq_false c59
                clear c59
                obtain rfl := Option.some.inj H
                go_wp2_with (first | ((with_reducible refine gate_callee (f := 23) rfl ?_); refine goesL_ (some 122) rfl rfl Try.func23 (by kernel_rfl) rfl #[.int .i64 10, .int .u32 t226, .int .u32 t227] rfl (by (try simp only [List.map_toArray, List.map_cons, List.map_nil]); first | done | rfl | (simp only [List.length_drop, List.length_take]; rfl)) ?_; (with_reducible refine (impl_Alu.calls 10 t226 t227 t242 t243 _ A23.out).mono ?_); rintro e w' ⟨rfl, ⟨nd, rfl⟩⟩; refine ⟨_, rfl, ?_⟩) | ((with_reducible refine gate_callee (f := 23) rfl ?_); refine goesL_ (some 136) rfl rfl Try.func23 (by kernel_rfl) rfl #[.int .i64 9, .int .u32 t242, .int .u32 t227] rfl (by (try simp only [List.map_toArray, List.map_cons, List.map_nil]); first | done | rfl | (simp only [List.length_drop, List.length_take]; rfl)) ?_; (with_reducible refine (impl_Alu.calls 9 t242 t227 t244 t245 _ A26.out).mono ?_); rintro e w' ⟨rfl, ⟨nd, rfl⟩⟩; refine ⟨_, rfl, ?_⟩))
                go_ret
                exact ⟨by first | rfl | (simp [errW_none, errW_some] <;> rfl) | (simp only [← hji47, ← hji49]; first | rfl | (simp [errW_none, errW_some] <;> rfl)) | (simp [*, errW_none, errW_some] <;> rfl), by exact lq HB.out⟩
              ·rw [if_neg c58] at H
               have c58b0 : (t243 == 0) = false := beq_eq_false_iff_ne.mpr c58
               have c58b1 : (t243 != 0) = true := bne_iff_ne.mpr c58
               obtain rfl := Option.some.inj H
               go_wp2_with (first | ((with_reducible refine gate_callee (f := 23) rfl ?_); refine goesL_ (some 122) rfl rfl Try.func23 (by kernel_rfl) rfl #[.int .i64 10, .int .u32 t226, .int .u32 t227] rfl (by (try simp only [List.map_toArray, List.map_cons, List.map_nil]); first | done | rfl | (simp only [List.length_drop, List.length_take]; rfl)) ?_; (with_reducible refine (impl_Alu.calls 10 t226 t227 t242 t243 _ A23.out).mono ?_); rintro e w' ⟨rfl, ⟨nd, rfl⟩⟩; refine ⟨_, rfl, ?_⟩) | ((with_reducible refine gate_callee (f := 23) rfl ?_); refine goesL_ (some 136) rfl rfl Try.func23 (by kernel_rfl) rfl #[.int .i64 9, .int .u32 t242, .int .u32 t227] rfl (by (try simp only [List.map_toArray, List.map_cons, List.map_nil]); first | done | rfl | (simp only [List.length_drop, List.length_take]; rfl)) ?_; (with_reducible refine (impl_Alu.calls 9 t242 t227 t244 t245 _ A26.out).mono ?_); rintro e w' ⟨rfl, ⟨nd, rfl⟩⟩; refine ⟨_, rfl, ?_⟩))
               go_ret
               exact ⟨by first | rfl | (simp [errW_none, errW_some] <;> rfl) | (simp only [← hji47, ← hji49]; first | rfl | (simp [errW_none, errW_some] <;> rfl)) | (simp [*, errW_none, errW_some] <;> rfl), by exact lq HB.out⟩
            ·rw [if_neg c51] at H
             have c51b0 : decide ((wrap64 (t226)) < 0) = false := decide_eq_false c51
             clear c51
             by_cases c62 : t243 = 0
             ·rw [if_pos c62] at H
              have c62b0 : (t243 == 0) = true := beq_iff_eq.mpr c62
              have c62b1 : (t243 != 0) = false := bne_eq_false_iff_eq.mpr c62
              clear c62
              by_cases c63 : ((t226 - t244) % 4294967296) < t227
              ·rw [if_pos c63] at H
               have c63b0 : decide (((t226 - t244) % 4294967296) < t227) = true := decide_eq_true c63
               clear c63
               by_cases c64 : t244 ≤ t226
               ·rw [if_pos c64] at H
                have c64b0 : decide (t244 ≤ t226) = true := decide_eq_true c64
                clear c64
                replace H := Option.bind_eq_some_iff.mp H
                obtain ⟨t251, A650, H⟩ := H
                (try dsimp only at H)
                have A65 := Aside0.mk A650
                clear A650
                obtain rfl := Option.some.inj H
                go_wp2_with (first | ((with_reducible refine gate_callee (f := 23) rfl ?_); refine goesL_ (some 122) rfl rfl Try.func23 (by kernel_rfl) rfl #[.int .i64 10, .int .u32 t226, .int .u32 t227] rfl (by (try simp only [List.map_toArray, List.map_cons, List.map_nil]); first | done | rfl | (simp only [List.length_drop, List.length_take]; rfl)) ?_; (with_reducible refine (impl_Alu.calls 10 t226 t227 t242 t243 _ A23.out).mono ?_); rintro e w' ⟨rfl, ⟨nd, rfl⟩⟩; refine ⟨_, rfl, ?_⟩) | ((with_reducible refine gate_callee (f := 23) rfl ?_); refine goesL_ (some 136) rfl rfl Try.func23 (by kernel_rfl) rfl #[.int .i64 9, .int .u32 t242, .int .u32 t227] rfl (by (try simp only [List.map_toArray, List.map_cons, List.map_nil]); first | done | rfl | (simp only [List.length_drop, List.length_take]; rfl)) ?_; (with_reducible refine (impl_Alu.calls 9 t242 t227 t244 t245 _ A26.out).mono ?_); rintro e w' ⟨rfl, ⟨nd, rfl⟩⟩; refine ⟨_, rfl, ?_⟩) | (go_at_call 25; (with_reducible refine (impl_SarWord.calls t226 t227 t251 _ A65.out).mono ?_); rintro e w' ⟨rfl, ⟨nd, rfl⟩⟩))
                go_ret
                exact ⟨by first | rfl | (simp [errW_none, errW_some] <;> rfl) | (simp only [← hji47, ← hji49]; first | rfl | (simp [errW_none, errW_some] <;> rfl)) | (simp [*, errW_none, errW_some] <;> rfl), by exact lq HB.out⟩
               ·rw [if_neg c64] at H
                have c64b0 : decide (t244 ≤ t226) = false := decide_eq_false c64
                clear c64
                obtain rfl := Option.some.inj H
                go_wp2_with (first | ((with_reducible refine gate_callee (f := 23) rfl ?_); refine goesL_ (some 122) rfl rfl Try.func23 (by kernel_rfl) rfl #[.int .i64 10, .int .u32 t226, .int .u32 t227] rfl (by (try simp only [List.map_toArray, List.map_cons, List.map_nil]); first | done | rfl | (simp only [List.length_drop, List.length_take]; rfl)) ?_; (with_reducible refine (impl_Alu.calls 10 t226 t227 t242 t243 _ A23.out).mono ?_); rintro e w' ⟨rfl, ⟨nd, rfl⟩⟩; refine ⟨_, rfl, ?_⟩) | ((with_reducible refine gate_callee (f := 23) rfl ?_); refine goesL_ (some 136) rfl rfl Try.func23 (by kernel_rfl) rfl #[.int .i64 9, .int .u32 t242, .int .u32 t227] rfl (by (try simp only [List.map_toArray, List.map_cons, List.map_nil]); first | done | rfl | (simp only [List.length_drop, List.length_take]; rfl)) ?_; (with_reducible refine (impl_Alu.calls 9 t242 t227 t244 t245 _ A26.out).mono ?_); rintro e w' ⟨rfl, ⟨nd, rfl⟩⟩; refine ⟨_, rfl, ?_⟩))
                go_ret
                exact ⟨by first | rfl | (simp [errW_none, errW_some] <;> rfl) | (simp only [← hji47, ← hji49]; first | rfl | (simp [errW_none, errW_some] <;> rfl)) | (simp [*, errW_none, errW_some] <;> rfl), by exact lq HB.out⟩
              ·rw [if_neg c63] at H
               have c63b0 : decide (((t226 - t244) % 4294967296) < t227) = false := decide_eq_false c63
               clear c63
               obtain rfl := Option.some.inj H
               go_wp2_with (first | ((with_reducible refine gate_callee (f := 23) rfl ?_); refine goesL_ (some 122) rfl rfl Try.func23 (by kernel_rfl) rfl #[.int .i64 10, .int .u32 t226, .int .u32 t227] rfl (by (try simp only [List.map_toArray, List.map_cons, List.map_nil]); first | done | rfl | (simp only [List.length_drop, List.length_take]; rfl)) ?_; (with_reducible refine (impl_Alu.calls 10 t226 t227 t242 t243 _ A23.out).mono ?_); rintro e w' ⟨rfl, ⟨nd, rfl⟩⟩; refine ⟨_, rfl, ?_⟩) | ((with_reducible refine gate_callee (f := 23) rfl ?_); refine goesL_ (some 136) rfl rfl Try.func23 (by kernel_rfl) rfl #[.int .i64 9, .int .u32 t242, .int .u32 t227] rfl (by (try simp only [List.map_toArray, List.map_cons, List.map_nil]); first | done | rfl | (simp only [List.length_drop, List.length_take]; rfl)) ?_; (with_reducible refine (impl_Alu.calls 9 t242 t227 t244 t245 _ A26.out).mono ?_); rintro e w' ⟨rfl, ⟨nd, rfl⟩⟩; refine ⟨_, rfl, ?_⟩))
               go_ret
               exact ⟨by first | rfl | (simp [errW_none, errW_some] <;> rfl) | (simp only [← hji47, ← hji49]; first | rfl | (simp [errW_none, errW_some] <;> rfl)) | (simp [*, errW_none, errW_some] <;> rfl), by exact lq HB.out⟩
             ·rw [if_neg c62] at H
              have c62b0 : (t243 == 0) = false := beq_eq_false_iff_ne.mpr c62
              have c62b1 : (t243 != 0) = true := bne_iff_ne.mpr c62
              obtain rfl := Option.some.inj H
              go_wp2_with (first | ((with_reducible refine gate_callee (f := 23) rfl ?_); refine goesL_ (some 122) rfl rfl Try.func23 (by kernel_rfl) rfl #[.int .i64 10, .int .u32 t226, .int .u32 t227] rfl (by (try simp only [List.map_toArray, List.map_cons, List.map_nil]); first | done | rfl | (simp only [List.length_drop, List.length_take]; rfl)) ?_; (with_reducible refine (impl_Alu.calls 10 t226 t227 t242 t243 _ A23.out).mono ?_); rintro e w' ⟨rfl, ⟨nd, rfl⟩⟩; refine ⟨_, rfl, ?_⟩) | ((with_reducible refine gate_callee (f := 23) rfl ?_); refine goesL_ (some 136) rfl rfl Try.func23 (by kernel_rfl) rfl #[.int .i64 9, .int .u32 t242, .int .u32 t227] rfl (by (try simp only [List.map_toArray, List.map_cons, List.map_nil]); first | done | rfl | (simp only [List.length_drop, List.length_take]; rfl)) ?_; (with_reducible refine (impl_Alu.calls 9 t242 t227 t244 t245 _ A26.out).mono ?_); rintro e w' ⟨rfl, ⟨nd, rfl⟩⟩; refine ⟨_, rfl, ?_⟩))
              go_ret
              exact ⟨by first | rfl | (simp [errW_none, errW_some] <;> rfl) | (simp only [← hji47, ← hji49]; first | rfl | (simp [errW_none, errW_some] <;> rfl)) | (simp [*, errW_none, errW_some] <;> rfl), by exact lq HB.out⟩
          ·rw [if_neg c48] at H
           exact absurd H (by simp)

/-- THE ONE PURE STATEMENT of laws_FnArithmetic: yours. -/
def laws_FnArithmetic.Pure : Prop := ∀ (l0 : List Int), l0.length ≤ maxLen → l0.length * 1 ≤ 140737488351232 → (∀ x ∈ l0, (Lit.int .u8 x).wf = true) → ∃ k, laws_FnArithmetic.f k l0 = some true
theorem laws_FnArithmetic.walk (P : laws_FnArithmetic.Pure) (a0 : Option Addr) (len0 cap0 : Nat) (z0 : List Int) (w : World) (w0 : (a0 = none ∧ len0 = 0 ∧ cap0 = 0 ∧ z0 = []) ∨ ∃ x, a0 = some x ∧ len0 ≤ cap0 ∧ cap0 ≤ maxLen ∧ z0.length = cap0 ∧ (∀ i, i < z0.length → w.cell? (x.add i) = some (.int .u8 (z0.getD i 0))) ∧ ∀ n ∈ z0, (Lit.int .u8 n).wf = true) (y0 : len0 * 1 ≤ 140737488351232) :
  Calls Try.prog 6 #[.slice a0 len0 cap0] w fun e w' => e = .returned (.bool true) ∧ Below w.heap.size w w' := by
 obtain ⟨l0, rfl, hr0, hm0, hw0, hc0⟩ := ReadsInt.ofRowC w0
 obtain ⟨k, h⟩ := P l0 hm0 y0 hw0
 refine (laws_FnArithmetic.calls k _ _ l0 true w (Kd.C_of_reads (d := (0 : Int)) (h1 := fun _ => rfl) hr0) hc0 h).mono ?_
 rintro e w' ⟨rfl, hd⟩
 exact ⟨rfl, hd⟩

end Go.Proofs.Ytpdfihapnnnglaa.GB
