/- Told by a program of this session, out of the translation: each function of the group as a plain Lean function, and that Go's call comes to just its answer. Lean checks it. -/
import Derived.Test.YtbcpkigeginmnaaGFx0K
import Derived.Test.YtbcpkigeginmnaaGFx7K
import Derived.Test.YtbcpkigeginmnaaGFx13K
namespace Go.Proofs.Ytbcpkigeginmnaa.GF
open Go.RowKit Go.Proofs.YtbcpkigeginmnaaW.PrintWords Go.Proofs.YtbcpkigeginmnaaW.PrintLast Go.Proofs.YtbcpkigeginmnaaW.PrintMore Go.Proofs.Ytbcpkigeginmnaa.Q
attribute [local go_sem] max2_int min2_int max_two min_two max_three min_three max_four min_four   -- for this text's walks alone
set_option linter.unusedVariables false
set_option linter.unusedSimpArgs false

/-! ### spec_l08Get: function 61 -/
/-! ### spec_l07Fault: function 80 -/
def spec_l07Fault.f (k : Nat) (l0 : List (S70)) (a1 : Int) (a2 : Int) (a3 : Int) : Option (Int) := if a2 = 0 then (none) else (if (Int.tmod (wrap64 (a1)) a2) = 0 then ((spec_l07At.f k l0 (wrap64 (a1))).bind fun t255 => (if t255 < 0 then (some 2) else (if 0 ≤ t255 then (if t255 < (l0.length : Int) then (if a3 = 0 then (none) else (if (Int.tmod (wrap64 (Int.tdiv ((rd_T70 l0 t255).f2) a3)) 2) = 0 then (some 3) else (some 0))) else (none)) else (none)))) else (some 1))
set_option maxHeartbeats 8000000 in
set_option maxRecDepth 100000 in
theorem spec_l07Fault.calls (k : Nat) (A0 : Option Addr) (c0 : Nat) (l0 : List (S70)) (a1 : Int) (a2 : Int) (a3 : Int) (r : Int) (w : World) (hr0 : Kd.C k70 w A0 l0.length l0) (hc0 : l0.length ≤ c0) (h : spec_l07Fault.f k l0 a1 a2 a3 = some r) :
  Calls Try.prog 80 #[.slice A0 l0.length c0, .int .u32 a1, .int .i64 a2, .int .i64 a3] w fun e w' => e = .returned (.int .i64 r) ∧ Below w.heap.size w w' := by
 have HR0 := Aside0.mk hr0
 have HC0 := Aside0.mk hc0
 clear hr0 hc0
 have HB := Aside0.mk (Below.refl w.heap.size w)
 have H : (if a2 = 0 then (none) else (if (Int.tmod (wrap64 (a1)) a2) = 0 then ((spec_l07At.f k l0 (wrap64 (a1))).bind fun t255 => (if t255 < 0 then (some 2) else (if 0 ≤ t255 then (if t255 < (l0.length : Int) then (if a3 = 0 then (none) else (if (Int.tmod (wrap64 (Int.tdiv ((rd_T70 l0 t255).f2) a3)) 2) = 0 then (some 3) else (some 0))) else (none)) else (none)))) else (some 1))) = some r := h
 clear h
 by_cases c5 : a2 = 0
 ·rw [if_pos c5] at H
  exact absurd H (by simp)
 ·rw [if_neg c5] at H
  have c5b0 : (a2 == 0) = false := beq_eq_false_iff_ne.mpr c5
  have c5b1 : (a2 != 0) = true := bne_iff_ne.mpr c5
  by_cases c6 : (Int.tmod (wrap64 (a1)) a2) = 0
  ·rw [if_pos c6] at H
   have c6b0 : ((Int.tmod (wrap64 (a1)) a2) == 0) = true := beq_iff_eq.mpr c6
   have c6b1 : ((Int.tmod (wrap64 (a1)) a2) != 0) = false := bne_eq_false_iff_eq.mpr c6
   clear c6
   replace H := Option.bind_eq_some_iff.mp H
   obtain ⟨t255, A70, H⟩ := H
   (try dsimp only at H)
   have A7 := Aside0.mk A70
   clear A70
   by_cases c8 : t255 < 0
   ·rw [if_pos c8] at H
    have c8b0 : decide (t255 < 0) = true := decide_eq_true c8
    clear c8
    obtain rfl := Option.some.inj H
    go_enter Try.func80, Try.ntmps80
    go_wp2_with (first | ((with_reducible refine gate_callee (f := 84) rfl ?_); refine goesL_ (some 19) rfl rfl Try.func84 (by kernel_rfl) rfl #[.slice A0 l0.length c0, .int .i64 (wrap64 (a1))] rfl (by (try simp only [List.map_toArray, List.map_cons, List.map_nil]); first | done | rfl | (simp only [List.length_drop, List.length_take]; rfl)) ?_; (with_reducible refine (spec_l07At.calls k _ _ l0 (wrap64 (a1)) t255 _ ?side1 ?side2 A7.out).mono ?_); (case side1 => repeat (first | exact HR0.out | (with_reducible refine Kd.C_alloc ?_ _) | (with_reducible refine Kd.C_drewN ?_ _) | (with_reducible refine Kd.C_drew ?_))); (case side2 => exact HC0.out); rintro e w9 ⟨rfl, hb⟩; refine ⟨_, rfl, ?_⟩; have n0_ := Aside0.mk (below_step (lq HB.out) hb); clear HB; have HB := n0_; clear n0_; (try clear hb); (try clear hb2); (try clear hk); (try clear hi)))
    go_ret
    exact ⟨by first | rfl | (simp [errW_none, errW_some] <;> rfl) | (simp [*, errW_none, errW_some] <;> rfl), by exact lq HB.out⟩
   ·rw [if_neg c8] at H
    have c8b0 : decide (t255 < 0) = false := decide_eq_false c8
    clear c8
    by_cases c10 : 0 ≤ t255
    ·rw [if_pos c10] at H
     have c10b0 : decide (0 ≤ t255) = true := decide_eq_true c10
     clear c10
     by_cases c11 : t255 < (l0.length : Int)
     ·rw [if_pos c11] at H
      have c11b0 : decide (t255 < (l0.length : Int)) = true := decide_eq_true c11
      clear c11
      by_cases c12 : a3 = 0
      ·rw [if_pos c12] at H
       exact absurd H (by simp)
      ·rw [if_neg c12] at H
       have c12b0 : (a3 == 0) = false := beq_eq_false_iff_ne.mpr c12
       have c12b1 : (a3 != 0) = true := bne_iff_ne.mpr c12
       by_cases c13 : (Int.tmod (wrap64 (Int.tdiv ((rd_T70 l0 t255).f2) a3)) 2) = 0
       ·rw [if_pos c13] at H
        have c13b0 : ((Int.tmod (wrap64 (Int.tdiv ((rd_T70 l0 t255).f2) a3)) 2) == 0) = true := beq_iff_eq.mpr c13
        have c13b1 : ((Int.tmod (wrap64 (Int.tdiv ((rd_T70 l0 t255).f2) a3)) 2) != 0) = false := bne_eq_false_iff_eq.mpr c13
        clear c13
        obtain rfl := Option.some.inj H
        go_enter Try.func80, Try.ntmps80
        go_wp2_with (first | ((with_reducible refine gate_callee (f := 84) rfl ?_); refine goesL_ (some 19) rfl rfl Try.func84 (by kernel_rfl) rfl #[.slice A0 l0.length c0, .int .i64 (wrap64 (a1))] rfl (by (try simp only [List.map_toArray, List.map_cons, List.map_nil]); first | done | rfl | (simp only [List.length_drop, List.length_take]; rfl)) ?_; (with_reducible refine (spec_l07At.calls k _ _ l0 (wrap64 (a1)) t255 _ ?side1 ?side2 A7.out).mono ?_); (case side1 => repeat (first | exact HR0.out | (with_reducible refine Kd.C_alloc ?_ _) | (with_reducible refine Kd.C_drewN ?_ _) | (with_reducible refine Kd.C_drew ?_))); (case side2 => exact HC0.out); rintro e w14 ⟨rfl, hb⟩; refine ⟨_, rfl, ?_⟩; have n0_ := Aside0.mk (below_step (lq HB.out) hb); clear HB; have HB := n0_; clear n0_; (try clear hb); (try clear hb2); (try clear hk); (try clear hi); have p256 : 0 ≤ (t255 : Int) := of_decide_eq_true (by first | (with_reducible assumption) | assumption); have q256 : t255 < (l0.length : Int) := of_decide_eq_true (by first | (with_reducible assumption) | assumption); obtain ⟨ad256, e256, hx256_0, hx256_1, hx256_2⟩ := at_T70 HR0.out t255 p256 q256; cases e256; replace hx256_0 := (HB.out.cell (World.block_lt_of_cell? w _ hx256_0)).trans hx256_0; replace hx256_1 := (HB.out.cell (World.block_lt_of_cell? w _ hx256_1)).trans hx256_1; replace hx256_2 := (HB.out.cell (World.block_lt_of_cell? w _ hx256_2)).trans hx256_2; replace p256 := eq_true p256; replace q256 := eq_true q256))
        go_ret
        exact ⟨by first | rfl | (simp [errW_none, errW_some] <;> rfl) | (simp [*, errW_none, errW_some] <;> rfl), by exact lq HB.out⟩
       ·rw [if_neg c13] at H
        have c13b0 : ((Int.tmod (wrap64 (Int.tdiv ((rd_T70 l0 t255).f2) a3)) 2) == 0) = false := beq_eq_false_iff_ne.mpr c13
        have c13b1 : ((Int.tmod (wrap64 (Int.tdiv ((rd_T70 l0 t255).f2) a3)) 2) != 0) = true := bne_iff_ne.mpr c13
        obtain rfl := Option.some.inj H
        go_enter Try.func80, Try.ntmps80
        go_wp2_with (first | ((with_reducible refine gate_callee (f := 84) rfl ?_); refine goesL_ (some 19) rfl rfl Try.func84 (by kernel_rfl) rfl #[.slice A0 l0.length c0, .int .i64 (wrap64 (a1))] rfl (by (try simp only [List.map_toArray, List.map_cons, List.map_nil]); first | done | rfl | (simp only [List.length_drop, List.length_take]; rfl)) ?_; (with_reducible refine (spec_l07At.calls k _ _ l0 (wrap64 (a1)) t255 _ ?side1 ?side2 A7.out).mono ?_); (case side1 => repeat (first | exact HR0.out | (with_reducible refine Kd.C_alloc ?_ _) | (with_reducible refine Kd.C_drewN ?_ _) | (with_reducible refine Kd.C_drew ?_))); (case side2 => exact HC0.out); rintro e w15 ⟨rfl, hb⟩; refine ⟨_, rfl, ?_⟩; have n0_ := Aside0.mk (below_step (lq HB.out) hb); clear HB; have HB := n0_; clear n0_; (try clear hb); (try clear hb2); (try clear hk); (try clear hi); have p256 : 0 ≤ (t255 : Int) := of_decide_eq_true (by first | (with_reducible assumption) | assumption); have q256 : t255 < (l0.length : Int) := of_decide_eq_true (by first | (with_reducible assumption) | assumption); obtain ⟨ad256, e256, hx256_0, hx256_1, hx256_2⟩ := at_T70 HR0.out t255 p256 q256; cases e256; replace hx256_0 := (HB.out.cell (World.block_lt_of_cell? w _ hx256_0)).trans hx256_0; replace hx256_1 := (HB.out.cell (World.block_lt_of_cell? w _ hx256_1)).trans hx256_1; replace hx256_2 := (HB.out.cell (World.block_lt_of_cell? w _ hx256_2)).trans hx256_2; replace p256 := eq_true p256; replace q256 := eq_true q256))
        go_ret
        exact ⟨by first | rfl | (simp [errW_none, errW_some] <;> rfl) | (simp [*, errW_none, errW_some] <;> rfl), by exact lq HB.out⟩
     ·rw [if_neg c11] at H
      exact absurd H (by simp)
    ·rw [if_neg c10] at H
     exact absurd H (by simp)
  ·rw [if_neg c6] at H
   have c6b0 : ((Int.tmod (wrap64 (a1)) a2) == 0) = false := beq_eq_false_iff_ne.mpr c6
   have c6b1 : ((Int.tmod (wrap64 (a1)) a2) != 0) = true := bne_iff_ne.mpr c6
   obtain rfl := Option.some.inj H
   go_enter Try.func80, Try.ntmps80
   go_wp2
   go_ret
   exact ⟨by first | rfl | (simp [errW_none, errW_some] <;> rfl) | (simp [*, errW_none, errW_some] <;> rfl), by exact lq HB.out⟩

/-! ### spec_l08Fetch: function 58 -/
/-! ### spec_Fetch: function 25 -/
end Go.Proofs.Ytbcpkigeginmnaa.GF
