/- Told by a program of this session, out of the translation: each function of the group as a plain Lean function, and that Go's call comes to just its answer. Lean checks it. -/
import Derived.Test.YtbcpkigeginmnaaGFx0K
import Derived.Test.YtbcpkigeginmnaaWinFK
namespace Go.Proofs.Ytbcpkigeginmnaa.GF
open Go.RowKit Go.Proofs.YtbcpkigeginmnaaW.PrintWords Go.Proofs.YtbcpkigeginmnaaW.PrintLast Go.Proofs.YtbcpkigeginmnaaW.PrintMore Go.Proofs.Ytbcpkigeginmnaa.Q
attribute [local go_sem] max2_int min2_int max_two min_two max_three min_three max_four min_four   -- for this text's walks alone
set_option linter.unusedVariables false
set_option linter.unusedSimpArgs false

/-! ### impl_faultAt: function 81 -/
def impl_faultAt.j0 : Nat → List (S70) → Int → Int → Int → Bool → Option (Int)
 | 0, _, _, _, _, _ => none
 | k + 1, x0, x1, x2, x3, x27 => if x27 = true then (some 9) else (if x2 = 0 then (none) else (if (Int.tmod (wrap64 (x1)) x2) = 0 then ((impl_windowAt.f x0 (wrap64 (x1))).bind fun t233 => (if t233 < 0 then (some 2) else (if 0 ≤ t233 then (if t233 < (x0.length : Int) then (if (Go.bits .and .i64 ((rd_T70 x0 t233).f2) x3) = 0 then (some 3) else (some 0)) else (none)) else (none)))) else (some 1)))
def impl_faultAt.f (k : Nat) (l0 : List (S70)) (a1 : Int) (a2 : Int) (a3 : Int) : Option (Int) := if a2 = 1 then (if a3 = 1 then (impl_faultAt.j0 k l0 a1 a2 a3 false) else (if a3 = 2 then (impl_faultAt.j0 k l0 a1 a2 a3 false) else (impl_faultAt.j0 k l0 a1 a2 a3 (a3 != 4)))) else (if a2 = 4 then (if a3 = 1 then (impl_faultAt.j0 k l0 a1 a2 a3 false) else (if a3 = 2 then (impl_faultAt.j0 k l0 a1 a2 a3 false) else (impl_faultAt.j0 k l0 a1 a2 a3 (a3 != 4)))) else (impl_faultAt.j0 k l0 a1 a2 a3 true))
set_option maxHeartbeats 8000000 in
set_option maxRecDepth 100000 in
theorem impl_faultAt.calls (k : Nat) (A0 : Option Addr) (c0 : Nat) (l0 : List (S70)) (a1 : Int) (a2 : Int) (a3 : Int) (r : Int) (w : World) (hr0 : Kd.C k70 w A0 l0.length l0) (hc0 : l0.length ≤ c0) (h : impl_faultAt.f k l0 a1 a2 a3 = some r) :
  Calls Try.prog 81 #[.slice A0 l0.length c0, .int .u32 a1, .int .i64 a2, .int .i64 a3] w fun e w' => e = .returned (.int .i64 r) ∧ Below w.heap.size w w' := by
 have HR0 := Aside0.mk hr0
 have HC0 := Aside0.mk hc0
 clear hr0 hc0
 have HB := Aside0.mk (Below.refl w.heap.size w)
 have H : (if a2 = 1 then (if a3 = 1 then (impl_faultAt.j0 k l0 a1 a2 a3 false) else (if a3 = 2 then (impl_faultAt.j0 k l0 a1 a2 a3 false) else (impl_faultAt.j0 k l0 a1 a2 a3 (a3 != 4)))) else (if a2 = 4 then (if a3 = 1 then (impl_faultAt.j0 k l0 a1 a2 a3 false) else (if a3 = 2 then (impl_faultAt.j0 k l0 a1 a2 a3 false) else (impl_faultAt.j0 k l0 a1 a2 a3 (a3 != 4)))) else (impl_faultAt.j0 k l0 a1 a2 a3 true))) = some r := h
 clear h
 have HC5 := Aside0.mk H
 clear H
 go_enter Try.func81, Try.ntmps81
 go_upto_region 1 with (fail)
 go_cut [27] (fun v27 wc => ∃ (kq : Nat) (x27_4 : Bool), v27 = .bool x27_4 ∧ Aside0 (impl_faultAt.j0 kq l0 a1 a2 a3 x27_4 = some r) ∧ Aside0 (kq ≤ k) ∧ Aside0 (Below w.heap.size w wc))
 case first =>
  have H := HC5.out
  clear HC5
  by_cases c6 : a2 = 1
  ·rw [if_pos c6] at H
   have c6b0 : (a2 == 1) = true := beq_iff_eq.mpr c6
   have c6b1 : (a2 != 1) = false := bne_eq_false_iff_eq.mpr c6
   clear c6
   (first | rw [c6b0] | (simp only [i64_w, i32_w]; rw [c6b0]) | skip)
   by_cases c7 : a3 = 1
   ·rw [if_pos c7] at H
    have c7b0 : (a3 == 1) = true := beq_iff_eq.mpr c7
    have c7b1 : (a3 != 1) = false := bne_eq_false_iff_eq.mpr c7
    clear c7
    have H' := Aside0.mk H
    clear H
    go_wp2
    go_meet
    case rel => exact ⟨_, (false), (by first | rfl | (simp; done) | (simp [*]; done)), H', ⟨by first | omega | exact Nat.le_refl _⟩, ⟨by exact lq HB.out⟩⟩
   ·rw [if_neg c7] at H
    have c7b0 : (a3 == 1) = false := beq_eq_false_iff_ne.mpr c7
    have c7b1 : (a3 != 1) = true := bne_iff_ne.mpr c7
    by_cases c8 : a3 = 2
    ·rw [if_pos c8] at H
     have c8b0 : (a3 == 2) = true := beq_iff_eq.mpr c8
     have c8b1 : (a3 != 2) = false := bne_eq_false_iff_eq.mpr c8
     clear c8
     have H' := Aside0.mk H
     clear H
     go_wp2
     go_meet
     case rel => exact ⟨_, (false), (by first | rfl | (simp; done) | (simp [*]; done)), H', ⟨by first | omega | exact Nat.le_refl _⟩, ⟨by exact lq HB.out⟩⟩
    ·rw [if_neg c8] at H
     have c8b0 : (a3 == 2) = false := beq_eq_false_iff_ne.mpr c8
     have c8b1 : (a3 != 2) = true := bne_iff_ne.mpr c8
     have H' := Aside0.mk H
     clear H
     go_wp2
     go_meet
     case rel => exact ⟨_, ((a3 != 4)), (by first | rfl | (simp; done) | (simp [*]; done)), H', ⟨by first | omega | exact Nat.le_refl _⟩, ⟨by exact lq HB.out⟩⟩
  ·rw [if_neg c6] at H
   have c6b0 : (a2 == 1) = false := beq_eq_false_iff_ne.mpr c6
   have c6b1 : (a2 != 1) = true := bne_iff_ne.mpr c6
   (first | rw [c6b0] | (simp only [i64_w, i32_w]; rw [c6b0]) | skip)
   by_cases c9 : a2 = 4
   ·rw [if_pos c9] at H
    have c9b0 : (a2 == 4) = true := beq_iff_eq.mpr c9
    have c9b1 : (a2 != 4) = false := bne_eq_false_iff_eq.mpr c9
    clear c9
    by_cases c10 : a3 = 1
    ·rw [if_pos c10] at H
     have c10b0 : (a3 == 1) = true := beq_iff_eq.mpr c10
     have c10b1 : (a3 != 1) = false := bne_eq_false_iff_eq.mpr c10
     clear c10
     have H' := Aside0.mk H
     clear H
     go_wp2
     go_meet
     case rel => exact ⟨_, (false), (by first | rfl | (simp; done) | (simp [*]; done)), H', ⟨by first | omega | exact Nat.le_refl _⟩, ⟨by exact lq HB.out⟩⟩
    ·rw [if_neg c10] at H
     have c10b0 : (a3 == 1) = false := beq_eq_false_iff_ne.mpr c10
     have c10b1 : (a3 != 1) = true := bne_iff_ne.mpr c10
     by_cases c11 : a3 = 2
     ·rw [if_pos c11] at H
      have c11b0 : (a3 == 2) = true := beq_iff_eq.mpr c11
      have c11b1 : (a3 != 2) = false := bne_eq_false_iff_eq.mpr c11
      clear c11
      have H' := Aside0.mk H
      clear H
      go_wp2
      go_meet
      case rel => exact ⟨_, (false), (by first | rfl | (simp; done) | (simp [*]; done)), H', ⟨by first | omega | exact Nat.le_refl _⟩, ⟨by exact lq HB.out⟩⟩
     ·rw [if_neg c11] at H
      have c11b0 : (a3 == 2) = false := beq_eq_false_iff_ne.mpr c11
      have c11b1 : (a3 != 2) = true := bne_iff_ne.mpr c11
      have H' := Aside0.mk H
      clear H
      go_wp2
      go_meet
      case rel => exact ⟨_, ((a3 != 4)), (by first | rfl | (simp; done) | (simp [*]; done)), H', ⟨by first | omega | exact Nat.le_refl _⟩, ⟨by exact lq HB.out⟩⟩
   ·rw [if_neg c9] at H
    have c9b0 : (a2 == 4) = false := beq_eq_false_iff_ne.mpr c9
    have c9b1 : (a2 != 4) = true := bne_iff_ne.mpr c9
    have H' := Aside0.mk H
    clear H
    go_wp2
    go_meet
    case rel => exact ⟨_, (true), (by first | rfl | (simp; done) | (simp [*]; done)), H', ⟨by first | omega | exact Nat.le_refl _⟩, ⟨by exact lq HB.out⟩⟩
 case rest =>
  clear HC5
  try clear c1
  try clear p2
  try clear c6
  try clear c6b0
  try clear c6b1
  try clear c7
  try clear c7b0
  try clear c7b1
  try clear c8
  try clear c8b0
  try clear c8b1
  try clear c9
  try clear c9b0
  try clear c9b1
  try clear c10
  try clear c10b0
  try clear c10b1
  try clear c11
  try clear c11b0
  try clear c11b1
  obtain ⟨kq, x27_4, rfl, HA, HJ4, HB⟩ := hcut
  cases kq with
  | zero => exact absurd HA.out (by simp [impl_faultAt.j0])
  | succ kj4 =>
   have H := HA.out
   clear HA
   simp only [impl_faultAt.j0] at H
   by_cases c12 : x27_4 = true
   ·subst c12
    rw [if_pos rfl] at H
    obtain rfl := Option.some.inj H
    go_wp2
    go_ret
    exact ⟨by first | rfl | (simp [errW_none, errW_some] <;> rfl) | (simp [*, errW_none, errW_some] <;> rfl), by exact lq HB.out⟩
   ·replace c12 := Bool.eq_false_iff.mpr c12
    subst c12
    rw [if_neg (show ¬ (false = true) by decide)] at H
    by_cases c13 : a2 = 0
    ·rw [if_pos c13] at H
     exact absurd H (by simp)
    ·rw [if_neg c13] at H
     have c13b0 : (a2 == 0) = false := beq_eq_false_iff_ne.mpr c13
     have c13b1 : (a2 != 0) = true := bne_iff_ne.mpr c13
     by_cases c14 : (Int.tmod (wrap64 (a1)) a2) = 0
     ·rw [if_pos c14] at H
      have c14b0 : ((Int.tmod (wrap64 (a1)) a2) == 0) = true := beq_iff_eq.mpr c14
      have c14b1 : ((Int.tmod (wrap64 (a1)) a2) != 0) = false := bne_eq_false_iff_eq.mpr c14
      clear c14
      replace H := Option.bind_eq_some_iff.mp H
      obtain ⟨t233, A150, H⟩ := H
      (try dsimp only at H)
      have A15 := Aside0.mk A150
      clear A150
      by_cases c16 : t233 < 0
      ·rw [if_pos c16] at H
       have c16b0 : decide (t233 < 0) = true := decide_eq_true c16
       clear c16
       obtain rfl := Option.some.inj H
       go_wp2_with (first | ((with_reducible refine gate_callee (f := 82) rfl ?_); refine goesL_ (some 36) rfl rfl Try.func82 (by kernel_rfl) rfl #[.slice A0 l0.length c0, .int .i64 (wrap64 (a1))] rfl (by (try simp only [List.map_toArray, List.map_cons, List.map_nil]); first | done | rfl | (simp only [List.length_drop, List.length_take]; rfl)) ?_; (with_reducible refine (impl_windowAt.calls _ _ l0 (wrap64 (a1)) t233 _ ?side1 ?side2 A15.out).mono ?_); (case side1 => repeat (first | exact (Kd.C_below HR0.out HB.out) | (with_reducible refine Kd.C_alloc ?_ _) | (with_reducible refine Kd.C_drewN ?_ _) | (with_reducible refine Kd.C_drew ?_))); (case side2 => exact HC0.out); rintro e w17 ⟨rfl, hb⟩; refine ⟨_, rfl, ?_⟩; have n0_ := Aside0.mk (below_step (lq HB.out) hb); clear HB; have HB := n0_; clear n0_; (try clear hb); (try clear hb2); (try clear hk); (try clear hi)))
       go_ret
       exact ⟨by first | rfl | (simp [errW_none, errW_some] <;> rfl) | (simp [*, errW_none, errW_some] <;> rfl), by exact lq HB.out⟩
      ·rw [if_neg c16] at H
       have c16b0 : decide (t233 < 0) = false := decide_eq_false c16
       clear c16
       by_cases c18 : 0 ≤ t233
       ·rw [if_pos c18] at H
        have c18b0 : decide (0 ≤ t233) = true := decide_eq_true c18
        clear c18
        by_cases c19 : t233 < (l0.length : Int)
        ·rw [if_pos c19] at H
         have c19b0 : decide (t233 < (l0.length : Int)) = true := decide_eq_true c19
         clear c19
         by_cases c20 : (Go.bits .and .i64 ((rd_T70 l0 t233).f2) a3) = 0
         ·rw [if_pos c20] at H
          have c20b0 : ((Go.bits .and .i64 ((rd_T70 l0 t233).f2) a3) == 0) = true := beq_iff_eq.mpr c20
          have c20b1 : ((Go.bits .and .i64 ((rd_T70 l0 t233).f2) a3) != 0) = false := bne_eq_false_iff_eq.mpr c20
          clear c20
          obtain rfl := Option.some.inj H
          go_wp2_with (first | ((with_reducible refine gate_callee (f := 82) rfl ?_); refine goesL_ (some 36) rfl rfl Try.func82 (by kernel_rfl) rfl #[.slice A0 l0.length c0, .int .i64 (wrap64 (a1))] rfl (by (try simp only [List.map_toArray, List.map_cons, List.map_nil]); first | done | rfl | (simp only [List.length_drop, List.length_take]; rfl)) ?_; (with_reducible refine (impl_windowAt.calls _ _ l0 (wrap64 (a1)) t233 _ ?side1 ?side2 A15.out).mono ?_); (case side1 => repeat (first | exact (Kd.C_below HR0.out HB.out) | (with_reducible refine Kd.C_alloc ?_ _) | (with_reducible refine Kd.C_drewN ?_ _) | (with_reducible refine Kd.C_drew ?_))); (case side2 => exact HC0.out); rintro e w21 ⟨rfl, hb⟩; refine ⟨_, rfl, ?_⟩; have n0_ := Aside0.mk (below_step (lq HB.out) hb); clear HB; have HB := n0_; clear n0_; (try clear hb); (try clear hb2); (try clear hk); (try clear hi); have p234 : 0 ≤ (t233 : Int) := of_decide_eq_true (by first | (with_reducible assumption) | assumption); have q234 : t233 < (l0.length : Int) := of_decide_eq_true (by first | (with_reducible assumption) | assumption); obtain ⟨ad234, e234, hx234_0, hx234_1, hx234_2⟩ := at_T70 HR0.out t233 p234 q234; cases e234; replace hx234_0 := (HB.out.cell (World.block_lt_of_cell? w _ hx234_0)).trans hx234_0; replace hx234_1 := (HB.out.cell (World.block_lt_of_cell? w _ hx234_1)).trans hx234_1; replace hx234_2 := (HB.out.cell (World.block_lt_of_cell? w _ hx234_2)).trans hx234_2; replace p234 := eq_true p234; replace q234 := eq_true q234))
          go_ret
          exact ⟨by first | rfl | (simp [errW_none, errW_some] <;> rfl) | (simp [*, errW_none, errW_some] <;> rfl), by exact lq HB.out⟩
         ·rw [if_neg c20] at H
          have c20b0 : ((Go.bits .and .i64 ((rd_T70 l0 t233).f2) a3) == 0) = false := beq_eq_false_iff_ne.mpr c20
          have c20b1 : ((Go.bits .and .i64 ((rd_T70 l0 t233).f2) a3) != 0) = true := bne_iff_ne.mpr c20
          obtain rfl := Option.some.inj H
          go_wp2_with (first | ((with_reducible refine gate_callee (f := 82) rfl ?_); refine goesL_ (some 36) rfl rfl Try.func82 (by kernel_rfl) rfl #[.slice A0 l0.length c0, .int .i64 (wrap64 (a1))] rfl (by (try simp only [List.map_toArray, List.map_cons, List.map_nil]); first | done | rfl | (simp only [List.length_drop, List.length_take]; rfl)) ?_; (with_reducible refine (impl_windowAt.calls _ _ l0 (wrap64 (a1)) t233 _ ?side1 ?side2 A15.out).mono ?_); (case side1 => repeat (first | exact (Kd.C_below HR0.out HB.out) | (with_reducible refine Kd.C_alloc ?_ _) | (with_reducible refine Kd.C_drewN ?_ _) | (with_reducible refine Kd.C_drew ?_))); (case side2 => exact HC0.out); rintro e w22 ⟨rfl, hb⟩; refine ⟨_, rfl, ?_⟩; have n0_ := Aside0.mk (below_step (lq HB.out) hb); clear HB; have HB := n0_; clear n0_; (try clear hb); (try clear hb2); (try clear hk); (try clear hi); have p234 : 0 ≤ (t233 : Int) := of_decide_eq_true (by first | (with_reducible assumption) | assumption); have q234 : t233 < (l0.length : Int) := of_decide_eq_true (by first | (with_reducible assumption) | assumption); obtain ⟨ad234, e234, hx234_0, hx234_1, hx234_2⟩ := at_T70 HR0.out t233 p234 q234; cases e234; replace hx234_0 := (HB.out.cell (World.block_lt_of_cell? w _ hx234_0)).trans hx234_0; replace hx234_1 := (HB.out.cell (World.block_lt_of_cell? w _ hx234_1)).trans hx234_1; replace hx234_2 := (HB.out.cell (World.block_lt_of_cell? w _ hx234_2)).trans hx234_2; replace p234 := eq_true p234; replace q234 := eq_true q234))
          go_ret
          exact ⟨by first | rfl | (simp [errW_none, errW_some] <;> rfl) | (simp [*, errW_none, errW_some] <;> rfl), by exact lq HB.out⟩
        ·rw [if_neg c19] at H
         exact absurd H (by simp)
       ·rw [if_neg c18] at H
        exact absurd H (by simp)
     ·rw [if_neg c14] at H
      have c14b0 : ((Int.tmod (wrap64 (a1)) a2) == 0) = false := beq_eq_false_iff_ne.mpr c14
      have c14b1 : ((Int.tmod (wrap64 (a1)) a2) != 0) = true := bne_iff_ne.mpr c14
      obtain rfl := Option.some.inj H
      go_wp2
      go_ret
      exact ⟨by first | rfl | (simp [errW_none, errW_some] <;> rfl) | (simp [*, errW_none, errW_some] <;> rfl), by exact lq HB.out⟩

/-! ### impl_WordOf: function 83 -/
end Go.Proofs.Ytbcpkigeginmnaa.GF
