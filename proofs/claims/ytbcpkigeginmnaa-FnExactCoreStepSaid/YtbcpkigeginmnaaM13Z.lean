/- Plain laws of windows as they were told: the reference's and the program's lists of windows, places and counts agree. No program in sight. -/
import Derived.Test.YtbcpkigeginmnaaM3Z
import Derived.Test.YtbcpkigeginmnaaM4Z
import Derived.Test.YtbcpkigeginmnaaM10Z
import Derived.Test.YtbcpkigeginmnaaM6Z
import Derived.Test.YtbcpkigeginmnaaGFx4Z
import Derived.Test.YtbcpkigeginmnaaM12Z
import Derived.Test.YtbcpkigeginmnaaGFx9Z
set_option linter.unusedVariables false
set_option linter.unusedSimpArgs false
section
namespace Go.Proofs.Ytbcpkigeginmnaa.GF
open Go.RowKit Go.Proofs.YtbcpkigeginmnaaW.PrintWords Go.Proofs.YtbcpkigeginmnaaW.PrintLast Go.Proofs.YtbcpkigeginmnaaW.PrintMore Go.Proofs.Ytbcpkigeginmnaa.Q
attribute [local go_sem] max2_int min2_int max_two min_two max_three min_three max_four min_four   -- for this text's walks alone

def impl_faultAt.j0 : Nat → List (S70) → Int → Int → Int → Bool → Option (Int)
 | 0, _, _, _, _, _ => none
 | k + 1, x0, x1, x2, x3, x27 => if x27 = true then (some 9) else (if x2 = 0 then (none) else (if (Int.tmod (wrap64 (x1)) x2) = 0 then ((impl_windowAt.f x0 (wrap64 (x1))).bind fun t233 => (if t233 < 0 then (some 2) else (if 0 ≤ t233 then (if t233 < (x0.length : Int) then (if (Go.bits .and .i64 ((rd_T70 x0 t233).f2) x3) = 0 then (some 3) else (some 0)) else (none)) else (none)))) else (some 1)))
def impl_faultAt.f (k : Nat) (l0 : List (S70)) (a1 : Int) (a2 : Int) (a3 : Int) : Option (Int) := if a2 = 1 then (if a3 = 1 then (impl_faultAt.j0 k l0 a1 a2 a3 false) else (if a3 = 2 then (impl_faultAt.j0 k l0 a1 a2 a3 false) else (impl_faultAt.j0 k l0 a1 a2 a3 (a3 != 4)))) else (if a2 = 4 then (if a3 = 1 then (impl_faultAt.j0 k l0 a1 a2 a3 false) else (if a3 = 2 then (impl_faultAt.j0 k l0 a1 a2 a3 false) else (impl_faultAt.j0 k l0 a1 a2 a3 (a3 != 4)))) else (impl_faultAt.j0 k l0 a1 a2 a3 true))
set_option maxHeartbeats 8000000 in
set_option maxRecDepth 100000 in
theorem impl_faultAt.calls (k : Nat) (A0 : Option Addr) (c0 : Nat) (l0 : List (S70)) (a1 : Int) (a2 : Int) (a3 : Int) (r : Int) (w : World) (hr0 : Kd.C k70 w A0 l0.length l0) (hc0 : l0.length ≤ c0) (h : impl_faultAt.f k l0 a1 a2 a3 = some r) :
  Calls Try.prog 81 #[.slice A0 l0.length c0, .int .u32 a1, .int .i64 a2, .int .i64 a3] w fun e w' => e = .returned (.int .i64 r) ∧ Below w.heap.size w w' := by
 have HR0 := Aside0.mk hr0
 have HC0 := Aside0.mk hc0
 clear hr0 hc0
 have HB := Aside0.mk (Below.refl w.heap.size w)
 have H : (if a2 = 1 then (if a3 = 1 then (impl_faultAt.j0 k l0 a1 a2 a3 false) else (if a3 = 2 then (impl_faultAt.j0 k l0 a1 a2 a3 false) else (impl_faultAt.j0 k l0 a1 a2 a3 (a3 != 4)))) else (if a2 = 4 then (if a3 = 1 then (impl_faultAt.j0 k l0 a1 a2 a3 false) else (if a3 = 2 then (impl_faultAt.j0 k l0 a1 a2 a3 false) else (impl_faultAt.j0 k l0 a1 a2 a3 (a3 != 4)))) else (impl_faultAt.j0 k l0 a1 a2 a3 true))) = some r := h
 clear h
 have HC5 := Aside0.mk H
 clear H
 go_enter Try.func81, Try.ntmps81
 go_upto_region 1 with (fail)
 go_cut [27] (fun v27 wc => ∃ (kq : Nat) (x27_4 : Bool), v27 = .bool x27_4 ∧ Aside0 (impl_faultAt.j0 kq l0 a1 a2 a3 x27_4 = some r) ∧ Aside0 (kq ≤ k) ∧ Aside0 (Below w.heap.size w wc))
 case first =>
  have H := HC5.out
  clear HC5
  by_cases c6 : a2 = 1
  ·rw [if_pos c6] at H
   have c6b0 : (a2 == 1) = true := beq_iff_eq.mpr c6
   have c6b1 : (a2 != 1) = false := bne_eq_false_iff_eq.mpr c6
   clear c6
   (first | rw [c6b0] | (simp only [i64_w, i32_w]; rw [c6b0]) | skip)
   by_cases c7 : a3 = 1
   ·rw [if_pos c7] at H
    have c7b0 : (a3 == 1) = true := beq_iff_eq.mpr c7
    have c7b1 : (a3 != 1) = false := bne_eq_false_iff_eq.mpr c7
    clear c7
    have H' := Aside0.mk H
    clear H
    go_wp2
    go_meet
    case rel => exact ⟨_, (false), (by first | rfl | (simp; done) | (simp [*]; done)), H', ⟨by first | omega | exact Nat.le_refl _⟩, ⟨by exact lq HB.out⟩⟩
   ·rw [if_neg c7] at H
    have c7b0 : (a3 == 1) = false := beq_eq_false_iff_ne.mpr c7
    have c7b1 : (a3 != 1) = true := bne_iff_ne.mpr c7
    by_cases c8 : a3 = 2
    ·rw [if_pos c8] at H
     have c8b0 : (a3 == 2) = true := beq_iff_eq.mpr c8
     have c8b1 : (a3 != 2) = false := bne_eq_false_iff_eq.mpr c8
     clear c8
     have H' := Aside0.mk H
     clear H
     go_wp2
     go_meet
     case rel => exact ⟨_, (false), (by first | rfl | (simp; done) | (simp [*]; done)), H', ⟨by first | omega | exact Nat.le_refl _⟩, ⟨by exact lq HB.out⟩⟩
    ·rw [if_neg c8] at H
     have c8b0 : (a3 == 2) = false := beq_eq_false_iff_ne.mpr c8
     have c8b1 : (a3 != 2) = true := bne_iff_ne.mpr c8
     have H' := Aside0.mk H
     clear H
     go_wp2
     go_meet
     case rel => exact ⟨_, ((a3 != 4)), (by first | rfl | (simp; done) | (simp [*]; done)), H', ⟨by first | omega | exact Nat.le_refl _⟩, ⟨by exact lq HB.out⟩⟩
  ·rw [if_neg c6] at H
   have c6b0 : (a2 == 1) = false := beq_eq_false_iff_ne.mpr c6
   have c6b1 : (a2 != 1) = true := bne_iff_ne.mpr c6
   (first | rw [c6b0] | (simp only [i64_w, i32_w]; rw [c6b0]) | skip)
   by_cases c9 : a2 = 4
   ·rw [if_pos c9] at H
    have c9b0 : (a2 == 4) = true := beq_iff_eq.mpr c9
    have c9b1 : (a2 != 4) = false := bne_eq_false_iff_eq.mpr c9
    clear c9
    by_cases c10 : a3 = 1
    ·rw [if_pos c10] at H
     have c10b0 : (a3 == 1) = true := beq_iff_eq.mpr c10
     have c10b1 : (a3 != 1) = false := bne_eq_false_iff_eq.mpr c10
     clear c10
     have H' := Aside0.mk H
     clear H
     go_wp2
     go_meet
     case rel => exact ⟨_, (false), (by first | rfl | (simp; done) | (simp [*]; done)), H', ⟨by first | omega | exact Nat.le_refl _⟩, ⟨by exact lq HB.out⟩⟩
    ·rw [if_neg c10] at H
     have c10b0 : (a3 == 1) = false := beq_eq_false_iff_ne.mpr c10
     have c10b1 : (a3 != 1) = true := bne_iff_ne.mpr c10
     by_cases c11 : a3 = 2
     ·rw [if_pos c11] at H
      have c11b0 : (a3 == 2) = true := beq_iff_eq.mpr c11
      have c11b1 : (a3 != 2) = false := bne_eq_false_iff_eq.mpr c11
      clear c11
      have H' := Aside0.mk H
      clear H
      go_wp2
      go_meet
      case rel => exact ⟨_, (false), (by first | rfl | (simp; done) | (simp [*]; done)), H', ⟨by first | omega | exact Nat.le_refl _⟩, ⟨by exact lq HB.out⟩⟩
     ·rw [if_neg c11] at H
      have c11b0 : (a3 == 2) = false := beq_eq_false_iff_ne.mpr c11
      have c11b1 : (a3 != 2) = true := bne_iff_ne.mpr c11
      have H' := Aside0.mk H
      clear H
      go_wp2
      go_meet
      case rel => exact ⟨_, ((a3 != 4)), (by first | rfl | (simp; done) | (simp [*]; done)), H', ⟨by first | omega | exact Nat.le_refl _⟩, ⟨by exact lq HB.out⟩⟩
   ·rw [if_neg c9] at H
    have c9b0 : (a2 == 4) = false := beq_eq_false_iff_ne.mpr c9
    have c9b1 : (a2 != 4) = true := bne_iff_ne.mpr c9
    have H' := Aside0.mk H
    clear H
    go_wp2
    go_meet
    case rel => exact ⟨_, (true), (by first | rfl | (simp; done) | (simp [*]; done)), H', ⟨by first | omega | exact Nat.le_refl _⟩, ⟨by exact lq HB.out⟩⟩
 case rest =>
  clear HC5
  try clear c1
  try clear p2
  try clear c6
  try clear c6b0
  try clear c6b1
  try clear c7
  try clear c7b0
  try clear c7b1
  try clear c8
  try clear c8b0
  try clear c8b1
  try clear c9
  try clear c9b0
  try clear c9b1
  try clear c10
  try clear c10b0
  try clear c10b1
  try clear c11
  try clear c11b0
  try clear c11b1
  obtain ⟨kq, x27_4, rfl, HA, HJ4, HB⟩ := hcut
  cases kq with
  | zero => exact absurd HA.out (by simp [impl_faultAt.j0])
  | succ kj4 =>
   have H := HA.out
   clear HA
   simp only [impl_faultAt.j0] at H
   by_cases c12 : x27_4 = true
   ·subst c12
    rw [if_pos rfl] at H
    obtain rfl := Option.some.inj H
    go_wp2
    go_ret
    exact ⟨by first | rfl | (simp [errW_none, errW_some] <;> rfl) | (simp [*, errW_none, errW_some] <;> rfl), by exact lq HB.out⟩
   ·replace c12 := Bool.eq_false_iff.mpr c12
    subst c12
    rw [if_neg (show ¬ (false = true) by decide)] at H
    by_cases c13 : a2 = 0
    ·rw [if_pos c13] at H
     exact absurd H (by simp)
    ·rw [if_neg c13] at H
     have c13b0 : (a2 == 0) = false := beq_eq_false_iff_ne.mpr c13
     have c13b1 : (a2 != 0) = true := bne_iff_ne.mpr c13
     by_cases c14 : (Int.tmod (wrap64 (a1)) a2) = 0
     ·rw [if_pos c14] at H
      have c14b0 : ((Int.tmod (wrap64 (a1)) a2) == 0) = true := beq_iff_eq.mpr c14
      have c14b1 : ((Int.tmod (wrap64 (a1)) a2) != 0) = false := bne_eq_false_iff_eq.mpr c14
      clear c14
      replace H := Option.bind_eq_some_iff.mp H
      obtain ⟨t233, A150, H⟩ := H
      (try dsimp only at H)
      have A15 := Aside0.mk A150
      clear A150
      by_cases c16 : t233 < 0
      ·rw [if_pos c16] at H
       have c16b0 : decide (t233 < 0) = true := decide_eq_true c16
       clear c16
       obtain rfl := Option.some.inj H
       go_wp2_with (first | ((with_reducible refine gate_callee (f := 82) rfl ?_); refine goesL_ (some 36) rfl rfl Try.func82 (by kernel_rfl) rfl #[.slice A0 l0.length c0, .int .i64 (wrap64 (a1))] rfl (by (try simp only [List.map_toArray, List.map_cons, List.map_nil]); first | done | rfl | (simp only [List.length_drop, List.length_take]; rfl)) ?_; (with_reducible refine (impl_windowAt.calls _ _ l0 (wrap64 (a1)) t233 _ ?side1 ?side2 A15.out).mono ?_); (case side1 => repeat (first | exact (Kd.C_below HR0.out HB.out) | (with_reducible refine Kd.C_alloc ?_ _) | (with_reducible refine Kd.C_drewN ?_ _) | (with_reducible refine Kd.C_drew ?_))); (case side2 => exact HC0.out); rintro e w17 ⟨rfl, hb⟩; refine ⟨_, rfl, ?_⟩; have n0_ := Aside0.mk (below_step (lq HB.out) hb); clear HB; have HB := n0_; clear n0_; (try clear hb); (try clear hb2); (try clear hk); (try clear hi)))
       go_ret
       exact ⟨by first | rfl | (simp [errW_none, errW_some] <;> rfl) | (simp [*, errW_none, errW_some] <;> rfl), by exact lq HB.out⟩
      ·rw [if_neg c16] at H
       have c16b0 : decide (t233 < 0) = false := decide_eq_false c16
       clear c16
       by_cases c18 : 0 ≤ t233
       ·rw [if_pos c18] at H
        have c18b0 : decide (0 ≤ t233) = true := decide_eq_true c18
        clear c18
        by_cases c19 : t233 < (l0.length : Int)
        ·rw [if_pos c19] at H
         have c19b0 : decide (t233 < (l0.length : Int)) = true := decide_eq_true c19
         clear c19
         by_cases c20 : (Go.bits .and .i64 ((rd_T70 l0 t233).f2) a3) = 0
         ·rw [if_pos c20] at H
          have c20b0 : ((Go.bits .and .i64 ((rd_T70 l0 t233).f2) a3) == 0) = true := beq_iff_eq.mpr c20
          have c20b1 : ((Go.bits .and .i64 ((rd_T70 l0 t233).f2) a3) != 0) = false := bne_eq_false_iff_eq.mpr c20
          clear c20
          obtain rfl := Option.some.inj H
          go_wp2_with (first | ((with_reducible refine gate_callee (f := 82) rfl ?_); refine goesL_ (some 36) rfl rfl Try.func82 (by kernel_rfl) rfl #[.slice A0 l0.length c0, .int .i64 (wrap64 (a1))] rfl (by (try simp only [List.map_toArray, List.map_cons, List.map_nil]); first | done | rfl | (simp only [List.length_drop, List.length_take]; rfl)) ?_; (with_reducible refine (impl_windowAt.calls _ _ l0 (wrap64 (a1)) t233 _ ?side1 ?side2 A15.out).mono ?_); (case side1 => repeat (first | exact (Kd.C_below HR0.out HB.out) | (with_reducible refine Kd.C_alloc ?_ _) | (with_reducible refine Kd.C_drewN ?_ _) | (with_reducible refine Kd.C_drew ?_))); (case side2 => exact HC0.out); rintro e w21 ⟨rfl, hb⟩; refine ⟨_, rfl, ?_⟩; have n0_ := Aside0.mk (below_step (lq HB.out) hb); clear HB; have HB := n0_; clear n0_; (try clear hb); (try clear hb2); (try clear hk); (try clear hi); have p234 : 0 ≤ (t233 : Int) := of_decide_eq_true (by first | (with_reducible assumption) | assumption); have q234 : t233 < (l0.length : Int) := of_decide_eq_true (by first | (with_reducible assumption) | assumption); obtain ⟨ad234, e234, hx234_0, hx234_1, hx234_2⟩ := at_T70 HR0.out t233 p234 q234; cases e234; replace hx234_0 := (HB.out.cell (World.block_lt_of_cell? w _ hx234_0)).trans hx234_0; replace hx234_1 := (HB.out.cell (World.block_lt_of_cell? w _ hx234_1)).trans hx234_1; replace hx234_2 := (HB.out.cell (World.block_lt_of_cell? w _ hx234_2)).trans hx234_2; replace p234 := eq_true p234; replace q234 := eq_true q234))
          go_ret
          exact ⟨by first | rfl | (simp [errW_none, errW_some] <;> rfl) | (simp [*, errW_none, errW_some] <;> rfl), by exact lq HB.out⟩
         ·rw [if_neg c20] at H
          have c20b0 : ((Go.bits .and .i64 ((rd_T70 l0 t233).f2) a3) == 0) = false := beq_eq_false_iff_ne.mpr c20
          have c20b1 : ((Go.bits .and .i64 ((rd_T70 l0 t233).f2) a3) != 0) = true := bne_iff_ne.mpr c20
          obtain rfl := Option.some.inj H
          go_wp2_with (first | ((with_reducible refine gate_callee (f := 82) rfl ?_); refine goesL_ (some 36) rfl rfl Try.func82 (by kernel_rfl) rfl #[.slice A0 l0.length c0, .int .i64 (wrap64 (a1))] rfl (by (try simp only [List.map_toArray, List.map_cons, List.map_nil]); first | done | rfl | (simp only [List.length_drop, List.length_take]; rfl)) ?_; (with_reducible refine (impl_windowAt.calls _ _ l0 (wrap64 (a1)) t233 _ ?side1 ?side2 A15.out).mono ?_); (case side1 => repeat (first | exact (Kd.C_below HR0.out HB.out) | (with_reducible refine Kd.C_alloc ?_ _) | (with_reducible refine Kd.C_drewN ?_ _) | (with_reducible refine Kd.C_drew ?_))); (case side2 => exact HC0.out); rintro e w22 ⟨rfl, hb⟩; refine ⟨_, rfl, ?_⟩; have n0_ := Aside0.mk (below_step (lq HB.out) hb); clear HB; have HB := n0_; clear n0_; (try clear hb); (try clear hb2); (try clear hk); (try clear hi); have p234 : 0 ≤ (t233 : Int) := of_decide_eq_true (by first | (with_reducible assumption) | assumption); have q234 : t233 < (l0.length : Int) := of_decide_eq_true (by first | (with_reducible assumption) | assumption); obtain ⟨ad234, e234, hx234_0, hx234_1, hx234_2⟩ := at_T70 HR0.out t233 p234 q234; cases e234; replace hx234_0 := (HB.out.cell (World.block_lt_of_cell? w _ hx234_0)).trans hx234_0; replace hx234_1 := (HB.out.cell (World.block_lt_of_cell? w _ hx234_1)).trans hx234_1; replace hx234_2 := (HB.out.cell (World.block_lt_of_cell? w _ hx234_2)).trans hx234_2; replace p234 := eq_true p234; replace q234 := eq_true q234))
          go_ret
          exact ⟨by first | rfl | (simp [errW_none, errW_some] <;> rfl) | (simp [*, errW_none, errW_some] <;> rfl), by exact lq HB.out⟩
        ·rw [if_neg c19] at H
         exact absurd H (by simp)
       ·rw [if_neg c18] at H
        exact absurd H (by simp)
     ·rw [if_neg c14] at H
      have c14b0 : ((Int.tmod (wrap64 (a1)) a2) == 0) = false := beq_eq_false_iff_ne.mpr c14
      have c14b1 : ((Int.tmod (wrap64 (a1)) a2) != 0) = true := bne_iff_ne.mpr c14
      obtain rfl := Option.some.inj H
      go_wp2
      go_ret
      exact ⟨by first | rfl | (simp [errW_none, errW_some] <;> rfl) | (simp [*, errW_none, errW_some] <;> rfl), by exact lq HB.out⟩

def impl_WordOf.f (l0 : List Int) : Option (Int × Bool) := if (l0.length : Int) = 4 then (if 0 < (l0.length : Int) then (if 1 < (l0.length : Int) then (if 2 < (l0.length : Int) then (if 3 < (l0.length : Int) then (some (Go.bits .or .u32 (Go.bits .or .u32 (Go.bits .or .u32 ((rd l0 0) % 4294967296) ((((rd l0 1) % 4294967296) * 256) % 4294967296)) ((((rd l0 2) % 4294967296) * 65536) % 4294967296)) ((((rd l0 3) % 4294967296) * 16777216) % 4294967296), true)) else (none)) else (none)) else (none)) else (none)) else (some (0, false))
set_option maxHeartbeats 8000000 in
set_option maxRecDepth 100000 in
theorem impl_WordOf.calls (A0 : Option Addr) (c0 : Nat) (l0 : List Int) (r1 : Int) (r2 : Bool) (w : World) (hr0 : Kd.C (Kd.int .u8) w A0 l0.length l0) (hc0 : l0.length ≤ c0) (h : impl_WordOf.f l0 = some (r1, r2)) :
  Calls Try.prog 83 #[.slice A0 l0.length c0] w fun e w' => e = .returned (.tuple #[.int .u32 r1, .bool r2]) ∧ Drawn0 w w' := by
 have HR0 := Aside0.mk hr0
 have HC0 := Aside0.mk hc0
 clear hr0 hc0
 have H : (if (l0.length : Int) = 4 then (if 0 < (l0.length : Int) then (if 1 < (l0.length : Int) then (if 2 < (l0.length : Int) then (if 3 < (l0.length : Int) then (some (Go.bits .or .u32 (Go.bits .or .u32 (Go.bits .or .u32 ((rd l0 0) % 4294967296) ((((rd l0 1) % 4294967296) * 256) % 4294967296)) ((((rd l0 2) % 4294967296) * 65536) % 4294967296)) ((((rd l0 3) % 4294967296) * 16777216) % 4294967296), true)) else (none)) else (none)) else (none)) else (none)) else (some (0, false))) = some (r1, r2) := h
 clear h
 by_cases c2 : (l0.length : Int) = 4
 ·rw [if_pos c2] at H
  have c2b0 : ((l0.length : Int) == 4) = true := beq_iff_eq.mpr c2
  have c2b1 : ((l0.length : Int) != 4) = false := bne_eq_false_iff_eq.mpr c2
  clear c2
  by_cases c3 : 0 < (l0.length : Int)
  ·rw [if_pos c3] at H
   have c3b0 : decide (0 < (l0.length : Int)) = true := decide_eq_true c3
   have c3b1 : decide (0 < l0.length) = true := decide_eq_true (by omega)
   clear c3
   by_cases c4 : 1 < (l0.length : Int)
   ·rw [if_pos c4] at H
    have c4b0 : decide (1 < (l0.length : Int)) = true := decide_eq_true c4
    have c4b1 : decide (1 < l0.length) = true := decide_eq_true (by omega)
    clear c4
    by_cases c5 : 2 < (l0.length : Int)
    ·rw [if_pos c5] at H
     have c5b0 : decide (2 < (l0.length : Int)) = true := decide_eq_true c5
     have c5b1 : decide (2 < l0.length) = true := decide_eq_true (by omega)
     clear c5
     by_cases c6 : 3 < (l0.length : Int)
     ·rw [if_pos c6] at H
      have c6b0 : decide (3 < (l0.length : Int)) = true := decide_eq_true c6
      have c6b1 : decide (3 < l0.length) = true := decide_eq_true (by omega)
      clear c6
      simp only [Option.some.injEq, Prod.mk.injEq] at H
      obtain ⟨rfl, rfl⟩ := H
      have p235 : 0 ≤ (0 : Int) := (by omega)
      have q235 : 0 < (l0.length : Int) := of_decide_eq_true (by first | (with_reducible assumption) | assumption)
      obtain ⟨ad235, e235, hx235_0⟩ := Kd.at_int HR0.out 0 p235 q235
      cases e235
      have qi235 : (0 < l0.length) = True := eq_true (by omega)
      (try rw [show ((0 : Int)).toNat = 0 from rfl] at hx235_0)
      (try rw [Addr.add_zero'] at hx235_0)
      replace p235 := eq_true p235
      replace q235 := eq_true q235
      have p236 : 0 ≤ (1 : Int) := (by omega)
      have q236 : 1 < (l0.length : Int) := of_decide_eq_true (by first | (with_reducible assumption) | assumption)
      obtain ⟨ad236, e236, hx236_0⟩ := Kd.at_int HR0.out 1 p236 q236
      obtain rfl : ad235 = ad236 := (by injection e236)
      (try simp only [show (1 : Int).toNat = 1 from rfl, Nat.reduceMul, Nat.reduceEqDiff, Go.Addr.add, ↓reduceIte] at hx236_0)
      have qi236 : (1 < l0.length) = True := eq_true (by omega)
      (try rw [show ((1 : Int)).toNat = 1 from rfl] at hx236_0)
      replace p236 := eq_true p236
      replace q236 := eq_true q236
      have p237 : 0 ≤ (2 : Int) := (by omega)
      have q237 : 2 < (l0.length : Int) := of_decide_eq_true (by first | (with_reducible assumption) | assumption)
      obtain ⟨ad237, e237, hx237_0⟩ := Kd.at_int HR0.out 2 p237 q237
      obtain rfl : ad235 = ad237 := (by injection e237)
      (try simp only [show (2 : Int).toNat = 2 from rfl, Nat.reduceMul, Nat.reduceEqDiff, Go.Addr.add, ↓reduceIte] at hx237_0)
      have qi237 : (2 < l0.length) = True := eq_true (by omega)
      (try rw [show ((2 : Int)).toNat = 2 from rfl] at hx237_0)
      replace p237 := eq_true p237
      replace q237 := eq_true q237
      have p238 : 0 ≤ (3 : Int) := (by omega)
      have q238 : 3 < (l0.length : Int) := of_decide_eq_true (by first | (with_reducible assumption) | assumption)
      obtain ⟨ad238, e238, hx238_0⟩ := Kd.at_int HR0.out 3 p238 q238
      obtain rfl : ad235 = ad238 := (by injection e238)
      (try simp only [show (3 : Int).toNat = 3 from rfl, Nat.reduceMul, Nat.reduceEqDiff, Go.Addr.add, ↓reduceIte] at hx238_0)
      have qi238 : (3 < l0.length) = True := eq_true (by omega)
      (try rw [show ((3 : Int)).toNat = 3 from rfl] at hx238_0)
      replace p238 := eq_true p238
      replace q238 := eq_true q238
      go_enter Try.func83, Try.ntmps83
      go_wp2
      repeat (go_quiet (fail); try go_wp2)
      go_ret2
      exact ⟨by first | rfl | (simp; done) | (simp [*]; done), by repeat (first | exact Drawn0.refl _ | apply Drawn0.step)⟩
     ·rw [if_neg c6] at H
      exact absurd H (by simp)
    ·rw [if_neg c5] at H
     exact absurd H (by simp)
   ·rw [if_neg c4] at H
    exact absurd H (by simp)
  ·rw [if_neg c3] at H
   exact absurd H (by simp)
 ·rw [if_neg c2] at H
  have c2b0 : ((l0.length : Int) == 4) = false := beq_eq_false_iff_ne.mpr c2
  have c2b1 : ((l0.length : Int) != 4) = true := bne_iff_ne.mpr c2
  simp only [Option.some.injEq, Prod.mk.injEq] at H
  obtain ⟨rfl, rfl⟩ := H
  go_enter Try.func83, Try.ntmps83
  go_wp2
  repeat (go_quiet (fail); try go_wp2)
  go_ret2
  exact ⟨by first | rfl | (simp; done) | (simp [*]; done), by repeat (first | exact Drawn0.refl _ | apply Drawn0.step)⟩

end Go.Proofs.Ytbcpkigeginmnaa.GF
end
section
namespace Go.Proofs.Ytbcpkigeginmnaa.GF
open Go.RowKit Go.Proofs.YtbcpkigeginmnaaW.PrintWords Go.Proofs.YtbcpkigeginmnaaW.PrintLast Go.Proofs.YtbcpkigeginmnaaW.PrintMore Go.Proofs.Ytbcpkigeginmnaa.Q
attribute [local go_sem] max2_int min2_int max_two min_two max_three min_three max_four min_four   -- for this text's walks alone

def IsS28 (w0 W : World) (g : Nat) (f0 : List Int) (f1 : Int) (f2 : List (List Int)) : Prop := ∃ A0 c0, ∃ A2 c2, W.heap[g]? = some (.cells #[.slice A0 f0.length c0, .int .u32 f1, .slice A2 f2.length c2] 28 (0, 0)) ∧ w0.heap.size ≤ g ∧ Kd.C (Kd.int .u32) w0 A0 f0.length f0 ∧ Kd.C (Kd.slice 5 (Kd.int .u8)) w0 A2 f2.length f2
theorem IsS28.grown {w0 W : World} {g : Nat} {f0 : List Int} {f1 : Int} {f2 : List (List Int)} {W1 : World} {row : Option Nat} (h : IsS28 w0 W g f0 f1 f2) (hw : W.grownBy W1 row) (hne : some g ≠ row) : IsS28 w0 W1 g f0 f1 f2 := by
 obtain ⟨A0, c0, A2, c2, hb, hg, hr0, hr2⟩ := h
 exact ⟨A0, c0, A2, c2, blk_grown hb hw hne, hg, hr0, hr2⟩
theorem IsS28.fresh {w0 W : World} {g : Nat} {f0 : List Int} {f1 : Int} {f2 : List (List Int)} (h : IsS28 w0 W g f0 f1 f2) : ∀ k, W.heap.size ≤ k → k ≠ g := by
 obtain ⟨A0, c0, A2, c2, hb, hg, hr0, hr2⟩ := h
 exact Kd.freshB hb
theorem IsS28.kept {w0 W : World} {g : Nat} {f0 : List Int} {f1 : Int} {f2 : List (List Int)} {W1 : World} {S : Nat → Prop} (h : IsS28 w0 W g f0 f1 f2) (hk : Kept W W1 S) (hne : ¬ S g) : IsS28 w0 W1 g f0 f1 f2 := by
 obtain ⟨A0, c0, A2, c2, hb, hg, hr0, hr2⟩ := h
 exact ⟨A0, c0, A2, c2, blk_kept hb hk hne, hg, hr0, hr2⟩
theorem IsS28.below {w0 W : World} {g : Nat} {f0 : List Int} {f1 : Int} {f2 : List (List Int)} {W1 : World} (h : IsS28 w0 W g f0 f1 f2) (hw : Below W.heap.size W W1) : IsS28 w0 W1 g f0 f1 f2 := h.grown (grown_of_below hw none) (by simp)
theorem IsS28.alloc {w0 W : World} {g : Nat} {f0 : List Int} {f1 : Int} {f2 : List (List Int)} (h : IsS28 w0 W g f0 f1 f2) (o : Obj) : IsS28 w0 (W.alloc o) g f0 f1 f2 := h.below (below_alloc (Below.refl _ _) o)
theorem IsS28.drewN {w0 W : World} {g : Nat} {f0 : List Int} {f1 : Int} {f2 : List (List Int)} (h : IsS28 w0 W g f0 f1 f2) (m : Nat) : IsS28 w0 (W.drewN m) g f0 f1 f2 := h
theorem IsS28.drew {w0 W : World} {g : Nat} {f0 : List Int} {f1 : Int} {f2 : List (List Int)} (h : IsS28 w0 W g f0 f1 f2) : IsS28 w0 W.drew g f0 f1 f2 := h
theorem IsS28.at_ {w0 W : World} {g : Nat} {f0 : List Int} {f1 : Int} {f2 : List (List Int)} {w' : World} {m : Nat} (hq : W.drewN m = w') (h : IsS28 w0 W g f0 f1 f2) : IsS28 w0 w' g f0 f1 f2 := by subst hq; exact IsS28.drewN h m
theorem IsS28.apart {w0 W : World} {g : Nat} {f0 : List Int} {f1 : Int} {f2 : List (List Int)} {α : Type} {d : Kd α} {e : Nat} {base : Nat} {ok : Nat → Prop} {v : Value} {xs : List α} (h : IsS28 w0 W g f0 f1 f2) (ho : d.R e W base ok v xs) (ht : ∀ q, q ∈ e :: d.E → q ≠ 28) : d.R e W base (fun k => ok k ∧ k ≠ g) v xs := by
 obtain ⟨A0, c0, A2, c2, hb, hg, hr0, hr2⟩ := h
 exact Kd.R_types ho hb ht
theorem IsS28.own_ne {w0 W : World} {g : Nat} {f0 : List Int} {f1 : Int} {f2 : List (List Int)} {α : Type} {d : Kd α} {e : Nat} {base : Nat} {ok : Nat → Prop} {v : Value} {xs : List α} (h : IsS28 w0 W g f0 f1 f2) (ho : d.R e W base ok v xs) (ht : e ≠ 28) : some g ≠ v.ownBlock := by
 obtain ⟨A0, c0, A2, c2, hb, hg, hr0, hr2⟩ := h
 exact Kd.R_ne ho hb ht
theorem IsS28.ge {w0 W : World} {g : Nat} {f0 : List Int} {f1 : Int} {f2 : List (List Int)} (h : IsS28 w0 W g f0 f1 f2) : w0.heap.size ≤ g := by
 obtain ⟨A0, c0, A2, c2, hb, hg, hr0, hr2⟩ := h
 exact hg
theorem IsS28.far {w0 W : World} {g : Nat} {f0 : List Int} {f1 : Int} {f2 : List (List Int)} {p : Addr} (h : IsS28 w0 W g f0 f1 f2) (hne : g ≠ p.block) (u : Value) : IsS28 w0 (W.setCell p u) g f0 f1 f2 := by
 obtain ⟨A0, c0, A2, c2, hb, hg, hr0, hr2⟩ := h
 exact ⟨A0, c0, A2, c2, blk_far hb hne u, hg, hr0, hr2⟩
theorem IsS28.new (w0 W : World) (A0 : Option Addr) (c0 : Nat) (A2 : Option Addr) (c2 : Nat) (f0 : List Int) (f1 : Int) (f2 : List (List Int)) (hB : Below w0.heap.size w0 W) (hr0 : Kd.C (Kd.int .u32) w0 A0 f0.length f0) (hr2 : Kd.C (Kd.slice 5 (Kd.int .u8)) w0 A2 f2.length f2) : IsS28 w0 (W.alloc (.cells #[.slice A0 f0.length c0, .int .u32 f1, .slice A2 f2.length c2] 28)) W.heap.size f0 f1 f2 := ⟨A0, c0, A2, c2, by simpa using heap_alloc_new W _, hB.size, hr0, hr2⟩

def impl_Guest_load.f (k : Nat) (s0_0 : List Int) (s0_1 : Int) (s0_2 : List (List Int)) (l1 : List (S70)) (a2 : Int) (a3 : Int) (a4 : Int) : Option (Int × Int × Int) := (impl_faultAt.f k l1 a2 a3 a4).bind fun t239 => (if t239 = 0 then ((impl_windowAt.f l1 (wrap64 (a2))).bind fun t240 => (if 0 ≤ t240 then (if t240 < (s0_2.length : Int) then (if t240 < (l1.length : Int) then (if 0 ≤ (wrap64 ((wrap64 (a2)) - ((rd_T70 l1 t240).f0))) then (if (wrap64 ((wrap64 (a2)) - ((rd_T70 l1 t240).f0))) ≤ ((rd_L2 s0_2 t240).length : Int) then (if a3 = 1 then (if 0 < (((rd_L2 s0_2 t240).drop ((wrap64 ((wrap64 (a2)) - ((rd_T70 l1 t240).f0))) : Int).toNat).length : Int) then (some ((rd ((rd_L2 s0_2 t240).drop ((wrap64 ((wrap64 (a2)) - ((rd_T70 l1 t240).f0))) : Int).toNat) 0) % 4294967296, 0, s0_1)) else (none)) else (if 4 ≤ (((rd_L2 s0_2 t240).drop ((wrap64 ((wrap64 (a2)) - ((rd_T70 l1 t240).f0))) : Int).toNat).length : Int) then ((impl_WordOf.f (((rd_L2 s0_2 t240).drop ((wrap64 ((wrap64 (a2)) - ((rd_T70 l1 t240).f0))) : Int).toNat).take 4)).bind fun bt246 => (some (bt246.1, 0, s0_1))) else (none))) else (none)) else (none)) else (none)) else (none)) else (none))) else (some (0, t239, s0_1)))
def spec_l07At.l0 : Nat → List (S70) → Int → Int → Option (Int)
 | 0, _, _, _ => none
 | k + 1, x0, x1, x5 => if x5 < (x0.length : Int) then (if 0 ≤ x5 then ((spec_l07Has.f ((rd_T70 x0 x5).f0) ((rd_T70 x0 x5).f1) ((rd_T70 x0 x5).f2) x1).bind fun t249 => (if t249 = true then (some x5) else (spec_l07At.l0 k x0 x1 (wrap64 (x5 + 1))))) else (none)) else (some (-1))
def spec_l07At.f (k : Nat) (l0 : List (S70)) (a1 : Int) : Option (Int) := spec_l07At.l0 k l0 a1 0
set_option maxHeartbeats 8000000 in
set_option maxRecDepth 100000 in
theorem spec_l07At.calls (k : Nat) (A0 : Option Addr) (c0 : Nat) (l0 : List (S70)) (a1 : Int) (r : Int) (w : World) (hr0 : Kd.C k70 w A0 l0.length l0) (hc0 : l0.length ≤ c0) (h : spec_l07At.f k l0 a1 = some r) :
  Calls Try.prog 84 #[.slice A0 l0.length c0, .int .i64 a1] w fun e w' => e = .returned (.int .i64 r) ∧ Below w.heap.size w w' := by
 have hu70 := Try.underlying70
 have HR0 := Aside0.mk hr0
 have HC0 := Aside0.mk hc0
 clear hr0 hc0
 have HB := Aside0.mk (Below.refl w.heap.size w)
 have H : (spec_l07At.l0 k l0 a1 0) = some r := h
 clear h
 have H' := Aside0.mk H
 clear H
 go_enter Try.func84, Try.ntmps84
 go_wp2
 go_loopg [5] k (fun kq v5 w' => ∃ (x5_1 : Int), v5 = .int .i64 x5_1 ∧ Aside0 (spec_l07At.l0 kq l0 a1 x5_1 = some r) ∧ Aside0 (kq ≤ k) ∧ Aside0 (Below w.heap.size w w'))
 case atStart => exact ⟨(0), (by first | rfl | (simp; done) | (simp [*]; done)), H', ⟨Nat.le_refl _⟩, ⟨by exact lq HB.out⟩⟩
 case round =>
  clear H'
  try clear p2
  obtain ⟨x5_1, rfl, HA, HK1, HB⟩ := hrel
  cases gk with
  | zero => exact absurd HA.out (by simp [spec_l07At.l0])
  | succ k1 =>
   have H := HA.out
   clear HA
   simp only [spec_l07At.l0] at H
   by_cases c3 : x5_1 < (l0.length : Int)
   ·rw [if_pos c3] at H
    have c3b0 : decide (x5_1 < (l0.length : Int)) = true := decide_eq_true c3
    clear c3
    by_cases c4 : 0 ≤ x5_1
    ·rw [if_pos c4] at H
     have c4b0 : decide (0 ≤ x5_1) = true := decide_eq_true c4
     clear c4
     replace H := Option.bind_eq_some_iff.mp H
     obtain ⟨t249, A50, H⟩ := H
     (try dsimp only at H)
     have A5 := Aside0.mk A50
     clear A50
     by_cases c6 : t249 = true
     ·subst c6
      rw [if_pos rfl] at H
      obtain rfl := Option.some.inj H
      have p248 : 0 ≤ (x5_1 : Int) := of_decide_eq_true (by first | (with_reducible assumption) | assumption)
      have q248 : x5_1 < (l0.length : Int) := of_decide_eq_true (by first | (with_reducible assumption) | assumption)
      obtain ⟨ad248, e248, hx248_0, hx248_1, hx248_2⟩ := at_T70 HR0.out x5_1 p248 q248
      cases e248
      replace hx248_0 := (HB.out.cell (World.block_lt_of_cell? w _ hx248_0)).trans hx248_0
      replace hx248_1 := (HB.out.cell (World.block_lt_of_cell? w _ hx248_1)).trans hx248_1
      replace hx248_2 := (HB.out.cell (World.block_lt_of_cell? w _ hx248_2)).trans hx248_2
      replace p248 := eq_true p248
      replace q248 := eq_true q248
      go_wp2_with (first | ((with_reducible refine gate_callee (f := 92) rfl ?_); refine goesL_ (some 17) rfl rfl Try.func92 (by kernel_rfl) rfl #[.agg #[.int .i64 ((rd_T70 l0 x5_1).f0), .int .i64 ((rd_T70 l0 x5_1).f1), .int .i64 ((rd_T70 l0 x5_1).f2)], .int .i64 a1] rfl (by (try simp only [List.map_toArray, List.map_cons, List.map_nil]); first | done | rfl | (simp only [List.length_drop, List.length_take]; rfl)) ?_; (with_reducible refine (spec_l07Has.calls ((rd_T70 l0 x5_1).f0) ((rd_T70 l0 x5_1).f1) ((rd_T70 l0 x5_1).f2) a1 true _ A5.out).mono ?_); rintro e w7 ⟨rfl, hb⟩; refine ⟨_, rfl, ?_⟩; have n0_ := Aside0.mk (below_step (lq HB.out) hb); clear HB; have HB := n0_; clear n0_; (try clear hb); (try clear hb2); (try clear hk); (try clear hi)))
      go_ret
      exact ⟨by first | rfl | (simp [errW_none, errW_some] <;> rfl) | (simp [*, errW_none, errW_some] <;> rfl), by exact lq HB.out⟩
     ·replace c6 := Bool.eq_false_iff.mpr c6
      subst c6
      rw [if_neg (show ¬ (false = true) by decide)] at H
      have H' := Aside0.mk H
      clear H
      have p248 : 0 ≤ (x5_1 : Int) := of_decide_eq_true (by first | (with_reducible assumption) | assumption)
      have q248 : x5_1 < (l0.length : Int) := of_decide_eq_true (by first | (with_reducible assumption) | assumption)
      obtain ⟨ad248, e248, hx248_0, hx248_1, hx248_2⟩ := at_T70 HR0.out x5_1 p248 q248
      cases e248
      replace hx248_0 := (HB.out.cell (World.block_lt_of_cell? w _ hx248_0)).trans hx248_0
      replace hx248_1 := (HB.out.cell (World.block_lt_of_cell? w _ hx248_1)).trans hx248_1
      replace hx248_2 := (HB.out.cell (World.block_lt_of_cell? w _ hx248_2)).trans hx248_2
      replace p248 := eq_true p248
      replace q248 := eq_true q248
      go_wp2_with (first | ((with_reducible refine gate_callee (f := 92) rfl ?_); refine goesL_ (some 17) rfl rfl Try.func92 (by kernel_rfl) rfl #[.agg #[.int .i64 ((rd_T70 l0 x5_1).f0), .int .i64 ((rd_T70 l0 x5_1).f1), .int .i64 ((rd_T70 l0 x5_1).f2)], .int .i64 a1] rfl (by (try simp only [List.map_toArray, List.map_cons, List.map_nil]); first | done | rfl | (simp only [List.length_drop, List.length_take]; rfl)) ?_; (with_reducible refine (spec_l07Has.calls ((rd_T70 l0 x5_1).f0) ((rd_T70 l0 x5_1).f1) ((rd_T70 l0 x5_1).f2) a1 false _ A5.out).mono ?_); rintro e w8 ⟨rfl, hb⟩; refine ⟨_, rfl, ?_⟩; have n0_ := Aside0.mk (below_step (lq HB.out) hb); clear HB; have HB := n0_; clear n0_; (try clear hb); (try clear hb2); (try clear hk); (try clear hi)))
      go_roundg k1
      case measure => have := HK1.out; omega
      case rel => exact ⟨(wrap64 (x5_1 + 1)), (by first | rfl | (simp; done) | (simp [*]; done)), H', ⟨by have := HK1.out; omega⟩, ⟨by exact lq HB.out⟩⟩
    ·rw [if_neg c4] at H
     exact absurd H (by simp)
   ·rw [if_neg c3] at H
    have c3b0 : decide (x5_1 < (l0.length : Int)) = false := decide_eq_false c3
    clear c3
    obtain rfl := Option.some.inj H
    go_wp2
    go_ret
    exact ⟨by first | rfl | (simp [errW_none, errW_some] <;> rfl) | (simp [*, errW_none, errW_some] <;> rfl), by exact lq HB.out⟩

end Go.Proofs.Ytbcpkigeginmnaa.GF
end
section
namespace Go.Proofs.Ytbcpkigeginmnaa.AidFW
open Go.RowKit Go.Proofs.Ytbcpkigeginmnaa Go.Proofs.Ytbcpkigeginmnaa.GF Go.Proofs.Ytbcpkigeginmnaa.Lst Go.Proofs.YtbcpkigeginmnaaW.PrintWords Go.Proofs.YtbcpkigeginmnaaW.PrintLast Go.Proofs.YtbcpkigeginmnaaW.PrintMore
theorem in_s (a b c : Int) : spec_l01In.f a b c = some (decide (b ≤ a ∧ a ≤ c)) := by
  unfold spec_l01In.f; split <;> simp_all <;> omega
theorem in_i (a b c : Int) : impl_within.f a b c = some (decide (b ≤ a ∧ a ≤ c)) := by
  unfold impl_within.f; split <;> simp_all <;> omega
theorem tm4 (a : Int) : (Int.tmod a 4 = 0) = (a % 4 = 0) := by
  apply propext
  rw [← Int.dvd_iff_tmod_eq_zero, ← Int.dvd_iff_emod_eq_zero]
def WfW (v : S70) : Prop := (Lit.int .i64 v.f0).wf = true ∧ (Lit.int .i64 v.f1).wf = true ∧ (Lit.int .i64 v.f2).wf = true
def WinB (v : S70) : Prop := 0 ≤ v.f0 ∧ 4 ≤ v.f1 ∧ v.f0 % 4 = 0 ∧ v.f1 % 4 = 0 ∧ v.f0 + v.f1 ≤ 2048 ∧ 1 ≤ v.f2 ∧ v.f2 ≤ 7
instance (v : S70) : Decidable (WinB v) := by unfold WinB; infer_instance
theorem win_s (v : S70) (hv : WfW v) : spec_WindowOk.f v.f0 v.f1 v.f2 = some (decide (WinB v)) := by
  have h0 := Lst.w64 hv.1; have h1 := Lst.w64 hv.2.1
  unfold spec_WindowOk.f
  simp only [in_s, Option.bind_some, decide_eq_true_eq, tm4]
  unfold wrap64
  repeat' split
  all_goals (first | (refine congrArg some (decide_eq_decide.2 ?_); unfold WinB; omega) | (refine congrArg some (decide_eq_false ?_).symm; unfold WinB; omega))
theorem win_i (v : S70) (hv : WfW v) : winOk v = decide (WinB v) := by
  have h0 := Lst.w64 hv.1; have h1 := Lst.w64 hv.2.1
  have e : impl_isWindow.f v.f0 v.f1 v.f2 = some (decide (WinB v)) := by
    unfold impl_isWindow.f
    simp only [in_i, Option.bind_some, decide_eq_true_eq, tm4]
    unfold wrap64
    repeat' split
    all_goals (first | (refine congrArg some (decide_eq_decide.2 ?_); unfold WinB; omega) | (refine congrArg some (decide_eq_false ?_).symm; unfold WinB; omega))
  rw [isWindow_f] at e
  exact Option.some.inj e
theorem win_yes {v : S70} (hv : WfW v) (h : winOk v = true) : WinB v := by
  rw [win_i v hv] at h
  exact of_decide_eq_true h
theorem ap_eq (v u : S70) (hv : WinB v) (hu : WinB u) : apB v u = decide (v.f0 + v.f1 ≤ u.f0 ∨ u.f0 + u.f1 ≤ v.f0) := by
  unfold WinB at hv hu
  unfold apB
  rw [wr (n := v.f0 + v.f1) (by omega) (by omega), wr (n := u.f0 + u.f1) (by omega) (by omega)]
  simp
theorem apart_l (a b c d e f : Int) (ha : 0 ≤ a) (hb : 4 ≤ b) (ha4 : a % 4 = 0) (hb4 : b % 4 = 0) (hab : a + b ≤ 2048) (hd : 0 ≤ d) (he : 4 ≤ e) (hd4 : d % 4 = 0) (he4 : e % 4 = 0) (hde : d + e ≤ 2048) (n : Nat) :
    ∀ (k : Nat) (x : Int), 0 ≤ x → x % 4 = 0 → 2048 - x = 4 * n → n < k → spec_Apart.l0 k x a b c d e f = some (decide (a + b ≤ d ∨ d + e ≤ a ∨ a + b ≤ x ∨ d + e ≤ x)) := by
  have w1 : wrap64 (a + b) = a + b := by unfold wrap64; omega
  have w2 : wrap64 (d + e) = d + e := by unfold wrap64; omega
  induction n with
  | zero =>
    intro k x h0 h4 hx hk
    obtain ⟨k, rfl⟩ : ∃ m, k = m + 1 := ⟨k - 1, by omega⟩
    simp only [spec_Apart.l0]
    rw [if_neg (by omega)]
    exact congrArg some (decide_eq_true (by omega)).symm
  | succ n ih =>
    intro k x h0 h4 hx hk
    obtain ⟨k, rfl⟩ : ∃ m, k = m + 1 := ⟨k - 1, by omega⟩
    have w3 : wrap64 (x + 4) = x + 4 := by unfold wrap64; omega
    have ih' := ih k (x + 4) (by omega) (by omega) (by omega) (by omega)
    simp only [spec_Apart.l0]
    unfold spec_l07Has.f
    rw [if_pos (by omega), w1, w2, w3, ih']
    have hn : (2048 : Int) - (x + 4) = 4 * n := by omega
    clear ih ih' hx
    have fin : ∀ (p q : Prop) [Decidable p] [Decidable q], (p ↔ q) → some (decide p) = some (decide q) := fun p q _ _ h => by rw [decide_eq_decide.2 h]
    have fls : ∀ (q : Prop) [Decidable q], ¬ q → some false = some (decide q) := fun q _ h => by rw [decide_eq_false h]
    by_cases h1 : x ≥ a
    · rw [if_pos h1]
      simp only [Option.bind_some, decide_eq_true_eq]
      by_cases h2 : x < a + b
      · rw [if_pos h2]
        by_cases h3 : x ≥ d
        · rw [if_pos h3]
          simp only [Option.bind_some, decide_eq_true_eq]
          by_cases h5 : x < d + e
          · rw [if_pos h5]
            exact fls _ (by omega)
          · rw [if_neg h5]
            exact fin _ _ (by omega)
        · rw [if_neg h3]
          simp only [Option.bind_some, Bool.false_eq_true, if_false]
          exact fin _ _ (by omega)
      · rw [if_neg h2]
        exact fin _ _ (by omega)
    · rw [if_neg h1]
      simp only [Option.bind_some, Bool.false_eq_true, if_false]
      exact fin _ _ (by omega)
theorem apart_s (v u : S70) (wv : WfW v) (wu : WfW u) (hv : WinB v) (hu : WinB u) (k : Nat) (hk : 600 ≤ k) : spec_Apart.f k v.f0 v.f1 v.f2 u.f0 u.f1 u.f2 = some (apB v u) := by
  obtain ⟨k, rfl⟩ : ∃ m, k = m + 1 := ⟨k - 1, by omega⟩
  rw [ap_eq v u hv hu]
  unfold spec_Apart.f
  rw [win_s v wv, win_s u wu]
  simp only [Option.bind_some, hv, hu, decide_true, if_true, Bool.not_true, spec_Apart.j0, Bool.false_eq_true, if_false]
  unfold WinB at hv hu
  rw [apart_l v.f0 v.f1 v.f2 u.f0 u.f1 u.f2 (by omega) (by omega) (by omega) (by omega) (by omega) (by omega) (by omega) (by omega) (by omega) (by omega) 512 k 0 (by omega) (by omega) (by omega) (by omega)]
  refine congrArg some (decide_eq_decide.2 ?_)
  omega
theorem mem_rd {l : List S70} {P : S70 → Prop} (h : ∀ x ∈ l, P x) (i : Nat) (hi : i < l.length) : P (rd_T70 l (i : Int)) :=
  h _ (List.mem_of_getElem? (rd_at l i hi))
theorem take_any (l : List S70) (p : S70 → Bool) (i : Nat) (hi : i ≤ l.length) : (l.take i).any p = true ↔ ∃ j, j < i ∧ p (rd_T70 l (j : Int)) = true := by
  rw [List.any_eq_true]
  constructor
  · rintro ⟨x, hx, hp⟩
    obtain ⟨j, hj⟩ := List.getElem?_of_mem hx
    rw [List.getElem?_take] at hj
    by_cases hji : j < i
    · rw [if_pos hji, rd_at l j (by omega)] at hj
      injection hj with hj
      exact ⟨j, hji, by rw [hj]; exact hp⟩
    · rw [if_neg hji] at hj; cases hj
  · rintro ⟨j, hj, hp⟩
    refine ⟨_, List.mem_of_getElem? (i := j) ?_, hp⟩
    rw [List.getElem?_take, if_pos hj]
    exact rd_at l j (by omega)
theorem wr_succ (j : Nat) (h : j < 9000000) : wrap64 ((j : Int) + 1) = ((j + 1 : Nat) : Int) := by rw [wr (by omega) (by omega)]; omega
theorem windows_s (l : List S70) (hl : ∀ x ∈ l, WfW x) (k : Nat) (hk : 2000 ≤ k) : spec_WindowsOk.f k l = some (areWB l) := by
  unfold spec_WindowsOk.f
  by_cases h4 : l.length ≤ 4
  · rw [if_neg (by omega)]
    have main : ∀ (d : Nat) (k i : Nat), i ≤ l.length → l.length - i = d → 1000 + 20 * d ≤ k → (∀ j, j < i → goodAt l j (rd_T70 l (j : Int)) = true) → spec_WindowsOk.l0 k l (i : Int) = some (areWB l) := by
      intro d
      induction d with
      | zero =>
        intro k i hi hd hk hg
        obtain ⟨k, rfl⟩ : ∃ m, k = m + 1 := ⟨k - 1, by omega⟩
        simp only [spec_WindowsOk.l0]
        rw [if_neg (by omega), areW_yes l h4 (fun j hj => hg j (by omega))]
      | succ d ih =>
        intro k i hi hd hk hg
        obtain ⟨k, rfl⟩ : ∃ m, k = m + 1 := ⟨k - 1, by omega⟩
        have hlt : i < l.length := by omega
        have wi := mem_rd hl i hlt
        simp only [spec_WindowsOk.l0]
        rw [if_pos (by omega), if_pos (by omega), win_s _ wi]
        simp only [Option.bind_some, decide_eq_true_eq]
        by_cases hw : WinB (rd_T70 l (i : Int))
        · rw [if_pos hw]
          have inner : ∀ (e : Nat) (k j : Nat), j ≤ i → i - j = e → 1000 + 20 * d + 2 * e + 2 ≤ k → (∀ j', j' < j → apB (rd_T70 l (j' : Int)) (rd_T70 l (i : Int)) = true) → spec_WindowsOk.l1 k l (i : Int) (j : Int) = some (areWB l) := by
            intro e
            induction e with
            | zero =>
              intro k j hj he hk ha
              obtain ⟨k, rfl⟩ : ∃ m, k = m + 1 := ⟨k - 1, by omega⟩
              simp only [spec_WindowsOk.l1]
              have e1 : wrap64 ((i : Int) + 1) = ((i + 1 : Nat) : Int) := by rw [wr (by omega) (by omega)]; omega
              rw [if_neg (by omega), e1]
              refine ih k (i + 1) (by omega) (by omega) (by omega) (fun j' hj' => ?_)
              by_cases hj2 : j' < i
              · exact hg j' hj2
              · have : j' = i := by omega
                subst this
                unfold goodAt
                rw [win_i _ wi, decide_eq_true hw, Bool.true_and]
                have : ((l.take j').any fun u => !(apB u (rd_T70 l (j' : Int)))) = false := by
                  rw [Bool.eq_false_iff]
                  intro hc
                  obtain ⟨q, hq, hp⟩ := (take_any l _ j' (by omega)).1 hc
                  rw [ha q (by omega)] at hp
                  cases hp
                rw [this]
                rfl
            | succ e ih2 =>
              intro k j hj he hk ha
              obtain ⟨k, rfl⟩ : ∃ m, k = m + 1 := ⟨k - 1, by omega⟩
              have hjl : j < l.length := by omega
              have wj := mem_rd hl j hjl
              have gj := hg j (by omega)
              unfold goodAt at gj
              have bj := win_yes wj (Bool.and_eq_true_iff.1 gj).1
              simp only [spec_WindowsOk.l1]
              have c1 : (j : Int) < (i : Int) := by omega
              have c2 : (0 : Int) ≤ (j : Int) := by omega
              have c3 : (j : Int) < (l.length : Int) := by omega
              have c4 : (0 : Int) ≤ (i : Int) := by omega
              have c5 : (i : Int) < (l.length : Int) := by omega
              have c6 : 1000 + 20 * d + 2 * e + 2 ≤ k := by omega
              have c7 : 600 ≤ k := by omega
              have hap' := apart_s _ _ wj wi bj hw k c7
              have c8 : i - (j + 1) = e := by omega
              have e1 : wrap64 ((j : Int) + 1) = ((j + 1 : Nat) : Int) := wr_succ j (by omega)
              rw [if_pos c1, if_pos c2, if_pos c3, if_pos c4, if_pos c5, hap', e1]
              clear e1
              simp only [Option.bind_some]
              cases hap : apB (rd_T70 l (j : Int)) (rd_T70 l (i : Int)) with
              | true =>
                rw [if_pos rfl]
                refine ih2 k (j + 1) (by omega) c8 c6 (fun j' hj' => ?_)
                by_cases hj2 : j' < j
                · exact ha j' hj2
                · have : j' = j := by omega
                  subst this
                  exact hap
              | false =>
                rw [if_neg (by decide), areW_no l i hlt]
                unfold goodAt
                have : ((l.take i).any fun u => !(apB u (rd_T70 l (i : Int)))) = true := (take_any l _ i (by omega)).2 ⟨j, by omega, by rw [hap]; rfl⟩
                rw [this]
                simp
          have := inner i k 0 (by omega) (by omega) (by omega) (fun j' hj' => absurd hj' (Nat.not_lt_zero _))
          simpa using this
        · rw [if_neg hw, areW_no l i hlt]
          unfold goodAt
          rw [win_i _ wi, decide_eq_false hw]
          rfl
    have := main l.length k 0 (by omega) (by omega) (by omega) (fun j hj => absurd hj (Nat.not_lt_zero _))
    simpa using this
  · rw [if_pos (by omega)]
    unfold areWB
    rw [decide_eq_false h4]
    rfl
theorem areW_good {l : List S70} (h : areWB l = true) (i : Nat) (hi : i < l.length) : goodAt l i (rd_T70 l (i : Int)) = true := by
  unfold areWB at h
  exact List.all_eq_true.1 (Bool.and_eq_true_iff.1 h).2 i (List.mem_range.2 hi)
theorem areW_win {l : List S70} (hl : ∀ x ∈ l, WfW x) (h : areWB l = true) : ∀ x ∈ l, WinB x := by
  intro x hx
  obtain ⟨i, hi⟩ := List.getElem?_of_mem hx
  have hlt : i < l.length := (List.getElem?_eq_some_iff.1 hi).1
  rw [rd_at l i hlt] at hi
  injection hi with hi
  have := areW_good h i hlt
  unfold goodAt at this
  rw [← hi]
  exact win_yes (mem_rd hl i hlt) (Bool.and_eq_true_iff.1 this).1
def hasB (a : Int) (v : S70) : Bool := decide (v.f0 ≤ a) && decide (a < wrap64 (v.f0 + v.f1))
theorem at_i (l : List S70) (a : Int) : impl_windowAt.f l a = some (idxB (hasB a) l) := rfl
theorem has_s (v : S70) (a : Int) : spec_l07Has.f v.f0 v.f1 v.f2 a = some (hasB a v) := by
  unfold spec_l07Has.f hasB
  by_cases h : a ≥ v.f0
  · rw [if_pos h, decide_eq_true h, Bool.true_and]
  · rw [if_neg h, decide_eq_false h]
    rfl
theorem at_s (l : List S70) (a : Int) (hlen : l.length ≤ 9000000) (k : Nat) (hk : l.length < k) : spec_l07At.f k l a = some (idxB (hasB a) l) := by
  have main : ∀ (d : Nat) (k i : Nat), i ≤ l.length → l.length - i = d → d < k → (∀ (j : Nat) (y : S70), j < i → l[j]? = some y → hasB a y = false) → spec_l07At.l0 k l a (i : Int) = some (idxB (hasB a) l) := by
    intro d
    induction d with
    | zero =>
      intro k i hi hd hk hg
      obtain ⟨k, rfl⟩ : ∃ m, k = m + 1 := ⟨k - 1, by omega⟩
      simp only [spec_l07At.l0]
      rw [if_neg (by omega), idxB_miss (hasB a) l (fun j y hy => hg j y (by have := (List.getElem?_eq_some_iff.1 hy).1; omega) hy)]
    | succ d ih =>
      intro k i hi hd hk hg
      obtain ⟨k, rfl⟩ : ∃ m, k = m + 1 := ⟨k - 1, by omega⟩
      have hlt : i < l.length := by omega
      have e1 : wrap64 ((i : Int) + 1) = ((i + 1 : Nat) : Int) := by rw [wr (by omega) (by omega)]; omega
      simp only [spec_l07At.l0]
      rw [if_pos (by omega), if_pos (by omega), has_s, e1]
      simp only [Option.bind_some]
      cases hb : hasB a (rd_T70 l (i : Int)) with
      | true => rw [if_pos rfl, idxB_hit (hasB a) l i _ (rd_at l i hlt) hb hg]
      | false =>
        rw [if_neg (by decide)]
        refine ih k (i + 1) (by omega) (by omega) (by omega) (fun j y hj hy => ?_)
        by_cases hji : j < i
        · exact hg j y hji hy
        · have : j = i := by omega
          subst this
          rw [rd_at l j hlt] at hy
          injection hy with hy
          rw [← hy]
          exact hb
  have := main l.length k 0 (by omega) (by omega) hk (fun j y hj => absurd hj (Nat.not_lt_zero _))
  simpa [spec_l07At.f] using this
theorem idx_range (p : S70 → Bool) (l : List S70) : idxB p l = -1 ∨ ∃ i : Nat, idxB p l = (i : Int) ∧ i < l.length ∧ p (rd_T70 l (i : Int)) = true := by
  unfold idxB
  cases h : l.findIdx? p with
  | none => exact .inl rfl
  | some i =>
    rw [List.findIdx?_eq_some_iff_getElem] at h
    obtain ⟨hi, hp, _⟩ := h
    refine .inr ⟨i, rfl, hi, ?_⟩
    have := rd_at l i hi
    rw [List.getElem?_eq_getElem hi] at this
    injection this with this
    rw [← this]
    exact hp
def toW (v : S72) : S70 := ⟨v.f0, v.f1, v.f2⟩
theorem rdL (l : List S72) (j : Nat) (a : S72) (h : l[j]? = some a) : rd_T72 l (j : Int) = a := by
  unfold rd_T72
  rw [Int.toNat_natCast, List.getD_eq_getElem?_getD, h]
  rfl
theorem sz_w (l : List S72) (hl : l.length ≤ maxLen) (m : Int) (h0 : 0 ≤ m) (h1 : m ≤ 9000000) : laws_szWindowS.f l m = some (if m < (l.length : Int) then -1 else m - (l.length : Int)) := by
  unfold maxLen at hl
  unfold laws_szWindowS.f
  rw [wr (by omega) (by omega)]
  split <;> split <;> first | rfl | omega
theorem to_w (l : List S72) (hl : l.length ≤ 9000000) (k : Nat) (hk : l.length < k) : laws_toWindowS.f k l = some (l.map toW) := by
  unfold laws_toWindowS.f
  rw [if_pos (by omega), if_pos (by omega)]
  exact to_all laws_toWindowS.l0 toW (fun x0 i => (⟨(rd_T72 x0 i).f0, (rd_T72 x0 i).f1, (rd_T72 x0 i).f2⟩ : S70)) (fun _ _ _ _ => rfl) l (fun j a h => by rw [rdL l j a h]; rfl) z70 (by omega) k hk
theorem eq_w (l : List S70) (hl : l.length ≤ 9000000) (k : Nat) (hk : l.length < k) : laws_eqWindowS.f k l l = some true := by
  unfold laws_eqWindowS.f
  rw [if_pos rfl]
  have := eq_calls laws_eqWindowS.l0 (fun _ x0 x1 i => laws_eqWindow.f (rd_T70 x0 i).f0 (rd_T70 x0 i).f1 (rd_T70 x0 i).f2 (rd_T70 x1 i).f0 (rd_T70 x1 i).f1 (rd_T70 x1 i).f2) 0 (fun _ _ _ _ => rfl) l
    (fun _ _ i _ => by unfold laws_eqWindow.f; simp) (by omega) l.length k 0 (by omega) (by omega) (by omega)
  exact this
theorem map_wf (l : List S72) (hl : ∀ x ∈ l, (Lit.int .i64 x.f0).wf = true ∧ (Lit.int .i64 x.f1).wf = true ∧ (Lit.int .i64 x.f2).wf = true) : ∀ x ∈ l.map toW, WfW x := by
  intro x hx
  obtain ⟨y, hy, rfl⟩ := List.mem_map.1 hx
  exact hl y hy
end Go.Proofs.Ytbcpkigeginmnaa.AidFW
end
