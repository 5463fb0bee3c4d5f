/- CoreStep of the reference and of the program, walked by hand: a guest that is none, and one that is. -/
import Derived.Test.YtbcpkigeginmnaaM3Z
import Derived.Test.YtbcpkigeginmnaaM23Z
import Derived.Test.YtbcpkigeginmnaaM17Z
import Derived.Test.YtbcpkigeginmnaaGFx4Z
import Derived.Test.YtbcpkigeginmnaaM20Z
import Derived.Test.YtbcpkigeginmnaaM12Z
import Derived.Test.YtbcpkigeginmnaaGFx9Z
import Derived.Test.YtbcpkigeginmnaaM14Z
set_option linter.unusedVariables false
set_option linter.unusedSimpArgs false
section
namespace Go.Proofs.Ytbcpkigeginmnaa.GF
open Go.RowKit Go.Proofs.YtbcpkigeginmnaaW.PrintWords Go.Proofs.YtbcpkigeginmnaaW.PrintLast Go.Proofs.YtbcpkigeginmnaaW.PrintMore Go.Proofs.Ytbcpkigeginmnaa.Q
attribute [local go_sem] max2_int min2_int max_two min_two max_three min_three max_four min_four   -- for this text's walks alone

def spec_Alu.f (k : Nat) (a0 : Int) (a1 : Int) (a2 : Int) : Option (Int × Int) := if a0 = 1 then (some ((a1 + a2) % 4294967296, 0)) else (if a0 = 2 then (some ((a1 - a2) % 4294967296, 0)) else (if a0 = 3 then (some (Go.bits .and .u32 a1 a2, 0)) else (if a0 = 4 then (some (Go.bits .or .u32 a1 a2, 0)) else (if a0 = 5 then (some (Go.bits .xor .u32 a1 a2, 0)) else (if a0 = 6 then (if 0 ≤ (IntKind.u64.wrap (Int.tmod a2 32)) then (some (shl .u32 a1 (IntKind.u64.wrap (Int.tmod a2 32)), 0)) else (none)) else (if a0 = 7 then (if 0 ≤ (IntKind.u64.wrap (Int.tmod a2 32)) then (some (shr .u32 a1 (IntKind.u64.wrap (Int.tmod a2 32)), 0)) else (none)) else (if a0 = 8 then ((spec_SarWord.f k a1 a2).bind fun t612 => (some (t612, 0))) else (if a0 = 9 then (some ((a1 * a2) % 4294967296, 0)) else (if a0 = 10 then (if a2 = 0 then (some (0, 5)) else (some ((Int.tdiv a1 a2) % 4294967296, 0))) else (if a0 = 11 then ((spec_LessWord.f a1 a2).bind fun t613 => ((spec_l08One.f t613).bind fun t614 => (some (t614, 0)))) else (if a0 = 12 then ((spec_l08One.f (decide (a1 < a2))).bind fun t615 => (some (t615, 0))) else (some (0, 4)))))))))))))
set_option maxHeartbeats 8000000 in
set_option maxRecDepth 100000 in
theorem spec_Alu.calls (k : Nat) (a0 : Int) (a1 : Int) (a2 : Int) (r1 : Int) (r2 : Int) (w : World) (h : spec_Alu.f k a0 a1 a2 = some (r1, r2)) :
  Calls Try.prog 88 #[.int .i64 a0, .int .u32 a1, .int .u32 a2] w fun e w' => e = .returned (.tuple #[.int .u32 r1, .int .i64 r2]) ∧ Drawn0 w w' := by
 have H : (if a0 = 1 then (some ((a1 + a2) % 4294967296, 0)) else (if a0 = 2 then (some ((a1 - a2) % 4294967296, 0)) else (if a0 = 3 then (some (Go.bits .and .u32 a1 a2, 0)) else (if a0 = 4 then (some (Go.bits .or .u32 a1 a2, 0)) else (if a0 = 5 then (some (Go.bits .xor .u32 a1 a2, 0)) else (if a0 = 6 then (if 0 ≤ (IntKind.u64.wrap (Int.tmod a2 32)) then (some (shl .u32 a1 (IntKind.u64.wrap (Int.tmod a2 32)), 0)) else (none)) else (if a0 = 7 then (if 0 ≤ (IntKind.u64.wrap (Int.tmod a2 32)) then (some (shr .u32 a1 (IntKind.u64.wrap (Int.tmod a2 32)), 0)) else (none)) else (if a0 = 8 then ((spec_SarWord.f k a1 a2).bind fun t612 => (some (t612, 0))) else (if a0 = 9 then (some ((a1 * a2) % 4294967296, 0)) else (if a0 = 10 then (if a2 = 0 then (some (0, 5)) else (some ((Int.tdiv a1 a2) % 4294967296, 0))) else (if a0 = 11 then ((spec_LessWord.f a1 a2).bind fun t613 => ((spec_l08One.f t613).bind fun t614 => (some (t614, 0)))) else (if a0 = 12 then ((spec_l08One.f (decide (a1 < a2))).bind fun t615 => (some (t615, 0))) else (some (0, 4)))))))))))))) = some (r1, r2) := h
 clear h
 by_cases c4 : a0 = 1
 ·rw [if_pos c4] at H
  have c4b0 : (a0 == 1) = true := beq_iff_eq.mpr c4
  have c4b1 : (a0 != 1) = false := bne_eq_false_iff_eq.mpr c4
  clear c4
  simp only [Option.some.injEq, Prod.mk.injEq] at H
  obtain ⟨rfl, rfl⟩ := H
  go_enter Try.func88, Try.ntmps88
  go_wp2
  go_ret2
  exact ⟨by first | rfl | (simp; done) | (simp [*]; done), by repeat (first | exact Drawn0.refl _ | apply Drawn0.step)⟩
 ·rw [if_neg c4] at H
  have c4b0 : (a0 == 1) = false := beq_eq_false_iff_ne.mpr c4
  have c4b1 : (a0 != 1) = true := bne_iff_ne.mpr c4
  by_cases c5 : a0 = 2
  ·rw [if_pos c5] at H
   have c5b0 : (a0 == 2) = true := beq_iff_eq.mpr c5
   have c5b1 : (a0 != 2) = false := bne_eq_false_iff_eq.mpr c5
   clear c5
   simp only [Option.some.injEq, Prod.mk.injEq] at H
   obtain ⟨rfl, rfl⟩ := H
   go_enter Try.func88, Try.ntmps88
   go_wp2
   go_ret2
   exact ⟨by first | rfl | (simp; done) | (simp [*]; done), by repeat (first | exact Drawn0.refl _ | apply Drawn0.step)⟩
  ·rw [if_neg c5] at H
   have c5b0 : (a0 == 2) = false := beq_eq_false_iff_ne.mpr c5
   have c5b1 : (a0 != 2) = true := bne_iff_ne.mpr c5
   by_cases c6 : a0 = 3
   ·rw [if_pos c6] at H
    have c6b0 : (a0 == 3) = true := beq_iff_eq.mpr c6
    have c6b1 : (a0 != 3) = false := bne_eq_false_iff_eq.mpr c6
    clear c6
    simp only [Option.some.injEq, Prod.mk.injEq] at H
    obtain ⟨rfl, rfl⟩ := H
    go_enter Try.func88, Try.ntmps88
    go_wp2
    go_ret2
    exact ⟨by first | rfl | (simp; done) | (simp [*]; done), by repeat (first | exact Drawn0.refl _ | apply Drawn0.step)⟩
   ·rw [if_neg c6] at H
    have c6b0 : (a0 == 3) = false := beq_eq_false_iff_ne.mpr c6
    have c6b1 : (a0 != 3) = true := bne_iff_ne.mpr c6
    by_cases c7 : a0 = 4
    ·rw [if_pos c7] at H
     have c7b0 : (a0 == 4) = true := beq_iff_eq.mpr c7
     have c7b1 : (a0 != 4) = false := bne_eq_false_iff_eq.mpr c7
     clear c7
     simp only [Option.some.injEq, Prod.mk.injEq] at H
     obtain ⟨rfl, rfl⟩ := H
     go_enter Try.func88, Try.ntmps88
     go_wp2
     go_ret2
     exact ⟨by first | rfl | (simp; done) | (simp [*]; done), by repeat (first | exact Drawn0.refl _ | apply Drawn0.step)⟩
    ·rw [if_neg c7] at H
     have c7b0 : (a0 == 4) = false := beq_eq_false_iff_ne.mpr c7
     have c7b1 : (a0 != 4) = true := bne_iff_ne.mpr c7
     by_cases c8 : a0 = 5
     ·rw [if_pos c8] at H
      have c8b0 : (a0 == 5) = true := beq_iff_eq.mpr c8
      have c8b1 : (a0 != 5) = false := bne_eq_false_iff_eq.mpr c8
      clear c8
      simp only [Option.some.injEq, Prod.mk.injEq] at H
      obtain ⟨rfl, rfl⟩ := H
      go_enter Try.func88, Try.ntmps88
      go_wp2
      go_ret2
      exact ⟨by first | rfl | (simp; done) | (simp [*]; done), by repeat (first | exact Drawn0.refl _ | apply Drawn0.step)⟩
     ·rw [if_neg c8] at H
      have c8b0 : (a0 == 5) = false := beq_eq_false_iff_ne.mpr c8
      have c8b1 : (a0 != 5) = true := bne_iff_ne.mpr c8
      by_cases c9 : a0 = 6
      ·rw [if_pos c9] at H
       have c9b0 : (a0 == 6) = true := beq_iff_eq.mpr c9
       have c9b1 : (a0 != 6) = false := bne_eq_false_iff_eq.mpr c9
       clear c9
       obtain ⟨ji10, hji10⟩ : ∃ j_ : Int, (IntKind.u64.wrap (Int.tmod a2 32)) = j_ := ⟨_, rfl⟩
       replace H : (if 0 ≤ (ji10) then (some (shl .u32 a1 (ji10), 0)) else (none)) = some (r1, r2) := by first | (rw [hji10] at H; exact H) | (simp only [hji10] at H ⊢; exact H)
       by_cases c11 : 0 ≤ (ji10)
       ·rw [if_pos c11] at H
        have c11b0 := eq_true c11
        have c11b1 : decide (0 ≤ (ji10)) = true := decide_eq_true c11
        clear c11
        obtain ⟨ji12, hji12⟩ : ∃ j_ : Int, (shl .u32 a1 (ji10)) = j_ := ⟨_, rfl⟩
        replace H : (some (ji12, 0)) = some (r1, r2) := by first | (rw [hji12] at H; exact H) | (simp only [hji12] at H ⊢; exact H)
        have hji12_ : (IntKind.u32.wrap (a1 * 2 ^ min (ji10).toNat 32)) = ji12 := hji12
        have hji12z : (ji10) ≤ 32 → (IntKind.u32.wrap (a1 * 2 ^ (ji10).toNat)) = ji12 := shl_small hji12
        simp only [Option.some.injEq, Prod.mk.injEq] at H
        obtain ⟨rfl, rfl⟩ := H
        go_enter Try.func88, Try.ntmps88
        go_wp2
        go_ret2
        exact ⟨by first | rfl | (simp; done) | (simp only [← hji10, ← hji12] <;> (first | rfl | simp)) | (simp [*]; done), by repeat (first | exact Drawn0.refl _ | apply Drawn0.step)⟩
       ·rw [if_neg c11] at H
        exact absurd H (by simp)
      ·rw [if_neg c9] at H
       have c9b0 : (a0 == 6) = false := beq_eq_false_iff_ne.mpr c9
       have c9b1 : (a0 != 6) = true := bne_iff_ne.mpr c9
       by_cases c13 : a0 = 7
       ·rw [if_pos c13] at H
        have c13b0 : (a0 == 7) = true := beq_iff_eq.mpr c13
        have c13b1 : (a0 != 7) = false := bne_eq_false_iff_eq.mpr c13
        clear c13
        obtain ⟨ji14, hji14⟩ : ∃ j_ : Int, (IntKind.u64.wrap (Int.tmod a2 32)) = j_ := ⟨_, rfl⟩
        replace H : (if 0 ≤ (ji14) then (some (shr .u32 a1 (ji14), 0)) else (none)) = some (r1, r2) := by first | (rw [hji14] at H; exact H) | (simp only [hji14] at H ⊢; exact H)
        by_cases c15 : 0 ≤ (ji14)
        ·rw [if_pos c15] at H
         have c15b0 := eq_true c15
         have c15b1 : decide (0 ≤ (ji14)) = true := decide_eq_true c15
         clear c15
         obtain ⟨ji16, hji16⟩ : ∃ j_ : Int, (shr .u32 a1 (ji14)) = j_ := ⟨_, rfl⟩
         replace H : (some (ji16, 0)) = some (r1, r2) := by first | (rw [hji16] at H; exact H) | (simp only [hji16] at H ⊢; exact H)
         have hji16_ : (a1 / 2 ^ min (ji14).toNat 32) = ji16 := hji16
         have hji16z : (ji14) ≤ 32 → (a1 / 2 ^ (ji14).toNat) = ji16 := shr_small hji16
         simp only [Option.some.injEq, Prod.mk.injEq] at H
         obtain ⟨rfl, rfl⟩ := H
         go_enter Try.func88, Try.ntmps88
         go_wp2
         go_ret2
         exact ⟨by first | rfl | (simp; done) | (simp only [← hji14, ← hji16] <;> (first | rfl | simp)) | (simp [*]; done), by repeat (first | exact Drawn0.refl _ | apply Drawn0.step)⟩
        ·rw [if_neg c15] at H
         exact absurd H (by simp)
       ·rw [if_neg c13] at H
        have c13b0 : (a0 == 7) = false := beq_eq_false_iff_ne.mpr c13
        have c13b1 : (a0 != 7) = true := bne_iff_ne.mpr c13
        by_cases c17 : a0 = 8
        ·rw [if_pos c17] at H
         have c17b0 : (a0 == 8) = true := beq_iff_eq.mpr c17
         have c17b1 : (a0 != 8) = false := bne_eq_false_iff_eq.mpr c17
         clear c17
         replace H := Option.bind_eq_some_iff.mp H
         obtain ⟨t612, A180, H⟩ := H
         (try dsimp only at H)
         have A18 := Aside0.mk A180
         clear A180
         simp only [Option.some.injEq, Prod.mk.injEq] at H
         obtain ⟨rfl, rfl⟩ := H
         go_enter Try.func88, Try.ntmps88
         go_wp2_with (first | ((with_reducible refine gate_callee (f := 96) rfl ?_); refine goesL_ (some 52) rfl rfl Try.func96 (by kernel_rfl) rfl #[.int .u32 a1, .int .u32 a2] rfl (by (try simp only [List.map_toArray, List.map_cons, List.map_nil]); first | done | rfl | (simp only [List.length_drop, List.length_take]; rfl)) ?_; (with_reducible refine (spec_SarWord.calls k a1 a2 t612 _ A18.out).mono ?_); rintro e w' ⟨rfl, ⟨nd, rfl⟩⟩; refine ⟨_, rfl, ?_⟩))
         go_ret2
         exact ⟨by first | rfl | (simp; done) | (simp [*]; done), by repeat (first | exact Drawn0.refl _ | apply Drawn0.step)⟩
        ·rw [if_neg c17] at H
         have c17b0 : (a0 == 8) = false := beq_eq_false_iff_ne.mpr c17
         have c17b1 : (a0 != 8) = true := bne_iff_ne.mpr c17
         by_cases c19 : a0 = 9
         ·rw [if_pos c19] at H
          have c19b0 : (a0 == 9) = true := beq_iff_eq.mpr c19
          have c19b1 : (a0 != 9) = false := bne_eq_false_iff_eq.mpr c19
          clear c19
          simp only [Option.some.injEq, Prod.mk.injEq] at H
          obtain ⟨rfl, rfl⟩ := H
          go_enter Try.func88, Try.ntmps88
          go_wp2
          go_ret2
          exact ⟨by first | rfl | (simp; done) | (simp [*]; done), by repeat (first | exact Drawn0.refl _ | apply Drawn0.step)⟩
         ·rw [if_neg c19] at H
          have c19b0 : (a0 == 9) = false := beq_eq_false_iff_ne.mpr c19
          have c19b1 : (a0 != 9) = true := bne_iff_ne.mpr c19
          by_cases c20 : a0 = 10
          ·rw [if_pos c20] at H
           have c20b0 : (a0 == 10) = true := beq_iff_eq.mpr c20
           have c20b1 : (a0 != 10) = false := bne_eq_false_iff_eq.mpr c20
           clear c20
           by_cases c21 : a2 = 0
           ·rw [if_pos c21] at H
            have c21b0 : (a2 == 0) = true := beq_iff_eq.mpr c21
            have c21b1 : (a2 != 0) = false := bne_eq_false_iff_eq.mpr c21
            clear c21
            simp only [Option.some.injEq, Prod.mk.injEq] at H
            obtain ⟨rfl, rfl⟩ := H
            go_enter Try.func88, Try.ntmps88
            go_wp2
            go_ret2
            exact ⟨by first | rfl | (simp; done) | (simp [*]; done), by repeat (first | exact Drawn0.refl _ | apply Drawn0.step)⟩
           ·rw [if_neg c21] at H
            have c21b0 : (a2 == 0) = false := beq_eq_false_iff_ne.mpr c21
            have c21b1 : (a2 != 0) = true := bne_iff_ne.mpr c21
            simp only [Option.some.injEq, Prod.mk.injEq] at H
            obtain ⟨rfl, rfl⟩ := H
            go_enter Try.func88, Try.ntmps88
            go_wp2
            go_ret2
            exact ⟨by first | rfl | (simp; done) | (simp [*]; done), by repeat (first | exact Drawn0.refl _ | apply Drawn0.step)⟩
          ·rw [if_neg c20] at H
           have c20b0 : (a0 == 10) = false := beq_eq_false_iff_ne.mpr c20
           have c20b1 : (a0 != 10) = true := bne_iff_ne.mpr c20
           by_cases c22 : a0 = 11
           ·rw [if_pos c22] at H
            have c22b0 : (a0 == 11) = true := beq_iff_eq.mpr c22
            have c22b1 : (a0 != 11) = false := bne_eq_false_iff_eq.mpr c22
            clear c22
            replace H := Option.bind_eq_some_iff.mp H
            obtain ⟨t613, A230, H⟩ := H
            (try dsimp only at H)
            have A23 := Aside0.mk A230
            clear A230
            replace H := Option.bind_eq_some_iff.mp H
            obtain ⟨t614, A240, H⟩ := H
            (try dsimp only at H)
            have A24 := Aside0.mk A240
            clear A240
            simp only [Option.some.injEq, Prod.mk.injEq] at H
            obtain ⟨rfl, rfl⟩ := H
            go_enter Try.func88, Try.ntmps88
            go_wp2_with (first | ((with_reducible refine gate_callee (f := 98) rfl ?_); refine goesL_ (some 69) rfl rfl Try.func98 (by kernel_rfl) rfl #[.int .u32 a1, .int .u32 a2] rfl (by (try simp only [List.map_toArray, List.map_cons, List.map_nil]); first | done | rfl | (simp only [List.length_drop, List.length_take]; rfl)) ?_; (with_reducible refine (spec_LessWord.calls a1 a2 t613 _ A23.out).mono ?_); rintro e w' ⟨rfl, ⟨nd, rfl⟩⟩; refine ⟨_, rfl, ?_⟩) | ((with_reducible refine gate_callee (f := 97) rfl ?_); refine goesL_ (some 70) rfl rfl Try.func97 (by kernel_rfl) rfl #[.bool t613] rfl (by (try simp only [List.map_toArray, List.map_cons, List.map_nil]); first | done | rfl | (simp only [List.length_drop, List.length_take]; rfl)) ?_; (with_reducible refine (spec_l08One.calls t613 t614 _ A24.out).mono ?_); rintro e w' ⟨rfl, ⟨nd, rfl⟩⟩; refine ⟨_, rfl, ?_⟩))
            go_ret2
            exact ⟨by first | rfl | (simp; done) | (simp [*]; done), by repeat (first | exact Drawn0.refl _ | apply Drawn0.step)⟩
           ·rw [if_neg c22] at H
            have c22b0 : (a0 == 11) = false := beq_eq_false_iff_ne.mpr c22
            have c22b1 : (a0 != 11) = true := bne_iff_ne.mpr c22
            by_cases c25 : a0 = 12
            ·rw [if_pos c25] at H
             have c25b0 : (a0 == 12) = true := beq_iff_eq.mpr c25
             have c25b1 : (a0 != 12) = false := bne_eq_false_iff_eq.mpr c25
             clear c25
             replace H := Option.bind_eq_some_iff.mp H
             obtain ⟨t615, A260, H⟩ := H
             (try dsimp only at H)
             have A26 := Aside0.mk A260
             clear A260
             simp only [Option.some.injEq, Prod.mk.injEq] at H
             obtain ⟨rfl, rfl⟩ := H
             go_enter Try.func88, Try.ntmps88
             go_wp2_with (first | ((with_reducible refine gate_callee (f := 97) rfl ?_); refine goesL_ (some 76) rfl rfl Try.func97 (by kernel_rfl) rfl #[.bool (decide (a1 < a2))] rfl (by (try simp only [List.map_toArray, List.map_cons, List.map_nil]); first | done | rfl | (simp only [List.length_drop, List.length_take]; rfl)) ?_; (with_reducible refine (spec_l08One.calls (decide (a1 < a2)) t615 _ A26.out).mono ?_); rintro e w' ⟨rfl, ⟨nd, rfl⟩⟩; refine ⟨_, rfl, ?_⟩))
             go_ret2
             exact ⟨by first | rfl | (simp; done) | (simp [*]; done), by repeat (first | exact Drawn0.refl _ | apply Drawn0.step)⟩
            ·rw [if_neg c25] at H
             have c25b0 : (a0 == 12) = false := beq_eq_false_iff_ne.mpr c25
             have c25b1 : (a0 != 12) = true := bne_iff_ne.mpr c25
             simp only [Option.some.injEq, Prod.mk.injEq] at H
             obtain ⟨rfl, rfl⟩ := H
             go_enter Try.func88, Try.ntmps88
             go_wp2
             go_ret2
             exact ⟨by first | rfl | (simp; done) | (simp [*]; done), by repeat (first | exact Drawn0.refl _ | apply Drawn0.step)⟩

def spec_Taken.f (a0 : Int) (a1 : Int) (a2 : Int) : Option (Bool) := if a0 = 19 then (some (a1 == a2)) else (if a0 = 20 then (some (a1 != a2)) else (if a0 = 21 then ((spec_LessWord.f a1 a2).bind fun t616 => (some t616)) else (some false)))
set_option maxHeartbeats 8000000 in
set_option maxRecDepth 100000 in
theorem spec_Taken.calls (a0 : Int) (a1 : Int) (a2 : Int) (r : Bool) (w : World) (h : spec_Taken.f a0 a1 a2 = some r) :
  Calls Try.prog 89 #[.int .i64 a0, .int .u32 a1, .int .u32 a2] w fun e w' => e = .returned (.bool r) ∧ Drawn0 w w' := by
 have H : (if a0 = 19 then (some (a1 == a2)) else (if a0 = 20 then (some (a1 != a2)) else (if a0 = 21 then ((spec_LessWord.f a1 a2).bind fun t616 => (some t616)) else (some false)))) = some r := h
 clear h
 by_cases c4 : a0 = 19
 ·rw [if_pos c4] at H
  have c4b0 : (a0 == 19) = true := beq_iff_eq.mpr c4
  have c4b1 : (a0 != 19) = false := bne_eq_false_iff_eq.mpr c4
  clear c4
  obtain rfl := Option.some.inj H
  go_enter Try.func89, Try.ntmps89
  go_wp2
  go_ret
  exact ⟨by first | rfl | (simp; done) | (simp [*]; done), by repeat (first | exact Drawn0.refl _ | apply Drawn0.step)⟩
 ·rw [if_neg c4] at H
  have c4b0 : (a0 == 19) = false := beq_eq_false_iff_ne.mpr c4
  have c4b1 : (a0 != 19) = true := bne_iff_ne.mpr c4
  by_cases c5 : a0 = 20
  ·rw [if_pos c5] at H
   have c5b0 : (a0 == 20) = true := beq_iff_eq.mpr c5
   have c5b1 : (a0 != 20) = false := bne_eq_false_iff_eq.mpr c5
   clear c5
   obtain rfl := Option.some.inj H
   go_enter Try.func89, Try.ntmps89
   go_wp2
   go_ret
   exact ⟨by first | rfl | (simp; done) | (simp [*]; done), by repeat (first | exact Drawn0.refl _ | apply Drawn0.step)⟩
  ·rw [if_neg c5] at H
   have c5b0 : (a0 == 20) = false := beq_eq_false_iff_ne.mpr c5
   have c5b1 : (a0 != 20) = true := bne_iff_ne.mpr c5
   by_cases c6 : a0 = 21
   ·rw [if_pos c6] at H
    have c6b0 : (a0 == 21) = true := beq_iff_eq.mpr c6
    have c6b1 : (a0 != 21) = false := bne_eq_false_iff_eq.mpr c6
    clear c6
    replace H := Option.bind_eq_some_iff.mp H
    obtain ⟨t616, A70, H⟩ := H
    (try dsimp only at H)
    have A7 := Aside0.mk A70
    clear A70
    obtain rfl := Option.some.inj H
    go_enter Try.func89, Try.ntmps89
    go_wp2_with (first | ((with_reducible refine gate_callee (f := 98) rfl ?_); refine goesL_ (some 22) rfl rfl Try.func98 (by kernel_rfl) rfl #[.int .u32 a1, .int .u32 a2] rfl (by (try simp only [List.map_toArray, List.map_cons, List.map_nil]); first | done | rfl | (simp only [List.length_drop, List.length_take]; rfl)) ?_; (with_reducible refine (spec_LessWord.calls a1 a2 t616 _ A7.out).mono ?_); rintro e w' ⟨rfl, ⟨nd, rfl⟩⟩; refine ⟨_, rfl, ?_⟩))
    go_ret
    exact ⟨by first | rfl | (simp; done) | (simp [*]; done), by repeat (first | exact Drawn0.refl _ | apply Drawn0.step)⟩
   ·rw [if_neg c6] at H
    have c6b0 : (a0 == 21) = false := beq_eq_false_iff_ne.mpr c6
    have c6b1 : (a0 != 21) = true := bne_iff_ne.mpr c6
    obtain rfl := Option.some.inj H
    go_enter Try.func89, Try.ntmps89
    go_wp2
    go_ret
    exact ⟨by first | rfl | (simp; done) | (simp [*]; done), by repeat (first | exact Drawn0.refl _ | apply Drawn0.step)⟩



end Go.Proofs.Ytbcpkigeginmnaa.GF
end
section
namespace Go.Proofs.Ytbcpkigeginmnaa.GF
open Go.RowKit Go.Proofs.YtbcpkigeginmnaaW.PrintWords Go.Proofs.YtbcpkigeginmnaaW.PrintLast Go.Proofs.YtbcpkigeginmnaaW.PrintMore Go.Proofs.Ytbcpkigeginmnaa.Q Go.Proofs.Ytbcpkigeginmnaa.Hnd Go.Proofs.Ytbcpkigeginmnaa.Lst
theorem wrapU (a : Int) (h0 : 0 ≤ a) (h1 : a < 4294967296) : IntKind.i64.wrap a = a := by
  have hb : IntKind.i64.bits = 64 := rfl
  have hs : IntKind.i64.signed = true := rfl
  unfold IntKind.wrap
  simp only [hb, hs]
  have e : (2 : Int) ^ (64 : Nat) = 18446744073709551616 := by decide
  have e2 : (2 : Int) ^ (64 - 1 : Nat) = 9223372036854775808 := by decide
  rw [e, e2, if_neg (by simp; omega)]
  omega
structure StsIn (w0 W : World) (lo hi : Nat) (v0 v2 : Value) (r : List Int) (ram : List (List Int)) (A : Option Addr) (c : Nat) (l : List S70) : Prop where
  g : Gst w0 W lo hi v0 v2 r ram
  b : Below w0.heap.size w0 W
  cw : Kd.C k70 w0 A l.length l
  lw : l.length ≤ c
section
variable {w0 W : World} {lo hi : Nat} {v0 v2 : Value} {r : List Int} {ram : List (List Int)} {A : Option Addr} {c : Nat} {l : List S70}
theorem fetch_g (h : StsIn w0 W lo hi v0 v2 r ram A c l) (p : Int) (K : Nat) (x t : Int) (hf : spec_l08Fetch.f K l r p ram = some (x, t)) : Calls Try.prog 58 #[.slice A l.length c, .agg #[v0, .int .u32 p, v2]] W fun e w' => e = .returned (.tuple #[.int .u32 x, .int .i64 t]) ∧ Below W.heap.size W w' := by
  obtain ⟨A0, c0, A2, c2, rfl, rfl, h0, h2, q0, q2⟩ := h.g.form
  exact spec_l08Fetch.calls K A c l A0 c0 r p A2 c2 ram x t W (Kd.C_below h.cw h.b) h.lw q0 h0 q2 h2 hf
theorem get_g (h : StsIn w0 W lo hi v0 v2 r ram A c l) (p a s : Int) (K : Nat) (x : Int) (hf : spec_l08Get.f K l r p ram a s = some x) : Calls Try.prog 61 #[.slice A l.length c, .agg #[v0, .int .u32 p, v2], .int .i64 a, .int .i64 s] W fun e w' => e = .returned (.int .u32 x) ∧ Below W.heap.size W w' := by
  obtain ⟨A0, c0, A2, c2, rfl, rfl, h0, h2, q0, q2⟩ := h.g.form
  exact spec_l08Get.calls K A c l A0 c0 r p A2 c2 ram a s x W (Kd.C_below h.cw h.b) h.lw q0 h0 q2 h2 hf
theorem fault_g (h : StsIn w0 W lo hi v0 v2 r ram A c l) (a s kd : Int) (K : Nat) (t : Int) (hf : spec_l07Fault.f K l a s kd = some t) : Calls Try.prog 80 #[.slice A l.length c, .int .u32 a, .int .i64 s, .int .i64 kd] W fun e w' => e = .returned (.int .i64 t) ∧ Below W.heap.size W w' :=
  spec_l07Fault.calls K A c l a s kd t W (Kd.C_below h.cw h.b) h.lw hf
end
set_option maxHeartbeats 8000000 in
set_option maxRecDepth 100000 in
theorem set_g (w0 W : World) (lo hi : Nat) (v0 v2 : Value) (r : List Int) (p : Int) (ram : List (List Int)) (n x : Int) (hG : Gst w0 W lo hi v0 v2 r ram) (h0 : 0 ≤ n) (h1 : n < r.length) :
    Calls Try.prog 40 #[.agg #[v0, .int .u32 p, v2], .int .i64 n, .int .u32 x] W fun e w' => e = .returned (.tuple #[]) ∧ Gst w0 w' lo hi v0 v2 (setR r n x) ram ∧ Fr (fun k => lo ≤ k ∧ k < hi) W w' := by
  have hu28 := Try.underlying28
  have HG := Aside0.mk hG
  by_cases c0 : n = 0
  · subst c0
    have e1 : setR r 0 x = r := by unfold setR; rw [if_pos rfl]
    rw [e1]
    clear hG
    go_enter Try.func40, Try.ntmps40
    go_wp2
    (first | go_end0 | ((try simp only [Exit.inBlock, Exit.then]); refine bodyPost_ret (results_none rfl _ _ _) rfl ?_))
    exact ⟨rfl, gq HG.out, ((Fr.refl _ W).alloc _)⟩
  · have e1 : setR r n x = r.set n.toNat x := by unfold setR; rw [if_neg c0]
    rw [e1]
    have c0b : n > 0 := by omega
    obtain ⟨go, co, rfl, hgo', hlt, cells, hcell⟩ := Kd.R_form hG.r0 (by omega)
    obtain ⟨hx, hf⟩ := Kd.R_celln 0 hG.r0 n h0 h1
    have hput := Kd.R_putg hG.r0 n x
    have hr := hG.r0.1 go rfl
    have HP := Aside0.mk hput
    have HR := Aside0.mk hr
    have HLT := Aside0.mk hlt
    have q0 := decide_eq_true h0
    have q1 := decide_eq_true h1
    clear hG hput hcell hr
    go_enter Try.func40, Try.ntmps40
    go_wp2
    (first | go_end0 | ((try simp only [Exit.inBlock, Exit.then]); refine bodyPost_ret (results_none rfl _ _ _) rfl ?_))
    have F1 : Fr (fun k => lo ≤ k ∧ k < hi) W (W.setCell ⟨go, n.toNat, none⟩ (.int .u32 x)) := (Fr.refl _ W).set (.inl HR.out) _
    have S2 := Kd.S_apart' HG.out.r2 (Kd.R_typed HG.out.r0) (by decide)
    have G2 : Gst w0 (W.setCell ⟨go, n.toNat, none⟩ (.int .u32 x)) lo hi (.slice (some ⟨go, 0, none⟩) r.length co) v2 (r.set n.toNat x) ram := ⟨HP.out.1, Kd.S_drop (Kd.S_far S2 (fun k hk e => hk.2 (by subst e; rfl)) _), HG.out.ge, Nat.le_trans HG.out.le F1.size⟩
    exact ⟨rfl, gq G2, F1.alloc _⟩
structure StsAt (w0 W w1 : World) (lo hi n : Nat) (v0 v2 : Value) (r : List Int) (ram : List (List Int)) (p : Int) (A : Option Addr) (c : Nat) (l : List S70) (bx ib : Array Value) : Prop where
  s : StsIn w0 w1 lo hi v0 v2 r ram A c l
  kg : w1.heap[W.heap.size]? = some (.cells #[v0, .int .u32 p, v2] 28 (0, 0))
  kz : w1.heap[W.heap.size + 1]? = some (.cells #[.slice none 0 0, .int .u32 0, .slice none 0 0, .int .i64 0, .int .i64 0, .int .i64 0, .bool false, .bool false] 52 (0, 0))
  ks : w1.heap[W.heap.size + 2]? = some (.cells bx 52 (0, 0))
  ki : ib ≠ #[] → w1.heap[n]? = some (.cells ib 89 (0, 0))
  n2 : W.heap.size + 2 < n
  hg : hi ≤ W.heap.size
  f : Fr (fun k => lo ≤ k ∧ k < hi) W w1
  b0 : w0.heap.size ≤ W.heap.size
def StsPost (w0 W : World) (lo hi : Nat) (v0 v2 : Value) (R : List Int) (P : Int) (M : List (List Int)) (fa op tc : Int) (wr ca : Bool) (e : Ending) (w' : World) : Prop :=
  e = .returned (.agg (stepC v0 P v2 fa op tc wr ca)) ∧ Gst w0 w' lo hi v0 v2 R M ∧ Fr (fun k => lo ≤ k ∧ k < hi) W w'
section
variable {w0 W w1 w2 : World} {lo hi n m : Nat} {v0 v2 : Value} {r r' : List Int} {ram ram' : List (List Int)} {p P' : Int} {A : Option Addr} {c : Nat} {l : List S70} {bx ib bx' : Array Value} {j : Nat} {u : Value}
theorem StsIn.fr {S : Nat → Prop} (h : StsIn w0 w1 lo hi v0 v2 r ram A c l) (f : Fr S w1 w2) (g : Gst w0 w2 lo hi v0 v2 r' ram') (hS : ∀ k, S k → w0.heap.size ≤ k) : StsIn w0 w2 lo hi v0 v2 r' ram' A c l :=
  ⟨g, h.b.trans (f.below hS h.b.size), h.cw, h.lw⟩
theorem StsIn.q (h : StsIn w0 w1 lo hi v0 v2 r ram A c l) [q : Quiet w1 w2] : StsIn w0 w2 lo hi v0 v2 r ram A c l := h.fr (Fr.of_below (fun _ => False) q.go) (gq h.g) (fun _ h => h.elim)
theorem StsAt.below (h : StsAt w0 W w1 lo hi n v0 v2 r ram p A c l bx ib) (hb : Below w1.heap.size w1 w2) : StsAt w0 W w2 lo hi n v0 v2 r ram p A c l bx ib :=
  ⟨h.s.fr (Fr.of_below (fun _ => False) hb) (h.s.g.below hb) (fun _ h => h.elim), blk_below h.kg hb, blk_below h.kz hb, blk_below h.ks hb, fun e => blk_below (h.ki e) hb, h.n2, h.hg, h.f.step hb, h.b0⟩
theorem StsAt.set_ (h : StsAt w0 W w1 lo hi n v0 v2 r ram p A c l bx ib) (hG : Gst w0 w2 lo hi v0 v2 r' ram') (hF : Fr (fun k => lo ≤ k ∧ k < hi) w1 w2) : StsAt w0 W w2 lo hi n v0 v2 r' ram' p A c l bx ib :=
  have hg := h.hg
  have n2 := h.n2
  ⟨h.s.fr hF hG (fun k hk => Nat.le_trans h.s.g.ge hk.1), hF.blk h.kg (by omega), hF.blk h.kz (by omega), hF.blk h.ks (by omega), fun e => hF.blk (h.ki e) (by omega), h.n2, h.hg, h.f.trans hF (fun k hk => .inl hk), h.b0⟩
theorem StsAt.put (h : StsAt w0 W w1 lo hi n v0 v2 r ram p A c l bx ib) (e : bx.setIfInBounds j u = bx') : StsAt w0 W (w1.setCell ⟨W.heap.size + 2, j, none⟩ u) lo hi n v0 v2 r ram p A c l bx' ib :=
  have hg := h.hg
  have n2 := h.n2
  have F : Fr (fun k => k = W.heap.size + 2) w1 (w1.setCell ⟨W.heap.size + 2, j, none⟩ u) := (Fr.refl (fun k => k = W.heap.size + 2) w1).set (p := ⟨W.heap.size + 2, j, none⟩) (.inl rfl) _
  ⟨h.s.fr F (h.s.g.fr F (fun k h1 h2 h3 => by omega)) (fun k hk => by have := h.b0; omega), F.blk h.kg (by omega), F.blk h.kz (by omega), blk_put h.ks j _ e, fun e => F.blk (h.ki e) (by omega), h.n2, h.hg, h.f.trans F (fun k hk => .inr (by omega)), h.b0⟩
theorem StsAt.pc (h : StsAt w0 W w1 lo hi n v0 v2 r ram p A c l bx ib) : StsAt w0 W (w1.setCell ⟨W.heap.size, 1, none⟩ (.int .u32 P')) lo hi n v0 v2 r ram P' A c l bx ib :=
  have hg := h.hg
  have n2 := h.n2
  have F : Fr (fun k => k = W.heap.size) w1 (w1.setCell ⟨W.heap.size, 1, none⟩ (.int .u32 P')) := (Fr.refl (fun k => k = W.heap.size) w1).set (p := ⟨W.heap.size, 1, none⟩) (.inl rfl) _
  ⟨h.s.fr F (h.s.g.fr F (fun k h1 h2 h3 => by omega)) (fun k hk => by have := h.b0; omega), blk_put h.kg 1 _ rfl, F.blk h.kz (by omega), F.blk h.ks (by omega), fun e => F.blk (h.ki e) (by omega), h.n2, h.hg, h.f.trans F (fun k hk => .inr (by omega)), h.b0⟩
theorem StsAt.ins (h : StsAt w0 W w1 lo hi m v0 v2 r ram p A c l bx #[]) : StsAt w0 W (w1.alloc (.cells ib 89)) lo hi w1.heap.size v0 v2 r ram p A c l bx ib :=
  have h2 := h.below (below_alloc (Below.refl _ _) (.cells ib 89))
  ⟨h2.s, h2.kg, h2.kz, h2.ks, fun _ => at1_0, blk_lt h.ks, h2.hg, h2.f, h2.b0⟩
theorem StsAt.open_ (h : StsIn w0 W lo hi v0 v2 r ram A c l) : StsAt w0 W (((W.alloc (.cells #[v0, .int .u32 p, v2] 28)).alloc (.cells #[.slice none 0 0, .int .u32 0, .slice none 0 0, .int .i64 0, .int .i64 0, .int .i64 0, .bool false, .bool false] 52)).alloc (.cells (stepC v0 p v2 0 (-1) (-1) false false) 52)) lo hi (W.heap.size + 3) v0 v2 r ram p A c l (stepC v0 p v2 0 (-1) (-1) false false) #[] :=
  have F : Fr (fun _ => False) W (((W.alloc (.cells #[v0, .int .u32 p, v2] 28)).alloc (.cells #[.slice none 0 0, .int .u32 0, .slice none 0 0, .int .i64 0, .int .i64 0, .int .i64 0, .bool false, .bool false] 52)).alloc (.cells (stepC v0 p v2 0 (-1) (-1) false false) 52)) := (((Fr.refl (fun _ => False) W).alloc _).alloc _).alloc _
  ⟨h.fr F (h.g.fr F (fun k _ _ h => h)) (fun _ h => h.elim), at3_0, at3_1, at3_2, fun e => absurd rfl e, Nat.lt_succ_self _, h.g.le, F.mono (fun _ h => h.elim), h.b.size⟩
theorem StsAt.dec {nq : Nat} (h : StsAt w0 W w1 lo hi m v0 v2 r ram p A c l bx #[]) (e : bx.setIfInBounds 4 u = bx') (hb : Below (((w1.setCell ⟨W.heap.size + 2, 4, none⟩ u).alloc (.cells ib 89)).drewN nq).heap.size (((w1.setCell ⟨W.heap.size + 2, 4, none⟩ u).alloc (.cells ib 89)).drewN nq) w2) : StsAt w0 W w2 lo hi w1.heap.size v0 v2 r ram p A c l bx' ib := by
  have h1 := h.put (j := 4) e
  have hz : (w1.setCell ⟨W.heap.size + 2, 4, none⟩ u).heap.size = w1.heap.size := by simp
  have h2 := h1.ins (ib := ib)
  rw [hz] at h2
  exact h2.below ((Below.trans (Quiet.go (W := (w1.setCell ⟨W.heap.size + 2, 4, none⟩ u).alloc (.cells ib 89)) (W' := ((w1.setCell ⟨W.heap.size + 2, 4, none⟩ u).alloc (.cells ib 89)).drewN nq)) hb))
theorem StsPost.alloc_ {P fa op tc : Int} {wr ca : Bool} {e : Ending} (h : StsPost w0 W lo hi v0 v2 r P ram fa op tc wr ca e w1) (o : Obj) : StsPost w0 W lo hi v0 v2 r P ram fa op tc wr ca e (w1.alloc o) := ⟨h.1, gq h.2.1, h.2.2.alloc o⟩
theorem StsAt.cells {u0 u2 : Value} {P fa op tc : Int} {wr ca : Bool} (h : StsAt w0 W w1 lo hi n v0 v2 r ram p A c l (stepC u0 P u2 fa op tc wr ca) ib) : w1.cell? ⟨W.heap.size, 0, none⟩ = some (v0) ∧ w1.cell? ⟨W.heap.size, 1, none⟩ = some (.int .u32 p) ∧ w1.cell? ⟨W.heap.size, 2, none⟩ = some (v2) ∧ w1.frozen? ⟨W.heap.size, 1, none⟩ = false ∧ w1.cell? ⟨W.heap.size + 1, 0, none⟩ = some (.slice none 0 0) ∧ w1.cell? ⟨W.heap.size + 1, 1, none⟩ = some (.int .u32 0) ∧ w1.cell? ⟨W.heap.size + 1, 2, none⟩ = some (.slice none 0 0) ∧ w1.cell? ⟨W.heap.size + 1, 3, none⟩ = some (.int .i64 0) ∧ w1.cell? ⟨W.heap.size + 1, 4, none⟩ = some (.int .i64 0) ∧ w1.cell? ⟨W.heap.size + 1, 5, none⟩ = some (.int .i64 0) ∧ w1.cell? ⟨W.heap.size + 1, 6, none⟩ = some (.bool false) ∧ w1.cell? ⟨W.heap.size + 1, 7, none⟩ = some (.bool false) ∧ w1.frozen? ⟨W.heap.size + 1, 0, none⟩ = false ∧ w1.frozen? ⟨W.heap.size + 1, 1, none⟩ = false ∧ w1.frozen? ⟨W.heap.size + 1, 2, none⟩ = false ∧ w1.frozen? ⟨W.heap.size + 1, 3, none⟩ = false ∧ w1.frozen? ⟨W.heap.size + 1, 4, none⟩ = false ∧ w1.frozen? ⟨W.heap.size + 1, 5, none⟩ = false ∧ w1.frozen? ⟨W.heap.size + 1, 6, none⟩ = false ∧ w1.frozen? ⟨W.heap.size + 1, 7, none⟩ = false ∧ w1.cell? ⟨W.heap.size + 2, 0, none⟩ = some (u0) ∧ w1.cell? ⟨W.heap.size + 2, 1, none⟩ = some (.int .u32 P) ∧ w1.cell? ⟨W.heap.size + 2, 2, none⟩ = some (u2) ∧ w1.cell? ⟨W.heap.size + 2, 3, none⟩ = some (.int .i64 fa) ∧ w1.cell? ⟨W.heap.size + 2, 4, none⟩ = some (.int .i64 op) ∧ w1.cell? ⟨W.heap.size + 2, 5, none⟩ = some (.int .i64 tc) ∧ w1.cell? ⟨W.heap.size + 2, 6, none⟩ = some (.bool wr) ∧ w1.cell? ⟨W.heap.size + 2, 7, none⟩ = some (.bool ca) ∧ w1.frozen? ⟨W.heap.size + 2, 0, none⟩ = false ∧ w1.frozen? ⟨W.heap.size + 2, 1, none⟩ = false ∧ w1.frozen? ⟨W.heap.size + 2, 2, none⟩ = false ∧ w1.frozen? ⟨W.heap.size + 2, 3, none⟩ = false ∧ w1.frozen? ⟨W.heap.size + 2, 4, none⟩ = false ∧ w1.frozen? ⟨W.heap.size + 2, 5, none⟩ = false ∧ w1.frozen? ⟨W.heap.size + 2, 6, none⟩ = false ∧ w1.frozen? ⟨W.heap.size + 2, 7, none⟩ = false :=
  ⟨kc h.kg 0 rfl, kc h.kg 1 rfl, kc h.kg 2 rfl, blk_frozen h.kg 1, kc h.kz 0 rfl, kc h.kz 1 rfl, kc h.kz 2 rfl, kc h.kz 3 rfl, kc h.kz 4 rfl, kc h.kz 5 rfl, kc h.kz 6 rfl, kc h.kz 7 rfl, blk_frozen h.kz 0, blk_frozen h.kz 1, blk_frozen h.kz 2, blk_frozen h.kz 3, blk_frozen h.kz 4, blk_frozen h.kz 5, blk_frozen h.kz 6, blk_frozen h.kz 7, kc h.ks 0 rfl, kc h.ks 1 rfl, kc h.ks 2 rfl, kc h.ks 3 rfl, kc h.ks 4 rfl, kc h.ks 5 rfl, kc h.ks 6 rfl, kc h.ks 7 rfl, blk_frozen h.ks 0, blk_frozen h.ks 1, blk_frozen h.ks 2, blk_frozen h.ks 3, blk_frozen h.ks 4, blk_frozen h.ks 5, blk_frozen h.ks 6, blk_frozen h.ks 7⟩
theorem StsAt.ins5 {op a b cc im : Int} (h : StsAt w0 W w1 lo hi n v0 v2 r ram p A c l bx #[.int .i64 op, .int .i64 a, .int .i64 b, .int .i64 cc, .int .i64 im]) : w1.cell? ⟨n, 0, none⟩ = some (.int .i64 op) ∧ w1.cell? ⟨n, 1, none⟩ = some (.int .i64 a) ∧ w1.cell? ⟨n, 2, none⟩ = some (.int .i64 b) ∧ w1.cell? ⟨n, 3, none⟩ = some (.int .i64 cc) ∧ w1.cell? ⟨n, 4, none⟩ = some (.int .i64 im) :=
  have h5 := h.ki (by simp)
  ⟨kc h5 0 rfl, kc h5 1 rfl, kc h5 2 rfl, kc h5 3 rfl, kc h5 4 rfl⟩
theorem StsAt.end_ {P : Int} {fa op tc : Int} {wr ca : Bool} (h : StsAt w0 W w1 lo hi n v0 v2 r ram p A c l (stepC v0 P v2 fa op tc wr ca) ib) : StsPost w0 W lo hi v0 v2 r P ram fa op tc wr ca (.returned (.agg (stepC v0 P v2 fa op tc wr ca))) ((((((((w1.setCell ⟨W.heap.size + 1, 0, none⟩ v0).setCell ⟨W.heap.size + 1, 1, none⟩ (.int .u32 P)).setCell ⟨W.heap.size + 1, 2, none⟩ v2).setCell ⟨W.heap.size + 1, 3, none⟩ (.int .i64 fa)).setCell ⟨W.heap.size + 1, 4, none⟩ (.int .i64 op)).setCell ⟨W.heap.size + 1, 5, none⟩ (.int .i64 tc)).setCell ⟨W.heap.size + 1, 6, none⟩ (.bool wr)).setCell ⟨W.heap.size + 1, 7, none⟩ (.bool ca)) := by
  have hg := h.hg
  have F9 := Fr.put8 (S := fun k => k = W.heap.size + 1) (Fr.refl _ w1) (g := W.heap.size + 1) (.inl rfl) v0 (.int .u32 P) v2 (.int .i64 fa) (.int .i64 op) (.int .i64 tc) (.bool wr) (.bool ca)
  exact ⟨rfl, h.s.g.fr F9 (fun k h1 h2 e => by omega), h.f.trans F9 (fun k h => .inr (by omega))⟩
set_option maxHeartbeats 2000000 in
theorem StsAt.kz8 {P : Int} {fa op tc : Int} {wr ca : Bool} (h : StsAt w0 W w1 lo hi n v0 v2 r ram p A c l (stepC v0 P v2 fa op tc wr ca) ib) : ((((((((w1.setCell ⟨W.heap.size + 1, 0, none⟩ v0).setCell ⟨W.heap.size + 1, 1, none⟩ (.int .u32 P)).setCell ⟨W.heap.size + 1, 2, none⟩ v2).setCell ⟨W.heap.size + 1, 3, none⟩ (.int .i64 fa)).setCell ⟨W.heap.size + 1, 4, none⟩ (.int .i64 op)).setCell ⟨W.heap.size + 1, 5, none⟩ (.int .i64 tc)).setCell ⟨W.heap.size + 1, 6, none⟩ (.bool wr)).setCell ⟨W.heap.size + 1, 7, none⟩ (.bool ca)).heap[W.heap.size + 1]? = some (.cells (stepC v0 P v2 fa op tc wr ca) 52 (0, 0)) :=
  blk_put (blk_put (blk_put (blk_put (blk_put (blk_put (blk_put (blk_put h.kz 0 _ rfl) 1 _ rfl) 2 _ rfl) 3 _ rfl) 4 _ rfl) 5 _ rfl) 6 _ rfl) 7 _ rfl
end
end Go.Proofs.Ytbcpkigeginmnaa.GF
end
section
namespace Go.Proofs.Ytbcpkigeginmnaa.GF
open Go.RowKit Go.Proofs.YtbcpkigeginmnaaW.PrintWords Go.Proofs.YtbcpkigeginmnaaW.PrintLast Go.Proofs.YtbcpkigeginmnaaW.PrintMore Go.Proofs.Ytbcpkigeginmnaa.Q Go.Proofs.Ytbcpkigeginmnaa.Hnd Go.Proofs.Ytbcpkigeginmnaa.Lst
def CoreC (l : List S70) (r : List Int) (p : Int) (ram : List (List Int)) (cy : Int) (R : List Int) (P : Int) (M : List (List Int)) (fa op tc : Int) (wr ca : Bool) : Prop :=
  ∀ (w W : World) (A : Option Addr) (c : Nat) (A0 : Option Addr) (c0 : Nat) (A2 : Option Addr) (c2 : Nat), CameP w W A c l A0 c0 r A2 c2 ram → Calls Try.prog 65 #[.slice A l.length c, .agg #[.slice A0 r.length c0, .int .u32 p, .slice A2 ram.length c2], .int .i64 cy] W (StpPost w W R P M fa op tc wr ca)
def StsC (l : List S70) (r : List Int) (p : Int) (ram : List (List Int)) (cy : Int) (R : List Int) (P : Int) (M : List (List Int)) (fa op tc : Int) (wr ca : Bool) : Prop :=
  ∀ (w0 W : World) (lo hi : Nat) (v0 v2 : Value) (A : Option Addr) (c : Nat), StsIn w0 W lo hi v0 v2 r ram A c l → Calls Try.prog 64 #[.slice A l.length c, .agg #[v0, .int .u32 p, v2], .int .i64 cy] W (StsPost w0 W lo hi v0 v2 R P M fa op tc wr ca)
section
variable {w W : World} {A : Option Addr} {c : Nat} {l : List S70} {A0 : Option Addr} {c0 : Nat} {r : List Int} {p : Int} {A2 : Option Addr} {c2 : Nat} {ram : List (List Int)} {K : Nat}
theorem CameP.at_ {W1 : World} (h : CameP w W A c l A0 c0 r A2 c2 ram) (b : Below W.heap.size W W1) : CameP W W1 A c l A0 c0 r A2 c2 ram :=
  ⟨Kd.C_below h.cw b, h.lw, Kd.C_below h.r0 b, h.l0, Kd.C_below h.r2 b, h.l2, h.b0, h.b2, h.bb, b⟩
set_option maxHeartbeats 2000000 in
set_option maxRecDepth 100000 in
theorem specStep_bad (h : CameP w W A c l A0 c0 r A2 c2 ram) (cy : Int) (hs : spec_GuestOk.f K l r p ram = some false) :
    Calls Try.prog 31 #[.slice A l.length c, .agg #[.slice A0 r.length c0, .int .u32 p, .slice A2 ram.length c2], .int .i64 cy] W (StpPost w W [] 0 [] 9 (-1) (-1) false false) := by
  have hu28 := Try.underlying28
  have hu52 := Try.underlying52
  have H := Aside0.mk h
  have HS := Aside0.mk hs
  clear h hs
  go_enter Try.func31, Try.ntmps31
  go_wp2_with ((go_at_call 18; refine (spec_GuestOk.calls K A c l A0 c0 r p A2 c2 ram false _ (cq H.out.cw) H.out.lw (cq H.out.r0) H.out.l0 (cq H.out.r2) H.out.l2 HS.out).mono ?_; rintro e w1 ⟨rfl, hb'⟩; have KG1 := Aside0.mk (blk_below (at2_0 (w := W) (o0 := .cells #[.slice A0 r.length c0, .int .u32 p, .slice A2 ram.length c2] 28) (o1 := .cells #[.slice none 0 0, .int .u32 0, .slice none 0 0, .int .i64 0, .int .i64 0, .int .i64 0, .bool false, .bool false] 52)) hb'); have K1 := Aside0.mk (blk_below (at2_1 (w := W) (o0 := .cells #[.slice A0 r.length c0, .int .u32 p, .slice A2 ram.length c2] 28) (o1 := .cells #[.slice none 0 0, .int .u32 0, .slice none 0 0, .int .i64 0, .int .i64 0, .int .i64 0, .bool false, .bool false] 52)) hb'); have F1 := Aside0.mk (((Fr.refl (fun _ => False) W).alloc (.cells #[.slice A0 r.length c0, .int .u32 p, .slice A2 ram.length c2] 28) |>.alloc (.cells #[.slice none 0 0, .int .u32 0, .slice none 0 0, .int .i64 0, .int .i64 0, .int .i64 0, .bool false, .bool false] 52)).step hb'); have ls1 : W.heap.size + 1 < w1.heap.size := blk_lt K1.out; clear hb'; have g0 := kc KG1.out 0 rfl; have g1 := kc KG1.out 1 rfl; have g2 := kc KG1.out 2 rfl; have z0 := kc K1.out 0 rfl; have fz0 := blk_frozen K1.out 0; have z1 := kc K1.out 1 rfl; have fz1 := blk_frozen K1.out 1; have z2 := kc K1.out 2 rfl; have fz2 := blk_frozen K1.out 2; have z3 := kc K1.out 3 rfl; have fz3 := blk_frozen K1.out 3; have z4 := kc K1.out 4 rfl; have fz4 := blk_frozen K1.out 4; have z5 := kc K1.out 5 rfl; have fz5 := blk_frozen K1.out 5; have z6 := kc K1.out 6 rfl; have fz6 := blk_frozen K1.out 6; have z7 := kc K1.out 7 rfl; have fz7 := blk_frozen K1.out 7))
  refine bodyPost_ret (results_cell_row rfl _ _ (W.heap.size + 1) 52 (stepC (.slice none 0 0) 0 (.slice none 0 0) 9 (-1) (-1) false false) (0, 0) _ rfl (blk_put (blk_put (blk_put (blk_put (blk_put (blk_put (blk_put (blk_put K1.out 0 _ rfl) 1 _ rfl) 2 _ rfl) 3 _ rfl) 4 _ rfl) 5 _ rfl) 6 _ rfl) 7 _ rfl) Try.underlying52 rfl (by kernel_rfl)) rfl ?_
  exact stp_fin (lo := w1.heap.size) (hi := w1.heap.size) ⟨Kd.R_nil _ _ _ _ _, Kd.S_nil _ _ _ _ _, Nat.le_of_lt (Nat.lt_of_le_of_lt (Nat.le_succ _) ls1), Nat.le_refl _⟩ ls1 (F1.out.mono (fun _ h => h.elim)) H.out.be.size
set_option maxHeartbeats 2000000 in
set_option maxRecDepth 100000 in
theorem specStep_ok (h : CameP w W A c l A0 c0 r A2 c2 ram) (cy : Int) (hs : spec_GuestOk.f K l r p ram = some true) (R : List Int) (P : Int) (M : List (List Int)) (fa op tc : Int) (wr ca : Bool) (hc : StsC l r p ram cy R P M fa op tc wr ca) :
    Calls Try.prog 31 #[.slice A l.length c, .agg #[.slice A0 r.length c0, .int .u32 p, .slice A2 ram.length c2], .int .i64 cy] W (StpPost w W R P M fa op tc wr ca) := by
  have hu28 := Try.underlying28
  have hu52 := Try.underlying52
  have H := Aside0.mk h
  have HS := Aside0.mk hs
  have HC := Aside0.mk hc
  have HCP := Aside0.mk (copy_pure r p ram h.b0 h.b2 h.bb (ram.length + 1) (by omega))
  clear h hs hc
  go_enter Try.func31, Try.ntmps31
  go_wp2_with (first | (go_at_call 18; refine (spec_GuestOk.calls K A c l A0 c0 r p A2 c2 ram true _ (cq H.out.cw) H.out.lw (cq H.out.r0) H.out.l0 (cq H.out.r2) H.out.l2 HS.out).mono ?_; rintro e w1 ⟨rfl, hb'⟩; have KG1 := Aside0.mk (blk_below (at2_0 (w := W) (o0 := .cells #[.slice A0 r.length c0, .int .u32 p, .slice A2 ram.length c2] 28) (o1 := .cells #[.slice none 0 0, .int .u32 0, .slice none 0 0, .int .i64 0, .int .i64 0, .int .i64 0, .bool false, .bool false] 52)) hb'); have K1 := Aside0.mk (blk_below (at2_1 (w := W) (o0 := .cells #[.slice A0 r.length c0, .int .u32 p, .slice A2 ram.length c2] 28) (o1 := .cells #[.slice none 0 0, .int .u32 0, .slice none 0 0, .int .i64 0, .int .i64 0, .int .i64 0, .bool false, .bool false] 52)) hb'); have F1 := Aside0.mk (((Fr.refl (fun _ => False) W).alloc (.cells #[.slice A0 r.length c0, .int .u32 p, .slice A2 ram.length c2] 28) |>.alloc (.cells #[.slice none 0 0, .int .u32 0, .slice none 0 0, .int .i64 0, .int .i64 0, .int .i64 0, .bool false, .bool false] 52)).step hb'); have ls1 : W.heap.size + 1 < w1.heap.size := blk_lt K1.out; clear hb'; have g0 := kc KG1.out 0 rfl; have g1 := kc KG1.out 1 rfl; have g2 := kc KG1.out 2 rfl; have z0 := kc K1.out 0 rfl; have fz0 := blk_frozen K1.out 0; have z1 := kc K1.out 1 rfl; have fz1 := blk_frozen K1.out 1; have z2 := kc K1.out 2 rfl; have fz2 := blk_frozen K1.out 2; have z3 := kc K1.out 3 rfl; have fz3 := blk_frozen K1.out 3; have z4 := kc K1.out 4 rfl; have fz4 := blk_frozen K1.out 4; have z5 := kc K1.out 5 rfl; have fz5 := blk_frozen K1.out 5; have z6 := kc K1.out 6 rfl; have fz6 := blk_frozen K1.out 6; have z7 := kc K1.out 7 rfl; have fz7 := blk_frozen K1.out 7) | (go_at_call 39; refine (spec_l08Copy.calls (ram.length + 1) A0 c0 r p A2 c2 ram r p ram _ (cq (Kd.C_below H.out.r0 (F1.out.below (fun _ h => h.elim) (Nat.le_refl _)))) H.out.l0 (cq (Kd.C_below H.out.r2 (F1.out.below (fun _ h => h.elim) (Nat.le_refl _)))) H.out.l2 HCP.out).mono ?_; rintro e w2 ⟨v0, v2, rfl, hR, hS, hb'⟩; have G2 := Aside0.mk (Gst.new (w0 := W) hR hS (lq (F1.out.below (fun _ h => h.elim) (Nat.le_refl _)))); have K2 := Aside0.mk (blk_below (bq K1.out) hb'); have F2 := Aside0.mk ((fq F1.out).step hb'); clear hR hS hb'; (try clear g0 g1 g2); clear z0 z1 z2 z3 z4 z5 z6 z7 fz0 fz1 fz2 fz3 fz4 fz5 fz6 fz7; have z0 := kc K2.out 0 rfl; have fz0 := blk_frozen K2.out 0; have z1 := kc K2.out 1 rfl; have fz1 := blk_frozen K2.out 1; have z2 := kc K2.out 2 rfl; have fz2 := blk_frozen K2.out 2; have z3 := kc K2.out 3 rfl; have fz3 := blk_frozen K2.out 3; have z4 := kc K2.out 4 rfl; have fz4 := blk_frozen K2.out 4; have z5 := kc K2.out 5 rfl; have fz5 := blk_frozen K2.out 5; have z6 := kc K2.out 6 rfl; have fz6 := blk_frozen K2.out 6; have z7 := kc K2.out 7 rfl; have fz7 := blk_frozen K2.out 7) | (go_at_call 64; refine (HC.out W _ _ _ v0 v2 A c ⟨G2.out, F2.out.below (fun _ h => h.elim) (Nat.le_refl _), H.out.cw, H.out.lw⟩).mono ?_; rintro e w3 ⟨rfl, hG, hF⟩; obtain ⟨A3, c3, rfl⟩ := Kd.R_slice hG.r0; obtain ⟨A4, c4, rfl⟩ := Kd.S_slice hG.r2; have G3 := Aside0.mk hG; have K3 := Aside0.mk (hF.blk K2.out (fun h => absurd h.1 (Nat.not_le_of_lt ls1))); have F3 := Aside0.mk ((F2.out.mono (T := fun k => W.heap.size ≤ k) (fun _ h => h.elim)).trans hF (fun k hk => .inl (Nat.le_trans (Nat.le_of_lt (Nat.lt_of_le_of_lt (Nat.le_succ _) ls1)) hk.1))); clear hG hF; (try clear g0 g1 g2); clear z0 z1 z2 z3 z4 z5 z6 z7 fz0 fz1 fz2 fz3 fz4 fz5 fz6 fz7; have z0 := kc K3.out 0 rfl; have fz0 := blk_frozen K3.out 0; have z1 := kc K3.out 1 rfl; have fz1 := blk_frozen K3.out 1; have z2 := kc K3.out 2 rfl; have fz2 := blk_frozen K3.out 2; have z3 := kc K3.out 3 rfl; have fz3 := blk_frozen K3.out 3; have z4 := kc K3.out 4 rfl; have fz4 := blk_frozen K3.out 4; have z5 := kc K3.out 5 rfl; have fz5 := blk_frozen K3.out 5; have z6 := kc K3.out 6 rfl; have fz6 := blk_frozen K3.out 6; have z7 := kc K3.out 7 rfl; have fz7 := blk_frozen K3.out 7))
  refine bodyPost_ret (results_cell_row rfl _ _ (W.heap.size + 1) 52 (stepC (.slice A3 R.length c3) P (.slice A4 M.length c4) fa op tc wr ca) (0, 0) _ rfl (blk_put (blk_put (blk_put (blk_put (blk_put (blk_put (blk_put (blk_put K3.out 0 _ rfl) 1 _ rfl) 2 _ rfl) 3 _ rfl) 4 _ rfl) 5 _ rfl) 6 _ rfl) 7 _ rfl) Try.underlying52 rfl (by kernel_rfl)) rfl ?_
  exact stp_fin G3.out ls1 F3.out H.out.be.size
set_option maxHeartbeats 2000000 in
set_option maxRecDepth 100000 in
theorem implStep_bad (h : CameP w W A c l A0 c0 r A2 c2 ram) (cy : Int) (hs : impl_isGuest.f K l r p ram = some false) :
    Calls Try.prog 32 #[.slice A l.length c, .agg #[.slice A0 r.length c0, .int .u32 p, .slice A2 ram.length c2], .int .i64 cy] W (StpPost w W [] 0 [] 9 (-1) (-1) false false) := by
  have hu28 := Try.underlying28
  have hu52 := Try.underlying52
  have H := Aside0.mk h
  have HS := Aside0.mk hs
  clear h hs
  go_enter Try.func32, Try.ntmps32
  go_wp2_with ((go_at_call 54; refine (impl_isGuest.calls K A c l A0 c0 r p A2 c2 ram false _ (cq H.out.cw) H.out.lw (cq H.out.r0) H.out.l0 (cq H.out.r2) H.out.l2 HS.out).mono ?_; rintro e w1 ⟨rfl, hb'⟩; have KG1 := Aside0.mk (blk_below (at2_0 (w := W) (o0 := .cells #[.slice A0 r.length c0, .int .u32 p, .slice A2 ram.length c2] 28) (o1 := .cells #[.slice none 0 0, .int .u32 0, .slice none 0 0, .int .i64 0, .int .i64 0, .int .i64 0, .bool false, .bool false] 52)) hb'); have K1 := Aside0.mk (blk_below (at2_1 (w := W) (o0 := .cells #[.slice A0 r.length c0, .int .u32 p, .slice A2 ram.length c2] 28) (o1 := .cells #[.slice none 0 0, .int .u32 0, .slice none 0 0, .int .i64 0, .int .i64 0, .int .i64 0, .bool false, .bool false] 52)) hb'); have F1 := Aside0.mk (((Fr.refl (fun _ => False) W).alloc (.cells #[.slice A0 r.length c0, .int .u32 p, .slice A2 ram.length c2] 28) |>.alloc (.cells #[.slice none 0 0, .int .u32 0, .slice none 0 0, .int .i64 0, .int .i64 0, .int .i64 0, .bool false, .bool false] 52)).step hb'); have ls1 : W.heap.size + 1 < w1.heap.size := blk_lt K1.out; clear hb'; have g0 := kc KG1.out 0 rfl; have g1 := kc KG1.out 1 rfl; have g2 := kc KG1.out 2 rfl; have z0 := kc K1.out 0 rfl; have fz0 := blk_frozen K1.out 0; have z1 := kc K1.out 1 rfl; have fz1 := blk_frozen K1.out 1; have z2 := kc K1.out 2 rfl; have fz2 := blk_frozen K1.out 2; have z3 := kc K1.out 3 rfl; have fz3 := blk_frozen K1.out 3; have z4 := kc K1.out 4 rfl; have fz4 := blk_frozen K1.out 4; have z5 := kc K1.out 5 rfl; have fz5 := blk_frozen K1.out 5; have z6 := kc K1.out 6 rfl; have fz6 := blk_frozen K1.out 6; have z7 := kc K1.out 7 rfl; have fz7 := blk_frozen K1.out 7))
  refine bodyPost_ret (results_cell_row rfl _ _ (W.heap.size + 1) 52 (stepC (.slice none 0 0) 0 (.slice none 0 0) 9 (-1) (-1) false false) (0, 0) _ rfl (blk_put (blk_put (blk_put (blk_put (blk_put (blk_put (blk_put (blk_put K1.out 0 _ rfl) 1 _ rfl) 2 _ rfl) 3 _ rfl) 4 _ rfl) 5 _ rfl) 6 _ rfl) 7 _ rfl) Try.underlying52 rfl (by kernel_rfl)) rfl ?_
  exact stp_fin (lo := w1.heap.size) (hi := w1.heap.size) ⟨Kd.R_nil _ _ _ _ _, Kd.S_nil _ _ _ _ _, Nat.le_of_lt (Nat.lt_of_le_of_lt (Nat.le_succ _) ls1), Nat.le_refl _⟩ ls1 (F1.out.mono (fun _ h => h.elim)) H.out.be.size
set_option maxHeartbeats 2000000 in
set_option maxRecDepth 100000 in
theorem implStep_ok (h : CameP w W A c l A0 c0 r A2 c2 ram) (cy : Int) (hs : impl_isGuest.f K l r p ram = some true) (R : List Int) (P : Int) (M : List (List Int)) (fa op tc : Int) (wr ca : Bool) (hc : CoreC l r p ram cy R P M fa op tc wr ca) :
    Calls Try.prog 32 #[.slice A l.length c, .agg #[.slice A0 r.length c0, .int .u32 p, .slice A2 ram.length c2], .int .i64 cy] W (StpPost w W R P M fa op tc wr ca) := by
  have hu28 := Try.underlying28
  have hu52 := Try.underlying52
  have H := Aside0.mk h
  have HS := Aside0.mk hs
  have HC := Aside0.mk hc
  clear h hs hc
  go_enter Try.func32, Try.ntmps32
  go_wp2_with (first | (go_at_call 54; refine (impl_isGuest.calls K A c l A0 c0 r p A2 c2 ram true _ (cq H.out.cw) H.out.lw (cq H.out.r0) H.out.l0 (cq H.out.r2) H.out.l2 HS.out).mono ?_; rintro e w1 ⟨rfl, hb'⟩; have KG1 := Aside0.mk (blk_below (at2_0 (w := W) (o0 := .cells #[.slice A0 r.length c0, .int .u32 p, .slice A2 ram.length c2] 28) (o1 := .cells #[.slice none 0 0, .int .u32 0, .slice none 0 0, .int .i64 0, .int .i64 0, .int .i64 0, .bool false, .bool false] 52)) hb'); have K1 := Aside0.mk (blk_below (at2_1 (w := W) (o0 := .cells #[.slice A0 r.length c0, .int .u32 p, .slice A2 ram.length c2] 28) (o1 := .cells #[.slice none 0 0, .int .u32 0, .slice none 0 0, .int .i64 0, .int .i64 0, .int .i64 0, .bool false, .bool false] 52)) hb'); have F1 := Aside0.mk (((Fr.refl (fun _ => False) W).alloc (.cells #[.slice A0 r.length c0, .int .u32 p, .slice A2 ram.length c2] 28) |>.alloc (.cells #[.slice none 0 0, .int .u32 0, .slice none 0 0, .int .i64 0, .int .i64 0, .int .i64 0, .bool false, .bool false] 52)).step hb'); have ls1 : W.heap.size + 1 < w1.heap.size := blk_lt K1.out; clear hb'; have g0 := kc KG1.out 0 rfl; have g1 := kc KG1.out 1 rfl; have g2 := kc KG1.out 2 rfl; have z0 := kc K1.out 0 rfl; have fz0 := blk_frozen K1.out 0; have z1 := kc K1.out 1 rfl; have fz1 := blk_frozen K1.out 1; have z2 := kc K1.out 2 rfl; have fz2 := blk_frozen K1.out 2; have z3 := kc K1.out 3 rfl; have fz3 := blk_frozen K1.out 3; have z4 := kc K1.out 4 rfl; have fz4 := blk_frozen K1.out 4; have z5 := kc K1.out 5 rfl; have fz5 := blk_frozen K1.out 5; have z6 := kc K1.out 6 rfl; have fz6 := blk_frozen K1.out 6; have z7 := kc K1.out 7 rfl; have fz7 := blk_frozen K1.out 7) | (go_at_call 65; refine (HC.out W _ A c A0 c0 A2 c2 (H.out.at_ (F1.out.below (fun _ h => h.elim) (Nat.le_refl _)))).mono ?_; rintro e w2 ⟨v0, v2, rfl, hG, hb'⟩; obtain ⟨A3, c3, rfl⟩ := Kd.R_slice hG.r0; obtain ⟨A4, c4, rfl⟩ := Kd.S_slice hG.r2; have G2 := Aside0.mk hG; have K2 := Aside0.mk (blk_below K1.out hb'); have F2 := Aside0.mk (F1.out.step hb'); clear hG hb'; (try clear g0 g1 g2); clear z0 z1 z2 z3 z4 z5 z6 z7 fz0 fz1 fz2 fz3 fz4 fz5 fz6 fz7; have z0 := kc K2.out 0 rfl; have fz0 := blk_frozen K2.out 0; have z1 := kc K2.out 1 rfl; have fz1 := blk_frozen K2.out 1; have z2 := kc K2.out 2 rfl; have fz2 := blk_frozen K2.out 2; have z3 := kc K2.out 3 rfl; have fz3 := blk_frozen K2.out 3; have z4 := kc K2.out 4 rfl; have fz4 := blk_frozen K2.out 4; have z5 := kc K2.out 5 rfl; have fz5 := blk_frozen K2.out 5; have z6 := kc K2.out 6 rfl; have fz6 := blk_frozen K2.out 6; have z7 := kc K2.out 7 rfl; have fz7 := blk_frozen K2.out 7))
  refine bodyPost_ret (results_cell_row rfl _ _ (W.heap.size + 1) 52 (stepC (.slice A3 R.length c3) P (.slice A4 M.length c4) fa op tc wr ca) (0, 0) _ rfl (blk_put (blk_put (blk_put (blk_put (blk_put (blk_put (blk_put (blk_put K2.out 0 _ rfl) 1 _ rfl) 2 _ rfl) 3 _ rfl) 4 _ rfl) 5 _ rfl) 6 _ rfl) 7 _ rfl) Try.underlying52 rfl (by kernel_rfl)) rfl ?_
  exact stp_fin G2.out ls1 (F2.out.mono (fun _ h => h.elim)) H.out.be.size
end
end Go.Proofs.Ytbcpkigeginmnaa.GF
end
