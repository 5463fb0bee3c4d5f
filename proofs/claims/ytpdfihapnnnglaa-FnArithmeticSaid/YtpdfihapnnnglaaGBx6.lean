/- Told by a program of this session, out of the translation: each function of the group as a plain Lean function, and that Go's call comes to just its answer. Lean checks it. -/
import Derived.Test.YtpdfihapnnnglaaGBx0
import Derived.Test.YtpdfihapnnnglaaGBx5
namespace Go.Proofs.Ytpdfihapnnnglaa.GB
open Go.RowKit Go.Proofs.YtpdfihapnnnglaaW.PrintWords Go.Proofs.YtpdfihapnnnglaaW.PrintLast Go.Proofs.YtpdfihapnnnglaaW.PrintMore Go.Proofs.Ytpdfihapnnnglaa.Q
attribute [local go_sem] max2_int min2_int max_two min_two max_three min_three max_four min_four   -- for this text's walks alone
set_option linter.unusedVariables false
set_option linter.unusedSimpArgs false

/-! ### impl_alu: function 47 -/
def impl_alu.f (a0 : Int) (a1 : Int) (a2 : Int) : Option (Int × Int) := if a0 = 1 then (some ((a1 + a2) % 4294967296, 0)) else (if a0 = 2 then (some ((a1 - a2) % 4294967296, 0)) else (if a0 = 3 then (some (Go.bits .and .u32 a1 a2, 0)) else (if a0 = 4 then (some (Go.bits .or .u32 a1 a2, 0)) else (if a0 = 5 then (some (Go.bits .xor .u32 a1 a2, 0)) else (if a0 = 6 then (if 0 ≤ (Int.tmod a2 32) then (some (shl .u32 a1 (Int.tmod a2 32), 0)) else (none)) else (if a0 = 7 then (if 0 ≤ (Int.tmod a2 32) then (some (shr .u32 a1 (Int.tmod a2 32), 0)) else (none)) else (if a0 = 8 then ((impl_SarWord.f a1 a2).bind fun t219 => (some (t219, 0))) else (if a0 = 9 then (some ((a1 * a2) % 4294967296, 0)) else (if a0 = 10 then (if a2 = 0 then (some (0, 5)) else (some ((Int.tdiv a1 a2) % 4294967296, 0))) else (if a0 = 11 then ((impl_LessWord.f a1 a2).bind fun t220 => ((impl_bitOf.f t220).bind fun t221 => (some (t221, 0)))) else (if a0 = 12 then ((impl_bitOf.f (decide (a1 < a2))).bind fun t222 => (some (t222, 0))) else (some (0, 4)))))))))))))
set_option maxHeartbeats 8000000 in
set_option maxRecDepth 100000 in
theorem impl_alu.calls (a0 : Int) (a1 : Int) (a2 : Int) (r1 : Int) (r2 : Int) (w : World) (h : impl_alu.f a0 a1 a2 = some (r1, r2)) :
  Calls Try.prog 47 #[.int .i64 a0, .int .u32 a1, .int .u32 a2] w fun e w' => e = .returned (.tuple #[.int .u32 r1, .int .i64 r2]) ∧ Drawn0 w w' := by
 have H : (if a0 = 1 then (some ((a1 + a2) % 4294967296, 0)) else (if a0 = 2 then (some ((a1 - a2) % 4294967296, 0)) else (if a0 = 3 then (some (Go.bits .and .u32 a1 a2, 0)) else (if a0 = 4 then (some (Go.bits .or .u32 a1 a2, 0)) else (if a0 = 5 then (some (Go.bits .xor .u32 a1 a2, 0)) else (if a0 = 6 then (if 0 ≤ (Int.tmod a2 32) then (some (shl .u32 a1 (Int.tmod a2 32), 0)) else (none)) else (if a0 = 7 then (if 0 ≤ (Int.tmod a2 32) then (some (shr .u32 a1 (Int.tmod a2 32), 0)) else (none)) else (if a0 = 8 then ((impl_SarWord.f a1 a2).bind fun t219 => (some (t219, 0))) else (if a0 = 9 then (some ((a1 * a2) % 4294967296, 0)) else (if a0 = 10 then (if a2 = 0 then (some (0, 5)) else (some ((Int.tdiv a1 a2) % 4294967296, 0))) else (if a0 = 11 then ((impl_LessWord.f a1 a2).bind fun t220 => ((impl_bitOf.f t220).bind fun t221 => (some (t221, 0)))) else (if a0 = 12 then ((impl_bitOf.f (decide (a1 < a2))).bind fun t222 => (some (t222, 0))) else (some (0, 4)))))))))))))) = some (r1, r2) := h
 clear h
 by_cases c4 : a0 = 1
 ·rw [if_pos c4] at H
  have c4b0 : (a0 == 1) = true := beq_iff_eq.mpr c4
  have c4b1 : (a0 != 1) = false := bne_eq_false_iff_eq.mpr c4
  clear c4
  simp only [Option.some.injEq, Prod.mk.injEq] at H
  obtain ⟨rfl, rfl⟩ := H
  go_enter Try.func47, Try.ntmps47
  go_wp2
  go_ret2
  exact ⟨by first | rfl | (simp; done) | (simp [*]; done), by repeat (first | exact Drawn0.refl _ | apply Drawn0.step)⟩
 ·rw [if_neg c4] at H
  have c4b0 : (a0 == 1) = false := beq_eq_false_iff_ne.mpr c4
  have c4b1 : (a0 != 1) = true := bne_iff_ne.mpr c4
  by_cases c5 : a0 = 2
  ·rw [if_pos c5] at H
   have c5b0 : (a0 == 2) = true := beq_iff_eq.mpr c5
   have c5b1 : (a0 != 2) = false := bne_eq_false_iff_eq.mpr c5
   clear c5
   simp only [Option.some.injEq, Prod.mk.injEq] at H
   obtain ⟨rfl, rfl⟩ := H
   go_enter Try.func47, Try.ntmps47
   go_wp2
   go_ret2
   exact ⟨by first | rfl | (simp; done) | (simp [*]; done), by repeat (first | exact Drawn0.refl _ | apply Drawn0.step)⟩
  ·rw [if_neg c5] at H
   have c5b0 : (a0 == 2) = false := beq_eq_false_iff_ne.mpr c5
   have c5b1 : (a0 != 2) = true := bne_iff_ne.mpr c5
   by_cases c6 : a0 = 3
   ·rw [if_pos c6] at H
    have c6b0 : (a0 == 3) = true := beq_iff_eq.mpr c6
    have c6b1 : (a0 != 3) = false := bne_eq_false_iff_eq.mpr c6
    clear c6
    simp only [Option.some.injEq, Prod.mk.injEq] at H
    obtain ⟨rfl, rfl⟩ := H
    go_enter Try.func47, Try.ntmps47
    go_wp2
    go_ret2
    exact ⟨by first | rfl | (simp; done) | (simp [*]; done), by repeat (first | exact Drawn0.refl _ | apply Drawn0.step)⟩
   ·rw [if_neg c6] at H
    have c6b0 : (a0 == 3) = false := beq_eq_false_iff_ne.mpr c6
    have c6b1 : (a0 != 3) = true := bne_iff_ne.mpr c6
    by_cases c7 : a0 = 4
    ·rw [if_pos c7] at H
     have c7b0 : (a0 == 4) = true := beq_iff_eq.mpr c7
     have c7b1 : (a0 != 4) = false := bne_eq_false_iff_eq.mpr c7
     clear c7
     simp only [Option.some.injEq, Prod.mk.injEq] at H
     obtain ⟨rfl, rfl⟩ := H
     go_enter Try.func47, Try.ntmps47
     go_wp2
     go_ret2
     exact ⟨by first | rfl | (simp; done) | (simp [*]; done), by repeat (first | exact Drawn0.refl _ | apply Drawn0.step)⟩
    ·rw [if_neg c7] at H
     have c7b0 : (a0 == 4) = false := beq_eq_false_iff_ne.mpr c7
     have c7b1 : (a0 != 4) = true := bne_iff_ne.mpr c7
     by_cases c8 : a0 = 5
     ·rw [if_pos c8] at H
      have c8b0 : (a0 == 5) = true := beq_iff_eq.mpr c8
      have c8b1 : (a0 != 5) = false := bne_eq_false_iff_eq.mpr c8
      clear c8
      simp only [Option.some.injEq, Prod.mk.injEq] at H
      obtain ⟨rfl, rfl⟩ := H
      go_enter Try.func47, Try.ntmps47
      go_wp2
      go_ret2
      exact ⟨by first | rfl | (simp; done) | (simp [*]; done), by repeat (first | exact Drawn0.refl _ | apply Drawn0.step)⟩
     ·rw [if_neg c8] at H
      have c8b0 : (a0 == 5) = false := beq_eq_false_iff_ne.mpr c8
      have c8b1 : (a0 != 5) = true := bne_iff_ne.mpr c8
      by_cases c9 : a0 = 6
      ·rw [if_pos c9] at H
       have c9b0 : (a0 == 6) = true := beq_iff_eq.mpr c9
       have c9b1 : (a0 != 6) = false := bne_eq_false_iff_eq.mpr c9
       clear c9
       obtain ⟨ji10, hji10⟩ : ∃ j_ : Int, (Int.tmod a2 32) = j_ := ⟨_, rfl⟩
       replace H : (if 0 ≤ (ji10) then (some (shl .u32 a1 (ji10), 0)) else (none)) = some (r1, r2) := by first | (rw [hji10] at H; exact H) | (simp only [hji10] at H ⊢; exact H)
       by_cases c11 : 0 ≤ (ji10)
       ·rw [if_pos c11] at H
        have c11b0 := eq_true c11
        have c11b1 : decide (0 ≤ (ji10)) = true := decide_eq_true c11
        clear c11
        obtain ⟨ji12, hji12⟩ : ∃ j_ : Int, (shl .u32 a1 (ji10)) = j_ := ⟨_, rfl⟩
        replace H : (some (ji12, 0)) = some (r1, r2) := by first | (rw [hji12] at H; exact H) | (simp only [hji12] at H ⊢; exact H)
        have hji12_ : (IntKind.u32.wrap (a1 * 2 ^ min (ji10).toNat 32)) = ji12 := hji12
        have hji12z : (ji10) ≤ 32 → (IntKind.u32.wrap (a1 * 2 ^ (ji10).toNat)) = ji12 := shl_small hji12
        simp only [Option.some.injEq, Prod.mk.injEq] at H
        obtain ⟨rfl, rfl⟩ := H
        go_enter Try.func47, Try.ntmps47
        go_wp2
        go_ret2
        exact ⟨by first | rfl | (simp; done) | (simp only [← hji10, ← hji12] <;> (first | rfl | simp)) | (simp [*]; done), by repeat (first | exact Drawn0.refl _ | apply Drawn0.step)⟩
       ·rw [if_neg c11] at H
        exact absurd H (by simp)
      ·rw [if_neg c9] at H
       have c9b0 : (a0 == 6) = false := beq_eq_false_iff_ne.mpr c9
       have c9b1 : (a0 != 6) = true := bne_iff_ne.mpr c9
       by_cases c13 : a0 = 7
       ·rw [if_pos c13] at H
        have c13b0 : (a0 == 7) = true := beq_iff_eq.mpr c13
        have c13b1 : (a0 != 7) = false := bne_eq_false_iff_eq.mpr c13
        clear c13
        obtain ⟨ji14, hji14⟩ : ∃ j_ : Int, (Int.tmod a2 32) = j_ := ⟨_, rfl⟩
        replace H : (if 0 ≤ (ji14) then (some (shr .u32 a1 (ji14), 0)) else (none)) = some (r1, r2) := by first | (rw [hji14] at H; exact H) | (simp only [hji14] at H ⊢; exact H)
        by_cases c15 : 0 ≤ (ji14)
        ·rw [if_pos c15] at H
         have c15b0 := eq_true c15
         have c15b1 : decide (0 ≤ (ji14)) = true := decide_eq_true c15
         clear c15
         obtain ⟨ji16, hji16⟩ : ∃ j_ : Int, (shr .u32 a1 (ji14)) = j_ := ⟨_, rfl⟩
         replace H : (some (ji16, 0)) = some (r1, r2) := by first | (rw [hji16] at H; exact H) | (simp only [hji16] at H ⊢; exact H)
         have hji16_ : (a1 / 2 ^ min (ji14).toNat 32) = ji16 := hji16
         have hji16z : (ji14) ≤ 32 → (a1 / 2 ^ (ji14).toNat) = ji16 := shr_small hji16
         simp only [Option.some.injEq, Prod.mk.injEq] at H
         obtain ⟨rfl, rfl⟩ := H
         go_enter Try.func47, Try.ntmps47
         go_wp2
         go_ret2
         exact ⟨by first | rfl | (simp; done) | (simp only [← hji14, ← hji16] <;> (first | rfl | simp)) | (simp [*]; done), by repeat (first | exact Drawn0.refl _ | apply Drawn0.step)⟩
        ·rw [if_neg c15] at H
         exact absurd H (by simp)
       ·rw [if_neg c13] at H
        have c13b0 : (a0 == 7) = false := beq_eq_false_iff_ne.mpr c13
        have c13b1 : (a0 != 7) = true := bne_iff_ne.mpr c13
        by_cases c17 : a0 = 8
        ·rw [if_pos c17] at H
         have c17b0 : (a0 == 8) = true := beq_iff_eq.mpr c17
         have c17b1 : (a0 != 8) = false := bne_eq_false_iff_eq.mpr c17
         clear c17
         replace H := Option.bind_eq_some_iff.mp H
         obtain ⟨t219, A180, H⟩ := H
         (try dsimp only at H)
         have A18 := Aside0.mk A180
         clear A180
         simp only [Option.some.injEq, Prod.mk.injEq] at H
         obtain ⟨rfl, rfl⟩ := H
         go_enter Try.func47, Try.ntmps47
         go_wp2_with (first | ((with_reducible refine gate_callee (f := 25) rfl ?_); refine goesL_ (some 50) rfl rfl Try.func25 (by kernel_rfl) rfl #[.int .u32 a1, .int .u32 a2] rfl (by (try simp only [List.map_toArray, List.map_cons, List.map_nil]); first | done | rfl | (simp only [List.length_drop, List.length_take]; rfl)) ?_; (with_reducible refine (impl_SarWord.calls a1 a2 t219 _ A18.out).mono ?_); rintro e w' ⟨rfl, ⟨nd, rfl⟩⟩; refine ⟨_, rfl, ?_⟩))
         go_ret2
         exact ⟨by first | rfl | (simp; done) | (simp [*]; done), by repeat (first | exact Drawn0.refl _ | apply Drawn0.step)⟩
        ·rw [if_neg c17] at H
         have c17b0 : (a0 == 8) = false := beq_eq_false_iff_ne.mpr c17
         have c17b1 : (a0 != 8) = true := bne_iff_ne.mpr c17
         by_cases c19 : a0 = 9
         ·rw [if_pos c19] at H
          have c19b0 : (a0 == 9) = true := beq_iff_eq.mpr c19
          have c19b1 : (a0 != 9) = false := bne_eq_false_iff_eq.mpr c19
          clear c19
          simp only [Option.some.injEq, Prod.mk.injEq] at H
          obtain ⟨rfl, rfl⟩ := H
          go_enter Try.func47, Try.ntmps47
          go_wp2
          go_ret2
          exact ⟨by first | rfl | (simp; done) | (simp [*]; done), by repeat (first | exact Drawn0.refl _ | apply Drawn0.step)⟩
         ·rw [if_neg c19] at H
          have c19b0 : (a0 == 9) = false := beq_eq_false_iff_ne.mpr c19
          have c19b1 : (a0 != 9) = true := bne_iff_ne.mpr c19
          by_cases c20 : a0 = 10
          ·rw [if_pos c20] at H
           have c20b0 : (a0 == 10) = true := beq_iff_eq.mpr c20
           have c20b1 : (a0 != 10) = false := bne_eq_false_iff_eq.mpr c20
           clear c20
           by_cases c21 : a2 = 0
           ·rw [if_pos c21] at H
            have c21b0 : (a2 == 0) = true := beq_iff_eq.mpr c21
            have c21b1 : (a2 != 0) = false := bne_eq_false_iff_eq.mpr c21
            clear c21
            simp only [Option.some.injEq, Prod.mk.injEq] at H
            obtain ⟨rfl, rfl⟩ := H
            go_enter Try.func47, Try.ntmps47
            go_wp2
            go_ret2
            exact ⟨by first | rfl | (simp; done) | (simp [*]; done), by repeat (first | exact Drawn0.refl _ | apply Drawn0.step)⟩
           ·rw [if_neg c21] at H
            have c21b0 : (a2 == 0) = false := beq_eq_false_iff_ne.mpr c21
            have c21b1 : (a2 != 0) = true := bne_iff_ne.mpr c21
            simp only [Option.some.injEq, Prod.mk.injEq] at H
            obtain ⟨rfl, rfl⟩ := H
            go_enter Try.func47, Try.ntmps47
            go_wp2
            go_ret2
            exact ⟨by first | rfl | (simp; done) | (simp [*]; done), by repeat (first | exact Drawn0.refl _ | apply Drawn0.step)⟩
          ·rw [if_neg c20] at H
           have c20b0 : (a0 == 10) = false := beq_eq_false_iff_ne.mpr c20
           have c20b1 : (a0 != 10) = true := bne_iff_ne.mpr c20
           by_cases c22 : a0 = 11
           ·rw [if_pos c22] at H
            have c22b0 : (a0 == 11) = true := beq_iff_eq.mpr c22
            have c22b1 : (a0 != 11) = false := bne_eq_false_iff_eq.mpr c22
            clear c22
            replace H := Option.bind_eq_some_iff.mp H
            obtain ⟨t220, A230, H⟩ := H
            (try dsimp only at H)
            have A23 := Aside0.mk A230
            clear A230
            replace H := Option.bind_eq_some_iff.mp H
            obtain ⟨t221, A240, H⟩ := H
            (try dsimp only at H)
            have A24 := Aside0.mk A240
            clear A240
            simp only [Option.some.injEq, Prod.mk.injEq] at H
            obtain ⟨rfl, rfl⟩ := H
            go_enter Try.func47, Try.ntmps47
            go_wp2_with (first | ((with_reducible refine gate_callee (f := 55) rfl ?_); refine goesL_ (some 67) rfl rfl Try.func55 (by kernel_rfl) rfl #[.int .u32 a1, .int .u32 a2] rfl (by (try simp only [List.map_toArray, List.map_cons, List.map_nil]); first | done | rfl | (simp only [List.length_drop, List.length_take]; rfl)) ?_; (with_reducible refine (impl_LessWord.calls a1 a2 t220 _ A23.out).mono ?_); rintro e w' ⟨rfl, ⟨nd, rfl⟩⟩; refine ⟨_, rfl, ?_⟩) | ((with_reducible refine gate_callee (f := 37) rfl ?_); refine goesL_ (some 68) rfl rfl Try.func37 (by kernel_rfl) rfl #[.bool t220] rfl (by (try simp only [List.map_toArray, List.map_cons, List.map_nil]); first | done | rfl | (simp only [List.length_drop, List.length_take]; rfl)) ?_; (with_reducible refine (impl_bitOf.calls t220 t221 _ A24.out).mono ?_); rintro e w' ⟨rfl, ⟨nd, rfl⟩⟩; refine ⟨_, rfl, ?_⟩))
            go_ret2
            exact ⟨by first | rfl | (simp; done) | (simp [*]; done), by repeat (first | exact Drawn0.refl _ | apply Drawn0.step)⟩
           ·rw [if_neg c22] at H
            have c22b0 : (a0 == 11) = false := beq_eq_false_iff_ne.mpr c22
            have c22b1 : (a0 != 11) = true := bne_iff_ne.mpr c22
            by_cases c25 : a0 = 12
            ·rw [if_pos c25] at H
             have c25b0 : (a0 == 12) = true := beq_iff_eq.mpr c25
             have c25b1 : (a0 != 12) = false := bne_eq_false_iff_eq.mpr c25
             clear c25
             replace H := Option.bind_eq_some_iff.mp H
             obtain ⟨t222, A260, H⟩ := H
             (try dsimp only at H)
             have A26 := Aside0.mk A260
             clear A260
             simp only [Option.some.injEq, Prod.mk.injEq] at H
             obtain ⟨rfl, rfl⟩ := H
             go_enter Try.func47, Try.ntmps47
             go_wp2_with (first | ((with_reducible refine gate_callee (f := 37) rfl ?_); refine goesL_ (some 74) rfl rfl Try.func37 (by kernel_rfl) rfl #[.bool (decide (a1 < a2))] rfl (by (try simp only [List.map_toArray, List.map_cons, List.map_nil]); first | done | rfl | (simp only [List.length_drop, List.length_take]; rfl)) ?_; (with_reducible refine (impl_bitOf.calls (decide (a1 < a2)) t222 _ A26.out).mono ?_); rintro e w' ⟨rfl, ⟨nd, rfl⟩⟩; refine ⟨_, rfl, ?_⟩))
             go_ret2
             exact ⟨by first | rfl | (simp; done) | (simp [*]; done), by repeat (first | exact Drawn0.refl _ | apply Drawn0.step)⟩
            ·rw [if_neg c25] at H
             have c25b0 : (a0 == 12) = false := beq_eq_false_iff_ne.mpr c25
             have c25b1 : (a0 != 12) = true := bne_iff_ne.mpr c25
             simp only [Option.some.injEq, Prod.mk.injEq] at H
             obtain ⟨rfl, rfl⟩ := H
             go_enter Try.func47, Try.ntmps47
             go_wp2
             go_ret2
             exact ⟨by first | rfl | (simp; done) | (simp [*]; done), by repeat (first | exact Drawn0.refl _ | apply Drawn0.step)⟩

/-! ### impl_Alu: function 23 -/
def impl_Alu.f (a0 : Int) (a1 : Int) (a2 : Int) : Option (Int × Int) := (impl_alu.f a0 a1 a2).bind fun bt223 => (some (bt223.1, bt223.2))
set_option maxHeartbeats 8000000 in
set_option maxRecDepth 100000 in
theorem impl_Alu.calls (a0 : Int) (a1 : Int) (a2 : Int) (r1 : Int) (r2 : Int) (w : World) (h : impl_Alu.f a0 a1 a2 = some (r1, r2)) :
  Calls Try.prog 23 #[.int .i64 a0, .int .u32 a1, .int .u32 a2] w fun e w' => e = .returned (.tuple #[.int .u32 r1, .int .i64 r2]) ∧ Drawn0 w w' := by
 have H : ((impl_alu.f a0 a1 a2).bind fun bt223 => (some (bt223.1, bt223.2))) = some (r1, r2) := h
 clear h
 replace H := Option.bind_eq_some_iff.mp H
 obtain ⟨⟨t223, t224⟩, A40, H⟩ := H
 (try dsimp only at H)
 have A4 := Aside0.mk A40
 clear A40
 simp only [Option.some.injEq, Prod.mk.injEq] at H
 obtain ⟨rfl, rfl⟩ := H
 go_enter Try.func23, Try.ntmps23
 go_wp2_with (first | ((with_reducible refine gate_callee (f := 47) rfl ?_); refine goesL_ (some 11) rfl rfl Try.func47 (by kernel_rfl) rfl #[.int .i64 a0, .int .u32 a1, .int .u32 a2] rfl (by (try simp only [List.map_toArray, List.map_cons, List.map_nil]); first | done | rfl | (simp only [List.length_drop, List.length_take]; rfl)) ?_; (with_reducible refine (impl_alu.calls a0 a1 a2 t223 t224 _ A4.out).mono ?_); rintro e w' ⟨rfl, ⟨nd, rfl⟩⟩; refine ⟨_, rfl, ?_⟩))
 go_ret2
 exact ⟨by first | rfl | (simp; done) | (simp [*]; done), by repeat (first | exact Drawn0.refl _ | apply Drawn0.step)⟩

/-! ### impl_AddWord: function 24 -/
def impl_AddWord.f (a0 : Int) (a1 : Int) : Option (Int × Bool) := some ((a0 + a1) % 4294967296, decide (((a0 + a1) % 4294967296) < a0))
set_option maxHeartbeats 8000000 in
set_option maxRecDepth 100000 in
theorem impl_AddWord.calls (a0 : Int) (a1 : Int) (r1 : Int) (r2 : Bool) (w : World) (h : impl_AddWord.f a0 a1 = some (r1, r2)) :
  Calls Try.prog 24 #[.int .u32 a0, .int .u32 a1] w fun e w' => e = .returned (.tuple #[.int .u32 r1, .bool r2]) ∧ Drawn0 w w' := by
 have H : (some ((a0 + a1) % 4294967296, decide (((a0 + a1) % 4294967296) < a0))) = some (r1, r2) := h
 clear h
 simp only [Option.some.injEq, Prod.mk.injEq] at H
 obtain ⟨rfl, rfl⟩ := H
 go_enter Try.func24, Try.ntmps24
 go_wp2
 go_ret2
 exact ⟨by first | rfl | (simp; done) | (simp [*]; done), by repeat (first | exact Drawn0.refl _ | apply Drawn0.step)⟩

end Go.Proofs.Ytpdfihapnnnglaa.GB
