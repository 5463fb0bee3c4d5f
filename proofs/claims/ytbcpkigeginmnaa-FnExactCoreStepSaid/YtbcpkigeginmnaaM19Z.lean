/- Bits of 32-bit words, told by division: a bit read, set and struck; masks; shifts. Plain laws of whole numbers, no program in sight. -/
import Derived.Test.YtbcpkigeginmnaaM3Z
import Derived.Test.YtbcpkigeginmnaaGFx25Z
import Derived.Test.YtbcpkigeginmnaaM18Z
import Derived.Test.YtbcpkigeginmnaaM15Z
import Derived.Laws.BitsLemmas
import Derived.WalkKit
import Derived.Test.YtbcpkigeginmnaaM2Z
set_option linter.unusedVariables false
set_option linter.unusedSimpArgs false
section
namespace Go.Proofs.Ytbcpkigeginmnaa.GF
open Go.RowKit Go.Proofs.YtbcpkigeginmnaaW.PrintWords Go.Proofs.YtbcpkigeginmnaaW.PrintLast Go.Proofs.YtbcpkigeginmnaaW.PrintMore Go.Proofs.Ytbcpkigeginmnaa.Q Go.Proofs.Ytbcpkigeginmnaa.Hnd
def okF (f a b c im : Int) : Bool := (decide (f % 2 = 1) || a == 0) && (decide (f / 2 % 2 = 1) || b == 0) && (decide (f / 4 % 2 = 1) || c == 0) && (decide (f / 8 % 2 = 1) || im == 0)
set_option maxHeartbeats 8000000 in
set_option maxRecDepth 100000 in
theorem isI_m1 (K : Nat) (op a b c im : Int) (W : World) (hf : impl_formOf.f K op = some (-1)) (ha : impl_within.f a 0 15 = some true) (hb : impl_within.f b 0 15 = some true) (hc : impl_within.f c 0 15 = some true) (hi : impl_isImm.f im = some true) :
    Calls Try.prog 99 #[.agg #[.int .i64 op, .int .i64 a, .int .i64 b, .int .i64 c, .int .i64 im]] W fun e w' => e = .returned (.bool (false)) ∧ Below W.heap.size W w' := by
  have hu89 := Try.underlying89
  have hu108 := Try.underlying108
  have HF := Aside0.mk hf
  have HWa := Aside0.mk ha
  have HWb := Aside0.mk hb
  have HWc := Aside0.mk hc
  have HI := Aside0.mk hi
  have i0 : ∀ w : World, (Instr.index 108 (.agg #[.int .i64 a, .int .i64 b, .int .i64 c]) (.int .i64 0)).run Try.prog w = .ok (.int .i64 a) w := fun _ => by kernel_rfl
  have i1 : ∀ w : World, (Instr.index 108 (.agg #[.int .i64 a, .int .i64 b, .int .i64 c]) (.int .i64 1)).run Try.prog w = .ok (.int .i64 b) w := fun _ => by kernel_rfl
  have i2 : ∀ w : World, (Instr.index 108 (.agg #[.int .i64 a, .int .i64 b, .int .i64 c]) (.int .i64 2)).run Try.prog w = .ok (.int .i64 c) w := fun _ => by kernel_rfl
  clear hf ha hb hc hi
  go_enter Try.func99, Try.ntmps99
  go_wp2_with (go_at_call 107; refine (impl_formOf.calls K op (-1) _ HF.out).mono ?_; rintro e w1 ⟨rfl, hd⟩; have K1 := Aside0.mk (blk_below (at1_0 (w := W) (o0 := .cells #[.int .i64 op, .int .i64 a, .int .i64 b, .int .i64 c, .int .i64 im] 89)) hd.below); have B1 := Aside0.mk (below_step (below_alloc (Below.refl _ W) (.cells #[.int .i64 op, .int .i64 a, .int .i64 b, .int .i64 c, .int .i64 im] 89)) hd.below); clear hd; have x0 := kc K1.out 0 rfl; have x1 := kc K1.out 1 rfl; have x2 := kc K1.out 2 rfl; have x3 := kc K1.out 3 rfl; have x4 := kc K1.out 4 rfl)
  go_ret
  exact ⟨rfl, B1.out⟩
set_option maxHeartbeats 8000000 in
set_option maxRecDepth 100000 in
theorem isI_0 (K : Nat) (op a b c im : Int) (W : World) (hf : impl_formOf.f K op = some 0) (ha : impl_within.f a 0 15 = some true) (hb : impl_within.f b 0 15 = some true) (hc : impl_within.f c 0 15 = some true) (hi : impl_isImm.f im = some true) :
    Calls Try.prog 99 #[.agg #[.int .i64 op, .int .i64 a, .int .i64 b, .int .i64 c, .int .i64 im]] W fun e w' => e = .returned (.bool (okF 0 a b c im)) ∧ Below W.heap.size W w' := by
  have hu89 := Try.underlying89
  have hu108 := Try.underlying108
  have HF := Aside0.mk hf
  have HWa := Aside0.mk ha
  have HWb := Aside0.mk hb
  have HWc := Aside0.mk hc
  have HI := Aside0.mk hi
  have i0 : ∀ w : World, (Instr.index 108 (.agg #[.int .i64 a, .int .i64 b, .int .i64 c]) (.int .i64 0)).run Try.prog w = .ok (.int .i64 a) w := fun _ => by kernel_rfl
  have i1 : ∀ w : World, (Instr.index 108 (.agg #[.int .i64 a, .int .i64 b, .int .i64 c]) (.int .i64 1)).run Try.prog w = .ok (.int .i64 b) w := fun _ => by kernel_rfl
  have i2 : ∀ w : World, (Instr.index 108 (.agg #[.int .i64 a, .int .i64 b, .int .i64 c]) (.int .i64 2)).run Try.prog w = .ok (.int .i64 c) w := fun _ => by kernel_rfl
  clear hf ha hb hc hi
  go_enter Try.func99, Try.ntmps99
  go_wp2_with (go_at_call 107; refine (impl_formOf.calls K op 0 _ HF.out).mono ?_; rintro e w1 ⟨rfl, hd⟩; have K1 := Aside0.mk (blk_below (at1_0 (w := W) (o0 := .cells #[.int .i64 op, .int .i64 a, .int .i64 b, .int .i64 c, .int .i64 im] 89)) hd.below); have B1 := Aside0.mk (below_step (below_alloc (Below.refl _ W) (.cells #[.int .i64 op, .int .i64 a, .int .i64 b, .int .i64 c, .int .i64 im] 89)) hd.below); clear hd; have x0 := kc K1.out 0 rfl; have x1 := kc K1.out 1 rfl; have x2 := kc K1.out 2 rfl; have x3 := kc K1.out 3 rfl; have x4 := kc K1.out 4 rfl)
  go_loopg [4, 5, 18] 3 (fun gg s4 s5 s18 wr => ∃ k : Nat, k ≤ 3 ∧ 3 - k ≤ gg ∧ s18 = .int .i64 (k : Int) ∧ Aside0 ((0 < k → a = 0) ∧ (1 < k → b = 0) ∧ (2 < k → c = 0)) ∧ Aside0 (wr.heap[W.heap.size]? = some (.cells #[.int .i64 op, .int .i64 a, .int .i64 b, .int .i64 c, .int .i64 im] 89 (0, 0))) ∧ Aside0 (Below W.heap.size W wr))
  case atStart => exact ⟨0, by omega, by omega, rfl, ⟨by simp⟩, K1, B1⟩
  case round =>
    clear K1 B1 x0 x1 x2 x3 x4
    obtain ⟨k, hk, hg, rfl, HR, HK, HB⟩ := hrel
    have y0 := kc HK.out 0 rfl
    have y1 := kc HK.out 1 rfl
    have y2 := kc HK.out 2 rfl
    have y3 := kc HK.out 3 rfl
    have y4 := kc HK.out 4 rfl
    obtain rfl | rfl | rfl | rfl : k = 0 ∨ k = 1 ∨ k = 2 ∨ k = 3 := by omega
    · by_cases h0 : a = 0
      · have h1 : (a == 0) = true := beq_iff_eq.mpr h0
        have h2 : (a != 0) = false := bne_eq_false_iff_eq.mpr h0
        have H0 := Aside0.mk h0
        clear h0
        go_wp2
        go_roundg (3 - 1)
        case measure => omega
        case rel => exact ⟨1, by omega, by omega, rfl, ⟨by have := HR.out; have := H0.out; omega⟩, HK, HB⟩
      · have h1 : (a == 0) = false := beq_eq_false_iff_ne.mpr h0
        have h2 : (a != 0) = true := bne_iff_ne.mpr h0
        go_wp2
        go_ret
        exact ⟨by simp [okF, h0, h1], HB.out⟩
    · by_cases h0 : b = 0
      · have h1 : (b == 0) = true := beq_iff_eq.mpr h0
        have h2 : (b != 0) = false := bne_eq_false_iff_eq.mpr h0
        have H0 := Aside0.mk h0
        clear h0
        go_wp2
        go_roundg (3 - 2)
        case measure => omega
        case rel => exact ⟨2, by omega, by omega, rfl, ⟨by have := HR.out; have := H0.out; omega⟩, HK, HB⟩
      · have h1 : (b == 0) = false := beq_eq_false_iff_ne.mpr h0
        have h2 : (b != 0) = true := bne_iff_ne.mpr h0
        go_wp2
        go_ret
        exact ⟨by simp [okF, h0, h1], HB.out⟩
    · by_cases h0 : c = 0
      · have h1 : (c == 0) = true := beq_iff_eq.mpr h0
        have h2 : (c != 0) = false := bne_eq_false_iff_eq.mpr h0
        have H0 := Aside0.mk h0
        clear h0
        go_wp2
        go_roundg (3 - 3)
        case measure => omega
        case rel => exact ⟨3, by omega, by omega, rfl, ⟨by have := HR.out; have := H0.out; omega⟩, HK, HB⟩
      · have h1 : (c == 0) = false := beq_eq_false_iff_ne.mpr h0
        have h2 : (c != 0) = true := bne_iff_ne.mpr h0
        go_wp2
        go_ret
        exact ⟨by simp [okF, h0, h1], HB.out⟩
    · go_wp2
      go_ret
      have e0 : a = 0 := (by have h := HR.out; omega)
      have e1 : b = 0 := (by have h := HR.out; omega)
      have e2 : c = 0 := (by have h := HR.out; omega)
      exact ⟨by simp [okF, e0, e1, e2], lq HB.out⟩
set_option maxHeartbeats 8000000 in
set_option maxRecDepth 100000 in
theorem isI_1 (K : Nat) (op a b c im : Int) (W : World) (hf : impl_formOf.f K op = some 1) (ha : impl_within.f a 0 15 = some true) (hb : impl_within.f b 0 15 = some true) (hc : impl_within.f c 0 15 = some true) (hi : impl_isImm.f im = some true) :
    Calls Try.prog 99 #[.agg #[.int .i64 op, .int .i64 a, .int .i64 b, .int .i64 c, .int .i64 im]] W fun e w' => e = .returned (.bool (okF 1 a b c im)) ∧ Below W.heap.size W w' := by
  have hu89 := Try.underlying89
  have hu108 := Try.underlying108
  have HF := Aside0.mk hf
  have HWa := Aside0.mk ha
  have HWb := Aside0.mk hb
  have HWc := Aside0.mk hc
  have HI := Aside0.mk hi
  have i0 : ∀ w : World, (Instr.index 108 (.agg #[.int .i64 a, .int .i64 b, .int .i64 c]) (.int .i64 0)).run Try.prog w = .ok (.int .i64 a) w := fun _ => by kernel_rfl
  have i1 : ∀ w : World, (Instr.index 108 (.agg #[.int .i64 a, .int .i64 b, .int .i64 c]) (.int .i64 1)).run Try.prog w = .ok (.int .i64 b) w := fun _ => by kernel_rfl
  have i2 : ∀ w : World, (Instr.index 108 (.agg #[.int .i64 a, .int .i64 b, .int .i64 c]) (.int .i64 2)).run Try.prog w = .ok (.int .i64 c) w := fun _ => by kernel_rfl
  clear hf ha hb hc hi
  go_enter Try.func99, Try.ntmps99
  go_wp2_with (go_at_call 107; refine (impl_formOf.calls K op 1 _ HF.out).mono ?_; rintro e w1 ⟨rfl, hd⟩; have K1 := Aside0.mk (blk_below (at1_0 (w := W) (o0 := .cells #[.int .i64 op, .int .i64 a, .int .i64 b, .int .i64 c, .int .i64 im] 89)) hd.below); have B1 := Aside0.mk (below_step (below_alloc (Below.refl _ W) (.cells #[.int .i64 op, .int .i64 a, .int .i64 b, .int .i64 c, .int .i64 im] 89)) hd.below); clear hd; have x0 := kc K1.out 0 rfl; have x1 := kc K1.out 1 rfl; have x2 := kc K1.out 2 rfl; have x3 := kc K1.out 3 rfl; have x4 := kc K1.out 4 rfl)
  go_loopg [4, 5, 18] 3 (fun gg s4 s5 s18 wr => ∃ k : Nat, k ≤ 3 ∧ 3 - k ≤ gg ∧ s18 = .int .i64 (k : Int) ∧ Aside0 ((1 < k → b = 0) ∧ (2 < k → c = 0)) ∧ Aside0 (wr.heap[W.heap.size]? = some (.cells #[.int .i64 op, .int .i64 a, .int .i64 b, .int .i64 c, .int .i64 im] 89 (0, 0))) ∧ Aside0 (Below W.heap.size W wr))
  case atStart => exact ⟨0, by omega, by omega, rfl, ⟨by simp⟩, K1, B1⟩
  case round =>
    clear K1 B1 x0 x1 x2 x3 x4
    obtain ⟨k, hk, hg, rfl, HR, HK, HB⟩ := hrel
    have y0 := kc HK.out 0 rfl
    have y1 := kc HK.out 1 rfl
    have y2 := kc HK.out 2 rfl
    have y3 := kc HK.out 3 rfl
    have y4 := kc HK.out 4 rfl
    obtain rfl | rfl | rfl | rfl : k = 0 ∨ k = 1 ∨ k = 2 ∨ k = 3 := by omega
    · go_wp2_with (go_at_call 43; refine (impl_within.calls a 0 15 true _ HWa.out).mono ?_; rintro e w2 ⟨rfl, hd⟩; have HK2 := Aside0.mk (blk_below HK.out hd.below); have HB2 := Aside0.mk (below_step HB.out hd.below); clear hd)
      go_roundg (3 - 1)
      case measure => omega
      case rel => exact ⟨1, by omega, by omega, rfl, ⟨by have := HR.out; omega⟩, HK2, HB2⟩
    · by_cases h0 : b = 0
      · have h1 : (b == 0) = true := beq_iff_eq.mpr h0
        have h2 : (b != 0) = false := bne_eq_false_iff_eq.mpr h0
        have H0 := Aside0.mk h0
        clear h0
        go_wp2
        go_roundg (3 - 2)
        case measure => omega
        case rel => exact ⟨2, by omega, by omega, rfl, ⟨by have := HR.out; have := H0.out; omega⟩, HK, HB⟩
      · have h1 : (b == 0) = false := beq_eq_false_iff_ne.mpr h0
        have h2 : (b != 0) = true := bne_iff_ne.mpr h0
        go_wp2
        go_ret
        exact ⟨by simp [okF, h0, h1], HB.out⟩
    · by_cases h0 : c = 0
      · have h1 : (c == 0) = true := beq_iff_eq.mpr h0
        have h2 : (c != 0) = false := bne_eq_false_iff_eq.mpr h0
        have H0 := Aside0.mk h0
        clear h0
        go_wp2
        go_roundg (3 - 3)
        case measure => omega
        case rel => exact ⟨3, by omega, by omega, rfl, ⟨by have := HR.out; have := H0.out; omega⟩, HK, HB⟩
      · have h1 : (c == 0) = false := beq_eq_false_iff_ne.mpr h0
        have h2 : (c != 0) = true := bne_iff_ne.mpr h0
        go_wp2
        go_ret
        exact ⟨by simp [okF, h0, h1], HB.out⟩
    · go_wp2
      go_ret
      have e1 : b = 0 := (by have h := HR.out; omega)
      have e2 : c = 0 := (by have h := HR.out; omega)
      exact ⟨by simp [okF, e1, e2], lq HB.out⟩
set_option maxHeartbeats 8000000 in
set_option maxRecDepth 100000 in
theorem isI_7 (K : Nat) (op a b c im : Int) (W : World) (hf : impl_formOf.f K op = some 7) (ha : impl_within.f a 0 15 = some true) (hb : impl_within.f b 0 15 = some true) (hc : impl_within.f c 0 15 = some true) (hi : impl_isImm.f im = some true) :
    Calls Try.prog 99 #[.agg #[.int .i64 op, .int .i64 a, .int .i64 b, .int .i64 c, .int .i64 im]] W fun e w' => e = .returned (.bool (okF 7 a b c im)) ∧ Below W.heap.size W w' := by
  have hu89 := Try.underlying89
  have hu108 := Try.underlying108
  have HF := Aside0.mk hf
  have HWa := Aside0.mk ha
  have HWb := Aside0.mk hb
  have HWc := Aside0.mk hc
  have HI := Aside0.mk hi
  have i0 : ∀ w : World, (Instr.index 108 (.agg #[.int .i64 a, .int .i64 b, .int .i64 c]) (.int .i64 0)).run Try.prog w = .ok (.int .i64 a) w := fun _ => by kernel_rfl
  have i1 : ∀ w : World, (Instr.index 108 (.agg #[.int .i64 a, .int .i64 b, .int .i64 c]) (.int .i64 1)).run Try.prog w = .ok (.int .i64 b) w := fun _ => by kernel_rfl
  have i2 : ∀ w : World, (Instr.index 108 (.agg #[.int .i64 a, .int .i64 b, .int .i64 c]) (.int .i64 2)).run Try.prog w = .ok (.int .i64 c) w := fun _ => by kernel_rfl
  clear hf ha hb hc hi
  go_enter Try.func99, Try.ntmps99
  go_wp2_with (go_at_call 107; refine (impl_formOf.calls K op 7 _ HF.out).mono ?_; rintro e w1 ⟨rfl, hd⟩; have K1 := Aside0.mk (blk_below (at1_0 (w := W) (o0 := .cells #[.int .i64 op, .int .i64 a, .int .i64 b, .int .i64 c, .int .i64 im] 89)) hd.below); have B1 := Aside0.mk (below_step (below_alloc (Below.refl _ W) (.cells #[.int .i64 op, .int .i64 a, .int .i64 b, .int .i64 c, .int .i64 im] 89)) hd.below); clear hd; have x0 := kc K1.out 0 rfl; have x1 := kc K1.out 1 rfl; have x2 := kc K1.out 2 rfl; have x3 := kc K1.out 3 rfl; have x4 := kc K1.out 4 rfl)
  go_loopg [4, 5, 18] 3 (fun gg s4 s5 s18 wr => ∃ k : Nat, k ≤ 3 ∧ 3 - k ≤ gg ∧ s18 = .int .i64 (k : Int) ∧ Aside0 (k ≤ 3) ∧ Aside0 (wr.heap[W.heap.size]? = some (.cells #[.int .i64 op, .int .i64 a, .int .i64 b, .int .i64 c, .int .i64 im] 89 (0, 0))) ∧ Aside0 (Below W.heap.size W wr))
  case atStart => exact ⟨0, by omega, by omega, rfl, ⟨by simp⟩, K1, B1⟩
  case round =>
    clear K1 B1 x0 x1 x2 x3 x4
    obtain ⟨k, hk, hg, rfl, HR, HK, HB⟩ := hrel
    have y0 := kc HK.out 0 rfl
    have y1 := kc HK.out 1 rfl
    have y2 := kc HK.out 2 rfl
    have y3 := kc HK.out 3 rfl
    have y4 := kc HK.out 4 rfl
    obtain rfl | rfl | rfl | rfl : k = 0 ∨ k = 1 ∨ k = 2 ∨ k = 3 := by omega
    · go_wp2_with (go_at_call 43; refine (impl_within.calls a 0 15 true _ HWa.out).mono ?_; rintro e w2 ⟨rfl, hd⟩; have HK2 := Aside0.mk (blk_below HK.out hd.below); have HB2 := Aside0.mk (below_step HB.out hd.below); clear hd)
      go_roundg (3 - 1)
      case measure => omega
      case rel => exact ⟨1, by omega, by omega, rfl, ⟨by have := HR.out; omega⟩, HK2, HB2⟩
    · go_wp2_with (go_at_call 43; refine (impl_within.calls b 0 15 true _ HWb.out).mono ?_; rintro e w2 ⟨rfl, hd⟩; have HK2 := Aside0.mk (blk_below HK.out hd.below); have HB2 := Aside0.mk (below_step HB.out hd.below); clear hd)
      go_roundg (3 - 2)
      case measure => omega
      case rel => exact ⟨2, by omega, by omega, rfl, ⟨by have := HR.out; omega⟩, HK2, HB2⟩
    · go_wp2_with (go_at_call 43; refine (impl_within.calls c 0 15 true _ HWc.out).mono ?_; rintro e w2 ⟨rfl, hd⟩; have HK2 := Aside0.mk (blk_below HK.out hd.below); have HB2 := Aside0.mk (below_step HB.out hd.below); clear hd)
      go_roundg (3 - 3)
      case measure => omega
      case rel => exact ⟨3, by omega, by omega, rfl, ⟨by have := HR.out; omega⟩, HK2, HB2⟩
    · go_wp2
      go_ret
      exact ⟨by simp [okF], lq HB.out⟩
set_option maxHeartbeats 8000000 in
set_option maxRecDepth 100000 in
theorem isI_8 (K : Nat) (op a b c im : Int) (W : World) (hf : impl_formOf.f K op = some 8) (ha : impl_within.f a 0 15 = some true) (hb : impl_within.f b 0 15 = some true) (hc : impl_within.f c 0 15 = some true) (hi : impl_isImm.f im = some true) :
    Calls Try.prog 99 #[.agg #[.int .i64 op, .int .i64 a, .int .i64 b, .int .i64 c, .int .i64 im]] W fun e w' => e = .returned (.bool (okF 8 a b c im)) ∧ Below W.heap.size W w' := by
  have hu89 := Try.underlying89
  have hu108 := Try.underlying108
  have HF := Aside0.mk hf
  have HWa := Aside0.mk ha
  have HWb := Aside0.mk hb
  have HWc := Aside0.mk hc
  have HI := Aside0.mk hi
  have i0 : ∀ w : World, (Instr.index 108 (.agg #[.int .i64 a, .int .i64 b, .int .i64 c]) (.int .i64 0)).run Try.prog w = .ok (.int .i64 a) w := fun _ => by kernel_rfl
  have i1 : ∀ w : World, (Instr.index 108 (.agg #[.int .i64 a, .int .i64 b, .int .i64 c]) (.int .i64 1)).run Try.prog w = .ok (.int .i64 b) w := fun _ => by kernel_rfl
  have i2 : ∀ w : World, (Instr.index 108 (.agg #[.int .i64 a, .int .i64 b, .int .i64 c]) (.int .i64 2)).run Try.prog w = .ok (.int .i64 c) w := fun _ => by kernel_rfl
  clear hf ha hb hc hi
  go_enter Try.func99, Try.ntmps99
  go_wp2_with (go_at_call 107; refine (impl_formOf.calls K op 8 _ HF.out).mono ?_; rintro e w1 ⟨rfl, hd⟩; have K1 := Aside0.mk (blk_below (at1_0 (w := W) (o0 := .cells #[.int .i64 op, .int .i64 a, .int .i64 b, .int .i64 c, .int .i64 im] 89)) hd.below); have B1 := Aside0.mk (below_step (below_alloc (Below.refl _ W) (.cells #[.int .i64 op, .int .i64 a, .int .i64 b, .int .i64 c, .int .i64 im] 89)) hd.below); clear hd; have x0 := kc K1.out 0 rfl; have x1 := kc K1.out 1 rfl; have x2 := kc K1.out 2 rfl; have x3 := kc K1.out 3 rfl; have x4 := kc K1.out 4 rfl)
  go_loopg [4, 5, 18] 3 (fun gg s4 s5 s18 wr => ∃ k : Nat, k ≤ 3 ∧ 3 - k ≤ gg ∧ s18 = .int .i64 (k : Int) ∧ Aside0 ((0 < k → a = 0) ∧ (1 < k → b = 0) ∧ (2 < k → c = 0)) ∧ Aside0 (wr.heap[W.heap.size]? = some (.cells #[.int .i64 op, .int .i64 a, .int .i64 b, .int .i64 c, .int .i64 im] 89 (0, 0))) ∧ Aside0 (Below W.heap.size W wr))
  case atStart => exact ⟨0, by omega, by omega, rfl, ⟨by simp⟩, K1, B1⟩
  case round =>
    clear K1 B1 x0 x1 x2 x3 x4
    obtain ⟨k, hk, hg, rfl, HR, HK, HB⟩ := hrel
    have y0 := kc HK.out 0 rfl
    have y1 := kc HK.out 1 rfl
    have y2 := kc HK.out 2 rfl
    have y3 := kc HK.out 3 rfl
    have y4 := kc HK.out 4 rfl
    obtain rfl | rfl | rfl | rfl : k = 0 ∨ k = 1 ∨ k = 2 ∨ k = 3 := by omega
    · by_cases h0 : a = 0
      · have h1 : (a == 0) = true := beq_iff_eq.mpr h0
        have h2 : (a != 0) = false := bne_eq_false_iff_eq.mpr h0
        have H0 := Aside0.mk h0
        clear h0
        go_wp2
        go_roundg (3 - 1)
        case measure => omega
        case rel => exact ⟨1, by omega, by omega, rfl, ⟨by have := HR.out; have := H0.out; omega⟩, HK, HB⟩
      · have h1 : (a == 0) = false := beq_eq_false_iff_ne.mpr h0
        have h2 : (a != 0) = true := bne_iff_ne.mpr h0
        go_wp2
        go_ret
        exact ⟨by simp [okF, h0, h1], HB.out⟩
    · by_cases h0 : b = 0
      · have h1 : (b == 0) = true := beq_iff_eq.mpr h0
        have h2 : (b != 0) = false := bne_eq_false_iff_eq.mpr h0
        have H0 := Aside0.mk h0
        clear h0
        go_wp2
        go_roundg (3 - 2)
        case measure => omega
        case rel => exact ⟨2, by omega, by omega, rfl, ⟨by have := HR.out; have := H0.out; omega⟩, HK, HB⟩
      · have h1 : (b == 0) = false := beq_eq_false_iff_ne.mpr h0
        have h2 : (b != 0) = true := bne_iff_ne.mpr h0
        go_wp2
        go_ret
        exact ⟨by simp [okF, h0, h1], HB.out⟩
    · by_cases h0 : c = 0
      · have h1 : (c == 0) = true := beq_iff_eq.mpr h0
        have h2 : (c != 0) = false := bne_eq_false_iff_eq.mpr h0
        have H0 := Aside0.mk h0
        clear h0
        go_wp2
        go_roundg (3 - 3)
        case measure => omega
        case rel => exact ⟨3, by omega, by omega, rfl, ⟨by have := HR.out; have := H0.out; omega⟩, HK, HB⟩
      · have h1 : (c == 0) = false := beq_eq_false_iff_ne.mpr h0
        have h2 : (c != 0) = true := bne_iff_ne.mpr h0
        go_wp2
        go_ret
        exact ⟨by simp [okF, h0, h1], HB.out⟩
    · go_wp2_with (go_at_call 108; refine (impl_isImm.calls im true _ HI.out).mono ?_; rintro e w2 ⟨rfl, hd⟩; have HB2 := Aside0.mk (below_step HB.out hd.below); clear hd)
      go_ret
      have e0 : a = 0 := (by have h := HR.out; omega)
      have e1 : b = 0 := (by have h := HR.out; omega)
      have e2 : c = 0 := (by have h := HR.out; omega)
      exact ⟨by simp [okF, e0, e1, e2], lq HB2.out⟩
set_option maxHeartbeats 8000000 in
set_option maxRecDepth 100000 in
theorem isI_9 (K : Nat) (op a b c im : Int) (W : World) (hf : impl_formOf.f K op = some 9) (ha : impl_within.f a 0 15 = some true) (hb : impl_within.f b 0 15 = some true) (hc : impl_within.f c 0 15 = some true) (hi : impl_isImm.f im = some true) :
    Calls Try.prog 99 #[.agg #[.int .i64 op, .int .i64 a, .int .i64 b, .int .i64 c, .int .i64 im]] W fun e w' => e = .returned (.bool (okF 9 a b c im)) ∧ Below W.heap.size W w' := by
  have hu89 := Try.underlying89
  have hu108 := Try.underlying108
  have HF := Aside0.mk hf
  have HWa := Aside0.mk ha
  have HWb := Aside0.mk hb
  have HWc := Aside0.mk hc
  have HI := Aside0.mk hi
  have i0 : ∀ w : World, (Instr.index 108 (.agg #[.int .i64 a, .int .i64 b, .int .i64 c]) (.int .i64 0)).run Try.prog w = .ok (.int .i64 a) w := fun _ => by kernel_rfl
  have i1 : ∀ w : World, (Instr.index 108 (.agg #[.int .i64 a, .int .i64 b, .int .i64 c]) (.int .i64 1)).run Try.prog w = .ok (.int .i64 b) w := fun _ => by kernel_rfl
  have i2 : ∀ w : World, (Instr.index 108 (.agg #[.int .i64 a, .int .i64 b, .int .i64 c]) (.int .i64 2)).run Try.prog w = .ok (.int .i64 c) w := fun _ => by kernel_rfl
  clear hf ha hb hc hi
  go_enter Try.func99, Try.ntmps99
  go_wp2_with (go_at_call 107; refine (impl_formOf.calls K op 9 _ HF.out).mono ?_; rintro e w1 ⟨rfl, hd⟩; have K1 := Aside0.mk (blk_below (at1_0 (w := W) (o0 := .cells #[.int .i64 op, .int .i64 a, .int .i64 b, .int .i64 c, .int .i64 im] 89)) hd.below); have B1 := Aside0.mk (below_step (below_alloc (Below.refl _ W) (.cells #[.int .i64 op, .int .i64 a, .int .i64 b, .int .i64 c, .int .i64 im] 89)) hd.below); clear hd; have x0 := kc K1.out 0 rfl; have x1 := kc K1.out 1 rfl; have x2 := kc K1.out 2 rfl; have x3 := kc K1.out 3 rfl; have x4 := kc K1.out 4 rfl)
  go_loopg [4, 5, 18] 3 (fun gg s4 s5 s18 wr => ∃ k : Nat, k ≤ 3 ∧ 3 - k ≤ gg ∧ s18 = .int .i64 (k : Int) ∧ Aside0 ((1 < k → b = 0) ∧ (2 < k → c = 0)) ∧ Aside0 (wr.heap[W.heap.size]? = some (.cells #[.int .i64 op, .int .i64 a, .int .i64 b, .int .i64 c, .int .i64 im] 89 (0, 0))) ∧ Aside0 (Below W.heap.size W wr))
  case atStart => exact ⟨0, by omega, by omega, rfl, ⟨by simp⟩, K1, B1⟩
  case round =>
    clear K1 B1 x0 x1 x2 x3 x4
    obtain ⟨k, hk, hg, rfl, HR, HK, HB⟩ := hrel
    have y0 := kc HK.out 0 rfl
    have y1 := kc HK.out 1 rfl
    have y2 := kc HK.out 2 rfl
    have y3 := kc HK.out 3 rfl
    have y4 := kc HK.out 4 rfl
    obtain rfl | rfl | rfl | rfl : k = 0 ∨ k = 1 ∨ k = 2 ∨ k = 3 := by omega
    · go_wp2_with (go_at_call 43; refine (impl_within.calls a 0 15 true _ HWa.out).mono ?_; rintro e w2 ⟨rfl, hd⟩; have HK2 := Aside0.mk (blk_below HK.out hd.below); have HB2 := Aside0.mk (below_step HB.out hd.below); clear hd)
      go_roundg (3 - 1)
      case measure => omega
      case rel => exact ⟨1, by omega, by omega, rfl, ⟨by have := HR.out; omega⟩, HK2, HB2⟩
    · by_cases h0 : b = 0
      · have h1 : (b == 0) = true := beq_iff_eq.mpr h0
        have h2 : (b != 0) = false := bne_eq_false_iff_eq.mpr h0
        have H0 := Aside0.mk h0
        clear h0
        go_wp2
        go_roundg (3 - 2)
        case measure => omega
        case rel => exact ⟨2, by omega, by omega, rfl, ⟨by have := HR.out; have := H0.out; omega⟩, HK, HB⟩
      · have h1 : (b == 0) = false := beq_eq_false_iff_ne.mpr h0
        have h2 : (b != 0) = true := bne_iff_ne.mpr h0
        go_wp2
        go_ret
        exact ⟨by simp [okF, h0, h1], HB.out⟩
    · by_cases h0 : c = 0
      · have h1 : (c == 0) = true := beq_iff_eq.mpr h0
        have h2 : (c != 0) = false := bne_eq_false_iff_eq.mpr h0
        have H0 := Aside0.mk h0
        clear h0
        go_wp2
        go_roundg (3 - 3)
        case measure => omega
        case rel => exact ⟨3, by omega, by omega, rfl, ⟨by have := HR.out; have := H0.out; omega⟩, HK, HB⟩
      · have h1 : (c == 0) = false := beq_eq_false_iff_ne.mpr h0
        have h2 : (c != 0) = true := bne_iff_ne.mpr h0
        go_wp2
        go_ret
        exact ⟨by simp [okF, h0, h1], HB.out⟩
    · go_wp2_with (go_at_call 108; refine (impl_isImm.calls im true _ HI.out).mono ?_; rintro e w2 ⟨rfl, hd⟩; have HB2 := Aside0.mk (below_step HB.out hd.below); clear hd)
      go_ret
      have e1 : b = 0 := (by have h := HR.out; omega)
      have e2 : c = 0 := (by have h := HR.out; omega)
      exact ⟨by simp [okF, e1, e2], lq HB2.out⟩
set_option maxHeartbeats 8000000 in
set_option maxRecDepth 100000 in
theorem isI_10 (K : Nat) (op a b c im : Int) (W : World) (hf : impl_formOf.f K op = some 10) (ha : impl_within.f a 0 15 = some true) (hb : impl_within.f b 0 15 = some true) (hc : impl_within.f c 0 15 = some true) (hi : impl_isImm.f im = some true) :
    Calls Try.prog 99 #[.agg #[.int .i64 op, .int .i64 a, .int .i64 b, .int .i64 c, .int .i64 im]] W fun e w' => e = .returned (.bool (okF 10 a b c im)) ∧ Below W.heap.size W w' := by
  have hu89 := Try.underlying89
  have hu108 := Try.underlying108
  have HF := Aside0.mk hf
  have HWa := Aside0.mk ha
  have HWb := Aside0.mk hb
  have HWc := Aside0.mk hc
  have HI := Aside0.mk hi
  have i0 : ∀ w : World, (Instr.index 108 (.agg #[.int .i64 a, .int .i64 b, .int .i64 c]) (.int .i64 0)).run Try.prog w = .ok (.int .i64 a) w := fun _ => by kernel_rfl
  have i1 : ∀ w : World, (Instr.index 108 (.agg #[.int .i64 a, .int .i64 b, .int .i64 c]) (.int .i64 1)).run Try.prog w = .ok (.int .i64 b) w := fun _ => by kernel_rfl
  have i2 : ∀ w : World, (Instr.index 108 (.agg #[.int .i64 a, .int .i64 b, .int .i64 c]) (.int .i64 2)).run Try.prog w = .ok (.int .i64 c) w := fun _ => by kernel_rfl
  clear hf ha hb hc hi
  go_enter Try.func99, Try.ntmps99
  go_wp2_with (go_at_call 107; refine (impl_formOf.calls K op 10 _ HF.out).mono ?_; rintro e w1 ⟨rfl, hd⟩; have K1 := Aside0.mk (blk_below (at1_0 (w := W) (o0 := .cells #[.int .i64 op, .int .i64 a, .int .i64 b, .int .i64 c, .int .i64 im] 89)) hd.below); have B1 := Aside0.mk (below_step (below_alloc (Below.refl _ W) (.cells #[.int .i64 op, .int .i64 a, .int .i64 b, .int .i64 c, .int .i64 im] 89)) hd.below); clear hd; have x0 := kc K1.out 0 rfl; have x1 := kc K1.out 1 rfl; have x2 := kc K1.out 2 rfl; have x3 := kc K1.out 3 rfl; have x4 := kc K1.out 4 rfl)
  go_loopg [4, 5, 18] 3 (fun gg s4 s5 s18 wr => ∃ k : Nat, k ≤ 3 ∧ 3 - k ≤ gg ∧ s18 = .int .i64 (k : Int) ∧ Aside0 ((0 < k → a = 0) ∧ (2 < k → c = 0)) ∧ Aside0 (wr.heap[W.heap.size]? = some (.cells #[.int .i64 op, .int .i64 a, .int .i64 b, .int .i64 c, .int .i64 im] 89 (0, 0))) ∧ Aside0 (Below W.heap.size W wr))
  case atStart => exact ⟨0, by omega, by omega, rfl, ⟨by simp⟩, K1, B1⟩
  case round =>
    clear K1 B1 x0 x1 x2 x3 x4
    obtain ⟨k, hk, hg, rfl, HR, HK, HB⟩ := hrel
    have y0 := kc HK.out 0 rfl
    have y1 := kc HK.out 1 rfl
    have y2 := kc HK.out 2 rfl
    have y3 := kc HK.out 3 rfl
    have y4 := kc HK.out 4 rfl
    obtain rfl | rfl | rfl | rfl : k = 0 ∨ k = 1 ∨ k = 2 ∨ k = 3 := by omega
    · by_cases h0 : a = 0
      · have h1 : (a == 0) = true := beq_iff_eq.mpr h0
        have h2 : (a != 0) = false := bne_eq_false_iff_eq.mpr h0
        have H0 := Aside0.mk h0
        clear h0
        go_wp2
        go_roundg (3 - 1)
        case measure => omega
        case rel => exact ⟨1, by omega, by omega, rfl, ⟨by have := HR.out; have := H0.out; omega⟩, HK, HB⟩
      · have h1 : (a == 0) = false := beq_eq_false_iff_ne.mpr h0
        have h2 : (a != 0) = true := bne_iff_ne.mpr h0
        go_wp2
        go_ret
        exact ⟨by simp [okF, h0, h1], HB.out⟩
    · go_wp2_with (go_at_call 43; refine (impl_within.calls b 0 15 true _ HWb.out).mono ?_; rintro e w2 ⟨rfl, hd⟩; have HK2 := Aside0.mk (blk_below HK.out hd.below); have HB2 := Aside0.mk (below_step HB.out hd.below); clear hd)
      go_roundg (3 - 2)
      case measure => omega
      case rel => exact ⟨2, by omega, by omega, rfl, ⟨by have := HR.out; omega⟩, HK2, HB2⟩
    · by_cases h0 : c = 0
      · have h1 : (c == 0) = true := beq_iff_eq.mpr h0
        have h2 : (c != 0) = false := bne_eq_false_iff_eq.mpr h0
        have H0 := Aside0.mk h0
        clear h0
        go_wp2
        go_roundg (3 - 3)
        case measure => omega
        case rel => exact ⟨3, by omega, by omega, rfl, ⟨by have := HR.out; have := H0.out; omega⟩, HK, HB⟩
      · have h1 : (c == 0) = false := beq_eq_false_iff_ne.mpr h0
        have h2 : (c != 0) = true := bne_iff_ne.mpr h0
        go_wp2
        go_ret
        exact ⟨by simp [okF, h0, h1], HB.out⟩
    · go_wp2_with (go_at_call 108; refine (impl_isImm.calls im true _ HI.out).mono ?_; rintro e w2 ⟨rfl, hd⟩; have HB2 := Aside0.mk (below_step HB.out hd.below); clear hd)
      go_ret
      have e0 : a = 0 := (by have h := HR.out; omega)
      have e2 : c = 0 := (by have h := HR.out; omega)
      exact ⟨by simp [okF, e0, e2], lq HB2.out⟩
set_option maxHeartbeats 8000000 in
set_option maxRecDepth 100000 in
theorem isI_11 (K : Nat) (op a b c im : Int) (W : World) (hf : impl_formOf.f K op = some 11) (ha : impl_within.f a 0 15 = some true) (hb : impl_within.f b 0 15 = some true) (hc : impl_within.f c 0 15 = some true) (hi : impl_isImm.f im = some true) :
    Calls Try.prog 99 #[.agg #[.int .i64 op, .int .i64 a, .int .i64 b, .int .i64 c, .int .i64 im]] W fun e w' => e = .returned (.bool (okF 11 a b c im)) ∧ Below W.heap.size W w' := by
  have hu89 := Try.underlying89
  have hu108 := Try.underlying108
  have HF := Aside0.mk hf
  have HWa := Aside0.mk ha
  have HWb := Aside0.mk hb
  have HWc := Aside0.mk hc
  have HI := Aside0.mk hi
  have i0 : ∀ w : World, (Instr.index 108 (.agg #[.int .i64 a, .int .i64 b, .int .i64 c]) (.int .i64 0)).run Try.prog w = .ok (.int .i64 a) w := fun _ => by kernel_rfl
  have i1 : ∀ w : World, (Instr.index 108 (.agg #[.int .i64 a, .int .i64 b, .int .i64 c]) (.int .i64 1)).run Try.prog w = .ok (.int .i64 b) w := fun _ => by kernel_rfl
  have i2 : ∀ w : World, (Instr.index 108 (.agg #[.int .i64 a, .int .i64 b, .int .i64 c]) (.int .i64 2)).run Try.prog w = .ok (.int .i64 c) w := fun _ => by kernel_rfl
  clear hf ha hb hc hi
  go_enter Try.func99, Try.ntmps99
  go_wp2_with (go_at_call 107; refine (impl_formOf.calls K op 11 _ HF.out).mono ?_; rintro e w1 ⟨rfl, hd⟩; have K1 := Aside0.mk (blk_below (at1_0 (w := W) (o0 := .cells #[.int .i64 op, .int .i64 a, .int .i64 b, .int .i64 c, .int .i64 im] 89)) hd.below); have B1 := Aside0.mk (below_step (below_alloc (Below.refl _ W) (.cells #[.int .i64 op, .int .i64 a, .int .i64 b, .int .i64 c, .int .i64 im] 89)) hd.below); clear hd; have x0 := kc K1.out 0 rfl; have x1 := kc K1.out 1 rfl; have x2 := kc K1.out 2 rfl; have x3 := kc K1.out 3 rfl; have x4 := kc K1.out 4 rfl)
  go_loopg [4, 5, 18] 3 (fun gg s4 s5 s18 wr => ∃ k : Nat, k ≤ 3 ∧ 3 - k ≤ gg ∧ s18 = .int .i64 (k : Int) ∧ Aside0 ((2 < k → c = 0)) ∧ Aside0 (wr.heap[W.heap.size]? = some (.cells #[.int .i64 op, .int .i64 a, .int .i64 b, .int .i64 c, .int .i64 im] 89 (0, 0))) ∧ Aside0 (Below W.heap.size W wr))
  case atStart => exact ⟨0, by omega, by omega, rfl, ⟨by simp⟩, K1, B1⟩
  case round =>
    clear K1 B1 x0 x1 x2 x3 x4
    obtain ⟨k, hk, hg, rfl, HR, HK, HB⟩ := hrel
    have y0 := kc HK.out 0 rfl
    have y1 := kc HK.out 1 rfl
    have y2 := kc HK.out 2 rfl
    have y3 := kc HK.out 3 rfl
    have y4 := kc HK.out 4 rfl
    obtain rfl | rfl | rfl | rfl : k = 0 ∨ k = 1 ∨ k = 2 ∨ k = 3 := by omega
    · go_wp2_with (go_at_call 43; refine (impl_within.calls a 0 15 true _ HWa.out).mono ?_; rintro e w2 ⟨rfl, hd⟩; have HK2 := Aside0.mk (blk_below HK.out hd.below); have HB2 := Aside0.mk (below_step HB.out hd.below); clear hd)
      go_roundg (3 - 1)
      case measure => omega
      case rel => exact ⟨1, by omega, by omega, rfl, ⟨by have := HR.out; omega⟩, HK2, HB2⟩
    · go_wp2_with (go_at_call 43; refine (impl_within.calls b 0 15 true _ HWb.out).mono ?_; rintro e w2 ⟨rfl, hd⟩; have HK2 := Aside0.mk (blk_below HK.out hd.below); have HB2 := Aside0.mk (below_step HB.out hd.below); clear hd)
      go_roundg (3 - 2)
      case measure => omega
      case rel => exact ⟨2, by omega, by omega, rfl, ⟨by have := HR.out; omega⟩, HK2, HB2⟩
    · by_cases h0 : c = 0
      · have h1 : (c == 0) = true := beq_iff_eq.mpr h0
        have h2 : (c != 0) = false := bne_eq_false_iff_eq.mpr h0
        have H0 := Aside0.mk h0
        clear h0
        go_wp2
        go_roundg (3 - 3)
        case measure => omega
        case rel => exact ⟨3, by omega, by omega, rfl, ⟨by have := HR.out; have := H0.out; omega⟩, HK, HB⟩
      · have h1 : (c == 0) = false := beq_eq_false_iff_ne.mpr h0
        have h2 : (c != 0) = true := bne_iff_ne.mpr h0
        go_wp2
        go_ret
        exact ⟨by simp [okF, h0, h1], HB.out⟩
    · go_wp2_with (go_at_call 108; refine (impl_isImm.calls im true _ HI.out).mono ?_; rintro e w2 ⟨rfl, hd⟩; have HB2 := Aside0.mk (below_step HB.out hd.below); clear hd)
      go_ret
      have e2 : c = 0 := (by have h := HR.out; omega)
      exact ⟨by simp [okF, e2], lq HB2.out⟩
set_option maxHeartbeats 8000000 in
set_option maxRecDepth 100000 in
theorem decode_i1 (x op a b c m : Int) (r : Bool) (W : World) (h0 : 0 ≤ x) (h1 : x < 4294967296) (e1 : x / 67108864 = op) (e2 : bits .and .u32 (x / 4194304) 15 = a) (e3 : bits .and .u32 (x / 262144) 15 = b) (e4 : bits .and .u32 (x / 16384) 15 = c) (e5 : bits .and .u32 x 16383 = m)
    (ba : 0 ≤ a ∧ a ≤ 15) (bb : 0 ≤ b ∧ b ≤ 15) (bc : 0 ≤ c ∧ c ≤ 15) (bm : 0 ≤ m ∧ m ≤ 16383) (hm : 8191 < m)
    (hI : ∀ W, Calls Try.prog 99 #[.agg #[.int .i64 op, .int .i64 a, .int .i64 b, .int .i64 c, .int .i64 (m - 16384)]] W fun e w' => e = .returned (.bool r) ∧ Below W.heap.size W w') :
    Calls Try.prog 90 #[.int .u32 x] W fun e w' => e = .returned (.tuple #[.agg (if r = true then #[.int .i64 op, .int .i64 a, .int .i64 b, .int .i64 c, .int .i64 (m - 16384)] else #[.int .i64 0, .int .i64 0, .int .i64 0, .int .i64 0, .int .i64 0]), .bool r]) ∧ Below W.heap.size W w' := by
  have hu89 := Try.underlying89
  obtain ⟨a1, a2⟩ := ba
  obtain ⟨b1, b2⟩ := bb
  obtain ⟨c1, c2⟩ := bc
  obtain ⟨m1, m2⟩ := bm
  have hm2 : 8192 ≤ m := by omega
  have H := Aside0.mk hI
  clear hI
  cases r
  rotate_left
  · rw [if_pos rfl]
    go_enter Try.func90, Try.ntmps90
    go_wp2_with (go_at_call 99; refine (H.out _).mono ?_; rintro e w1 ⟨rfl, hb'⟩; have KZ := Aside0.mk (blk_below (at2_0 (w := W) (o0 := .cells #[.int .i64 0, .int .i64 0, .int .i64 0, .int .i64 0, .int .i64 0] 89) (o1 := .cells #[.int .i64 op, .int .i64 a, .int .i64 b, .int .i64 c, .int .i64 (m - 16384)] 89)) hb'); have KV := Aside0.mk (blk_below (at2_1 (w := W) (o0 := .cells #[.int .i64 0, .int .i64 0, .int .i64 0, .int .i64 0, .int .i64 0] 89) (o1 := .cells #[.int .i64 op, .int .i64 a, .int .i64 b, .int .i64 c, .int .i64 (m - 16384)] 89)) hb'); have F1 := Aside0.mk (((Fr.refl (fun k => W.heap.size ≤ k) W).alloc (.cells #[.int .i64 0, .int .i64 0, .int .i64 0, .int .i64 0, .int .i64 0] 89) |>.alloc (.cells #[.int .i64 op, .int .i64 a, .int .i64 b, .int .i64 c, .int .i64 (m - 16384)] 89)).step hb'); clear hb'; have z0 := kc KZ.out 0 rfl; have fz0 := blk_frozen KZ.out 0; have v0 := kc KV.out 0 rfl; have z1 := kc KZ.out 1 rfl; have fz1 := blk_frozen KZ.out 1; have v1 := kc KV.out 1 rfl; have z2 := kc KZ.out 2 rfl; have fz2 := blk_frozen KZ.out 2; have v2 := kc KV.out 2 rfl; have z3 := kc KZ.out 3 rfl; have fz3 := blk_frozen KZ.out 3; have v3 := kc KV.out 3 rfl; have z4 := kc KZ.out 4 rfl; have fz4 := blk_frozen KZ.out 4; have v4 := kc KV.out 4 rfl)
    refine bodyPost_ret (results_ct rfl _ _ W.heap.size 89 #[.int .i64 op, .int .i64 a, .int .i64 b, .int .i64 c, .int .i64 (m - 16384)] (0, 0) _ rfl (blk_put (blk_put (blk_put (blk_put (blk_put KZ.out 0 _ rfl) 1 _ rfl) 2 _ rfl) 3 _ rfl) 4 _ rfl) Try.underlying89 rfl (by kernel_rfl)) rfl ?_
    exact ⟨rfl, (((((F1.out.set (p := ⟨W.heap.size, 0, none⟩) (.inl (Nat.le_refl _)) _).set (p := ⟨W.heap.size, 1, none⟩) (.inl (Nat.le_refl _)) _).set (p := ⟨W.heap.size, 2, none⟩) (.inl (Nat.le_refl _)) _).set (p := ⟨W.heap.size, 3, none⟩) (.inl (Nat.le_refl _)) _).set (p := ⟨W.heap.size, 4, none⟩) (.inl (Nat.le_refl _)) _).below (fun _ h => h) (Nat.le_refl _)⟩
  · rw [if_neg (by decide)]
    go_enter Try.func90, Try.ntmps90
    go_wp2_with (go_at_call 99; refine (H.out _).mono ?_; rintro e w1 ⟨rfl, hb'⟩; have KZ := Aside0.mk (blk_below (at2_0 (w := W) (o0 := .cells #[.int .i64 0, .int .i64 0, .int .i64 0, .int .i64 0, .int .i64 0] 89) (o1 := .cells #[.int .i64 op, .int .i64 a, .int .i64 b, .int .i64 c, .int .i64 (m - 16384)] 89)) hb'); have KV := Aside0.mk (blk_below (at2_1 (w := W) (o0 := .cells #[.int .i64 0, .int .i64 0, .int .i64 0, .int .i64 0, .int .i64 0] 89) (o1 := .cells #[.int .i64 op, .int .i64 a, .int .i64 b, .int .i64 c, .int .i64 (m - 16384)] 89)) hb'); have F1 := Aside0.mk (((Fr.refl (fun k => W.heap.size ≤ k) W).alloc (.cells #[.int .i64 0, .int .i64 0, .int .i64 0, .int .i64 0, .int .i64 0] 89) |>.alloc (.cells #[.int .i64 op, .int .i64 a, .int .i64 b, .int .i64 c, .int .i64 (m - 16384)] 89)).step hb'); clear hb'; have z0 := kc KZ.out 0 rfl; have fz0 := blk_frozen KZ.out 0; have v0 := kc KV.out 0 rfl; have z1 := kc KZ.out 1 rfl; have fz1 := blk_frozen KZ.out 1; have v1 := kc KV.out 1 rfl; have z2 := kc KZ.out 2 rfl; have fz2 := blk_frozen KZ.out 2; have v2 := kc KV.out 2 rfl; have z3 := kc KZ.out 3 rfl; have fz3 := blk_frozen KZ.out 3; have v3 := kc KV.out 3 rfl; have z4 := kc KZ.out 4 rfl; have fz4 := blk_frozen KZ.out 4; have v4 := kc KV.out 4 rfl)
    refine bodyPost_ret (results_ct rfl _ _ W.heap.size 89 #[.int .i64 0, .int .i64 0, .int .i64 0, .int .i64 0, .int .i64 0] (0, 0) _ rfl (blk_put (blk_put (blk_put (blk_put (blk_put KZ.out 0 _ rfl) 1 _ rfl) 2 _ rfl) 3 _ rfl) 4 _ rfl) Try.underlying89 rfl (by kernel_rfl)) rfl ?_
    exact ⟨rfl, (((((F1.out.set (p := ⟨W.heap.size, 0, none⟩) (.inl (Nat.le_refl _)) _).set (p := ⟨W.heap.size, 1, none⟩) (.inl (Nat.le_refl _)) _).set (p := ⟨W.heap.size, 2, none⟩) (.inl (Nat.le_refl _)) _).set (p := ⟨W.heap.size, 3, none⟩) (.inl (Nat.le_refl _)) _).set (p := ⟨W.heap.size, 4, none⟩) (.inl (Nat.le_refl _)) _).below (fun _ h => h) (Nat.le_refl _)⟩
set_option maxHeartbeats 8000000 in
set_option maxRecDepth 100000 in
theorem decode_i0 (x op a b c m : Int) (r : Bool) (W : World) (h0 : 0 ≤ x) (h1 : x < 4294967296) (e1 : x / 67108864 = op) (e2 : bits .and .u32 (x / 4194304) 15 = a) (e3 : bits .and .u32 (x / 262144) 15 = b) (e4 : bits .and .u32 (x / 16384) 15 = c) (e5 : bits .and .u32 x 16383 = m)
    (ba : 0 ≤ a ∧ a ≤ 15) (bb : 0 ≤ b ∧ b ≤ 15) (bc : 0 ≤ c ∧ c ≤ 15) (bm : 0 ≤ m ∧ m ≤ 16383) (hm : ¬ 8191 < m)
    (hI : ∀ W, Calls Try.prog 99 #[.agg #[.int .i64 op, .int .i64 a, .int .i64 b, .int .i64 c, .int .i64 (m)]] W fun e w' => e = .returned (.bool r) ∧ Below W.heap.size W w') :
    Calls Try.prog 90 #[.int .u32 x] W fun e w' => e = .returned (.tuple #[.agg (if r = true then #[.int .i64 op, .int .i64 a, .int .i64 b, .int .i64 c, .int .i64 (m)] else #[.int .i64 0, .int .i64 0, .int .i64 0, .int .i64 0, .int .i64 0]), .bool r]) ∧ Below W.heap.size W w' := by
  have hu89 := Try.underlying89
  obtain ⟨a1, a2⟩ := ba
  obtain ⟨b1, b2⟩ := bb
  obtain ⟨c1, c2⟩ := bc
  obtain ⟨m1, m2⟩ := bm
  have hm2 : ¬ 8192 ≤ m := by omega
  have H := Aside0.mk hI
  clear hI
  cases r
  rotate_left
  · rw [if_pos rfl]
    go_enter Try.func90, Try.ntmps90
    go_wp2_with (go_at_call 99; refine (H.out _).mono ?_; rintro e w1 ⟨rfl, hb'⟩; have KZ := Aside0.mk (blk_below (at2_0 (w := W) (o0 := .cells #[.int .i64 0, .int .i64 0, .int .i64 0, .int .i64 0, .int .i64 0] 89) (o1 := .cells #[.int .i64 op, .int .i64 a, .int .i64 b, .int .i64 c, .int .i64 (m)] 89)) hb'); have KV := Aside0.mk (blk_below (at2_1 (w := W) (o0 := .cells #[.int .i64 0, .int .i64 0, .int .i64 0, .int .i64 0, .int .i64 0] 89) (o1 := .cells #[.int .i64 op, .int .i64 a, .int .i64 b, .int .i64 c, .int .i64 (m)] 89)) hb'); have F1 := Aside0.mk (((Fr.refl (fun k => W.heap.size ≤ k) W).alloc (.cells #[.int .i64 0, .int .i64 0, .int .i64 0, .int .i64 0, .int .i64 0] 89) |>.alloc (.cells #[.int .i64 op, .int .i64 a, .int .i64 b, .int .i64 c, .int .i64 (m)] 89)).step hb'); clear hb'; have z0 := kc KZ.out 0 rfl; have fz0 := blk_frozen KZ.out 0; have v0 := kc KV.out 0 rfl; have z1 := kc KZ.out 1 rfl; have fz1 := blk_frozen KZ.out 1; have v1 := kc KV.out 1 rfl; have z2 := kc KZ.out 2 rfl; have fz2 := blk_frozen KZ.out 2; have v2 := kc KV.out 2 rfl; have z3 := kc KZ.out 3 rfl; have fz3 := blk_frozen KZ.out 3; have v3 := kc KV.out 3 rfl; have z4 := kc KZ.out 4 rfl; have fz4 := blk_frozen KZ.out 4; have v4 := kc KV.out 4 rfl)
    refine bodyPost_ret (results_ct rfl _ _ W.heap.size 89 #[.int .i64 op, .int .i64 a, .int .i64 b, .int .i64 c, .int .i64 (m)] (0, 0) _ rfl (blk_put (blk_put (blk_put (blk_put (blk_put KZ.out 0 _ rfl) 1 _ rfl) 2 _ rfl) 3 _ rfl) 4 _ rfl) Try.underlying89 rfl (by kernel_rfl)) rfl ?_
    exact ⟨rfl, (((((F1.out.set (p := ⟨W.heap.size, 0, none⟩) (.inl (Nat.le_refl _)) _).set (p := ⟨W.heap.size, 1, none⟩) (.inl (Nat.le_refl _)) _).set (p := ⟨W.heap.size, 2, none⟩) (.inl (Nat.le_refl _)) _).set (p := ⟨W.heap.size, 3, none⟩) (.inl (Nat.le_refl _)) _).set (p := ⟨W.heap.size, 4, none⟩) (.inl (Nat.le_refl _)) _).below (fun _ h => h) (Nat.le_refl _)⟩
  · rw [if_neg (by decide)]
    go_enter Try.func90, Try.ntmps90
    go_wp2_with (go_at_call 99; refine (H.out _).mono ?_; rintro e w1 ⟨rfl, hb'⟩; have KZ := Aside0.mk (blk_below (at2_0 (w := W) (o0 := .cells #[.int .i64 0, .int .i64 0, .int .i64 0, .int .i64 0, .int .i64 0] 89) (o1 := .cells #[.int .i64 op, .int .i64 a, .int .i64 b, .int .i64 c, .int .i64 (m)] 89)) hb'); have KV := Aside0.mk (blk_below (at2_1 (w := W) (o0 := .cells #[.int .i64 0, .int .i64 0, .int .i64 0, .int .i64 0, .int .i64 0] 89) (o1 := .cells #[.int .i64 op, .int .i64 a, .int .i64 b, .int .i64 c, .int .i64 (m)] 89)) hb'); have F1 := Aside0.mk (((Fr.refl (fun k => W.heap.size ≤ k) W).alloc (.cells #[.int .i64 0, .int .i64 0, .int .i64 0, .int .i64 0, .int .i64 0] 89) |>.alloc (.cells #[.int .i64 op, .int .i64 a, .int .i64 b, .int .i64 c, .int .i64 (m)] 89)).step hb'); clear hb'; have z0 := kc KZ.out 0 rfl; have fz0 := blk_frozen KZ.out 0; have v0 := kc KV.out 0 rfl; have z1 := kc KZ.out 1 rfl; have fz1 := blk_frozen KZ.out 1; have v1 := kc KV.out 1 rfl; have z2 := kc KZ.out 2 rfl; have fz2 := blk_frozen KZ.out 2; have v2 := kc KV.out 2 rfl; have z3 := kc KZ.out 3 rfl; have fz3 := blk_frozen KZ.out 3; have v3 := kc KV.out 3 rfl; have z4 := kc KZ.out 4 rfl; have fz4 := blk_frozen KZ.out 4; have v4 := kc KV.out 4 rfl)
    refine bodyPost_ret (results_ct rfl _ _ W.heap.size 89 #[.int .i64 0, .int .i64 0, .int .i64 0, .int .i64 0, .int .i64 0] (0, 0) _ rfl (blk_put (blk_put (blk_put (blk_put (blk_put KZ.out 0 _ rfl) 1 _ rfl) 2 _ rfl) 3 _ rfl) 4 _ rfl) Try.underlying89 rfl (by kernel_rfl)) rfl ?_
    exact ⟨rfl, (((((F1.out.set (p := ⟨W.heap.size, 0, none⟩) (.inl (Nat.le_refl _)) _).set (p := ⟨W.heap.size, 1, none⟩) (.inl (Nat.le_refl _)) _).set (p := ⟨W.heap.size, 2, none⟩) (.inl (Nat.le_refl _)) _).set (p := ⟨W.heap.size, 3, none⟩) (.inl (Nat.le_refl _)) _).set (p := ⟨W.heap.size, 4, none⟩) (.inl (Nat.le_refl _)) _).below (fun _ h => h) (Nat.le_refl _)⟩
set_option maxHeartbeats 8000000 in
set_option maxRecDepth 100000 in
theorem decode_s1 (x op a b c m : Int) (r : Bool) (W : World) (h0 : 0 ≤ x) (h1 : x < 4294967296) (e1 : x / 67108864 = op) (e2 : x / 4194304 % 16 = a) (e3 : x / 262144 % 16 = b) (e4 : x / 16384 % 16 = c) (e5 : x % 16384 = m)
    (ba : 0 ≤ a ∧ a ≤ 15) (bb : 0 ≤ b ∧ b ≤ 15) (bc : 0 ≤ c ∧ c ≤ 15) (bm : 0 ≤ m ∧ m ≤ 16383) (hm : 8191 < m)
    (hI : ∀ W, Calls Try.prog 95 #[.agg #[.int .i64 op, .int .i64 a, .int .i64 b, .int .i64 c, .int .i64 (m - 16384)]] W fun e w' => e = .returned (.bool r) ∧ Below W.heap.size W w') :
    Calls Try.prog 87 #[.int .u32 x] W fun e w' => e = .returned (.tuple #[.agg (if r = true then #[.int .i64 op, .int .i64 a, .int .i64 b, .int .i64 c, .int .i64 (m - 16384)] else #[.int .i64 0, .int .i64 0, .int .i64 0, .int .i64 0, .int .i64 0]), .bool r]) ∧ Below W.heap.size W w' := by
  have hu89 := Try.underlying89
  obtain ⟨a1, a2⟩ := ba
  obtain ⟨b1, b2⟩ := bb
  obtain ⟨c1, c2⟩ := bc
  obtain ⟨m1, m2⟩ := bm
  have hm2 : 8192 ≤ m := by omega
  have H := Aside0.mk hI
  clear hI
  cases r
  rotate_left
  · rw [if_pos rfl]
    go_enter Try.func87, Try.ntmps87
    go_wp2_with (go_at_call 95; refine (H.out _).mono ?_; rintro e w1 ⟨rfl, hb'⟩; have KZ := Aside0.mk (blk_below (at2_0 (w := W) (o0 := .cells #[.int .i64 0, .int .i64 0, .int .i64 0, .int .i64 0, .int .i64 0] 89) (o1 := .cells #[.int .i64 op, .int .i64 a, .int .i64 b, .int .i64 c, .int .i64 (m - 16384)] 89)) hb'); have KV := Aside0.mk (blk_below (at2_1 (w := W) (o0 := .cells #[.int .i64 0, .int .i64 0, .int .i64 0, .int .i64 0, .int .i64 0] 89) (o1 := .cells #[.int .i64 op, .int .i64 a, .int .i64 b, .int .i64 c, .int .i64 (m - 16384)] 89)) hb'); have F1 := Aside0.mk (((Fr.refl (fun k => W.heap.size ≤ k) W).alloc (.cells #[.int .i64 0, .int .i64 0, .int .i64 0, .int .i64 0, .int .i64 0] 89) |>.alloc (.cells #[.int .i64 op, .int .i64 a, .int .i64 b, .int .i64 c, .int .i64 (m - 16384)] 89)).step hb'); clear hb'; have z0 := kc KZ.out 0 rfl; have fz0 := blk_frozen KZ.out 0; have v0 := kc KV.out 0 rfl; have z1 := kc KZ.out 1 rfl; have fz1 := blk_frozen KZ.out 1; have v1 := kc KV.out 1 rfl; have z2 := kc KZ.out 2 rfl; have fz2 := blk_frozen KZ.out 2; have v2 := kc KV.out 2 rfl; have z3 := kc KZ.out 3 rfl; have fz3 := blk_frozen KZ.out 3; have v3 := kc KV.out 3 rfl; have z4 := kc KZ.out 4 rfl; have fz4 := blk_frozen KZ.out 4; have v4 := kc KV.out 4 rfl)
    refine bodyPost_ret (results_ct rfl _ _ W.heap.size 89 #[.int .i64 op, .int .i64 a, .int .i64 b, .int .i64 c, .int .i64 (m - 16384)] (0, 0) _ rfl (blk_put (blk_put (blk_put (blk_put (blk_put KZ.out 0 _ rfl) 1 _ rfl) 2 _ rfl) 3 _ rfl) 4 _ rfl) Try.underlying89 rfl (by kernel_rfl)) rfl ?_
    exact ⟨rfl, (((((F1.out.set (p := ⟨W.heap.size, 0, none⟩) (.inl (Nat.le_refl _)) _).set (p := ⟨W.heap.size, 1, none⟩) (.inl (Nat.le_refl _)) _).set (p := ⟨W.heap.size, 2, none⟩) (.inl (Nat.le_refl _)) _).set (p := ⟨W.heap.size, 3, none⟩) (.inl (Nat.le_refl _)) _).set (p := ⟨W.heap.size, 4, none⟩) (.inl (Nat.le_refl _)) _).below (fun _ h => h) (Nat.le_refl _)⟩
  · rw [if_neg (by decide)]
    go_enter Try.func87, Try.ntmps87
    go_wp2_with (go_at_call 95; refine (H.out _).mono ?_; rintro e w1 ⟨rfl, hb'⟩; have KZ := Aside0.mk (blk_below (at2_0 (w := W) (o0 := .cells #[.int .i64 0, .int .i64 0, .int .i64 0, .int .i64 0, .int .i64 0] 89) (o1 := .cells #[.int .i64 op, .int .i64 a, .int .i64 b, .int .i64 c, .int .i64 (m - 16384)] 89)) hb'); have KV := Aside0.mk (blk_below (at2_1 (w := W) (o0 := .cells #[.int .i64 0, .int .i64 0, .int .i64 0, .int .i64 0, .int .i64 0] 89) (o1 := .cells #[.int .i64 op, .int .i64 a, .int .i64 b, .int .i64 c, .int .i64 (m - 16384)] 89)) hb'); have F1 := Aside0.mk (((Fr.refl (fun k => W.heap.size ≤ k) W).alloc (.cells #[.int .i64 0, .int .i64 0, .int .i64 0, .int .i64 0, .int .i64 0] 89) |>.alloc (.cells #[.int .i64 op, .int .i64 a, .int .i64 b, .int .i64 c, .int .i64 (m - 16384)] 89)).step hb'); clear hb'; have z0 := kc KZ.out 0 rfl; have fz0 := blk_frozen KZ.out 0; have v0 := kc KV.out 0 rfl; have z1 := kc KZ.out 1 rfl; have fz1 := blk_frozen KZ.out 1; have v1 := kc KV.out 1 rfl; have z2 := kc KZ.out 2 rfl; have fz2 := blk_frozen KZ.out 2; have v2 := kc KV.out 2 rfl; have z3 := kc KZ.out 3 rfl; have fz3 := blk_frozen KZ.out 3; have v3 := kc KV.out 3 rfl; have z4 := kc KZ.out 4 rfl; have fz4 := blk_frozen KZ.out 4; have v4 := kc KV.out 4 rfl)
    refine bodyPost_ret (results_ct rfl _ _ W.heap.size 89 #[.int .i64 0, .int .i64 0, .int .i64 0, .int .i64 0, .int .i64 0] (0, 0) _ rfl (blk_put (blk_put (blk_put (blk_put (blk_put KZ.out 0 _ rfl) 1 _ rfl) 2 _ rfl) 3 _ rfl) 4 _ rfl) Try.underlying89 rfl (by kernel_rfl)) rfl ?_
    exact ⟨rfl, (((((F1.out.set (p := ⟨W.heap.size, 0, none⟩) (.inl (Nat.le_refl _)) _).set (p := ⟨W.heap.size, 1, none⟩) (.inl (Nat.le_refl _)) _).set (p := ⟨W.heap.size, 2, none⟩) (.inl (Nat.le_refl _)) _).set (p := ⟨W.heap.size, 3, none⟩) (.inl (Nat.le_refl _)) _).set (p := ⟨W.heap.size, 4, none⟩) (.inl (Nat.le_refl _)) _).below (fun _ h => h) (Nat.le_refl _)⟩
set_option maxHeartbeats 8000000 in
set_option maxRecDepth 100000 in
theorem decode_s0 (x op a b c m : Int) (r : Bool) (W : World) (h0 : 0 ≤ x) (h1 : x < 4294967296) (e1 : x / 67108864 = op) (e2 : x / 4194304 % 16 = a) (e3 : x / 262144 % 16 = b) (e4 : x / 16384 % 16 = c) (e5 : x % 16384 = m)
    (ba : 0 ≤ a ∧ a ≤ 15) (bb : 0 ≤ b ∧ b ≤ 15) (bc : 0 ≤ c ∧ c ≤ 15) (bm : 0 ≤ m ∧ m ≤ 16383) (hm : ¬ 8191 < m)
    (hI : ∀ W, Calls Try.prog 95 #[.agg #[.int .i64 op, .int .i64 a, .int .i64 b, .int .i64 c, .int .i64 (m)]] W fun e w' => e = .returned (.bool r) ∧ Below W.heap.size W w') :
    Calls Try.prog 87 #[.int .u32 x] W fun e w' => e = .returned (.tuple #[.agg (if r = true then #[.int .i64 op, .int .i64 a, .int .i64 b, .int .i64 c, .int .i64 (m)] else #[.int .i64 0, .int .i64 0, .int .i64 0, .int .i64 0, .int .i64 0]), .bool r]) ∧ Below W.heap.size W w' := by
  have hu89 := Try.underlying89
  obtain ⟨a1, a2⟩ := ba
  obtain ⟨b1, b2⟩ := bb
  obtain ⟨c1, c2⟩ := bc
  obtain ⟨m1, m2⟩ := bm
  have hm2 : ¬ 8192 ≤ m := by omega
  have H := Aside0.mk hI
  clear hI
  cases r
  rotate_left
  · rw [if_pos rfl]
    go_enter Try.func87, Try.ntmps87
    go_wp2_with (go_at_call 95; refine (H.out _).mono ?_; rintro e w1 ⟨rfl, hb'⟩; have KZ := Aside0.mk (blk_below (at2_0 (w := W) (o0 := .cells #[.int .i64 0, .int .i64 0, .int .i64 0, .int .i64 0, .int .i64 0] 89) (o1 := .cells #[.int .i64 op, .int .i64 a, .int .i64 b, .int .i64 c, .int .i64 (m)] 89)) hb'); have KV := Aside0.mk (blk_below (at2_1 (w := W) (o0 := .cells #[.int .i64 0, .int .i64 0, .int .i64 0, .int .i64 0, .int .i64 0] 89) (o1 := .cells #[.int .i64 op, .int .i64 a, .int .i64 b, .int .i64 c, .int .i64 (m)] 89)) hb'); have F1 := Aside0.mk (((Fr.refl (fun k => W.heap.size ≤ k) W).alloc (.cells #[.int .i64 0, .int .i64 0, .int .i64 0, .int .i64 0, .int .i64 0] 89) |>.alloc (.cells #[.int .i64 op, .int .i64 a, .int .i64 b, .int .i64 c, .int .i64 (m)] 89)).step hb'); clear hb'; have z0 := kc KZ.out 0 rfl; have fz0 := blk_frozen KZ.out 0; have v0 := kc KV.out 0 rfl; have z1 := kc KZ.out 1 rfl; have fz1 := blk_frozen KZ.out 1; have v1 := kc KV.out 1 rfl; have z2 := kc KZ.out 2 rfl; have fz2 := blk_frozen KZ.out 2; have v2 := kc KV.out 2 rfl; have z3 := kc KZ.out 3 rfl; have fz3 := blk_frozen KZ.out 3; have v3 := kc KV.out 3 rfl; have z4 := kc KZ.out 4 rfl; have fz4 := blk_frozen KZ.out 4; have v4 := kc KV.out 4 rfl)
    refine bodyPost_ret (results_ct rfl _ _ W.heap.size 89 #[.int .i64 op, .int .i64 a, .int .i64 b, .int .i64 c, .int .i64 (m)] (0, 0) _ rfl (blk_put (blk_put (blk_put (blk_put (blk_put KZ.out 0 _ rfl) 1 _ rfl) 2 _ rfl) 3 _ rfl) 4 _ rfl) Try.underlying89 rfl (by kernel_rfl)) rfl ?_
    exact ⟨rfl, (((((F1.out.set (p := ⟨W.heap.size, 0, none⟩) (.inl (Nat.le_refl _)) _).set (p := ⟨W.heap.size, 1, none⟩) (.inl (Nat.le_refl _)) _).set (p := ⟨W.heap.size, 2, none⟩) (.inl (Nat.le_refl _)) _).set (p := ⟨W.heap.size, 3, none⟩) (.inl (Nat.le_refl _)) _).set (p := ⟨W.heap.size, 4, none⟩) (.inl (Nat.le_refl _)) _).below (fun _ h => h) (Nat.le_refl _)⟩
  · rw [if_neg (by decide)]
    go_enter Try.func87, Try.ntmps87
    go_wp2_with (go_at_call 95; refine (H.out _).mono ?_; rintro e w1 ⟨rfl, hb'⟩; have KZ := Aside0.mk (blk_below (at2_0 (w := W) (o0 := .cells #[.int .i64 0, .int .i64 0, .int .i64 0, .int .i64 0, .int .i64 0] 89) (o1 := .cells #[.int .i64 op, .int .i64 a, .int .i64 b, .int .i64 c, .int .i64 (m)] 89)) hb'); have KV := Aside0.mk (blk_below (at2_1 (w := W) (o0 := .cells #[.int .i64 0, .int .i64 0, .int .i64 0, .int .i64 0, .int .i64 0] 89) (o1 := .cells #[.int .i64 op, .int .i64 a, .int .i64 b, .int .i64 c, .int .i64 (m)] 89)) hb'); have F1 := Aside0.mk (((Fr.refl (fun k => W.heap.size ≤ k) W).alloc (.cells #[.int .i64 0, .int .i64 0, .int .i64 0, .int .i64 0, .int .i64 0] 89) |>.alloc (.cells #[.int .i64 op, .int .i64 a, .int .i64 b, .int .i64 c, .int .i64 (m)] 89)).step hb'); clear hb'; have z0 := kc KZ.out 0 rfl; have fz0 := blk_frozen KZ.out 0; have v0 := kc KV.out 0 rfl; have z1 := kc KZ.out 1 rfl; have fz1 := blk_frozen KZ.out 1; have v1 := kc KV.out 1 rfl; have z2 := kc KZ.out 2 rfl; have fz2 := blk_frozen KZ.out 2; have v2 := kc KV.out 2 rfl; have z3 := kc KZ.out 3 rfl; have fz3 := blk_frozen KZ.out 3; have v3 := kc KV.out 3 rfl; have z4 := kc KZ.out 4 rfl; have fz4 := blk_frozen KZ.out 4; have v4 := kc KV.out 4 rfl)
    refine bodyPost_ret (results_ct rfl _ _ W.heap.size 89 #[.int .i64 0, .int .i64 0, .int .i64 0, .int .i64 0, .int .i64 0] (0, 0) _ rfl (blk_put (blk_put (blk_put (blk_put (blk_put KZ.out 0 _ rfl) 1 _ rfl) 2 _ rfl) 3 _ rfl) 4 _ rfl) Try.underlying89 rfl (by kernel_rfl)) rfl ?_
    exact ⟨rfl, (((((F1.out.set (p := ⟨W.heap.size, 0, none⟩) (.inl (Nat.le_refl _)) _).set (p := ⟨W.heap.size, 1, none⟩) (.inl (Nat.le_refl _)) _).set (p := ⟨W.heap.size, 2, none⟩) (.inl (Nat.le_refl _)) _).set (p := ⟨W.heap.size, 3, none⟩) (.inl (Nat.le_refl _)) _).set (p := ⟨W.heap.size, 4, none⟩) (.inl (Nat.le_refl _)) _).below (fun _ h => h) (Nat.le_refl _)⟩
end Go.Proofs.Ytbcpkigeginmnaa.GF
end
section
namespace Go.Proofs.Ytbcpkigeginmnaa.Bit
open Go.RowKit Go.Proofs.YtbcpkigeginmnaaW.PrintWords

theorem parts (p d : Nat) : p = 2 ^ (d + 1) * (p / 2 ^ (d + 1)) + (2 ^ d * (p / 2 ^ d % 2) + p % 2 ^ d) := by
  have h1 : p / 2 ^ (d + 1) = p / 2 ^ d / 2 := by rw [Nat.pow_succ, Nat.div_div_eq_div_mul]
  have h2 := Nat.div_add_mod p (2 ^ d)
  have h3 := Nat.div_add_mod (p / 2 ^ d) 2
  rw [h1]
  have h4 : 2 ^ (d + 1) * (p / 2 ^ d / 2) = 2 ^ d * (2 * (p / 2 ^ d / 2)) := by rw [Nat.pow_succ, Nat.mul_assoc]
  rw [h4, ← Nat.add_assoc, ← Nat.mul_add, h3, h2]

theorem w32 {n : Int} (h : (Lit.int .u32 n).wf = true) : 0 ≤ n ∧ n < 4294967296 := by
  simp only [Lit.wf, IntKind.min, IntKind.max, IntKind.signed, IntKind.bits, Bool.and_eq_true, decide_eq_true_eq, Bool.false_eq_true, if_false] at h
  omega
theorem w64 {n : Int} (h : (Lit.int .i64 n).wf = true) : -9223372036854775808 ≤ n ∧ n ≤ 9223372036854775807 := by
  simp only [Lit.wf, IntKind.min, IntKind.max, IntKind.signed, IntKind.bits, Bool.and_eq_true, decide_eq_true_eq, if_true] at h
  omega

theorem wu64 (d : Nat) (hd : d < 64) : IntKind.u64.wrap (d : Int) = d := by
  have e : IntKind.u64.wrap (d : Int) = (d : Int) % 18446744073709551616 := by simp [IntKind.wrap, IntKind.bits, IntKind.signed]
  rw [e]
  omega
theorem shr_nat (x d : Nat) (hd : d < 32) : shr .u32 (x : Int) (d : Int) = ((x / 2 ^ d : Nat) : Int) := by
  unfold shr
  rw [Int.toNat_natCast, show min d (IntKind.bits .u32) = d from Nat.min_eq_left (by show d ≤ 32; omega)]
  simp
theorem and_one (x : Nat) (hx : x < 2 ^ 62) : bits .and .i64 (x : Int) 1 = ((x % 2 : Nat) : Int) := by
  have := bits_mask .i64 62 (by decide) (fun n h0 h1 => by rw [IntKind.wrap_i64]; omega) 1 (by decide) (x : Int) (by omega) (by exact_mod_cast hx)
  simpa using this
end Go.Proofs.Ytbcpkigeginmnaa.Bit
end
