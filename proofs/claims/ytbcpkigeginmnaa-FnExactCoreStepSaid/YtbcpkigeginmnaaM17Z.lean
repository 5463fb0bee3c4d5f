/- A word's bytes written into a guest's memory by the reference's l08Put, walked by hand. -/
import Derived.Test.YtbcpkigeginmnaaM3Z
import Derived.Test.YtbcpkigeginmnaaM10Z
import Derived.Test.YtbcpkigeginmnaaM13Z
import Derived.Test.YtbcpkigeginmnaaM4Z
import Derived.Test.YtbcpkigeginmnaaM15Z
import Derived.Test.YtbcpkigeginmnaaGFx25Z
import Derived.Test.YtbcpkigeginmnaaM16Z
import Derived.Deep.RegionHeld3
set_option linter.unusedVariables false
set_option linter.unusedSimpArgs false
section
namespace Go.Proofs.Ytbcpkigeginmnaa.GF
open Go.RowKit Go.Proofs.YtbcpkigeginmnaaW.PrintWords Go.Proofs.YtbcpkigeginmnaaW.PrintLast Go.Proofs.YtbcpkigeginmnaaW.PrintMore Go.Proofs.Ytbcpkigeginmnaa.Q
attribute [local go_sem] max2_int min2_int max_two min_two max_three min_three max_four min_four   -- for this text's walks alone
def IsB (w0 W : World) (g : Nat) (bx : Array Value) (ty : Nat) (f0 : List Int) (f1 : Int) (f2 : List (List Int)) : Prop := W.heap[g]? = some (.cells bx ty (0, 0)) ∧ w0.heap.size ≤ g ∧ ∃ A0 c0 A2 c2, bx[0]? = some (.slice A0 f0.length c0) ∧ bx[1]? = some (.int .u32 f1) ∧ bx[2]? = some (.slice A2 f2.length c2) ∧ Kd.C (Kd.int .u32) w0 A0 f0.length f0 ∧ Kd.C (Kd.slice 5 (Kd.int .u8)) w0 A2 f2.length f2
section
variable {w0 W W1 : World} {g ty : Nat} {bx : Array Value} {f0 : List Int} {f1 : Int} {f2 : List (List Int)}
theorem IsB.below (h : IsB w0 W g bx ty f0 f1 f2) (hw : Below W.heap.size W W1) : IsB w0 W1 g bx ty f0 f1 f2 := ⟨blk_below h.1 hw, h.2⟩
theorem IsB.alloc (h : IsB w0 W g bx ty f0 f1 f2) (o : Obj) : IsB w0 (W.alloc o) g bx ty f0 f1 f2 := h.below (below_alloc (Below.refl _ _) o)
theorem IsB.drewN (h : IsB w0 W g bx ty f0 f1 f2) (m : Nat) : IsB w0 (W.drewN m) g bx ty f0 f1 f2 := h
theorem IsB.drew (h : IsB w0 W g bx ty f0 f1 f2) : IsB w0 W.drew g bx ty f0 f1 f2 := h
theorem IsB.ge (h : IsB w0 W g bx ty f0 f1 f2) : w0.heap.size ≤ g := h.2.1
end
set_option maxHeartbeats 8000000 in
set_option maxRecDepth 100000 in
theorem load_any (k : Nat) (g ty : Nat) (bx : Array Value) (s0_0 : List Int) (s0_1 : Int) (s0_2 : List (List Int)) (A1 : Option Addr) (c1 : Nat) (l1 : List (S70)) (a2 : Int) (a3 : Int) (a4 : Int) (r1 : Int) (r2 : Int) (r3 : Int) (w0 w : World) (hI : IsB w0 w g bx ty s0_0 s0_1 s0_2) (hB : Below w0.heap.size w0 w) (hr1 : ∀ W_, KeepBut w W_ g none → Kd.C k70 W_ A1 l1.length l1) (hc1 : l1.length ≤ c1) (h : impl_Guest_load.f k s0_0 s0_1 s0_2 l1 a2 a3 a4 = some (r1, r2, r3)) :
  Calls Try.prog 59 #[.pointer (some ⟨g, 0, none⟩), .slice A1 l1.length c1, .int .u32 a2, .int .i64 a3, .int .i64 a4] w fun e w' => e = .returned (.tuple #[.int .u32 r1, .int .i64 r2]) ∧ IsB w0 w' g bx ty s0_0 r3 s0_2 ∧ Below w0.heap.size w0 w' ∧ KeepBut w w' g none := by
 have HR1 := Aside0.mk hr1
 have HC1 := Aside0.mk hc1
 clear hr1 hc1
 have HI0 := Aside0.mk hI
 have HK := Aside0.mk (KeepBut.refl w g none)
 have HL := Aside0.mk hB.size
 clear hI
 have HW0 := Aside0.mk hB.size
 have HB := Aside0.mk hB
 clear hB
 have H : ((impl_faultAt.f k l1 a2 a3 a4).bind fun t239 => (if t239 = 0 then ((impl_windowAt.f l1 (wrap64 (a2))).bind fun t240 => (if 0 ≤ t240 then (if t240 < (s0_2.length : Int) then (if t240 < (l1.length : Int) then (if 0 ≤ (wrap64 ((wrap64 (a2)) - ((rd_T70 l1 t240).f0))) then (if (wrap64 ((wrap64 (a2)) - ((rd_T70 l1 t240).f0))) ≤ ((rd_L2 s0_2 t240).length : Int) then (if a3 = 1 then (if 0 < (((rd_L2 s0_2 t240).drop ((wrap64 ((wrap64 (a2)) - ((rd_T70 l1 t240).f0))) : Int).toNat).length : Int) then (some ((rd ((rd_L2 s0_2 t240).drop ((wrap64 ((wrap64 (a2)) - ((rd_T70 l1 t240).f0))) : Int).toNat) 0) % 4294967296, 0, s0_1)) else (none)) else (if 4 ≤ (((rd_L2 s0_2 t240).drop ((wrap64 ((wrap64 (a2)) - ((rd_T70 l1 t240).f0))) : Int).toNat).length : Int) then ((impl_WordOf.f (((rd_L2 s0_2 t240).drop ((wrap64 ((wrap64 (a2)) - ((rd_T70 l1 t240).f0))) : Int).toNat).take 4)).bind fun bt246 => (some (bt246.1, 0, s0_1))) else (none))) else (none)) else (none)) else (none)) else (none)) else (none))) else (some (0, t239, s0_1)))) = some (r1, r2, r3) := h
 clear h
 replace H := Option.bind_eq_some_iff.mp H
 obtain ⟨t239, A60, H⟩ := H
 (try dsimp only at H)
 have A6 := Aside0.mk A60
 clear A60
 by_cases c7 : t239 = 0
 ·rw [if_pos c7] at H
  have c7b0 : (t239 == 0) = true := beq_iff_eq.mpr c7
  have c7b1 : (t239 != 0) = false := bne_eq_false_iff_eq.mpr c7
  clear c7
  replace H := Option.bind_eq_some_iff.mp H
  obtain ⟨t240, A80, H⟩ := H
  (try dsimp only at H)
  have A8 := Aside0.mk A80
  clear A80
  by_cases c9 : 0 ≤ t240
  ·rw [if_pos c9] at H
   have c9b0 : decide (0 ≤ t240) = true := decide_eq_true c9
   clear c9
   by_cases c10 : t240 < (s0_2.length : Int)
   ·rw [if_pos c10] at H
    have c10b0 : decide (t240 < (s0_2.length : Int)) = true := decide_eq_true c10
    clear c10
    by_cases c11 : t240 < (l1.length : Int)
    ·rw [if_pos c11] at H
     have c11b0 : decide (t240 < (l1.length : Int)) = true := decide_eq_true c11
     clear c11
     obtain ⟨ji12, hji12⟩ : ∃ j_ : Int, (wrap64 ((wrap64 (a2)) - ((rd_T70 l1 t240).f0))) = j_ := ⟨_, rfl⟩
     replace H : (if 0 ≤ (ji12) then (if (ji12) ≤ ((rd_L2 s0_2 t240).length : Int) then (if a3 = 1 then (if 0 < (((rd_L2 s0_2 t240).drop ((ji12) : Int).toNat).length : Int) then (some ((rd ((rd_L2 s0_2 t240).drop ((ji12) : Int).toNat) 0) % 4294967296, 0, s0_1)) else (none)) else (if 4 ≤ (((rd_L2 s0_2 t240).drop ((ji12) : Int).toNat).length : Int) then ((impl_WordOf.f (((rd_L2 s0_2 t240).drop ((ji12) : Int).toNat).take 4)).bind fun bt246 => (some (bt246.1, 0, s0_1))) else (none))) else (none)) else (none)) = some (r1, r2, r3) := by first | (rw [hji12] at H; exact H) | (simp only [hji12] at H ⊢; exact H)
     (try rw [hji12] at A6)
     (try rw [hji12] at A8)
     have hji12w : (IntKind.i64.wrap ((wrap64 (a2)) - ((rd_T70 l1 t240).f0))) = ji12 := (i64_w _).trans hji12
     by_cases c13 : 0 ≤ (ji12)
     ·rw [if_pos c13] at H
      have c13b0 := eq_true c13
      have c13b1 : decide (0 ≤ (ji12)) = true := decide_eq_true c13
      clear c13
      by_cases c14 : (ji12) ≤ ((rd_L2 s0_2 t240).length : Int)
      ·rw [if_pos c14] at H
       have c14b0 := eq_true c14
       have c14b1 : decide ((ji12) ≤ ((rd_L2 s0_2 t240).length : Int)) = true := decide_eq_true c14
       clear c14
       by_cases c15 : a3 = 1
       ·rw [if_pos c15] at H
        have c15b0 : (a3 == 1) = true := beq_iff_eq.mpr c15
        have c15b1 : (a3 != 1) = false := bne_eq_false_iff_eq.mpr c15
        clear c15
        by_cases c16 : 0 < (((rd_L2 s0_2 t240).drop ((ji12) : Int).toNat).length : Int)
        ·rw [if_pos c16] at H
         have c16b0 : decide (0 < (((rd_L2 s0_2 t240).drop ((ji12) : Int).toNat).length : Int)) = true := decide_eq_true c16
         have c16b1 : decide (0 < ((rd_L2 s0_2 t240).drop ((ji12) : Int).toNat).length) = true := decide_eq_true (by omega)
         clear c16
         simp only [Option.some.injEq, Prod.mk.injEq] at H
         obtain ⟨rfl, rfl, rfl⟩ := H
         go_enter Try.func59, Try.ntmps59
         go_wp2_with (first | (go_at_call 81; (with_reducible refine (impl_faultAt.calls k _ _ l1 a2 a3 a4 t239 _ ?side1 ?side2 A6.out).mono ?_); (case side1 => exact Kd.C_foot_now HR1.out (by repeat (first | (with_reducible first | exact HK.out | apply KeepBut.set_ | apply keep_drewN | apply keep_drew | apply keep_alloc) | exact HK.out))); (case side2 => exact HC1.out); rintro e w17 ⟨rfl, hb⟩; have n0_ := Aside0.mk (IsB.below (by repeat (first | (with_reducible first | exact HI0.out | apply IsB.alloc | apply IsB.drewN | apply IsB.drew ) | exact HI0.out)) hb); have n1_ := Aside0.mk (KeepBut.trans (by repeat (first | (with_reducible first | exact HK.out | apply KeepBut.set_ | apply keep_drewN | apply keep_drew | apply keep_alloc) | exact HK.out)) (KeepBut.of_below hb g none) (.inl rfl)); have n2_ := Aside0.mk (below_step (by repeat (first | (with_reducible first | exact HB.out | apply below_alloc | apply pw_below_drewN | apply below_drew1 | refine below_set ?_ (IsB.ge HI0.out)) | exact HB.out)) hb); clear HI0; clear HK; clear HB; have HI0 := n0_; have HK := n1_; have HB := n2_; clear n0_ n1_ n2_; (try clear hb); (try clear hb2); (try clear hk); (try clear hi)) | (go_at_call 82; (with_reducible refine (impl_windowAt.calls _ _ l1 (wrap64 (a2)) t240 _ ?side1 ?side2 A8.out).mono ?_); (case side1 => exact Kd.C_foot_now HR1.out (by repeat (first | (with_reducible first | exact HK.out | apply KeepBut.set_ | apply keep_drewN | apply keep_drew | apply keep_alloc) | exact HK.out))); (case side2 => exact HC1.out); rintro e w18 ⟨rfl, hb⟩; have n0_ := Aside0.mk (IsB.below (by repeat (first | (with_reducible first | exact HI0.out | apply IsB.alloc | apply IsB.drewN | apply IsB.drew ) | exact HI0.out)) hb); have n1_ := Aside0.mk (KeepBut.trans (by repeat (first | (with_reducible first | exact HK.out | apply KeepBut.set_ | apply keep_drewN | apply keep_drew | apply keep_alloc) | exact HK.out)) (KeepBut.of_below hb g none) (.inl rfl)); have n2_ := Aside0.mk (below_step (by repeat (first | (with_reducible first | exact HB.out | apply below_alloc | apply pw_below_drewN | apply below_drew1 | refine below_set ?_ (IsB.ge HI0.out)) | exact HB.out)) hb); clear HI0; clear HK; clear HB; have HI0 := n0_; have HK := n1_; have HB := n2_; clear n0_ n1_ n2_; (try clear hb); (try clear hb2); (try clear hk); (try clear hi); obtain ⟨HGz19, hgz19, ASz19_0, cSz19_0, ASz19_2, cSz19_2, hbb0, hbb1, hbb2, HSz19_0, HSz19_2⟩ := HI0.out; have hcz19_0 := (blk_cell HGz19 0).trans hbb0; have hcz19_1 := (blk_cell HGz19 1).trans hbb1; have hcz19_2 := (blk_cell HGz19 2).trans hbb2; have hfz19_1 := blk_frozen HGz19 1; clear hbb0 hbb1 hbb2; clear HGz19 hgz19; have p241 : 0 ≤ (t240 : Int) := of_decide_eq_true (by first | (with_reducible assumption) | assumption); have q241 : t240 < (s0_2.length : Int) := of_decide_eq_true (by first | (with_reducible assumption) | assumption); obtain ⟨ad241, A241_0, c241_0, e241, hx241_0, hl241_0, hi241_0⟩ := at_L2 HSz19_2 t240 p241 q241; cases e241; replace hx241_0 := pw_cell_below HB.out hx241_0; have hf241_0 : ∀ ad : Addr, A241_0 = some ad → _ → ad.block ≠ g := fun ad he hn_ => (by cases he; exact Nat.ne_of_lt (Nat.lt_of_lt_of_le (Kd.C_lt hi241_0 hn_ (by decide)) (IsB.ge HI0.out))); have HR241_0 := Aside0.mk hi241_0; have HC241_0 := Aside0.mk hl241_0; clear hi241_0 hl241_0; replace p241 := eq_true p241; replace q241 := eq_true q241; have p242 : 0 ≤ (t240 : Int) := of_decide_eq_true (by first | (with_reducible assumption) | assumption); have q242 : t240 < (l1.length : Int) := of_decide_eq_true (by first | (with_reducible assumption) | assumption); obtain ⟨ad242, e242, hx242_0, hx242_1, hx242_2⟩ := at_T70 (Kd.C_foot_now HR1.out HK.out) t240 p242 q242; cases e242; replace p242 := eq_true p242; replace q242 := eq_true q242; obtain ⟨i020, hi020, _, hsz20, _⟩ := info_parts info5; obtain ⟨A20, hcut20, hA20, hC20⟩ := print_drop_of (P := Try.prog) (Value.int .u8) 0 68 5 .i64 Try.underlying68 hi020 hsz20 A241_0 c241_0 (rd_L2 s0_2 t240) (ji12) (of_decide_eq_true (by first | (with_reducible assumption) | assumption)) (of_decide_eq_true (by first | (with_reducible assumption) | assumption)) HC241_0.out; have HR243 := Aside0.mk (Kd.C_of_reads (h1 := fun _ => rfl) (hA20 _ (Kd.reads_of_C HR241_0.out))); have HC243 := Aside0.mk hC20; have hf243 : ∀ ad : Addr, A20 = some ad → 0 < ((rd_L2 s0_2 t240).drop ((ji12) : Int).toNat).length → ad.block ≠ g := fun ad he h_ => (by cases he; exact Kd.foot_ne (fun W_ hk_ => Kd.C_of_reads (h1 := fun _ => rfl) (hA20 _ (Kd.reads_of_C (Kd.C_foot_ne (fun h => h) HR241_0.out hf241_0 W_ hk_)))) h_ (by decide)); clear hA20 hC20 hi020 hsz20; have p244 : 0 ≤ (0 : Int) := (by omega); have q244 : 0 < (((rd_L2 s0_2 t240).drop ((ji12) : Int).toNat).length : Int) := of_decide_eq_true (by first | (with_reducible assumption) | assumption); obtain ⟨ad244, e244, hx244_0⟩ := Kd.at_int HR243.out 0 p244 q244; cases e244; have qi244 : (0 < ((rd_L2 s0_2 t240).drop ((ji12) : Int).toNat).length) = True := eq_true (by omega); have qj244 : (0 < (rd_L2 s0_2 t240).length - ((ji12) : Int).toNat) = True := (by have e_ := qi244; rw [List.length_drop] at e_; exact e_); (try rw [show ((0 : Int)).toNat = 0 from rfl] at hx244_0); (try rw [Addr.add_zero'] at hx244_0); first | (replace hx244_0 := keep_cell HK.out hx244_0 (by first | (rw [add_block]; exact hf243 _ rfl (by omega)) | exact hf243 _ rfl (by omega) | exact hf243 ad244 rfl (by omega))) | (replace hx244_0 := pw_cell_below HB.out hx244_0); replace p244 := eq_true p244; replace q244 := eq_true q244))
         repeat (go_quiet (first | (go_at_call 81; (with_reducible refine (impl_faultAt.calls k _ _ l1 a2 a3 a4 t239 _ ?side1 ?side2 A6.out).mono ?_); (case side1 => exact Kd.C_foot_now HR1.out (by repeat (first | (with_reducible first | exact HK.out | apply KeepBut.set_ | apply keep_drewN | apply keep_drew | apply keep_alloc) | exact HK.out))); (case side2 => exact HC1.out); rintro e w17 ⟨rfl, hb⟩; have n0_ := Aside0.mk (IsB.below (by repeat (first | (with_reducible first | exact HI0.out | apply IsB.alloc | apply IsB.drewN | apply IsB.drew ) | exact HI0.out)) hb); have n1_ := Aside0.mk (KeepBut.trans (by repeat (first | (with_reducible first | exact HK.out | apply KeepBut.set_ | apply keep_drewN | apply keep_drew | apply keep_alloc) | exact HK.out)) (KeepBut.of_below hb g none) (.inl rfl)); have n2_ := Aside0.mk (below_step (by repeat (first | (with_reducible first | exact HB.out | apply below_alloc | apply pw_below_drewN | apply below_drew1 | refine below_set ?_ (IsB.ge HI0.out)) | exact HB.out)) hb); clear HI0; clear HK; clear HB; have HI0 := n0_; have HK := n1_; have HB := n2_; clear n0_ n1_ n2_; (try clear hb); (try clear hb2); (try clear hk); (try clear hi))); try go_wp2_with (first | (go_at_call 81; (with_reducible refine (impl_faultAt.calls k _ _ l1 a2 a3 a4 t239 _ ?side1 ?side2 A6.out).mono ?_); (case side1 => exact Kd.C_foot_now HR1.out (by repeat (first | (with_reducible first | exact HK.out | apply KeepBut.set_ | apply keep_drewN | apply keep_drew | apply keep_alloc) | exact HK.out))); (case side2 => exact HC1.out); rintro e w17 ⟨rfl, hb⟩; have n0_ := Aside0.mk (IsB.below (by repeat (first | (with_reducible first | exact HI0.out | apply IsB.alloc | apply IsB.drewN | apply IsB.drew ) | exact HI0.out)) hb); have n1_ := Aside0.mk (KeepBut.trans (by repeat (first | (with_reducible first | exact HK.out | apply KeepBut.set_ | apply keep_drewN | apply keep_drew | apply keep_alloc) | exact HK.out)) (KeepBut.of_below hb g none) (.inl rfl)); have n2_ := Aside0.mk (below_step (by repeat (first | (with_reducible first | exact HB.out | apply below_alloc | apply pw_below_drewN | apply below_drew1 | refine below_set ?_ (IsB.ge HI0.out)) | exact HB.out)) hb); clear HI0; clear HK; clear HB; have HI0 := n0_; have HK := n1_; have HB := n2_; clear n0_ n1_ n2_; (try clear hb); (try clear hb2); (try clear hk); (try clear hi)) | (go_at_call 82; (with_reducible refine (impl_windowAt.calls _ _ l1 (wrap64 (a2)) t240 _ ?side1 ?side2 A8.out).mono ?_); (case side1 => exact Kd.C_foot_now HR1.out (by repeat (first | (with_reducible first | exact HK.out | apply KeepBut.set_ | apply keep_drewN | apply keep_drew | apply keep_alloc) | exact HK.out))); (case side2 => exact HC1.out); rintro e w18 ⟨rfl, hb⟩; have n0_ := Aside0.mk (IsB.below (by repeat (first | (with_reducible first | exact HI0.out | apply IsB.alloc | apply IsB.drewN | apply IsB.drew ) | exact HI0.out)) hb); have n1_ := Aside0.mk (KeepBut.trans (by repeat (first | (with_reducible first | exact HK.out | apply KeepBut.set_ | apply keep_drewN | apply keep_drew | apply keep_alloc) | exact HK.out)) (KeepBut.of_below hb g none) (.inl rfl)); have n2_ := Aside0.mk (below_step (by repeat (first | (with_reducible first | exact HB.out | apply below_alloc | apply pw_below_drewN | apply below_drew1 | refine below_set ?_ (IsB.ge HI0.out)) | exact HB.out)) hb); clear HI0; clear HK; clear HB; have HI0 := n0_; have HK := n1_; have HB := n2_; clear n0_ n1_ n2_; (try clear hb); (try clear hb2); (try clear hk); (try clear hi); obtain ⟨HGz19, hgz19, ASz19_0, cSz19_0, ASz19_2, cSz19_2, hbb0, hbb1, hbb2, HSz19_0, HSz19_2⟩ := HI0.out; have hcz19_0 := (blk_cell HGz19 0).trans hbb0; have hcz19_1 := (blk_cell HGz19 1).trans hbb1; have hcz19_2 := (blk_cell HGz19 2).trans hbb2; have hfz19_1 := blk_frozen HGz19 1; clear hbb0 hbb1 hbb2; clear HGz19 hgz19; have p241 : 0 ≤ (t240 : Int) := of_decide_eq_true (by first | (with_reducible assumption) | assumption); have q241 : t240 < (s0_2.length : Int) := of_decide_eq_true (by first | (with_reducible assumption) | assumption); obtain ⟨ad241, A241_0, c241_0, e241, hx241_0, hl241_0, hi241_0⟩ := at_L2 HSz19_2 t240 p241 q241; cases e241; replace hx241_0 := pw_cell_below HB.out hx241_0; have hf241_0 : ∀ ad : Addr, A241_0 = some ad → _ → ad.block ≠ g := fun ad he hn_ => (by cases he; exact Nat.ne_of_lt (Nat.lt_of_lt_of_le (Kd.C_lt hi241_0 hn_ (by decide)) (IsB.ge HI0.out))); have HR241_0 := Aside0.mk hi241_0; have HC241_0 := Aside0.mk hl241_0; clear hi241_0 hl241_0; replace p241 := eq_true p241; replace q241 := eq_true q241; have p242 : 0 ≤ (t240 : Int) := of_decide_eq_true (by first | (with_reducible assumption) | assumption); have q242 : t240 < (l1.length : Int) := of_decide_eq_true (by first | (with_reducible assumption) | assumption); obtain ⟨ad242, e242, hx242_0, hx242_1, hx242_2⟩ := at_T70 (Kd.C_foot_now HR1.out HK.out) t240 p242 q242; cases e242; replace p242 := eq_true p242; replace q242 := eq_true q242; obtain ⟨i020, hi020, _, hsz20, _⟩ := info_parts info5; obtain ⟨A20, hcut20, hA20, hC20⟩ := print_drop_of (P := Try.prog) (Value.int .u8) 0 68 5 .i64 Try.underlying68 hi020 hsz20 A241_0 c241_0 (rd_L2 s0_2 t240) (ji12) (of_decide_eq_true (by first | (with_reducible assumption) | assumption)) (of_decide_eq_true (by first | (with_reducible assumption) | assumption)) HC241_0.out; have HR243 := Aside0.mk (Kd.C_of_reads (h1 := fun _ => rfl) (hA20 _ (Kd.reads_of_C HR241_0.out))); have HC243 := Aside0.mk hC20; have hf243 : ∀ ad : Addr, A20 = some ad → 0 < ((rd_L2 s0_2 t240).drop ((ji12) : Int).toNat).length → ad.block ≠ g := fun ad he h_ => (by cases he; exact Kd.foot_ne (fun W_ hk_ => Kd.C_of_reads (h1 := fun _ => rfl) (hA20 _ (Kd.reads_of_C (Kd.C_foot_ne (fun h => h) HR241_0.out hf241_0 W_ hk_)))) h_ (by decide)); clear hA20 hC20 hi020 hsz20; have p244 : 0 ≤ (0 : Int) := (by omega); have q244 : 0 < (((rd_L2 s0_2 t240).drop ((ji12) : Int).toNat).length : Int) := of_decide_eq_true (by first | (with_reducible assumption) | assumption); obtain ⟨ad244, e244, hx244_0⟩ := Kd.at_int HR243.out 0 p244 q244; cases e244; have qi244 : (0 < ((rd_L2 s0_2 t240).drop ((ji12) : Int).toNat).length) = True := eq_true (by omega); have qj244 : (0 < (rd_L2 s0_2 t240).length - ((ji12) : Int).toNat) = True := (by have e_ := qi244; rw [List.length_drop] at e_; exact e_); (try rw [show ((0 : Int)).toNat = 0 from rfl] at hx244_0); (try rw [Addr.add_zero'] at hx244_0); first | (replace hx244_0 := keep_cell HK.out hx244_0 (by first | (rw [add_block]; exact hf243 _ rfl (by omega)) | exact hf243 _ rfl (by omega) | exact hf243 ad244 rfl (by omega))) | (replace hx244_0 := pw_cell_below HB.out hx244_0); replace p244 := eq_true p244; replace q244 := eq_true q244)))
         go_ret2
         exact ⟨by first | rfl | (simp [errW_none, errW_some] <;> rfl) | (simp only [← hji12]; first | rfl | (simp [errW_none, errW_some] <;> rfl)) | (simp [*, errW_none, errW_some] <;> rfl), by repeat (first | (with_reducible first | exact HI0.out | apply IsB.alloc | apply IsB.drewN | apply IsB.drew ) | exact HI0.out), by repeat (first | (with_reducible first | exact HB.out | apply below_alloc | apply pw_below_drewN | apply below_drew1 | refine below_set ?_ (IsB.ge HI0.out)) | exact HB.out), by repeat (first | (with_reducible first | exact HK.out | apply KeepBut.set_ | apply keep_drewN | apply keep_drew | apply keep_alloc) | exact HK.out)⟩
        ·rw [if_neg c16] at H
         exact absurd H (by simp)
       ·rw [if_neg c15] at H
        have c15b0 : (a3 == 1) = false := beq_eq_false_iff_ne.mpr c15
        have c15b1 : (a3 != 1) = true := bne_iff_ne.mpr c15
        by_cases c21 : 4 ≤ (((rd_L2 s0_2 t240).drop ((ji12) : Int).toNat).length : Int)
        ·rw [if_pos c21] at H
         have c21b0 := eq_true c21
         have c21b1 : decide (4 ≤ (((rd_L2 s0_2 t240).drop ((ji12) : Int).toNat).length : Int)) = true := decide_eq_true c21
         clear c21
         replace H := Option.bind_eq_some_iff.mp H
         obtain ⟨⟨t246, t247⟩, A220, H⟩ := H
         (try dsimp only at H)
         have A22 := Aside0.mk A220
         clear A220
         simp only [Option.some.injEq, Prod.mk.injEq] at H
         obtain ⟨rfl, rfl, rfl⟩ := H
         go_enter Try.func59, Try.ntmps59
         go_wp2_with (first | (go_at_call 81; (with_reducible refine (impl_faultAt.calls k _ _ l1 a2 a3 a4 t239 _ ?side1 ?side2 A6.out).mono ?_); (case side1 => exact Kd.C_foot_now HR1.out (by repeat (first | (with_reducible first | exact HK.out | apply KeepBut.set_ | apply keep_drewN | apply keep_drew | apply keep_alloc) | exact HK.out))); (case side2 => exact HC1.out); rintro e w23 ⟨rfl, hb⟩; have n0_ := Aside0.mk (IsB.below (by repeat (first | (with_reducible first | exact HI0.out | apply IsB.alloc | apply IsB.drewN | apply IsB.drew ) | exact HI0.out)) hb); have n1_ := Aside0.mk (KeepBut.trans (by repeat (first | (with_reducible first | exact HK.out | apply KeepBut.set_ | apply keep_drewN | apply keep_drew | apply keep_alloc) | exact HK.out)) (KeepBut.of_below hb g none) (.inl rfl)); have n2_ := Aside0.mk (below_step (by repeat (first | (with_reducible first | exact HB.out | apply below_alloc | apply pw_below_drewN | apply below_drew1 | refine below_set ?_ (IsB.ge HI0.out)) | exact HB.out)) hb); clear HI0; clear HK; clear HB; have HI0 := n0_; have HK := n1_; have HB := n2_; clear n0_ n1_ n2_; (try clear hb); (try clear hb2); (try clear hk); (try clear hi)) | (go_at_call 82; (with_reducible refine (impl_windowAt.calls _ _ l1 (wrap64 (a2)) t240 _ ?side1 ?side2 A8.out).mono ?_); (case side1 => exact Kd.C_foot_now HR1.out (by repeat (first | (with_reducible first | exact HK.out | apply KeepBut.set_ | apply keep_drewN | apply keep_drew | apply keep_alloc) | exact HK.out))); (case side2 => exact HC1.out); rintro e w24 ⟨rfl, hb⟩; have n0_ := Aside0.mk (IsB.below (by repeat (first | (with_reducible first | exact HI0.out | apply IsB.alloc | apply IsB.drewN | apply IsB.drew ) | exact HI0.out)) hb); have n1_ := Aside0.mk (KeepBut.trans (by repeat (first | (with_reducible first | exact HK.out | apply KeepBut.set_ | apply keep_drewN | apply keep_drew | apply keep_alloc) | exact HK.out)) (KeepBut.of_below hb g none) (.inl rfl)); have n2_ := Aside0.mk (below_step (by repeat (first | (with_reducible first | exact HB.out | apply below_alloc | apply pw_below_drewN | apply below_drew1 | refine below_set ?_ (IsB.ge HI0.out)) | exact HB.out)) hb); clear HI0; clear HK; clear HB; have HI0 := n0_; have HK := n1_; have HB := n2_; clear n0_ n1_ n2_; (try clear hb); (try clear hb2); (try clear hk); (try clear hi); obtain ⟨HGz25, hgz25, ASz25_0, cSz25_0, ASz25_2, cSz25_2, hbb0, hbb1, hbb2, HSz25_0, HSz25_2⟩ := HI0.out; have hcz25_0 := (blk_cell HGz25 0).trans hbb0; have hcz25_1 := (blk_cell HGz25 1).trans hbb1; have hcz25_2 := (blk_cell HGz25 2).trans hbb2; have hfz25_1 := blk_frozen HGz25 1; clear hbb0 hbb1 hbb2; clear HGz25 hgz25; have p241 : 0 ≤ (t240 : Int) := of_decide_eq_true (by first | (with_reducible assumption) | assumption); have q241 : t240 < (s0_2.length : Int) := of_decide_eq_true (by first | (with_reducible assumption) | assumption); obtain ⟨ad241, A241_0, c241_0, e241, hx241_0, hl241_0, hi241_0⟩ := at_L2 HSz25_2 t240 p241 q241; cases e241; replace hx241_0 := pw_cell_below HB.out hx241_0; have hf241_0 : ∀ ad : Addr, A241_0 = some ad → _ → ad.block ≠ g := fun ad he hn_ => (by cases he; exact Nat.ne_of_lt (Nat.lt_of_lt_of_le (Kd.C_lt hi241_0 hn_ (by decide)) (IsB.ge HI0.out))); have HR241_0 := Aside0.mk hi241_0; have HC241_0 := Aside0.mk hl241_0; clear hi241_0 hl241_0; replace p241 := eq_true p241; replace q241 := eq_true q241; have p242 : 0 ≤ (t240 : Int) := of_decide_eq_true (by first | (with_reducible assumption) | assumption); have q242 : t240 < (l1.length : Int) := of_decide_eq_true (by first | (with_reducible assumption) | assumption); obtain ⟨ad242, e242, hx242_0, hx242_1, hx242_2⟩ := at_T70 (Kd.C_foot_now HR1.out HK.out) t240 p242 q242; cases e242; replace p242 := eq_true p242; replace q242 := eq_true q242; obtain ⟨i026, hi026, _, hsz26, _⟩ := info_parts info5; obtain ⟨A26, hcut26, hA26, hC26⟩ := print_drop_of (P := Try.prog) (Value.int .u8) 0 68 5 .i64 Try.underlying68 hi026 hsz26 A241_0 c241_0 (rd_L2 s0_2 t240) (ji12) (of_decide_eq_true (by first | (with_reducible assumption) | assumption)) (of_decide_eq_true (by first | (with_reducible assumption) | assumption)) HC241_0.out; have HR243 := Aside0.mk (Kd.C_of_reads (h1 := fun _ => rfl) (hA26 _ (Kd.reads_of_C HR241_0.out))); have HC243 := Aside0.mk hC26; have hf243 : ∀ ad : Addr, A26 = some ad → 0 < ((rd_L2 s0_2 t240).drop ((ji12) : Int).toNat).length → ad.block ≠ g := fun ad he h_ => (by cases he; exact Kd.foot_ne (fun W_ hk_ => Kd.C_of_reads (h1 := fun _ => rfl) (hA26 _ (Kd.reads_of_C (Kd.C_foot_ne (fun h => h) HR241_0.out hf241_0 W_ hk_)))) h_ (by decide)); clear hA26 hC26 hi026 hsz26; obtain ⟨i027, hi027, _, hsz27, _⟩ := info_parts info5; obtain ⟨hcut27, hA27, hC27⟩ := print_take_of (P := Try.prog) (Value.int .u8) 0 68 5 .i64 Try.underlying68 hi027 hsz27 A26 (c241_0 - (ji12).toNat) ((rd_L2 s0_2 t240).drop ((ji12) : Int).toNat) 4 (by omega) (of_decide_eq_true (by first | (with_reducible assumption) | assumption)) HC243.out; have hcut27b := hcut27; (try simp only [List.length_drop] at hcut27b); have HR245 := Aside0.mk (Kd.C_of_reads (h1 := fun _ => rfl) (hA27 _ (Kd.reads_of_C HR243.out))); have HC245 := Aside0.mk hC27; have hf245 : ∀ ad : Addr, A26 = some ad → 0 < (((rd_L2 s0_2 t240).drop ((ji12) : Int).toNat).take 4).length → ad.block ≠ g := fun ad he h_ => (by cases he; exact Kd.foot_ne (fun W_ hk_ => Kd.C_of_reads (h1 := fun _ => rfl) (hA27 _ (Kd.reads_of_C (Kd.C_foot_ne (fun h => h) HR243.out hf243 W_ hk_)))) h_ (by decide)); clear hA27 hC27 hi027 hsz27))
         repeat (go_quiet (first | (go_at_call 81; (with_reducible refine (impl_faultAt.calls k _ _ l1 a2 a3 a4 t239 _ ?side1 ?side2 A6.out).mono ?_); (case side1 => exact Kd.C_foot_now HR1.out (by repeat (first | (with_reducible first | exact HK.out | apply KeepBut.set_ | apply keep_drewN | apply keep_drew | apply keep_alloc) | exact HK.out))); (case side2 => exact HC1.out); rintro e w23 ⟨rfl, hb⟩; have n0_ := Aside0.mk (IsB.below (by repeat (first | (with_reducible first | exact HI0.out | apply IsB.alloc | apply IsB.drewN | apply IsB.drew ) | exact HI0.out)) hb); have n1_ := Aside0.mk (KeepBut.trans (by repeat (first | (with_reducible first | exact HK.out | apply KeepBut.set_ | apply keep_drewN | apply keep_drew | apply keep_alloc) | exact HK.out)) (KeepBut.of_below hb g none) (.inl rfl)); have n2_ := Aside0.mk (below_step (by repeat (first | (with_reducible first | exact HB.out | apply below_alloc | apply pw_below_drewN | apply below_drew1 | refine below_set ?_ (IsB.ge HI0.out)) | exact HB.out)) hb); clear HI0; clear HK; clear HB; have HI0 := n0_; have HK := n1_; have HB := n2_; clear n0_ n1_ n2_; (try clear hb); (try clear hb2); (try clear hk); (try clear hi))); try go_wp2_with (first | (go_at_call 81; (with_reducible refine (impl_faultAt.calls k _ _ l1 a2 a3 a4 t239 _ ?side1 ?side2 A6.out).mono ?_); (case side1 => exact Kd.C_foot_now HR1.out (by repeat (first | (with_reducible first | exact HK.out | apply KeepBut.set_ | apply keep_drewN | apply keep_drew | apply keep_alloc) | exact HK.out))); (case side2 => exact HC1.out); rintro e w23 ⟨rfl, hb⟩; have n0_ := Aside0.mk (IsB.below (by repeat (first | (with_reducible first | exact HI0.out | apply IsB.alloc | apply IsB.drewN | apply IsB.drew ) | exact HI0.out)) hb); have n1_ := Aside0.mk (KeepBut.trans (by repeat (first | (with_reducible first | exact HK.out | apply KeepBut.set_ | apply keep_drewN | apply keep_drew | apply keep_alloc) | exact HK.out)) (KeepBut.of_below hb g none) (.inl rfl)); have n2_ := Aside0.mk (below_step (by repeat (first | (with_reducible first | exact HB.out | apply below_alloc | apply pw_below_drewN | apply below_drew1 | refine below_set ?_ (IsB.ge HI0.out)) | exact HB.out)) hb); clear HI0; clear HK; clear HB; have HI0 := n0_; have HK := n1_; have HB := n2_; clear n0_ n1_ n2_; (try clear hb); (try clear hb2); (try clear hk); (try clear hi)) | (go_at_call 82; (with_reducible refine (impl_windowAt.calls _ _ l1 (wrap64 (a2)) t240 _ ?side1 ?side2 A8.out).mono ?_); (case side1 => exact Kd.C_foot_now HR1.out (by repeat (first | (with_reducible first | exact HK.out | apply KeepBut.set_ | apply keep_drewN | apply keep_drew | apply keep_alloc) | exact HK.out))); (case side2 => exact HC1.out); rintro e w24 ⟨rfl, hb⟩; have n0_ := Aside0.mk (IsB.below (by repeat (first | (with_reducible first | exact HI0.out | apply IsB.alloc | apply IsB.drewN | apply IsB.drew ) | exact HI0.out)) hb); have n1_ := Aside0.mk (KeepBut.trans (by repeat (first | (with_reducible first | exact HK.out | apply KeepBut.set_ | apply keep_drewN | apply keep_drew | apply keep_alloc) | exact HK.out)) (KeepBut.of_below hb g none) (.inl rfl)); have n2_ := Aside0.mk (below_step (by repeat (first | (with_reducible first | exact HB.out | apply below_alloc | apply pw_below_drewN | apply below_drew1 | refine below_set ?_ (IsB.ge HI0.out)) | exact HB.out)) hb); clear HI0; clear HK; clear HB; have HI0 := n0_; have HK := n1_; have HB := n2_; clear n0_ n1_ n2_; (try clear hb); (try clear hb2); (try clear hk); (try clear hi); obtain ⟨HGz25, hgz25, ASz25_0, cSz25_0, ASz25_2, cSz25_2, hbb0, hbb1, hbb2, HSz25_0, HSz25_2⟩ := HI0.out; have hcz25_0 := (blk_cell HGz25 0).trans hbb0; have hcz25_1 := (blk_cell HGz25 1).trans hbb1; have hcz25_2 := (blk_cell HGz25 2).trans hbb2; have hfz25_1 := blk_frozen HGz25 1; clear hbb0 hbb1 hbb2; clear HGz25 hgz25; have p241 : 0 ≤ (t240 : Int) := of_decide_eq_true (by first | (with_reducible assumption) | assumption); have q241 : t240 < (s0_2.length : Int) := of_decide_eq_true (by first | (with_reducible assumption) | assumption); obtain ⟨ad241, A241_0, c241_0, e241, hx241_0, hl241_0, hi241_0⟩ := at_L2 HSz25_2 t240 p241 q241; cases e241; replace hx241_0 := pw_cell_below HB.out hx241_0; have hf241_0 : ∀ ad : Addr, A241_0 = some ad → _ → ad.block ≠ g := fun ad he hn_ => (by cases he; exact Nat.ne_of_lt (Nat.lt_of_lt_of_le (Kd.C_lt hi241_0 hn_ (by decide)) (IsB.ge HI0.out))); have HR241_0 := Aside0.mk hi241_0; have HC241_0 := Aside0.mk hl241_0; clear hi241_0 hl241_0; replace p241 := eq_true p241; replace q241 := eq_true q241; have p242 : 0 ≤ (t240 : Int) := of_decide_eq_true (by first | (with_reducible assumption) | assumption); have q242 : t240 < (l1.length : Int) := of_decide_eq_true (by first | (with_reducible assumption) | assumption); obtain ⟨ad242, e242, hx242_0, hx242_1, hx242_2⟩ := at_T70 (Kd.C_foot_now HR1.out HK.out) t240 p242 q242; cases e242; replace p242 := eq_true p242; replace q242 := eq_true q242; obtain ⟨i026, hi026, _, hsz26, _⟩ := info_parts info5; obtain ⟨A26, hcut26, hA26, hC26⟩ := print_drop_of (P := Try.prog) (Value.int .u8) 0 68 5 .i64 Try.underlying68 hi026 hsz26 A241_0 c241_0 (rd_L2 s0_2 t240) (ji12) (of_decide_eq_true (by first | (with_reducible assumption) | assumption)) (of_decide_eq_true (by first | (with_reducible assumption) | assumption)) HC241_0.out; have HR243 := Aside0.mk (Kd.C_of_reads (h1 := fun _ => rfl) (hA26 _ (Kd.reads_of_C HR241_0.out))); have HC243 := Aside0.mk hC26; have hf243 : ∀ ad : Addr, A26 = some ad → 0 < ((rd_L2 s0_2 t240).drop ((ji12) : Int).toNat).length → ad.block ≠ g := fun ad he h_ => (by cases he; exact Kd.foot_ne (fun W_ hk_ => Kd.C_of_reads (h1 := fun _ => rfl) (hA26 _ (Kd.reads_of_C (Kd.C_foot_ne (fun h => h) HR241_0.out hf241_0 W_ hk_)))) h_ (by decide)); clear hA26 hC26 hi026 hsz26; obtain ⟨i027, hi027, _, hsz27, _⟩ := info_parts info5; obtain ⟨hcut27, hA27, hC27⟩ := print_take_of (P := Try.prog) (Value.int .u8) 0 68 5 .i64 Try.underlying68 hi027 hsz27 A26 (c241_0 - (ji12).toNat) ((rd_L2 s0_2 t240).drop ((ji12) : Int).toNat) 4 (by omega) (of_decide_eq_true (by first | (with_reducible assumption) | assumption)) HC243.out; have hcut27b := hcut27; (try simp only [List.length_drop] at hcut27b); have HR245 := Aside0.mk (Kd.C_of_reads (h1 := fun _ => rfl) (hA27 _ (Kd.reads_of_C HR243.out))); have HC245 := Aside0.mk hC27; have hf245 : ∀ ad : Addr, A26 = some ad → 0 < (((rd_L2 s0_2 t240).drop ((ji12) : Int).toNat).take 4).length → ad.block ≠ g := fun ad he h_ => (by cases he; exact Kd.foot_ne (fun W_ hk_ => Kd.C_of_reads (h1 := fun _ => rfl) (hA27 _ (Kd.reads_of_C (Kd.C_foot_ne (fun h => h) HR243.out hf243 W_ hk_)))) h_ (by decide)); clear hA27 hC27 hi027 hsz27) | (go_at_call 83; (try rw [show min 4 ((rd_L2 s0_2 t240).length - (ji12 : Int).toNat) = (((rd_L2 s0_2 t240).drop ((ji12) : Int).toNat).take 4).length from by rw [List.length_take, List.length_drop]]); (with_reducible refine (impl_WordOf.calls _ _ (((rd_L2 s0_2 t240).drop ((ji12) : Int).toNat).take 4) t246 t247 _ ?side1 ?side2 A22.out).mono ?_); (case side1 => exact Kd.C_below HR245.out (lq HB.out)); (case side2 => exact HC245.out); rintro e w' ⟨rfl, ⟨nd, rfl⟩⟩; (try first | exact ⟨rfl, _, World.drewN_drewN _ _ _⟩ | exact ⟨rfl, _, Eq.trans (World.drewN_drewN _ _ _) (congrArg (World.drewN _) (Nat.add_assoc _ _ _))⟩))))
         go_ret2
         exact ⟨by first | rfl | (simp [errW_none, errW_some] <;> rfl) | (simp only [← hji12]; first | rfl | (simp [errW_none, errW_some] <;> rfl)) | (simp [*, errW_none, errW_some] <;> rfl), by repeat (first | (with_reducible first | exact HI0.out | apply IsB.alloc | apply IsB.drewN | apply IsB.drew ) | exact HI0.out), by repeat (first | (with_reducible first | exact HB.out | apply below_alloc | apply pw_below_drewN | apply below_drew1 | refine below_set ?_ (IsB.ge HI0.out)) | exact HB.out), by repeat (first | (with_reducible first | exact HK.out | apply KeepBut.set_ | apply keep_drewN | apply keep_drew | apply keep_alloc) | exact HK.out)⟩
        ·rw [if_neg c21] at H
         exact absurd H (by simp)
      ·rw [if_neg c14] at H
       exact absurd H (by simp)
     ·rw [if_neg c13] at H
      exact absurd H (by simp)
    ·rw [if_neg c11] at H
     exact absurd H (by simp)
   ·rw [if_neg c10] at H
    exact absurd H (by simp)
  ·rw [if_neg c9] at H
   exact absurd H (by simp)
 ·rw [if_neg c7] at H
  have c7b0 : (t239 == 0) = false := beq_eq_false_iff_ne.mpr c7
  have c7b1 : (t239 != 0) = true := bne_iff_ne.mpr c7
  simp only [Option.some.injEq, Prod.mk.injEq] at H
  obtain ⟨rfl, rfl, rfl⟩ := H
  go_enter Try.func59, Try.ntmps59
  go_wp2_with (first | (go_at_call 81; (with_reducible refine (impl_faultAt.calls k _ _ l1 a2 a3 a4 t239 _ ?side1 ?side2 A6.out).mono ?_); (case side1 => exact Kd.C_foot_now HR1.out (by repeat (first | (with_reducible first | exact HK.out | apply KeepBut.set_ | apply keep_drewN | apply keep_drew | apply keep_alloc) | exact HK.out))); (case side2 => exact HC1.out); rintro e w28 ⟨rfl, hb⟩; have n0_ := Aside0.mk (IsB.below (by repeat (first | (with_reducible first | exact HI0.out | apply IsB.alloc | apply IsB.drewN | apply IsB.drew ) | exact HI0.out)) hb); have n1_ := Aside0.mk (KeepBut.trans (by repeat (first | (with_reducible first | exact HK.out | apply KeepBut.set_ | apply keep_drewN | apply keep_drew | apply keep_alloc) | exact HK.out)) (KeepBut.of_below hb g none) (.inl rfl)); have n2_ := Aside0.mk (below_step (by repeat (first | (with_reducible first | exact HB.out | apply below_alloc | apply pw_below_drewN | apply below_drew1 | refine below_set ?_ (IsB.ge HI0.out)) | exact HB.out)) hb); clear HI0; clear HK; clear HB; have HI0 := n0_; have HK := n1_; have HB := n2_; clear n0_ n1_ n2_; (try clear hb); (try clear hb2); (try clear hk); (try clear hi)))
  go_ret2
  exact ⟨by first | rfl | (simp [errW_none, errW_some] <;> rfl) | (simp [*, errW_none, errW_some] <;> rfl), by repeat (first | (with_reducible first | exact HI0.out | apply IsB.alloc | apply IsB.drewN | apply IsB.drew ) | exact HI0.out), by repeat (first | (with_reducible first | exact HB.out | apply below_alloc | apply pw_below_drewN | apply below_drew1 | refine below_set ?_ (IsB.ge HI0.out)) | exact HB.out), by repeat (first | (with_reducible first | exact HK.out | apply KeepBut.set_ | apply keep_drewN | apply keep_drew | apply keep_alloc) | exact HK.out)⟩


end Go.Proofs.Ytbcpkigeginmnaa.GF
end
section
namespace Go.Proofs.Ytbcpkigeginmnaa.GF
open Go.RowKit Go.Proofs.YtbcpkigeginmnaaW.PrintWords Go.Proofs.YtbcpkigeginmnaaW.PrintLast Go.Proofs.YtbcpkigeginmnaaW.PrintMore Go.Proofs.Ytbcpkigeginmnaa.Q Go.Proofs.Ytbcpkigeginmnaa.Hnd Go.Proofs.Ytbcpkigeginmnaa.Lst
def putB (row : List Int) (o : Nat) (bs : List Int) : List Int := row.take o ++ bs ++ row.drop (o + bs.length)
theorem putB_length (row : List Int) (o : Nat) (bs : List Int) (h : o + bs.length ≤ row.length) : (putB row o bs).length = row.length := by
  unfold putB
  rw [List.length_append, List.length_append, List.length_take, List.length_drop]
  omega
theorem putB_nil (row : List Int) (o : Nat) : putB row o [] = row := by
  unfold putB
  rw [List.append_nil, List.length_nil, Nat.add_zero, List.take_append_drop]
theorem putB_set (row : List Int) (o : Nat) (bs : List Int) (j : Nat) (h : o + j < row.length) (hj : j < bs.length) : (putB row o (bs.take j)).set (o + j) bs[j] = putB row o (bs.take (j + 1)) := by
  have e1 : (bs.take j).length = j := by rw [List.length_take]; omega
  have e2 : (bs.take (j + 1)).length = j + 1 := by rw [List.length_take]; omega
  have e3 : (row.take o ++ bs.take j).length = o + j := by rw [List.length_append, List.length_take, e1]; omega
  unfold putB
  rw [e1, e2, List.set_append_right _ _ (by omega), e3, Nat.sub_self, List.drop_eq_getElem_cons h, List.set_cons_zero, List.take_succ_eq_append_getElem hj]
  simp only [List.append_assoc, List.cons_append, List.nil_append, Nat.add_assoc]
theorem rd_L2_at (ram : List (List Int)) (i : Nat) : ram.getD i [] = rd_L2 ram (i : Int) := by unfold rd_L2; rw [Int.toNat_natCast]
theorem rd_at0 (l : List Int) (i : Nat) (h : i < l.length) : rdOf 0 l (i : Int) = l[i] := by
  unfold rdOf
  rw [Int.toNat_natCast, List.getD_eq_getElem?_getD, List.getElem?_eq_getElem h]
  rfl
def stM (ram : List (List Int)) (i o : Nat) (bs : List Int) (j : Nat) : List (List Int) := ram.set i (putB (rd_L2 ram (i : Int)) o (bs.take j))
theorem stM_length (ram : List (List Int)) (i o : Nat) (bs : List Int) (j : Nat) : (stM ram i o bs j).length = ram.length := by unfold stM; rw [List.length_set]
theorem stM_zero (ram : List (List Int)) (i o : Nat) (bs : List Int) (h : i < ram.length) : stM ram i o bs 0 = ram := by
  unfold stM
  rw [List.take_zero, putB_nil, ← rd_L2_at, List.getD_eq_getElem?_getD, List.getElem?_eq_getElem h]
  exact List.set_getElem_self h
theorem stM_get (ram : List (List Int)) (i o : Nat) (bs : List Int) (j : Nat) (h : i < ram.length) : (stM ram i o bs j).getD i [] = putB (rd_L2 ram (i : Int)) o (bs.take j) := by
  unfold stM
  rw [List.getD_eq_getElem?_getD, List.getElem?_set_self h]
  rfl
theorem stM_set (ram : List (List Int)) (i o : Nat) (bs : List Int) (j : Nat) (row : List Int) : (stM ram i o bs j).set i row = ram.set i row := by
  unfold stM
  rw [List.set_set]
set_option maxHeartbeats 8000000 in
set_option maxRecDepth 100000 in
theorem put_calls (w0 W : World) (lo hi : Nat) (v0 v2 : Value) (r : List Int) (p : Int) (ram : List (List Int)) (A : Option Addr) (c : Nat) (l : List S70) (a x : Int) (s i o K : Nat) (bs : List Int)
    (hB : Below w0.heap.size w0 W) (hG : Gst w0 W lo hi v0 v2 r ram) (hl : Kd.C k70 w0 A l.length l) (hc : l.length ≤ c)
    (hat : spec_l07At.f K l a = some (i : Int)) (hbs : spec_BytesOf.f x = some bs) (hi1 : i < l.length) (hi2 : i < ram.length) (ho : a - (rd_T70 l (i : Int)).f0 = (o : Int)) (hs : s ≤ 4) (hb4 : bs.length = 4)
    (hos : o + s ≤ (rd_L2 ram (i : Int)).length) (hlen : (rd_L2 ram (i : Int)).length ≤ 9000000) :
    Calls Try.prog 62 #[.slice A l.length c, .agg #[v0, .int .u32 p, v2], .int .i64 a, .int .i64 (s : Int), .int .u32 x] W fun e w' => e = .returned (.tuple #[]) ∧ Gst w0 w' lo hi v0 v2 r (stM ram i o bs s) ∧ Fr (fun k => lo ≤ k ∧ k < hi) W w' := by
  have hu28 := Try.underlying28
  obtain ⟨g, cap, rfl, hg1, hg2, _⟩ := Kd.S_form hG.r2 (by omega)
  obtain ⟨A0, c0, rfl⟩ := Kd.R_slice hG.r0
  have S2 := Kd.S_apart' hG.r2 (Kd.R_typed hG.r0) (by decide)
  have HG := Aside0.mk hG
  have HB := Aside0.mk hB
  have HL := Aside0.mk hl
  have HAT := Aside0.mk hat
  have HBS := Aside0.mk hbs
  have HB4 := Aside0.mk hb4
  have HS2 := Aside0.mk S2
  have HO := Aside0.mk ho
  have HOS := Aside0.mk hos
  have HLEN := Aside0.mk hlen
  have HI1 := Aside0.mk hi1
  have HI2 := Aside0.mk hi2
  have HS4 := Aside0.mk hs
  clear hG hB hl hat hbs hb4 S2 ho hos hlen
  go_enter Try.func62, Try.ntmps62
  go_wp2_with (first | (go_at_call 84; go_loud (refine (spec_l07At.calls K A c l a (i : Int) _ (cq (Kd.C_below HL.out HB.out)) hc HAT.out).mono ?_; rintro e w1 ⟨rfl, hb'⟩; have F1 := Aside0.mk ((Fr.refl (fun _ => False) W).alloc (.cells #[.slice A0 r.length c0, .int .u32 p, .slice (some ⟨g, 0, none⟩) ram.length cap] 28) |>.step hb'); have K1 := Aside0.mk (blk_below at1_0 hb'); clear hb')) | (go_at_call 85; go_loud (refine (spec_BytesOf.calls x bs _ HBS.out).mono ?_; rintro e w2 ⟨vb, rfl, hR, hb'⟩; have F2 := Aside0.mk ((fq F1.out).step hb'); have K2 := Aside0.mk (blk_below (bq K1.out) hb'); have HR := Aside0.mk hR; have hz2 := hb'.size; clear hR hb')))
  have hz0 : W.heap.size < w1.heap.size := blk_lt K1.out
  obtain ⟨gb, cb, rfl, hgb1, hgb2, _⟩ := Kd.R_form HR.out (by rw [HB4.out]; omega)
  have NB : gb ≠ W.heap.size := (by omega)
  have HRB : Aside0 (Kd.R (Kd.int .u8) 5 w2 W.heap.size (fun k => k = gb) (.slice (some ⟨gb, 0, none⟩) bs.length cb) bs) := ⟨Kd.R_lower (Kd.R_mono (Kd.R_tight rfl HR.out) (fun k hk => by simpa [Value.ownBlock] using hk)) (Nat.le_of_lt hz0)⟩
  have hgz : W.heap.size ≤ gb := by omega
  have HGZ := Aside0.mk hgz
  have HGE := Aside0.mk HG.out.ge
  have HLE := Aside0.mk HG.out.le
  have HS0 : Aside0 (Kd.S (Kd.slice 5 (Kd.int .u8)) 68 w2 w0.heap.size (fun k => (lo ≤ k ∧ k < hi) ∧ some k ≠ (Value.slice A0 r.length c0).ownBlock) (.slice (some ⟨g, 0, none⟩) ram.length cap) (stM ram i o bs 0)) := ⟨by rw [stM_zero ram i o bs HI2.out]; exact Kd.S_step HS2.out (fun k _ hlt => F2.out.block k hlt (fun h => h))⟩
  have HBW := Aside0.mk (HB.out.trans (F2.out.below (fun _ h => h.elim) HB.out.size))
  have HF0 := Aside0.mk (F2.out.mono (T := fun k => (lo ≤ k ∧ k < hi) ∧ some k ≠ (Value.slice A0 r.length c0).ownBlock) (fun _ h => h.elim))
  clear hgz hz0 hz2 hgb1 hgb2 hg1 hg2 hi1 hi2
  go_wp2
  go_loopg [12] s (fun gg s12 wr => ∃ j : Nat, j ≤ s ∧ s - j ≤ gg ∧ s12 = .int .i64 (j : Int) ∧ Aside0 (Kd.S (Kd.slice 5 (Kd.int .u8)) 68 wr w0.heap.size (fun k => (lo ≤ k ∧ k < hi) ∧ some k ≠ (Value.slice A0 r.length c0).ownBlock) (.slice (some ⟨g, 0, none⟩) ram.length cap) (stM ram i o bs j)) ∧ Aside0 (Fr (fun k => (lo ≤ k ∧ k < hi) ∧ some k ≠ (Value.slice A0 r.length c0).ownBlock) W wr) ∧ Aside0 (Below w0.heap.size w0 wr) ∧ Aside0 (wr.heap[W.heap.size]? = some (.cells #[.slice A0 r.length c0, .int .u32 p, .slice (some ⟨g, 0, none⟩) ram.length cap] 28 (0, 0))) ∧ Aside0 (Kd.R (Kd.int .u8) 5 wr W.heap.size (fun k => k = gb) (.slice (some ⟨gb, 0, none⟩) bs.length cb) bs))
  case atStart => exact ⟨0, by omega, by omega, rfl, HS0, HF0, HBW, K2, HRB⟩
  case round =>
    clear HS0 HF0 HBW K2 HRB
    obtain ⟨j, hj, hg, rfl, HSr, HFr, HBr, HKr, HRr⟩ := hrel
    by_cases hlt : j < s
    · have hltz : (j : Int) < (s : Int) := by omega
      obtain ⟨oki, cc, hcl, hM, hcc, hoki, hH⟩ := Kd.S_lend HSr.out [] (i : Int) (by omega) (by have := HI2.out; omega)
      rw [Int.toNat_natCast, stM_get ram i o bs j HI2.out] at hM
      obtain ⟨vi, rfl, hRi⟩ := hM
      have hx := hcc 0 _ rfl
      rw [Int.toNat_natCast, show (Kd.slice 5 (Kd.int .u8)).sz = 1 from rfl, Nat.mul_one, Nat.add_zero] at hx
      have hbl : (bs.take j).length = j := by rw [List.length_take, HB4.out]; omega
      have hrl : (putB (rd_L2 ram (i : Int)) o (bs.take j)).length = (rd_L2 ram (i : Int)).length := putB_length _ _ _ (by rw [hbl]; have := HOS.out; omega)
      obtain ⟨nr, hnr⟩ : ∃ nr : Nat, nr = (rd_L2 ram (i : Int)).length := ⟨_, rfl⟩
      have hos := HOS.out
      have hlen := HLEN.out
      rw [← hnr] at hrl hos hlen
      obtain ⟨go, co, rfl, hgo1, hgo2, _⟩ := Kd.R_form hRi (by rw [hrl]; omega)
      rw [hrl] at hRi hx hH
      obtain ⟨m, hm⟩ : ∃ m : Nat, m = o + j := ⟨_, rfl⟩
      obtain ⟨hy, hyf⟩ := Kd.R_celln 0 hRi (m : Int) (by omega) (by omega)
      rw [Int.toNat_natCast] at hy hyf
      have hjb : j < bs.length := by rw [HB4.out]; omega
      obtain ⟨hb, _⟩ := Kd.R_celln 0 HRr.out (j : Int) (by omega) (by omega)
      rw [Int.toNat_natCast, rd_at0 bs j hjb] at hb
      have hbox := kc HKr.out 2 rfl
      obtain ⟨ad, rfl, hw0, _, _⟩ := at_T70 HL.out (i : Int) (by omega) (by have := HI1.out; omega)
      rw [Int.toNat_natCast] at hw0
      have hadl := World.block_lt_of_cell? _ _ hw0
      replace hw0 := (HBr.out.cell hadl).trans hw0
      obtain ⟨hP, hGr⟩ := Kd.R_putg hRi (m : Int) bs[j]
      rw [Int.toNat_natCast, hm, putB_set (rd_L2 ram (i : Int)) o bs j (by rw [← hnr]; omega) hjb, ← hm] at hP
      rw [Int.toNat_natCast] at hGr
      have hgk := hoki go (hRi.1 go rfl)
      have hogo := hRi.1 go rfl
      have hge := HGE.out
      have hle := HLE.out
      have hgz := HGZ.out
      have f1 : go < W.heap.size := by omega
      have HNE := Aside0.mk (show W.heap.size ≠ go by omega)
      have HNG := Aside0.mk (show g ≠ go from fun e => hgk.2 e.symm)
      have HNA := Aside0.mk (show (ad.add (i * 3)).block ≠ go by have := hgo1; omega)
      have HNB := Aside0.mk (show gb ≠ go by omega)
      have HG0 := Aside0.mk (show w0.heap.size ≤ go by omega)
      have HH := Aside0.mk (Kd.H_grown hH hGr (fun k hk => by injection hk with hk; subst hk; exact hogo))
      have HP := Aside0.mk (Kd.R_tight rfl hP)
      have HOG := Aside0.mk hogo
      have HGK := Aside0.mk hgk.1
      have HM := Aside0.mk hm
      have b1 : (0 : Int) ≤ (i : Int) := by omega
      have b2 : (i : Int) < (ram.length : Int) := by have := HI2.out; omega
      have b3 : (i : Int) < (l.length : Int) := by have := HI1.out; omega
      have b4 : (0 : Int) ≤ (m : Int) := by omega
      have b5 : (m : Int) < (nr : Int) := by omega
      have b6 : (0 : Int) ≤ (j : Int) := by omega
      have b7 : (j : Int) < (bs.length : Int) := by omega
      have e3 : IntKind.i64.wrap ((j : Int) + 1) = ((j + 1 : Nat) : Int) := by rw [IntWalk.i64_in _ (by omega)]; omega
      have e1 : IntKind.i64.wrap (a - (rd_T70 l (i : Int)).f0) = (o : Int) := by rw [HO.out, IntWalk.i64_in _ (by omega)]
      have e2 : IntKind.i64.wrap ((o : Int) + (j : Int)) = (m : Int) := by rw [IntWalk.i64_in _ (by omega)]; omega
      clear hadl hH hP hGr hRi hoki hogo hgk hgo1 hgo2 hge hle hgz f1 hm hos hlen hrl hnr hbl hcc
      have s1 : Aside0 ((wr.setCell ⟨go, m, none⟩ (.int .u8 bs[j])).cell? ⟨W.heap.size, 2, none⟩ = some (.slice (some ⟨g, 0, none⟩) ram.length cap)) := ⟨Eq.trans (cell_far (p := ⟨go, m, none⟩) HNE.out _) hbox⟩
      have s2 : Aside0 ((wr.setCell ⟨go, m, none⟩ (.int .u8 bs[j])).cell? ⟨g, i, none⟩ = some (.slice (some ⟨go, 0, none⟩) nr co)) := ⟨Eq.trans (cell_far (p := ⟨go, m, none⟩) HNG.out _) hx⟩
      have s3 : Aside0 ((wr.setCell ⟨go, m, none⟩ (.int .u8 bs[j])).cell? (ad.add (i * 3)) = some (.int .i64 (rd_T70 l (i : Int)).f0)) := ⟨Eq.trans (cell_far (p := ⟨go, m, none⟩) HNA.out _) hw0⟩
      have s4 : Aside0 ((wr.setCell ⟨go, m, none⟩ (.int .u8 bs[j])).cell? ⟨gb, j, none⟩ = some (.int .u8 bs[j])) := ⟨Eq.trans (cell_far (p := ⟨go, m, none⟩) HNB.out _) hb⟩
      go_wp2
      go_region_held3 (fun w' => w'.cell? ⟨W.heap.size, 2, none⟩ = some (.slice (some ⟨g, 0, none⟩) ram.length cap) ∧ w'.cell? ⟨g, i, none⟩ = some (.slice (some ⟨go, 0, none⟩) nr co) ∧ w'.cell? (ad.add (i * 3)) = some (.int .i64 (rd_T70 l (i : Int)).f0) ∧ w'.cell? ⟨gb, j, none⟩ = some (.int .u8 bs[j])) (first | exact ⟨s1.out, s2.out, s3.out, s4.out⟩ | go_keep) (fail)
      go_wp2
      go_roundg (s - (j + 1))
      case measure => omega
      case rel =>
        have hb2 := Kd.H_back HH.out (x' := putB (rd_L2 ram (i : Int)) o (bs.take (j + 1))) (okp := fun k => some k = (Value.slice (some ⟨go, 0, none⟩) nr co).ownBlock) ⟨_, rfl, HP.out⟩ (fun k hk => (show go = k by simpa [Value.ownBlock] using hk.symm) ▸ HOG.out)
        rw [Int.toNat_natCast, stM_set] at hb2
        exact ⟨j + 1, by omega, by omega, rfl, ⟨Kd.S_drew hb2⟩, ⟨((HFr.out).set (p := ⟨go, m, none⟩) (.inl HGK.out) _).drew⟩, ⟨below_drew1 (HBr.out.setCell HG0.out _)⟩, ⟨blk_drew (blk_far HKr.out HNE.out _)⟩, ⟨Kd.R_drew (Kd.R_far HRr.out (fun k hk => by rw [hk]; exact HNB.out) _)⟩⟩
    · have hltz : ¬ (j : Int) < (s : Int) := by omega
      obtain rfl : j = s := by omega
      go_wp2
      (first | go_end0 | ((try simp only [Exit.inBlock, Exit.then]); refine bodyPost_ret (results_none rfl _ _ _) rfl ?_))
      refine ⟨rfl, ⟨?_, Kd.S_mono HSr.out (fun k hk => hk.1), HGE.out, Nat.le_trans HLE.out HFr.out.size⟩, HFr.out.mono (fun k hk => hk.1)⟩
      exact Kd.R_mono (HFr.out.R (Kd.R_tight rfl HG.out.r0) (fun k hk hs => hs.2 hk)) (fun k hk => HG.out.r0.1 k hk.symm)
end Go.Proofs.Ytbcpkigeginmnaa.GF
end
