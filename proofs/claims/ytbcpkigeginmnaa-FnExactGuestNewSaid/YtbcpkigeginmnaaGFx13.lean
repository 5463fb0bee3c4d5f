/- Told by a program of this session, out of the translation: each function of the group as a plain Lean function, and that Go's call comes to just its answer. Lean checks it. -/
import Derived.Test.YtbcpkigeginmnaaGFx0
import Derived.Test.YtbcpkigeginmnaaGFx5
import Derived.Test.YtbcpkigeginmnaaGFx12
import Derived.Test.YtbcpkigeginmnaaWinF
namespace Go.Proofs.Ytbcpkigeginmnaa.GF
open Go.RowKit Go.Proofs.YtbcpkigeginmnaaW.PrintWords Go.Proofs.YtbcpkigeginmnaaW.PrintLast Go.Proofs.YtbcpkigeginmnaaW.PrintMore Go.Proofs.Ytbcpkigeginmnaa.Q
attribute [local go_sem] max2_int min2_int max_two min_two max_three min_three max_four min_four   -- for this text's walks alone
set_option linter.unusedVariables false
set_option linter.unusedSimpArgs false

/-- A state of type 28 at block g of W; what its slices lead to came in by w0. -/
def IsS28 (w0 W : World) (g : Nat) (f0 : List Int) (f1 : Int) (f2 : List (List Int)) : Prop := ∃ A0 c0, ∃ A2 c2, W.heap[g]? = some (.cells #[.slice A0 f0.length c0, .int .u32 f1, .slice A2 f2.length c2] 28 (0, 0)) ∧ w0.heap.size ≤ g ∧ Kd.C (Kd.int .u32) w0 A0 f0.length f0 ∧ Kd.C (Kd.slice 5 (Kd.int .u8)) w0 A2 f2.length f2
theorem IsS28.grown {w0 W : World} {g : Nat} {f0 : List Int} {f1 : Int} {f2 : List (List Int)} {W1 : World} {row : Option Nat} (h : IsS28 w0 W g f0 f1 f2) (hw : W.grownBy W1 row) (hne : some g ≠ row) : IsS28 w0 W1 g f0 f1 f2 := by
 obtain ⟨A0, c0, A2, c2, hb, hg, hr0, hr2⟩ := h
 exact ⟨A0, c0, A2, c2, blk_grown hb hw hne, hg, hr0, hr2⟩
theorem IsS28.own_neN {w0 W : World} {g : Nat} {f0 : List Int} {f1 : Int} {f2 : List (List Int)} {α : Type} {d : Kd α} {e : Nat} {base : Nat} {ok : Nat → Prop} {v : Value} {xs : List α} (h : IsS28 w0 W g f0 f1 f2) (ho : Kd.N d e W base ok v xs) (ht : e ≠ 28) : some g ≠ v.ownBlock := by
 obtain ⟨A0, c0, A2, c2, hb, hg, hr0, hr2⟩ := h
 exact Kd.N_ne ho hb ht
theorem IsS28.fresh {w0 W : World} {g : Nat} {f0 : List Int} {f1 : Int} {f2 : List (List Int)} (h : IsS28 w0 W g f0 f1 f2) : ∀ k, W.heap.size ≤ k → k ≠ g := by
 obtain ⟨A0, c0, A2, c2, hb, hg, hr0, hr2⟩ := h
 exact Kd.freshB hb
theorem IsS28.kept {w0 W : World} {g : Nat} {f0 : List Int} {f1 : Int} {f2 : List (List Int)} {W1 : World} {S : Nat → Prop} (h : IsS28 w0 W g f0 f1 f2) (hk : Kept W W1 S) (hne : ¬ S g) : IsS28 w0 W1 g f0 f1 f2 := by
 obtain ⟨A0, c0, A2, c2, hb, hg, hr0, hr2⟩ := h
 exact ⟨A0, c0, A2, c2, blk_kept hb hk hne, hg, hr0, hr2⟩
theorem IsS28.below {w0 W : World} {g : Nat} {f0 : List Int} {f1 : Int} {f2 : List (List Int)} {W1 : World} (h : IsS28 w0 W g f0 f1 f2) (hw : Below W.heap.size W W1) : IsS28 w0 W1 g f0 f1 f2 := h.grown (grown_of_below hw none) (by simp)
theorem IsS28.alloc {w0 W : World} {g : Nat} {f0 : List Int} {f1 : Int} {f2 : List (List Int)} (h : IsS28 w0 W g f0 f1 f2) (o : Obj) : IsS28 w0 (W.alloc o) g f0 f1 f2 := h.below (below_alloc (Below.refl _ _) o)
theorem IsS28.drewN {w0 W : World} {g : Nat} {f0 : List Int} {f1 : Int} {f2 : List (List Int)} (h : IsS28 w0 W g f0 f1 f2) (m : Nat) : IsS28 w0 (W.drewN m) g f0 f1 f2 := h
theorem IsS28.drew {w0 W : World} {g : Nat} {f0 : List Int} {f1 : Int} {f2 : List (List Int)} (h : IsS28 w0 W g f0 f1 f2) : IsS28 w0 W.drew g f0 f1 f2 := h
theorem IsS28.at_ {w0 W : World} {g : Nat} {f0 : List Int} {f1 : Int} {f2 : List (List Int)} {w' : World} {m : Nat} (hq : W.drewN m = w') (h : IsS28 w0 W g f0 f1 f2) : IsS28 w0 w' g f0 f1 f2 := by subst hq; exact IsS28.drewN h m
theorem IsS28.apart {w0 W : World} {g : Nat} {f0 : List Int} {f1 : Int} {f2 : List (List Int)} {α : Type} {d : Kd α} {e : Nat} {base : Nat} {ok : Nat → Prop} {v : Value} {xs : List α} (h : IsS28 w0 W g f0 f1 f2) (ho : d.R e W base ok v xs) (ht : ∀ q, q ∈ e :: d.E → q ≠ 28) : d.R e W base (fun k => ok k ∧ k ≠ g) v xs := by
 obtain ⟨A0, c0, A2, c2, hb, hg, hr0, hr2⟩ := h
 exact Kd.R_types ho hb ht
theorem IsS28.own_ne {w0 W : World} {g : Nat} {f0 : List Int} {f1 : Int} {f2 : List (List Int)} {α : Type} {d : Kd α} {e : Nat} {base : Nat} {ok : Nat → Prop} {v : Value} {xs : List α} (h : IsS28 w0 W g f0 f1 f2) (ho : d.R e W base ok v xs) (ht : e ≠ 28) : some g ≠ v.ownBlock := by
 obtain ⟨A0, c0, A2, c2, hb, hg, hr0, hr2⟩ := h
 exact Kd.R_ne ho hb ht
theorem IsS28.apartQ {w0 W : World} {g : Nat} {f0 : List Int} {f1 : Int} {f2 : List (List Int)} {α : Type} {d : Kd α} {e : Nat} {base : Nat} {ok : Nat → Prop} {v : Value} {xs : List α} (h : IsS28 w0 W g f0 f1 f2) (ho : d.Q e W base ok v xs) (ht : ∀ q, q ∈ e :: d.E → q ≠ 28) : d.Q e W base (fun k => ok k ∧ k ≠ g) v xs := by
 obtain ⟨A0, c0, A2, c2, hb, hg, hr0, hr2⟩ := h
 exact Kd.Q_types ho hb ht
theorem IsS28.own_neQ {w0 W : World} {g : Nat} {f0 : List Int} {f1 : Int} {f2 : List (List Int)} {α : Type} {d : Kd α} {e : Nat} {base : Nat} {ok : Nat → Prop} {v : Value} {xs : List α} (h : IsS28 w0 W g f0 f1 f2) (ho : d.Q e W base ok v xs) (ht : e ≠ 28) : some g ≠ v.ownBlock := by
 obtain ⟨A0, c0, A2, c2, hb, hg, hr0, hr2⟩ := h
 exact Kd.Q_ne ho hb ht
theorem IsS28.apartS {w0 W : World} {g : Nat} {f0 : List Int} {f1 : Int} {f2 : List (List Int)} {α : Type} {d : Kd α} {e : Nat} {base : Nat} {ok : Nat → Prop} {v : Value} {xs : List α} (h : IsS28 w0 W g f0 f1 f2) (ho : d.S e W base ok v xs) (ht : ∀ q, q ∈ e :: d.E → q ≠ 28) : d.S e W base (fun k => ok k ∧ k ≠ g) v xs := by
 obtain ⟨A0, c0, A2, c2, hb, hg, hr0, hr2⟩ := h
 exact Kd.S_types ho hb ht
theorem IsS28.own_neS {w0 W : World} {g : Nat} {f0 : List Int} {f1 : Int} {f2 : List (List Int)} {α : Type} {d : Kd α} {e : Nat} {base : Nat} {ok : Nat → Prop} {v : Value} {xs : List α} (h : IsS28 w0 W g f0 f1 f2) (ho : d.S e W base ok v xs) (ht : e ≠ 28) : some g ≠ v.ownBlock := by
 obtain ⟨A0, c0, A2, c2, hb, hg, hr0, hr2⟩ := h
 exact Kd.S_ne ho hb ht
theorem IsS28.lt {w0 W : World} {g : Nat} {f0 : List Int} {f1 : Int} {f2 : List (List Int)} (h : IsS28 w0 W g f0 f1 f2) : g < W.heap.size := by
 obtain ⟨A0, c0, A2, c2, hb, hg, hr0, hr2⟩ := h
 exact blk_lt hb
theorem IsS28.ge {w0 W : World} {g : Nat} {f0 : List Int} {f1 : Int} {f2 : List (List Int)} (h : IsS28 w0 W g f0 f1 f2) : w0.heap.size ≤ g := by
 obtain ⟨A0, c0, A2, c2, hb, hg, hr0, hr2⟩ := h
 exact hg
theorem IsS28.ne_blk {w0 W : World} {g : Nat} {f0 : List Int} {f1 : Int} {f2 : List (List Int)} {a : Nat} {cs : Array Value} {t : TypeId} {fr : Nat × Nat} (h : IsS28 w0 W g f0 f1 f2) (hb2 : W.heap[a]? = some (.cells cs t fr)) (ht : t ≠ 28) : g ≠ a := by
 obtain ⟨A0, c0, A2, c2, hb, hg, hr0, hr2⟩ := h
 rintro rfl
 rw [hb] at hb2
 injection hb2 with hb2
 injection hb2 with _ ht2
 exact ht ht2.symm
theorem IsS28.far {w0 W : World} {g : Nat} {f0 : List Int} {f1 : Int} {f2 : List (List Int)} {p : Addr} (h : IsS28 w0 W g f0 f1 f2) (hne : g ≠ p.block) (u : Value) : IsS28 w0 (W.setCell p u) g f0 f1 f2 := by
 obtain ⟨A0, c0, A2, c2, hb, hg, hr0, hr2⟩ := h
 exact ⟨A0, c0, A2, c2, blk_far hb hne u, hg, hr0, hr2⟩
theorem cellS28_0 {W : World} {g : Nat} {A0 : Option Addr} {c0 : Nat} {A2 : Option Addr} {c2 : Nat} {f0 : List Int} {f1 : Int} {f2 : List (List Int)} (h : W.heap[g]? = some (.cells #[.slice A0 f0.length c0, .int .u32 f1, .slice A2 f2.length c2] 28 (0, 0))) : W.cell? ⟨g, 0, none⟩ = some (.slice A0 f0.length c0) := (blk_cell h 0).trans rfl
theorem cellS28_1 {W : World} {g : Nat} {A0 : Option Addr} {c0 : Nat} {A2 : Option Addr} {c2 : Nat} {f0 : List Int} {f1 : Int} {f2 : List (List Int)} (h : W.heap[g]? = some (.cells #[.slice A0 f0.length c0, .int .u32 f1, .slice A2 f2.length c2] 28 (0, 0))) : W.cell? ⟨g, 1, none⟩ = some (.int .u32 f1) := (blk_cell h 1).trans rfl
theorem IsS28.set_1 {w0 W : World} {g : Nat} {f0 : List Int} {f1 : Int} {f2 : List (List Int)} (h : IsS28 w0 W g f0 f1 f2) (x : Int) : IsS28 w0 (W.setCell ⟨g, 1, none⟩ (.int .u32 x)) g f0 x f2 := by
 obtain ⟨A0, c0, A2, c2, hb, hg, hr0, hr2⟩ := h
 exact ⟨A0, c0, A2, c2, by simpa using blk_set hb 1 (.int .u32 x), hg, hr0, hr2⟩
theorem cellS28_2 {W : World} {g : Nat} {A0 : Option Addr} {c0 : Nat} {A2 : Option Addr} {c2 : Nat} {f0 : List Int} {f1 : Int} {f2 : List (List Int)} (h : W.heap[g]? = some (.cells #[.slice A0 f0.length c0, .int .u32 f1, .slice A2 f2.length c2] 28 (0, 0))) : W.cell? ⟨g, 2, none⟩ = some (.slice A2 f2.length c2) := (blk_cell h 2).trans rfl
theorem IsS28.new (w0 W : World) (A0 : Option Addr) (c0 : Nat) (A2 : Option Addr) (c2 : Nat) (f0 : List Int) (f1 : Int) (f2 : List (List Int)) (hB : Below w0.heap.size w0 W) (hr0 : Kd.C (Kd.int .u32) w0 A0 f0.length f0) (hr2 : Kd.C (Kd.slice 5 (Kd.int .u8)) w0 A2 f2.length f2) : IsS28 w0 (W.alloc (.cells #[.slice A0 f0.length c0, .int .u32 f1, .slice A2 f2.length c2] 28)) W.heap.size f0 f1 f2 := ⟨A0, c0, A2, c2, by simpa using heap_alloc_new W _, hB.size, hr0, hr2⟩

/-! ### impl_Guest_load: function 59 -/
def impl_Guest_load.f (k : Nat) (s0_0 : List Int) (s0_1 : Int) (s0_2 : List (List Int)) (l1 : List (S70)) (a2 : Int) (a3 : Int) (a4 : Int) : Option (Int × Int × Int) := (impl_faultAt.f k l1 a2 a3 a4).bind fun t239 => (if t239 = 0 then ((impl_windowAt.f l1 (wrap64 (a2))).bind fun t240 => (if 0 ≤ t240 then (if t240 < (s0_2.length : Int) then (if t240 < (l1.length : Int) then (if 0 ≤ (wrap64 ((wrap64 (a2)) - ((rd_T70 l1 t240).f0))) then (if (wrap64 ((wrap64 (a2)) - ((rd_T70 l1 t240).f0))) ≤ ((rd_L2 s0_2 t240).length : Int) then (if a3 = 1 then (if 0 < (((rd_L2 s0_2 t240).drop ((wrap64 ((wrap64 (a2)) - ((rd_T70 l1 t240).f0))) : Int).toNat).length : Int) then (some ((rd ((rd_L2 s0_2 t240).drop ((wrap64 ((wrap64 (a2)) - ((rd_T70 l1 t240).f0))) : Int).toNat) 0) % 4294967296, 0, s0_1)) else (none)) else (if 4 ≤ (((rd_L2 s0_2 t240).drop ((wrap64 ((wrap64 (a2)) - ((rd_T70 l1 t240).f0))) : Int).toNat).length : Int) then ((impl_WordOf.f (((rd_L2 s0_2 t240).drop ((wrap64 ((wrap64 (a2)) - ((rd_T70 l1 t240).f0))) : Int).toNat).take 4)).bind fun bt246 => (some (bt246.1, 0, s0_1))) else (none))) else (none)) else (none)) else (none)) else (none)) else (none))) else (some (0, t239, s0_1)))
theorem impl_Guest_load.mono : ∀ a0 a1 a2 a3 a4 a5 a6 k, LeO (impl_Guest_load.f k a0 a1 a2 a3 a4 a5 a6) (impl_Guest_load.f (k + 1) a0 a1 a2 a3 a4 a5 a6) := by
 intro a0 a1 a2 a3 a4 a5 a6 k
 unfold impl_Guest_load.f
 repeat' first
   | (with_reducible exact impl_faultAt.mono _ _ _ _ _)
   | (with_reducible exact LeO.refl _)
   | (with_reducible exact LeO.none _)
   | (with_reducible refine LeO.ite ?_ ?_)
   | (with_reducible refine LeO.bind ?_ (fun _ => ?_))
   | exact impl_faultAt.mono _ _ _ _ _
   | exact LeO.none _
   | refine LeO.ite ?_ ?_
   | refine LeO.bind ?_ (fun _ => ?_)
set_option maxHeartbeats 8000000 in
set_option maxRecDepth 100000 in
theorem impl_Guest_load.calls (k : Nat) (g : Nat) (s0_0 : List Int) (s0_1 : Int) (s0_2 : List (List Int)) (A1 : Option Addr) (c1 : Nat) (l1 : List (S70)) (a2 : Int) (a3 : Int) (a4 : Int) (r1 : Int) (r2 : Int) (r3 : Int) (w0 w : World) (hI : IsS28 w0 w g s0_0 s0_1 s0_2) (hB : Below w0.heap.size w0 w) (hr1 : ∀ W_, KeepBut w W_ g none → Kd.C k70 W_ A1 l1.length l1) (hc1 : l1.length ≤ c1) (h : impl_Guest_load.f k s0_0 s0_1 s0_2 l1 a2 a3 a4 = some (r1, r2, r3)) :
  Calls Try.prog 59 #[.pointer (some ⟨g, 0, none⟩), .slice A1 l1.length c1, .int .u32 a2, .int .i64 a3, .int .i64 a4] w fun e w' => e = .returned (.tuple #[.int .u32 r1, .int .i64 r2]) ∧ IsS28 w0 w' g s0_0 r3 s0_2 ∧ Below w0.heap.size w0 w' ∧ KeepBut w w' g none := by
 have HR1 := Aside0.mk hr1
 have HC1 := Aside0.mk hc1
 clear hr1 hc1
 have HI0 := Aside0.mk hI
 have HK := Aside0.mk (KeepBut.refl w g none)
 have HL := Aside0.mk hB.size
 clear hI
 have HW0 := Aside0.mk hB.size
 have HB := Aside0.mk hB
 clear hB
 have H : ((impl_faultAt.f k l1 a2 a3 a4).bind fun t239 => (if t239 = 0 then ((impl_windowAt.f l1 (wrap64 (a2))).bind fun t240 => (if 0 ≤ t240 then (if t240 < (s0_2.length : Int) then (if t240 < (l1.length : Int) then (if 0 ≤ (wrap64 ((wrap64 (a2)) - ((rd_T70 l1 t240).f0))) then (if (wrap64 ((wrap64 (a2)) - ((rd_T70 l1 t240).f0))) ≤ ((rd_L2 s0_2 t240).length : Int) then (if a3 = 1 then (if 0 < (((rd_L2 s0_2 t240).drop ((wrap64 ((wrap64 (a2)) - ((rd_T70 l1 t240).f0))) : Int).toNat).length : Int) then (some ((rd ((rd_L2 s0_2 t240).drop ((wrap64 ((wrap64 (a2)) - ((rd_T70 l1 t240).f0))) : Int).toNat) 0) % 4294967296, 0, s0_1)) else (none)) else (if 4 ≤ (((rd_L2 s0_2 t240).drop ((wrap64 ((wrap64 (a2)) - ((rd_T70 l1 t240).f0))) : Int).toNat).length : Int) then ((impl_WordOf.f (((rd_L2 s0_2 t240).drop ((wrap64 ((wrap64 (a2)) - ((rd_T70 l1 t240).f0))) : Int).toNat).take 4)).bind fun bt246 => (some (bt246.1, 0, s0_1))) else (none))) else (none)) else (none)) else (none)) else (none)) else (none))) else (some (0, t239, s0_1)))) = some (r1, r2, r3) := h
 clear h
 replace H := Option.bind_eq_some_iff.mp H
 obtain ⟨t239, A60, H⟩ := H
 (try dsimp only at H)
 have A6 := Aside0.mk A60
 clear A60
 by_cases c7 : t239 = 0
 ·rw [if_pos c7] at H
  have c7b0 : (t239 == 0) = true := beq_iff_eq.mpr c7
  have c7b1 : (t239 != 0) = false := bne_eq_false_iff_eq.mpr c7
  clear c7
  replace H := Option.bind_eq_some_iff.mp H
  obtain ⟨t240, A80, H⟩ := H
  (try dsimp only at H)
  have A8 := Aside0.mk A80
  clear A80
  by_cases c9 : 0 ≤ t240
  ·rw [if_pos c9] at H
   have c9b0 : decide (0 ≤ t240) = true := decide_eq_true c9
   clear c9
   by_cases c10 : t240 < (s0_2.length : Int)
   ·rw [if_pos c10] at H
    have c10b0 : decide (t240 < (s0_2.length : Int)) = true := decide_eq_true c10
    clear c10
    by_cases c11 : t240 < (l1.length : Int)
    ·rw [if_pos c11] at H
     have c11b0 : decide (t240 < (l1.length : Int)) = true := decide_eq_true c11
     clear c11
     obtain ⟨ji12, hji12⟩ : ∃ j_ : Int, (wrap64 ((wrap64 (a2)) - ((rd_T70 l1 t240).f0))) = j_ := ⟨_, rfl⟩
     replace H : (if 0 ≤ (ji12) then (if (ji12) ≤ ((rd_L2 s0_2 t240).length : Int) then (if a3 = 1 then (if 0 < (((rd_L2 s0_2 t240).drop ((ji12) : Int).toNat).length : Int) then (some ((rd ((rd_L2 s0_2 t240).drop ((ji12) : Int).toNat) 0) % 4294967296, 0, s0_1)) else (none)) else (if 4 ≤ (((rd_L2 s0_2 t240).drop ((ji12) : Int).toNat).length : Int) then ((impl_WordOf.f (((rd_L2 s0_2 t240).drop ((ji12) : Int).toNat).take 4)).bind fun bt246 => (some (bt246.1, 0, s0_1))) else (none))) else (none)) else (none)) = some (r1, r2, r3) := by first | (rw [hji12] at H; exact H) | (simp only [hji12] at H ⊢; exact H)
     (try rw [hji12] at A6)
     (try rw [hji12] at A8)
     have hji12w : (IntKind.i64.wrap ((wrap64 (a2)) - ((rd_T70 l1 t240).f0))) = ji12 := (i64_w _).trans hji12
     by_cases c13 : 0 ≤ (ji12)
     ·rw [if_pos c13] at H
      have c13b0 := eq_true c13
      have c13b1 : decide (0 ≤ (ji12)) = true := decide_eq_true c13
      clear c13
      by_cases c14 : (ji12) ≤ ((rd_L2 s0_2 t240).length : Int)
      ·rw [if_pos c14] at H
       have c14b0 := eq_true c14
       have c14b1 : decide ((ji12) ≤ ((rd_L2 s0_2 t240).length : Int)) = true := decide_eq_true c14
       clear c14
       by_cases c15 : a3 = 1
       ·rw [if_pos c15] at H
        have c15b0 : (a3 == 1) = true := beq_iff_eq.mpr c15
        have c15b1 : (a3 != 1) = false := bne_eq_false_iff_eq.mpr c15
        clear c15
        by_cases c16 : 0 < (((rd_L2 s0_2 t240).drop ((ji12) : Int).toNat).length : Int)
        ·rw [if_pos c16] at H
         have c16b0 : decide (0 < (((rd_L2 s0_2 t240).drop ((ji12) : Int).toNat).length : Int)) = true := decide_eq_true c16
         have c16b1 : decide (0 < ((rd_L2 s0_2 t240).drop ((ji12) : Int).toNat).length) = true := decide_eq_true (by omega)
         clear c16
         simp only [Option.some.injEq, Prod.mk.injEq] at H
         obtain ⟨rfl, rfl, rfl⟩ := H
         go_enter Try.func59, Try.ntmps59
         go_wp2_with (first | (go_at_call 81; (with_reducible refine (impl_faultAt.calls k _ _ l1 a2 a3 a4 t239 _ ?side1 ?side2 A6.out).mono ?_); (case side1 => exact Kd.C_foot_now HR1.out (by repeat (first | (with_reducible first | exact HK.out | apply KeepBut.set_ | apply keep_drewN | apply keep_drew | apply keep_alloc) | exact HK.out))); (case side2 => exact HC1.out); rintro e w17 ⟨rfl, hb⟩; have n0_ := Aside0.mk (IsS28.below (by repeat (first | (with_reducible first | exact HI0.out | apply IsS28.alloc | apply IsS28.drewN | apply IsS28.drew | apply IsS28.set_1) | exact HI0.out)) hb); have n1_ := Aside0.mk (KeepBut.trans (by repeat (first | (with_reducible first | exact HK.out | apply KeepBut.set_ | apply keep_drewN | apply keep_drew | apply keep_alloc) | exact HK.out)) (KeepBut.of_below hb g none) (.inl rfl)); have n2_ := Aside0.mk (below_step (by repeat (first | (with_reducible first | exact HB.out | apply below_alloc | apply pw_below_drewN | apply below_drew1 | refine below_set ?_ (IsS28.ge HI0.out)) | exact HB.out)) hb); clear HI0; clear HK; clear HB; have HI0 := n0_; have HK := n1_; have HB := n2_; clear n0_ n1_ n2_; (try clear hb); (try clear hb2); (try clear hk); (try clear hi)) | (go_at_call 82; (with_reducible refine (impl_windowAt.calls _ _ l1 (wrap64 (a2)) t240 _ ?side1 ?side2 A8.out).mono ?_); (case side1 => exact Kd.C_foot_now HR1.out (by repeat (first | (with_reducible first | exact HK.out | apply KeepBut.set_ | apply keep_drewN | apply keep_drew | apply keep_alloc) | exact HK.out))); (case side2 => exact HC1.out); rintro e w18 ⟨rfl, hb⟩; have n0_ := Aside0.mk (IsS28.below (by repeat (first | (with_reducible first | exact HI0.out | apply IsS28.alloc | apply IsS28.drewN | apply IsS28.drew | apply IsS28.set_1) | exact HI0.out)) hb); have n1_ := Aside0.mk (KeepBut.trans (by repeat (first | (with_reducible first | exact HK.out | apply KeepBut.set_ | apply keep_drewN | apply keep_drew | apply keep_alloc) | exact HK.out)) (KeepBut.of_below hb g none) (.inl rfl)); have n2_ := Aside0.mk (below_step (by repeat (first | (with_reducible first | exact HB.out | apply below_alloc | apply pw_below_drewN | apply below_drew1 | refine below_set ?_ (IsS28.ge HI0.out)) | exact HB.out)) hb); clear HI0; clear HK; clear HB; have HI0 := n0_; have HK := n1_; have HB := n2_; clear n0_ n1_ n2_; (try clear hb); (try clear hb2); (try clear hk); (try clear hi); obtain ⟨ASz19_0, cSz19_0, ASz19_2, cSz19_2, HGz19, hgz19, HSz19_0, HSz19_2⟩ := HI0.out; have hcz19_0 := cellS28_0 HGz19; have hcz19_1 := cellS28_1 HGz19; have hcz19_2 := cellS28_2 HGz19; have hfz19_1 := blk_frozen HGz19 1; clear HGz19 hgz19; have p241 : 0 ≤ (t240 : Int) := of_decide_eq_true (by first | (with_reducible assumption) | assumption); have q241 : t240 < (s0_2.length : Int) := of_decide_eq_true (by first | (with_reducible assumption) | assumption); obtain ⟨ad241, A241_0, c241_0, e241, hx241_0, hl241_0, hi241_0⟩ := at_L2 HSz19_2 t240 p241 q241; cases e241; replace hx241_0 := pw_cell_below HB.out hx241_0; have hf241_0 : ∀ ad : Addr, A241_0 = some ad → _ → ad.block ≠ g := fun ad he hn_ => (by cases he; exact Nat.ne_of_lt (Nat.lt_of_lt_of_le (Kd.C_lt hi241_0 hn_ (by decide)) (IsS28.ge HI0.out))); have HR241_0 := Aside0.mk hi241_0; have HC241_0 := Aside0.mk hl241_0; clear hi241_0 hl241_0; replace p241 := eq_true p241; replace q241 := eq_true q241; have p242 : 0 ≤ (t240 : Int) := of_decide_eq_true (by first | (with_reducible assumption) | assumption); have q242 : t240 < (l1.length : Int) := of_decide_eq_true (by first | (with_reducible assumption) | assumption); obtain ⟨ad242, e242, hx242_0, hx242_1, hx242_2⟩ := at_T70 (Kd.C_foot_now HR1.out HK.out) t240 p242 q242; cases e242; replace p242 := eq_true p242; replace q242 := eq_true q242; obtain ⟨i020, hi020, _, hsz20, _⟩ := info_parts info5; obtain ⟨A20, hcut20, hA20, hC20⟩ := print_drop_of (P := Try.prog) (Value.int .u8) 0 68 5 .i64 Try.underlying68 hi020 hsz20 A241_0 c241_0 (rd_L2 s0_2 t240) (ji12) (of_decide_eq_true (by first | (with_reducible assumption) | assumption)) (of_decide_eq_true (by first | (with_reducible assumption) | assumption)) HC241_0.out; have HR243 := Aside0.mk (Kd.C_of_reads (h1 := fun _ => rfl) (hA20 _ (Kd.reads_of_C HR241_0.out))); have HC243 := Aside0.mk hC20; have hf243 : ∀ ad : Addr, A20 = some ad → 0 < ((rd_L2 s0_2 t240).drop ((ji12) : Int).toNat).length → ad.block ≠ g := fun ad he h_ => (by cases he; exact Kd.foot_ne (fun W_ hk_ => Kd.C_of_reads (h1 := fun _ => rfl) (hA20 _ (Kd.reads_of_C (Kd.C_foot_ne (fun h => h) HR241_0.out hf241_0 W_ hk_)))) h_ (by decide)); clear hA20 hC20 hi020 hsz20; have p244 : 0 ≤ (0 : Int) := (by omega); have q244 : 0 < (((rd_L2 s0_2 t240).drop ((ji12) : Int).toNat).length : Int) := of_decide_eq_true (by first | (with_reducible assumption) | assumption); obtain ⟨ad244, e244, hx244_0⟩ := Kd.at_int HR243.out 0 p244 q244; cases e244; have qi244 : (0 < ((rd_L2 s0_2 t240).drop ((ji12) : Int).toNat).length) = True := eq_true (by omega); have qj244 : (0 < (rd_L2 s0_2 t240).length - ((ji12) : Int).toNat) = True := (by have e_ := qi244; rw [List.length_drop] at e_; exact e_); (try rw [show ((0 : Int)).toNat = 0 from rfl] at hx244_0); (try rw [Addr.add_zero'] at hx244_0); first | (replace hx244_0 := keep_cell HK.out hx244_0 (by first | (rw [add_block]; exact hf243 _ rfl (by omega)) | exact hf243 _ rfl (by omega) | exact hf243 ad244 rfl (by omega))) | (replace hx244_0 := pw_cell_below HB.out hx244_0); replace p244 := eq_true p244; replace q244 := eq_true q244))
         repeat (go_quiet (first | (go_at_call 81; (with_reducible refine (impl_faultAt.calls k _ _ l1 a2 a3 a4 t239 _ ?side1 ?side2 A6.out).mono ?_); (case side1 => exact Kd.C_foot_now HR1.out (by repeat (first | (with_reducible first | exact HK.out | apply KeepBut.set_ | apply keep_drewN | apply keep_drew | apply keep_alloc) | exact HK.out))); (case side2 => exact HC1.out); rintro e w17 ⟨rfl, hb⟩; have n0_ := Aside0.mk (IsS28.below (by repeat (first | (with_reducible first | exact HI0.out | apply IsS28.alloc | apply IsS28.drewN | apply IsS28.drew | apply IsS28.set_1) | exact HI0.out)) hb); have n1_ := Aside0.mk (KeepBut.trans (by repeat (first | (with_reducible first | exact HK.out | apply KeepBut.set_ | apply keep_drewN | apply keep_drew | apply keep_alloc) | exact HK.out)) (KeepBut.of_below hb g none) (.inl rfl)); have n2_ := Aside0.mk (below_step (by repeat (first | (with_reducible first | exact HB.out | apply below_alloc | apply pw_below_drewN | apply below_drew1 | refine below_set ?_ (IsS28.ge HI0.out)) | exact HB.out)) hb); clear HI0; clear HK; clear HB; have HI0 := n0_; have HK := n1_; have HB := n2_; clear n0_ n1_ n2_; (try clear hb); (try clear hb2); (try clear hk); (try clear hi)) | (go_at_call 82; (with_reducible refine (impl_windowAt.calls _ _ l1 (wrap64 (a2)) t240 _ ?side1 ?side2 A8.out).mono ?_); (case side1 => exact Kd.C_foot_now HR1.out (by repeat (first | (with_reducible first | exact HK.out | apply KeepBut.set_ | apply keep_drewN | apply keep_drew | apply keep_alloc) | exact HK.out))); (case side2 => exact HC1.out); rintro e w18 ⟨rfl, hb⟩; have n0_ := Aside0.mk (IsS28.below (by repeat (first | (with_reducible first | exact HI0.out | apply IsS28.alloc | apply IsS28.drewN | apply IsS28.drew | apply IsS28.set_1) | exact HI0.out)) hb); have n1_ := Aside0.mk (KeepBut.trans (by repeat (first | (with_reducible first | exact HK.out | apply KeepBut.set_ | apply keep_drewN | apply keep_drew | apply keep_alloc) | exact HK.out)) (KeepBut.of_below hb g none) (.inl rfl)); have n2_ := Aside0.mk (below_step (by repeat (first | (with_reducible first | exact HB.out | apply below_alloc | apply pw_below_drewN | apply below_drew1 | refine below_set ?_ (IsS28.ge HI0.out)) | exact HB.out)) hb); clear HI0; clear HK; clear HB; have HI0 := n0_; have HK := n1_; have HB := n2_; clear n0_ n1_ n2_; (try clear hb); (try clear hb2); (try clear hk); (try clear hi); obtain ⟨ASz19_0, cSz19_0, ASz19_2, cSz19_2, HGz19, hgz19, HSz19_0, HSz19_2⟩ := HI0.out; have hcz19_0 := cellS28_0 HGz19; have hcz19_1 := cellS28_1 HGz19; have hcz19_2 := cellS28_2 HGz19; have hfz19_1 := blk_frozen HGz19 1; clear HGz19 hgz19; have p241 : 0 ≤ (t240 : Int) := of_decide_eq_true (by first | (with_reducible assumption) | assumption); have q241 : t240 < (s0_2.length : Int) := of_decide_eq_true (by first | (with_reducible assumption) | assumption); obtain ⟨ad241, A241_0, c241_0, e241, hx241_0, hl241_0, hi241_0⟩ := at_L2 HSz19_2 t240 p241 q241; cases e241; replace hx241_0 := pw_cell_below HB.out hx241_0; have hf241_0 : ∀ ad : Addr, A241_0 = some ad → _ → ad.block ≠ g := fun ad he hn_ => (by cases he; exact Nat.ne_of_lt (Nat.lt_of_lt_of_le (Kd.C_lt hi241_0 hn_ (by decide)) (IsS28.ge HI0.out))); have HR241_0 := Aside0.mk hi241_0; have HC241_0 := Aside0.mk hl241_0; clear hi241_0 hl241_0; replace p241 := eq_true p241; replace q241 := eq_true q241; have p242 : 0 ≤ (t240 : Int) := of_decide_eq_true (by first | (with_reducible assumption) | assumption); have q242 : t240 < (l1.length : Int) := of_decide_eq_true (by first | (with_reducible assumption) | assumption); obtain ⟨ad242, e242, hx242_0, hx242_1, hx242_2⟩ := at_T70 (Kd.C_foot_now HR1.out HK.out) t240 p242 q242; cases e242; replace p242 := eq_true p242; replace q242 := eq_true q242; obtain ⟨i020, hi020, _, hsz20, _⟩ := info_parts info5; obtain ⟨A20, hcut20, hA20, hC20⟩ := print_drop_of (P := Try.prog) (Value.int .u8) 0 68 5 .i64 Try.underlying68 hi020 hsz20 A241_0 c241_0 (rd_L2 s0_2 t240) (ji12) (of_decide_eq_true (by first | (with_reducible assumption) | assumption)) (of_decide_eq_true (by first | (with_reducible assumption) | assumption)) HC241_0.out; have HR243 := Aside0.mk (Kd.C_of_reads (h1 := fun _ => rfl) (hA20 _ (Kd.reads_of_C HR241_0.out))); have HC243 := Aside0.mk hC20; have hf243 : ∀ ad : Addr, A20 = some ad → 0 < ((rd_L2 s0_2 t240).drop ((ji12) : Int).toNat).length → ad.block ≠ g := fun ad he h_ => (by cases he; exact Kd.foot_ne (fun W_ hk_ => Kd.C_of_reads (h1 := fun _ => rfl) (hA20 _ (Kd.reads_of_C (Kd.C_foot_ne (fun h => h) HR241_0.out hf241_0 W_ hk_)))) h_ (by decide)); clear hA20 hC20 hi020 hsz20; have p244 : 0 ≤ (0 : Int) := (by omega); have q244 : 0 < (((rd_L2 s0_2 t240).drop ((ji12) : Int).toNat).length : Int) := of_decide_eq_true (by first | (with_reducible assumption) | assumption); obtain ⟨ad244, e244, hx244_0⟩ := Kd.at_int HR243.out 0 p244 q244; cases e244; have qi244 : (0 < ((rd_L2 s0_2 t240).drop ((ji12) : Int).toNat).length) = True := eq_true (by omega); have qj244 : (0 < (rd_L2 s0_2 t240).length - ((ji12) : Int).toNat) = True := (by have e_ := qi244; rw [List.length_drop] at e_; exact e_); (try rw [show ((0 : Int)).toNat = 0 from rfl] at hx244_0); (try rw [Addr.add_zero'] at hx244_0); first | (replace hx244_0 := keep_cell HK.out hx244_0 (by first | (rw [add_block]; exact hf243 _ rfl (by omega)) | exact hf243 _ rfl (by omega) | exact hf243 ad244 rfl (by omega))) | (replace hx244_0 := pw_cell_below HB.out hx244_0); replace p244 := eq_true p244; replace q244 := eq_true q244)); try go_wp2_with (first | (go_at_call 81; (with_reducible refine (impl_faultAt.calls k _ _ l1 a2 a3 a4 t239 _ ?side1 ?side2 A6.out).mono ?_); (case side1 => exact Kd.C_foot_now HR1.out (by repeat (first | (with_reducible first | exact HK.out | apply KeepBut.set_ | apply keep_drewN | apply keep_drew | apply keep_alloc) | exact HK.out))); (case side2 => exact HC1.out); rintro e w17 ⟨rfl, hb⟩; have n0_ := Aside0.mk (IsS28.below (by repeat (first | (with_reducible first | exact HI0.out | apply IsS28.alloc | apply IsS28.drewN | apply IsS28.drew | apply IsS28.set_1) | exact HI0.out)) hb); have n1_ := Aside0.mk (KeepBut.trans (by repeat (first | (with_reducible first | exact HK.out | apply KeepBut.set_ | apply keep_drewN | apply keep_drew | apply keep_alloc) | exact HK.out)) (KeepBut.of_below hb g none) (.inl rfl)); have n2_ := Aside0.mk (below_step (by repeat (first | (with_reducible first | exact HB.out | apply below_alloc | apply pw_below_drewN | apply below_drew1 | refine below_set ?_ (IsS28.ge HI0.out)) | exact HB.out)) hb); clear HI0; clear HK; clear HB; have HI0 := n0_; have HK := n1_; have HB := n2_; clear n0_ n1_ n2_; (try clear hb); (try clear hb2); (try clear hk); (try clear hi)) | (go_at_call 82; (with_reducible refine (impl_windowAt.calls _ _ l1 (wrap64 (a2)) t240 _ ?side1 ?side2 A8.out).mono ?_); (case side1 => exact Kd.C_foot_now HR1.out (by repeat (first | (with_reducible first | exact HK.out | apply KeepBut.set_ | apply keep_drewN | apply keep_drew | apply keep_alloc) | exact HK.out))); (case side2 => exact HC1.out); rintro e w18 ⟨rfl, hb⟩; have n0_ := Aside0.mk (IsS28.below (by repeat (first | (with_reducible first | exact HI0.out | apply IsS28.alloc | apply IsS28.drewN | apply IsS28.drew | apply IsS28.set_1) | exact HI0.out)) hb); have n1_ := Aside0.mk (KeepBut.trans (by repeat (first | (with_reducible first | exact HK.out | apply KeepBut.set_ | apply keep_drewN | apply keep_drew | apply keep_alloc) | exact HK.out)) (KeepBut.of_below hb g none) (.inl rfl)); have n2_ := Aside0.mk (below_step (by repeat (first | (with_reducible first | exact HB.out | apply below_alloc | apply pw_below_drewN | apply below_drew1 | refine below_set ?_ (IsS28.ge HI0.out)) | exact HB.out)) hb); clear HI0; clear HK; clear HB; have HI0 := n0_; have HK := n1_; have HB := n2_; clear n0_ n1_ n2_; (try clear hb); (try clear hb2); (try clear hk); (try clear hi); obtain ⟨ASz19_0, cSz19_0, ASz19_2, cSz19_2, HGz19, hgz19, HSz19_0, HSz19_2⟩ := HI0.out; have hcz19_0 := cellS28_0 HGz19; have hcz19_1 := cellS28_1 HGz19; have hcz19_2 := cellS28_2 HGz19; have hfz19_1 := blk_frozen HGz19 1; clear HGz19 hgz19; have p241 : 0 ≤ (t240 : Int) := of_decide_eq_true (by first | (with_reducible assumption) | assumption); have q241 : t240 < (s0_2.length : Int) := of_decide_eq_true (by first | (with_reducible assumption) | assumption); obtain ⟨ad241, A241_0, c241_0, e241, hx241_0, hl241_0, hi241_0⟩ := at_L2 HSz19_2 t240 p241 q241; cases e241; replace hx241_0 := pw_cell_below HB.out hx241_0; have hf241_0 : ∀ ad : Addr, A241_0 = some ad → _ → ad.block ≠ g := fun ad he hn_ => (by cases he; exact Nat.ne_of_lt (Nat.lt_of_lt_of_le (Kd.C_lt hi241_0 hn_ (by decide)) (IsS28.ge HI0.out))); have HR241_0 := Aside0.mk hi241_0; have HC241_0 := Aside0.mk hl241_0; clear hi241_0 hl241_0; replace p241 := eq_true p241; replace q241 := eq_true q241; have p242 : 0 ≤ (t240 : Int) := of_decide_eq_true (by first | (with_reducible assumption) | assumption); have q242 : t240 < (l1.length : Int) := of_decide_eq_true (by first | (with_reducible assumption) | assumption); obtain ⟨ad242, e242, hx242_0, hx242_1, hx242_2⟩ := at_T70 (Kd.C_foot_now HR1.out HK.out) t240 p242 q242; cases e242; replace p242 := eq_true p242; replace q242 := eq_true q242; obtain ⟨i020, hi020, _, hsz20, _⟩ := info_parts info5; obtain ⟨A20, hcut20, hA20, hC20⟩ := print_drop_of (P := Try.prog) (Value.int .u8) 0 68 5 .i64 Try.underlying68 hi020 hsz20 A241_0 c241_0 (rd_L2 s0_2 t240) (ji12) (of_decide_eq_true (by first | (with_reducible assumption) | assumption)) (of_decide_eq_true (by first | (with_reducible assumption) | assumption)) HC241_0.out; have HR243 := Aside0.mk (Kd.C_of_reads (h1 := fun _ => rfl) (hA20 _ (Kd.reads_of_C HR241_0.out))); have HC243 := Aside0.mk hC20; have hf243 : ∀ ad : Addr, A20 = some ad → 0 < ((rd_L2 s0_2 t240).drop ((ji12) : Int).toNat).length → ad.block ≠ g := fun ad he h_ => (by cases he; exact Kd.foot_ne (fun W_ hk_ => Kd.C_of_reads (h1 := fun _ => rfl) (hA20 _ (Kd.reads_of_C (Kd.C_foot_ne (fun h => h) HR241_0.out hf241_0 W_ hk_)))) h_ (by decide)); clear hA20 hC20 hi020 hsz20; have p244 : 0 ≤ (0 : Int) := (by omega); have q244 : 0 < (((rd_L2 s0_2 t240).drop ((ji12) : Int).toNat).length : Int) := of_decide_eq_true (by first | (with_reducible assumption) | assumption); obtain ⟨ad244, e244, hx244_0⟩ := Kd.at_int HR243.out 0 p244 q244; cases e244; have qi244 : (0 < ((rd_L2 s0_2 t240).drop ((ji12) : Int).toNat).length) = True := eq_true (by omega); have qj244 : (0 < (rd_L2 s0_2 t240).length - ((ji12) : Int).toNat) = True := (by have e_ := qi244; rw [List.length_drop] at e_; exact e_); (try rw [show ((0 : Int)).toNat = 0 from rfl] at hx244_0); (try rw [Addr.add_zero'] at hx244_0); first | (replace hx244_0 := keep_cell HK.out hx244_0 (by first | (rw [add_block]; exact hf243 _ rfl (by omega)) | exact hf243 _ rfl (by omega) | exact hf243 ad244 rfl (by omega))) | (replace hx244_0 := pw_cell_below HB.out hx244_0); replace p244 := eq_true p244; replace q244 := eq_true q244)))
         go_ret2
         exact ⟨by first | rfl | (simp [errW_none, errW_some] <;> rfl) | (simp only [← hji12]; first | rfl | (simp [errW_none, errW_some] <;> rfl)) | (simp [*, errW_none, errW_some] <;> rfl), by repeat (first | (with_reducible first | exact HI0.out | apply IsS28.alloc | apply IsS28.drewN | apply IsS28.drew | apply IsS28.set_1) | exact HI0.out), by repeat (first | (with_reducible first | exact HB.out | apply below_alloc | apply pw_below_drewN | apply below_drew1 | refine below_set ?_ (IsS28.ge HI0.out)) | exact HB.out), by repeat (first | (with_reducible first | exact HK.out | apply KeepBut.set_ | apply keep_drewN | apply keep_drew | apply keep_alloc) | exact HK.out)⟩
        ·rw [if_neg c16] at H
         exact absurd H (by simp)
       ·rw [if_neg c15] at H
        have c15b0 : (a3 == 1) = false := beq_eq_false_iff_ne.mpr c15
        have c15b1 : (a3 != 1) = true := bne_iff_ne.mpr c15
        by_cases c21 : 4 ≤ (((rd_L2 s0_2 t240).drop ((ji12) : Int).toNat).length : Int)
        ·rw [if_pos c21] at H
         have c21b0 := eq_true c21
         have c21b1 : decide (4 ≤ (((rd_L2 s0_2 t240).drop ((ji12) : Int).toNat).length : Int)) = true := decide_eq_true c21
         clear c21
         replace H := Option.bind_eq_some_iff.mp H
         obtain ⟨⟨t246, t247⟩, A220, H⟩ := H
         (try dsimp only at H)
         have A22 := Aside0.mk A220
         clear A220
         simp only [Option.some.injEq, Prod.mk.injEq] at H
         obtain ⟨rfl, rfl, rfl⟩ := H
         go_enter Try.func59, Try.ntmps59
         go_wp2_with (first | (go_at_call 81; (with_reducible refine (impl_faultAt.calls k _ _ l1 a2 a3 a4 t239 _ ?side1 ?side2 A6.out).mono ?_); (case side1 => exact Kd.C_foot_now HR1.out (by repeat (first | (with_reducible first | exact HK.out | apply KeepBut.set_ | apply keep_drewN | apply keep_drew | apply keep_alloc) | exact HK.out))); (case side2 => exact HC1.out); rintro e w23 ⟨rfl, hb⟩; have n0_ := Aside0.mk (IsS28.below (by repeat (first | (with_reducible first | exact HI0.out | apply IsS28.alloc | apply IsS28.drewN | apply IsS28.drew | apply IsS28.set_1) | exact HI0.out)) hb); have n1_ := Aside0.mk (KeepBut.trans (by repeat (first | (with_reducible first | exact HK.out | apply KeepBut.set_ | apply keep_drewN | apply keep_drew | apply keep_alloc) | exact HK.out)) (KeepBut.of_below hb g none) (.inl rfl)); have n2_ := Aside0.mk (below_step (by repeat (first | (with_reducible first | exact HB.out | apply below_alloc | apply pw_below_drewN | apply below_drew1 | refine below_set ?_ (IsS28.ge HI0.out)) | exact HB.out)) hb); clear HI0; clear HK; clear HB; have HI0 := n0_; have HK := n1_; have HB := n2_; clear n0_ n1_ n2_; (try clear hb); (try clear hb2); (try clear hk); (try clear hi)) | (go_at_call 82; (with_reducible refine (impl_windowAt.calls _ _ l1 (wrap64 (a2)) t240 _ ?side1 ?side2 A8.out).mono ?_); (case side1 => exact Kd.C_foot_now HR1.out (by repeat (first | (with_reducible first | exact HK.out | apply KeepBut.set_ | apply keep_drewN | apply keep_drew | apply keep_alloc) | exact HK.out))); (case side2 => exact HC1.out); rintro e w24 ⟨rfl, hb⟩; have n0_ := Aside0.mk (IsS28.below (by repeat (first | (with_reducible first | exact HI0.out | apply IsS28.alloc | apply IsS28.drewN | apply IsS28.drew | apply IsS28.set_1) | exact HI0.out)) hb); have n1_ := Aside0.mk (KeepBut.trans (by repeat (first | (with_reducible first | exact HK.out | apply KeepBut.set_ | apply keep_drewN | apply keep_drew | apply keep_alloc) | exact HK.out)) (KeepBut.of_below hb g none) (.inl rfl)); have n2_ := Aside0.mk (below_step (by repeat (first | (with_reducible first | exact HB.out | apply below_alloc | apply pw_below_drewN | apply below_drew1 | refine below_set ?_ (IsS28.ge HI0.out)) | exact HB.out)) hb); clear HI0; clear HK; clear HB; have HI0 := n0_; have HK := n1_; have HB := n2_; clear n0_ n1_ n2_; (try clear hb); (try clear hb2); (try clear hk); (try clear hi); obtain ⟨ASz25_0, cSz25_0, ASz25_2, cSz25_2, HGz25, hgz25, HSz25_0, HSz25_2⟩ := HI0.out; have hcz25_0 := cellS28_0 HGz25; have hcz25_1 := cellS28_1 HGz25; have hcz25_2 := cellS28_2 HGz25; have hfz25_1 := blk_frozen HGz25 1; clear HGz25 hgz25; have p241 : 0 ≤ (t240 : Int) := of_decide_eq_true (by first | (with_reducible assumption) | assumption); have q241 : t240 < (s0_2.length : Int) := of_decide_eq_true (by first | (with_reducible assumption) | assumption); obtain ⟨ad241, A241_0, c241_0, e241, hx241_0, hl241_0, hi241_0⟩ := at_L2 HSz25_2 t240 p241 q241; cases e241; replace hx241_0 := pw_cell_below HB.out hx241_0; have hf241_0 : ∀ ad : Addr, A241_0 = some ad → _ → ad.block ≠ g := fun ad he hn_ => (by cases he; exact Nat.ne_of_lt (Nat.lt_of_lt_of_le (Kd.C_lt hi241_0 hn_ (by decide)) (IsS28.ge HI0.out))); have HR241_0 := Aside0.mk hi241_0; have HC241_0 := Aside0.mk hl241_0; clear hi241_0 hl241_0; replace p241 := eq_true p241; replace q241 := eq_true q241; have p242 : 0 ≤ (t240 : Int) := of_decide_eq_true (by first | (with_reducible assumption) | assumption); have q242 : t240 < (l1.length : Int) := of_decide_eq_true (by first | (with_reducible assumption) | assumption); obtain ⟨ad242, e242, hx242_0, hx242_1, hx242_2⟩ := at_T70 (Kd.C_foot_now HR1.out HK.out) t240 p242 q242; cases e242; replace p242 := eq_true p242; replace q242 := eq_true q242; obtain ⟨i026, hi026, _, hsz26, _⟩ := info_parts info5; obtain ⟨A26, hcut26, hA26, hC26⟩ := print_drop_of (P := Try.prog) (Value.int .u8) 0 68 5 .i64 Try.underlying68 hi026 hsz26 A241_0 c241_0 (rd_L2 s0_2 t240) (ji12) (of_decide_eq_true (by first | (with_reducible assumption) | assumption)) (of_decide_eq_true (by first | (with_reducible assumption) | assumption)) HC241_0.out; have HR243 := Aside0.mk (Kd.C_of_reads (h1 := fun _ => rfl) (hA26 _ (Kd.reads_of_C HR241_0.out))); have HC243 := Aside0.mk hC26; have hf243 : ∀ ad : Addr, A26 = some ad → 0 < ((rd_L2 s0_2 t240).drop ((ji12) : Int).toNat).length → ad.block ≠ g := fun ad he h_ => (by cases he; exact Kd.foot_ne (fun W_ hk_ => Kd.C_of_reads (h1 := fun _ => rfl) (hA26 _ (Kd.reads_of_C (Kd.C_foot_ne (fun h => h) HR241_0.out hf241_0 W_ hk_)))) h_ (by decide)); clear hA26 hC26 hi026 hsz26; obtain ⟨i027, hi027, _, hsz27, _⟩ := info_parts info5; obtain ⟨hcut27, hA27, hC27⟩ := print_take_of (P := Try.prog) (Value.int .u8) 0 68 5 .i64 Try.underlying68 hi027 hsz27 A26 (c241_0 - (ji12).toNat) ((rd_L2 s0_2 t240).drop ((ji12) : Int).toNat) 4 (by omega) (of_decide_eq_true (by first | (with_reducible assumption) | assumption)) HC243.out; have hcut27b := hcut27; (try simp only [List.length_drop] at hcut27b); have HR245 := Aside0.mk (Kd.C_of_reads (h1 := fun _ => rfl) (hA27 _ (Kd.reads_of_C HR243.out))); have HC245 := Aside0.mk hC27; have hf245 : ∀ ad : Addr, A26 = some ad → 0 < (((rd_L2 s0_2 t240).drop ((ji12) : Int).toNat).take 4).length → ad.block ≠ g := fun ad he h_ => (by cases he; exact Kd.foot_ne (fun W_ hk_ => Kd.C_of_reads (h1 := fun _ => rfl) (hA27 _ (Kd.reads_of_C (Kd.C_foot_ne (fun h => h) HR243.out hf243 W_ hk_)))) h_ (by decide)); clear hA27 hC27 hi027 hsz27) | (go_at_call 83; (try rw [show min 4 ((rd_L2 s0_2 t240).length - (ji12 : Int).toNat) = (((rd_L2 s0_2 t240).drop ((ji12) : Int).toNat).take 4).length from by rw [List.length_take, List.length_drop]]); (with_reducible refine (impl_WordOf.calls _ _ (((rd_L2 s0_2 t240).drop ((ji12) : Int).toNat).take 4) t246 t247 _ ?side1 ?side2 A22.out).mono ?_); (case side1 => exact Kd.C_below HR245.out (lq HB.out)); (case side2 => exact HC245.out); rintro e w' ⟨rfl, ⟨nd, rfl⟩⟩; (try first | exact ⟨rfl, _, World.drewN_drewN _ _ _⟩ | exact ⟨rfl, _, Eq.trans (World.drewN_drewN _ _ _) (congrArg (World.drewN _) (Nat.add_assoc _ _ _))⟩)))
         repeat (go_quiet (first | (go_at_call 81; (with_reducible refine (impl_faultAt.calls k _ _ l1 a2 a3 a4 t239 _ ?side1 ?side2 A6.out).mono ?_); (case side1 => exact Kd.C_foot_now HR1.out (by repeat (first | (with_reducible first | exact HK.out | apply KeepBut.set_ | apply keep_drewN | apply keep_drew | apply keep_alloc) | exact HK.out))); (case side2 => exact HC1.out); rintro e w23 ⟨rfl, hb⟩; have n0_ := Aside0.mk (IsS28.below (by repeat (first | (with_reducible first | exact HI0.out | apply IsS28.alloc | apply IsS28.drewN | apply IsS28.drew | apply IsS28.set_1) | exact HI0.out)) hb); have n1_ := Aside0.mk (KeepBut.trans (by repeat (first | (with_reducible first | exact HK.out | apply KeepBut.set_ | apply keep_drewN | apply keep_drew | apply keep_alloc) | exact HK.out)) (KeepBut.of_below hb g none) (.inl rfl)); have n2_ := Aside0.mk (below_step (by repeat (first | (with_reducible first | exact HB.out | apply below_alloc | apply pw_below_drewN | apply below_drew1 | refine below_set ?_ (IsS28.ge HI0.out)) | exact HB.out)) hb); clear HI0; clear HK; clear HB; have HI0 := n0_; have HK := n1_; have HB := n2_; clear n0_ n1_ n2_; (try clear hb); (try clear hb2); (try clear hk); (try clear hi)) | (go_at_call 82; (with_reducible refine (impl_windowAt.calls _ _ l1 (wrap64 (a2)) t240 _ ?side1 ?side2 A8.out).mono ?_); (case side1 => exact Kd.C_foot_now HR1.out (by repeat (first | (with_reducible first | exact HK.out | apply KeepBut.set_ | apply keep_drewN | apply keep_drew | apply keep_alloc) | exact HK.out))); (case side2 => exact HC1.out); rintro e w24 ⟨rfl, hb⟩; have n0_ := Aside0.mk (IsS28.below (by repeat (first | (with_reducible first | exact HI0.out | apply IsS28.alloc | apply IsS28.drewN | apply IsS28.drew | apply IsS28.set_1) | exact HI0.out)) hb); have n1_ := Aside0.mk (KeepBut.trans (by repeat (first | (with_reducible first | exact HK.out | apply KeepBut.set_ | apply keep_drewN | apply keep_drew | apply keep_alloc) | exact HK.out)) (KeepBut.of_below hb g none) (.inl rfl)); have n2_ := Aside0.mk (below_step (by repeat (first | (with_reducible first | exact HB.out | apply below_alloc | apply pw_below_drewN | apply below_drew1 | refine below_set ?_ (IsS28.ge HI0.out)) | exact HB.out)) hb); clear HI0; clear HK; clear HB; have HI0 := n0_; have HK := n1_; have HB := n2_; clear n0_ n1_ n2_; (try clear hb); (try clear hb2); (try clear hk); (try clear hi); obtain ⟨ASz25_0, cSz25_0, ASz25_2, cSz25_2, HGz25, hgz25, HSz25_0, HSz25_2⟩ := HI0.out; have hcz25_0 := cellS28_0 HGz25; have hcz25_1 := cellS28_1 HGz25; have hcz25_2 := cellS28_2 HGz25; have hfz25_1 := blk_frozen HGz25 1; clear HGz25 hgz25; have p241 : 0 ≤ (t240 : Int) := of_decide_eq_true (by first | (with_reducible assumption) | assumption); have q241 : t240 < (s0_2.length : Int) := of_decide_eq_true (by first | (with_reducible assumption) | assumption); obtain ⟨ad241, A241_0, c241_0, e241, hx241_0, hl241_0, hi241_0⟩ := at_L2 HSz25_2 t240 p241 q241; cases e241; replace hx241_0 := pw_cell_below HB.out hx241_0; have hf241_0 : ∀ ad : Addr, A241_0 = some ad → _ → ad.block ≠ g := fun ad he hn_ => (by cases he; exact Nat.ne_of_lt (Nat.lt_of_lt_of_le (Kd.C_lt hi241_0 hn_ (by decide)) (IsS28.ge HI0.out))); have HR241_0 := Aside0.mk hi241_0; have HC241_0 := Aside0.mk hl241_0; clear hi241_0 hl241_0; replace p241 := eq_true p241; replace q241 := eq_true q241; have p242 : 0 ≤ (t240 : Int) := of_decide_eq_true (by first | (with_reducible assumption) | assumption); have q242 : t240 < (l1.length : Int) := of_decide_eq_true (by first | (with_reducible assumption) | assumption); obtain ⟨ad242, e242, hx242_0, hx242_1, hx242_2⟩ := at_T70 (Kd.C_foot_now HR1.out HK.out) t240 p242 q242; cases e242; replace p242 := eq_true p242; replace q242 := eq_true q242; obtain ⟨i026, hi026, _, hsz26, _⟩ := info_parts info5; obtain ⟨A26, hcut26, hA26, hC26⟩ := print_drop_of (P := Try.prog) (Value.int .u8) 0 68 5 .i64 Try.underlying68 hi026 hsz26 A241_0 c241_0 (rd_L2 s0_2 t240) (ji12) (of_decide_eq_true (by first | (with_reducible assumption) | assumption)) (of_decide_eq_true (by first | (with_reducible assumption) | assumption)) HC241_0.out; have HR243 := Aside0.mk (Kd.C_of_reads (h1 := fun _ => rfl) (hA26 _ (Kd.reads_of_C HR241_0.out))); have HC243 := Aside0.mk hC26; have hf243 : ∀ ad : Addr, A26 = some ad → 0 < ((rd_L2 s0_2 t240).drop ((ji12) : Int).toNat).length → ad.block ≠ g := fun ad he h_ => (by cases he; exact Kd.foot_ne (fun W_ hk_ => Kd.C_of_reads (h1 := fun _ => rfl) (hA26 _ (Kd.reads_of_C (Kd.C_foot_ne (fun h => h) HR241_0.out hf241_0 W_ hk_)))) h_ (by decide)); clear hA26 hC26 hi026 hsz26; obtain ⟨i027, hi027, _, hsz27, _⟩ := info_parts info5; obtain ⟨hcut27, hA27, hC27⟩ := print_take_of (P := Try.prog) (Value.int .u8) 0 68 5 .i64 Try.underlying68 hi027 hsz27 A26 (c241_0 - (ji12).toNat) ((rd_L2 s0_2 t240).drop ((ji12) : Int).toNat) 4 (by omega) (of_decide_eq_true (by first | (with_reducible assumption) | assumption)) HC243.out; have hcut27b := hcut27; (try simp only [List.length_drop] at hcut27b); have HR245 := Aside0.mk (Kd.C_of_reads (h1 := fun _ => rfl) (hA27 _ (Kd.reads_of_C HR243.out))); have HC245 := Aside0.mk hC27; have hf245 : ∀ ad : Addr, A26 = some ad → 0 < (((rd_L2 s0_2 t240).drop ((ji12) : Int).toNat).take 4).length → ad.block ≠ g := fun ad he h_ => (by cases he; exact Kd.foot_ne (fun W_ hk_ => Kd.C_of_reads (h1 := fun _ => rfl) (hA27 _ (Kd.reads_of_C (Kd.C_foot_ne (fun h => h) HR243.out hf243 W_ hk_)))) h_ (by decide)); clear hA27 hC27 hi027 hsz27) | (go_at_call 83; (try rw [show min 4 ((rd_L2 s0_2 t240).length - (ji12 : Int).toNat) = (((rd_L2 s0_2 t240).drop ((ji12) : Int).toNat).take 4).length from by rw [List.length_take, List.length_drop]]); (with_reducible refine (impl_WordOf.calls _ _ (((rd_L2 s0_2 t240).drop ((ji12) : Int).toNat).take 4) t246 t247 _ ?side1 ?side2 A22.out).mono ?_); (case side1 => exact Kd.C_below HR245.out (lq HB.out)); (case side2 => exact HC245.out); rintro e w' ⟨rfl, ⟨nd, rfl⟩⟩; (try first | exact ⟨rfl, _, World.drewN_drewN _ _ _⟩ | exact ⟨rfl, _, Eq.trans (World.drewN_drewN _ _ _) (congrArg (World.drewN _) (Nat.add_assoc _ _ _))⟩))); try go_wp2_with (first | (go_at_call 81; (with_reducible refine (impl_faultAt.calls k _ _ l1 a2 a3 a4 t239 _ ?side1 ?side2 A6.out).mono ?_); (case side1 => exact Kd.C_foot_now HR1.out (by repeat (first | (with_reducible first | exact HK.out | apply KeepBut.set_ | apply keep_drewN | apply keep_drew | apply keep_alloc) | exact HK.out))); (case side2 => exact HC1.out); rintro e w23 ⟨rfl, hb⟩; have n0_ := Aside0.mk (IsS28.below (by repeat (first | (with_reducible first | exact HI0.out | apply IsS28.alloc | apply IsS28.drewN | apply IsS28.drew | apply IsS28.set_1) | exact HI0.out)) hb); have n1_ := Aside0.mk (KeepBut.trans (by repeat (first | (with_reducible first | exact HK.out | apply KeepBut.set_ | apply keep_drewN | apply keep_drew | apply keep_alloc) | exact HK.out)) (KeepBut.of_below hb g none) (.inl rfl)); have n2_ := Aside0.mk (below_step (by repeat (first | (with_reducible first | exact HB.out | apply below_alloc | apply pw_below_drewN | apply below_drew1 | refine below_set ?_ (IsS28.ge HI0.out)) | exact HB.out)) hb); clear HI0; clear HK; clear HB; have HI0 := n0_; have HK := n1_; have HB := n2_; clear n0_ n1_ n2_; (try clear hb); (try clear hb2); (try clear hk); (try clear hi)) | (go_at_call 82; (with_reducible refine (impl_windowAt.calls _ _ l1 (wrap64 (a2)) t240 _ ?side1 ?side2 A8.out).mono ?_); (case side1 => exact Kd.C_foot_now HR1.out (by repeat (first | (with_reducible first | exact HK.out | apply KeepBut.set_ | apply keep_drewN | apply keep_drew | apply keep_alloc) | exact HK.out))); (case side2 => exact HC1.out); rintro e w24 ⟨rfl, hb⟩; have n0_ := Aside0.mk (IsS28.below (by repeat (first | (with_reducible first | exact HI0.out | apply IsS28.alloc | apply IsS28.drewN | apply IsS28.drew | apply IsS28.set_1) | exact HI0.out)) hb); have n1_ := Aside0.mk (KeepBut.trans (by repeat (first | (with_reducible first | exact HK.out | apply KeepBut.set_ | apply keep_drewN | apply keep_drew | apply keep_alloc) | exact HK.out)) (KeepBut.of_below hb g none) (.inl rfl)); have n2_ := Aside0.mk (below_step (by repeat (first | (with_reducible first | exact HB.out | apply below_alloc | apply pw_below_drewN | apply below_drew1 | refine below_set ?_ (IsS28.ge HI0.out)) | exact HB.out)) hb); clear HI0; clear HK; clear HB; have HI0 := n0_; have HK := n1_; have HB := n2_; clear n0_ n1_ n2_; (try clear hb); (try clear hb2); (try clear hk); (try clear hi); obtain ⟨ASz25_0, cSz25_0, ASz25_2, cSz25_2, HGz25, hgz25, HSz25_0, HSz25_2⟩ := HI0.out; have hcz25_0 := cellS28_0 HGz25; have hcz25_1 := cellS28_1 HGz25; have hcz25_2 := cellS28_2 HGz25; have hfz25_1 := blk_frozen HGz25 1; clear HGz25 hgz25; have p241 : 0 ≤ (t240 : Int) := of_decide_eq_true (by first | (with_reducible assumption) | assumption); have q241 : t240 < (s0_2.length : Int) := of_decide_eq_true (by first | (with_reducible assumption) | assumption); obtain ⟨ad241, A241_0, c241_0, e241, hx241_0, hl241_0, hi241_0⟩ := at_L2 HSz25_2 t240 p241 q241; cases e241; replace hx241_0 := pw_cell_below HB.out hx241_0; have hf241_0 : ∀ ad : Addr, A241_0 = some ad → _ → ad.block ≠ g := fun ad he hn_ => (by cases he; exact Nat.ne_of_lt (Nat.lt_of_lt_of_le (Kd.C_lt hi241_0 hn_ (by decide)) (IsS28.ge HI0.out))); have HR241_0 := Aside0.mk hi241_0; have HC241_0 := Aside0.mk hl241_0; clear hi241_0 hl241_0; replace p241 := eq_true p241; replace q241 := eq_true q241; have p242 : 0 ≤ (t240 : Int) := of_decide_eq_true (by first | (with_reducible assumption) | assumption); have q242 : t240 < (l1.length : Int) := of_decide_eq_true (by first | (with_reducible assumption) | assumption); obtain ⟨ad242, e242, hx242_0, hx242_1, hx242_2⟩ := at_T70 (Kd.C_foot_now HR1.out HK.out) t240 p242 q242; cases e242; replace p242 := eq_true p242; replace q242 := eq_true q242; obtain ⟨i026, hi026, _, hsz26, _⟩ := info_parts info5; obtain ⟨A26, hcut26, hA26, hC26⟩ := print_drop_of (P := Try.prog) (Value.int .u8) 0 68 5 .i64 Try.underlying68 hi026 hsz26 A241_0 c241_0 (rd_L2 s0_2 t240) (ji12) (of_decide_eq_true (by first | (with_reducible assumption) | assumption)) (of_decide_eq_true (by first | (with_reducible assumption) | assumption)) HC241_0.out; have HR243 := Aside0.mk (Kd.C_of_reads (h1 := fun _ => rfl) (hA26 _ (Kd.reads_of_C HR241_0.out))); have HC243 := Aside0.mk hC26; have hf243 : ∀ ad : Addr, A26 = some ad → 0 < ((rd_L2 s0_2 t240).drop ((ji12) : Int).toNat).length → ad.block ≠ g := fun ad he h_ => (by cases he; exact Kd.foot_ne (fun W_ hk_ => Kd.C_of_reads (h1 := fun _ => rfl) (hA26 _ (Kd.reads_of_C (Kd.C_foot_ne (fun h => h) HR241_0.out hf241_0 W_ hk_)))) h_ (by decide)); clear hA26 hC26 hi026 hsz26; obtain ⟨i027, hi027, _, hsz27, _⟩ := info_parts info5; obtain ⟨hcut27, hA27, hC27⟩ := print_take_of (P := Try.prog) (Value.int .u8) 0 68 5 .i64 Try.underlying68 hi027 hsz27 A26 (c241_0 - (ji12).toNat) ((rd_L2 s0_2 t240).drop ((ji12) : Int).toNat) 4 (by omega) (of_decide_eq_true (by first | (with_reducible assumption) | assumption)) HC243.out; have hcut27b := hcut27; (try simp only [List.length_drop] at hcut27b); have HR245 := Aside0.mk (Kd.C_of_reads (h1 := fun _ => rfl) (hA27 _ (Kd.reads_of_C HR243.out))); have HC245 := Aside0.mk hC27; have hf245 : ∀ ad : Addr, A26 = some ad → 0 < (((rd_L2 s0_2 t240).drop ((ji12) : Int).toNat).take 4).length → ad.block ≠ g := fun ad he h_ => (by cases he; exact Kd.foot_ne (fun W_ hk_ => Kd.C_of_reads (h1 := fun _ => rfl) (hA27 _ (Kd.reads_of_C (Kd.C_foot_ne (fun h => h) HR243.out hf243 W_ hk_)))) h_ (by decide)); clear hA27 hC27 hi027 hsz27) | (go_at_call 83; (try rw [show min 4 ((rd_L2 s0_2 t240).length - (ji12 : Int).toNat) = (((rd_L2 s0_2 t240).drop ((ji12) : Int).toNat).take 4).length from by rw [List.length_take, List.length_drop]]); (with_reducible refine (impl_WordOf.calls _ _ (((rd_L2 s0_2 t240).drop ((ji12) : Int).toNat).take 4) t246 t247 _ ?side1 ?side2 A22.out).mono ?_); (case side1 => exact Kd.C_below HR245.out (lq HB.out)); (case side2 => exact HC245.out); rintro e w' ⟨rfl, ⟨nd, rfl⟩⟩; (try first | exact ⟨rfl, _, World.drewN_drewN _ _ _⟩ | exact ⟨rfl, _, Eq.trans (World.drewN_drewN _ _ _) (congrArg (World.drewN _) (Nat.add_assoc _ _ _))⟩))))
         go_ret2
         exact ⟨by first | rfl | (simp [errW_none, errW_some] <;> rfl) | (simp only [← hji12]; first | rfl | (simp [errW_none, errW_some] <;> rfl)) | (simp [*, errW_none, errW_some] <;> rfl), by repeat (first | (with_reducible first | exact HI0.out | apply IsS28.alloc | apply IsS28.drewN | apply IsS28.drew | apply IsS28.set_1) | exact HI0.out), by repeat (first | (with_reducible first | exact HB.out | apply below_alloc | apply pw_below_drewN | apply below_drew1 | refine below_set ?_ (IsS28.ge HI0.out)) | exact HB.out), by repeat (first | (with_reducible first | exact HK.out | apply KeepBut.set_ | apply keep_drewN | apply keep_drew | apply keep_alloc) | exact HK.out)⟩
        ·rw [if_neg c21] at H
         exact absurd H (by simp)
      ·rw [if_neg c14] at H
       exact absurd H (by simp)
     ·rw [if_neg c13] at H
      exact absurd H (by simp)
    ·rw [if_neg c11] at H
     exact absurd H (by simp)
   ·rw [if_neg c10] at H
    exact absurd H (by simp)
  ·rw [if_neg c9] at H
   exact absurd H (by simp)
 ·rw [if_neg c7] at H
  have c7b0 : (t239 == 0) = false := beq_eq_false_iff_ne.mpr c7
  have c7b1 : (t239 != 0) = true := bne_iff_ne.mpr c7
  simp only [Option.some.injEq, Prod.mk.injEq] at H
  obtain ⟨rfl, rfl, rfl⟩ := H
  go_enter Try.func59, Try.ntmps59
  go_wp2_with (first | (go_at_call 81; (with_reducible refine (impl_faultAt.calls k _ _ l1 a2 a3 a4 t239 _ ?side1 ?side2 A6.out).mono ?_); (case side1 => exact Kd.C_foot_now HR1.out (by repeat (first | (with_reducible first | exact HK.out | apply KeepBut.set_ | apply keep_drewN | apply keep_drew | apply keep_alloc) | exact HK.out))); (case side2 => exact HC1.out); rintro e w28 ⟨rfl, hb⟩; have n0_ := Aside0.mk (IsS28.below (by repeat (first | (with_reducible first | exact HI0.out | apply IsS28.alloc | apply IsS28.drewN | apply IsS28.drew | apply IsS28.set_1) | exact HI0.out)) hb); have n1_ := Aside0.mk (KeepBut.trans (by repeat (first | (with_reducible first | exact HK.out | apply KeepBut.set_ | apply keep_drewN | apply keep_drew | apply keep_alloc) | exact HK.out)) (KeepBut.of_below hb g none) (.inl rfl)); have n2_ := Aside0.mk (below_step (by repeat (first | (with_reducible first | exact HB.out | apply below_alloc | apply pw_below_drewN | apply below_drew1 | refine below_set ?_ (IsS28.ge HI0.out)) | exact HB.out)) hb); clear HI0; clear HK; clear HB; have HI0 := n0_; have HK := n1_; have HB := n2_; clear n0_ n1_ n2_; (try clear hb); (try clear hb2); (try clear hk); (try clear hi)))
  repeat (go_quiet (first | (go_at_call 81; (with_reducible refine (impl_faultAt.calls k _ _ l1 a2 a3 a4 t239 _ ?side1 ?side2 A6.out).mono ?_); (case side1 => exact Kd.C_foot_now HR1.out (by repeat (first | (with_reducible first | exact HK.out | apply KeepBut.set_ | apply keep_drewN | apply keep_drew | apply keep_alloc) | exact HK.out))); (case side2 => exact HC1.out); rintro e w28 ⟨rfl, hb⟩; have n0_ := Aside0.mk (IsS28.below (by repeat (first | (with_reducible first | exact HI0.out | apply IsS28.alloc | apply IsS28.drewN | apply IsS28.drew | apply IsS28.set_1) | exact HI0.out)) hb); have n1_ := Aside0.mk (KeepBut.trans (by repeat (first | (with_reducible first | exact HK.out | apply KeepBut.set_ | apply keep_drewN | apply keep_drew | apply keep_alloc) | exact HK.out)) (KeepBut.of_below hb g none) (.inl rfl)); have n2_ := Aside0.mk (below_step (by repeat (first | (with_reducible first | exact HB.out | apply below_alloc | apply pw_below_drewN | apply below_drew1 | refine below_set ?_ (IsS28.ge HI0.out)) | exact HB.out)) hb); clear HI0; clear HK; clear HB; have HI0 := n0_; have HK := n1_; have HB := n2_; clear n0_ n1_ n2_; (try clear hb); (try clear hb2); (try clear hk); (try clear hi))); try go_wp2_with (first | (go_at_call 81; (with_reducible refine (impl_faultAt.calls k _ _ l1 a2 a3 a4 t239 _ ?side1 ?side2 A6.out).mono ?_); (case side1 => exact Kd.C_foot_now HR1.out (by repeat (first | (with_reducible first | exact HK.out | apply KeepBut.set_ | apply keep_drewN | apply keep_drew | apply keep_alloc) | exact HK.out))); (case side2 => exact HC1.out); rintro e w28 ⟨rfl, hb⟩; have n0_ := Aside0.mk (IsS28.below (by repeat (first | (with_reducible first | exact HI0.out | apply IsS28.alloc | apply IsS28.drewN | apply IsS28.drew | apply IsS28.set_1) | exact HI0.out)) hb); have n1_ := Aside0.mk (KeepBut.trans (by repeat (first | (with_reducible first | exact HK.out | apply KeepBut.set_ | apply keep_drewN | apply keep_drew | apply keep_alloc) | exact HK.out)) (KeepBut.of_below hb g none) (.inl rfl)); have n2_ := Aside0.mk (below_step (by repeat (first | (with_reducible first | exact HB.out | apply below_alloc | apply pw_below_drewN | apply below_drew1 | refine below_set ?_ (IsS28.ge HI0.out)) | exact HB.out)) hb); clear HI0; clear HK; clear HB; have HI0 := n0_; have HK := n1_; have HB := n2_; clear n0_ n1_ n2_; (try clear hb); (try clear hb2); (try clear hk); (try clear hi))))
  go_ret2
  exact ⟨by first | rfl | (simp [errW_none, errW_some] <;> rfl) | (simp [*, errW_none, errW_some] <;> rfl), by repeat (first | (with_reducible first | exact HI0.out | apply IsS28.alloc | apply IsS28.drewN | apply IsS28.drew | apply IsS28.set_1) | exact HI0.out), by repeat (first | (with_reducible first | exact HB.out | apply below_alloc | apply pw_below_drewN | apply below_drew1 | refine below_set ?_ (IsS28.ge HI0.out)) | exact HB.out), by repeat (first | (with_reducible first | exact HK.out | apply KeepBut.set_ | apply keep_drewN | apply keep_drew | apply keep_alloc) | exact HK.out)⟩

/-! ### spec_l07At: function 84 -/
def spec_l07At.l0 : Nat → List (S70) → Int → Int → Option (Int)
 | 0, _, _, _ => none
 | k + 1, x0, x1, x5 => if x5 < (x0.length : Int) then (if 0 ≤ x5 then ((spec_l07Has.f ((rd_T70 x0 x5).f0) ((rd_T70 x0 x5).f1) ((rd_T70 x0 x5).f2) x1).bind fun t249 => (if t249 = true then (some x5) else (spec_l07At.l0 k x0 x1 (wrap64 (x5 + 1))))) else (none)) else (some (-1))
def spec_l07At.f (k : Nat) (l0 : List (S70)) (a1 : Int) : Option (Int) := spec_l07At.l0 k l0 a1 0
theorem spec_l07At.mono_l : ∀ k, (∀ y0 y1 y2, LeO (spec_l07At.l0 k y0 y1 y2) (spec_l07At.l0 (k + 1) y0 y1 y2))
 | 0 => fun _ _ _ r h => by simp [spec_l07At.l0] at h
 | k + 1 => by
  have ih0 := spec_l07At.mono_l k
  ·intro y0 y1 y2
   unfold spec_l07At.l0
   repeat' first
   | (with_reducible exact ih0 _ _ _)
   | (with_reducible exact LeO.refl _)
   | (with_reducible exact LeO.none _)
   | (with_reducible refine LeO.ite ?_ ?_)
   | (with_reducible refine LeO.bind ?_ (fun _ => ?_))
   | exact ih0 _ _ _
   | exact LeO.none _
   | refine LeO.ite ?_ ?_
   | refine LeO.bind ?_ (fun _ => ?_)
theorem spec_l07At.mono : ∀ a0 a1 k, LeO (spec_l07At.f k a0 a1) (spec_l07At.f (k + 1) a0 a1) := by
 intro a0 a1 k
 have ih0 := spec_l07At.mono_l k
 unfold spec_l07At.f
 repeat' first
   | (with_reducible exact ih0 _ _ _)
   | (with_reducible exact LeO.refl _)
   | (with_reducible exact LeO.none _)
   | (with_reducible refine LeO.ite ?_ ?_)
   | (with_reducible refine LeO.bind ?_ (fun _ => ?_))
   | exact ih0 _ _ _
   | exact LeO.none _
   | refine LeO.ite ?_ ?_
   | refine LeO.bind ?_ (fun _ => ?_)
set_option maxHeartbeats 8000000 in
set_option maxRecDepth 100000 in
theorem spec_l07At.calls (k : Nat) (A0 : Option Addr) (c0 : Nat) (l0 : List (S70)) (a1 : Int) (r : Int) (w : World) (hr0 : Kd.C k70 w A0 l0.length l0) (hc0 : l0.length ≤ c0) (h : spec_l07At.f k l0 a1 = some r) :
  Calls Try.prog 84 #[.slice A0 l0.length c0, .int .i64 a1] w fun e w' => e = .returned (.int .i64 r) ∧ Below w.heap.size w w' := by
 have hu70 := Try.underlying70
 have HR0 := Aside0.mk hr0
 have HC0 := Aside0.mk hc0
 clear hr0 hc0
 have HB := Aside0.mk (Below.refl w.heap.size w)
 have H : (spec_l07At.l0 k l0 a1 0) = some r := h
 clear h
 have H' := Aside0.mk H
 clear H
 go_enter Try.func84, Try.ntmps84
 go_wp2
 go_loopg [5] k (fun kq v5 w' => ∃ (x5_1 : Int), v5 = .int .i64 x5_1 ∧ Aside0 (spec_l07At.l0 kq l0 a1 x5_1 = some r) ∧ Aside0 (kq ≤ k) ∧ Aside0 (Below w.heap.size w w'))
 case atStart => exact ⟨(0), (by first | rfl | (simp; done) | (simp [*]; done)), H', ⟨Nat.le_refl _⟩, ⟨by exact lq HB.out⟩⟩
 case round =>
  clear H'
  try clear p2
  obtain ⟨x5_1, rfl, HA, HK1, HB⟩ := hrel
  cases gk with
  | zero => exact absurd HA.out (by simp [spec_l07At.l0])
  | succ k1 =>
   have H := HA.out
   clear HA
   simp only [spec_l07At.l0] at H
   by_cases c3 : x5_1 < (l0.length : Int)
   ·rw [if_pos c3] at H
    have c3b0 : decide (x5_1 < (l0.length : Int)) = true := decide_eq_true c3
    clear c3
    by_cases c4 : 0 ≤ x5_1
    ·rw [if_pos c4] at H
     have c4b0 : decide (0 ≤ x5_1) = true := decide_eq_true c4
     clear c4
     replace H := Option.bind_eq_some_iff.mp H
     obtain ⟨t249, A50, H⟩ := H
     (try dsimp only at H)
     have A5 := Aside0.mk A50
     clear A50
     by_cases c6 : t249 = true
     ·subst c6
      rw [if_pos rfl] at H
      obtain rfl := Option.some.inj H
      have p248 : 0 ≤ (x5_1 : Int) := of_decide_eq_true (by first | (with_reducible assumption) | assumption)
      have q248 : x5_1 < (l0.length : Int) := of_decide_eq_true (by first | (with_reducible assumption) | assumption)
      obtain ⟨ad248, e248, hx248_0, hx248_1, hx248_2⟩ := at_T70 HR0.out x5_1 p248 q248
      cases e248
      replace hx248_0 := (HB.out.cell (World.block_lt_of_cell? w _ hx248_0)).trans hx248_0
      replace hx248_1 := (HB.out.cell (World.block_lt_of_cell? w _ hx248_1)).trans hx248_1
      replace hx248_2 := (HB.out.cell (World.block_lt_of_cell? w _ hx248_2)).trans hx248_2
      replace p248 := eq_true p248
      replace q248 := eq_true q248
      go_wp2_with (first | ((with_reducible refine gate_callee (f := 92) rfl ?_); refine goesL_ (some 17) rfl rfl Try.func92 (by kernel_rfl) rfl #[.agg #[.int .i64 ((rd_T70 l0 x5_1).f0), .int .i64 ((rd_T70 l0 x5_1).f1), .int .i64 ((rd_T70 l0 x5_1).f2)], .int .i64 a1] rfl (by (try simp only [List.map_toArray, List.map_cons, List.map_nil]); first | done | rfl | (simp only [List.length_drop, List.length_take]; rfl)) ?_; (with_reducible refine (spec_l07Has.calls ((rd_T70 l0 x5_1).f0) ((rd_T70 l0 x5_1).f1) ((rd_T70 l0 x5_1).f2) a1 true _ A5.out).mono ?_); rintro e w7 ⟨rfl, hb⟩; refine ⟨_, rfl, ?_⟩; have n0_ := Aside0.mk (below_step (lq HB.out) hb); clear HB; have HB := n0_; clear n0_; (try clear hb); (try clear hb2); (try clear hk); (try clear hi)))
      go_ret
      exact ⟨by first | rfl | (simp [errW_none, errW_some] <;> rfl) | (simp [*, errW_none, errW_some] <;> rfl), by exact lq HB.out⟩
     ·replace c6 := Bool.eq_false_iff.mpr c6
      subst c6
      rw [if_neg (show ¬ (false = true) by decide)] at H
      have H' := Aside0.mk H
      clear H
      have p248 : 0 ≤ (x5_1 : Int) := of_decide_eq_true (by first | (with_reducible assumption) | assumption)
      have q248 : x5_1 < (l0.length : Int) := of_decide_eq_true (by first | (with_reducible assumption) | assumption)
      obtain ⟨ad248, e248, hx248_0, hx248_1, hx248_2⟩ := at_T70 HR0.out x5_1 p248 q248
      cases e248
      replace hx248_0 := (HB.out.cell (World.block_lt_of_cell? w _ hx248_0)).trans hx248_0
      replace hx248_1 := (HB.out.cell (World.block_lt_of_cell? w _ hx248_1)).trans hx248_1
      replace hx248_2 := (HB.out.cell (World.block_lt_of_cell? w _ hx248_2)).trans hx248_2
      replace p248 := eq_true p248
      replace q248 := eq_true q248
      go_wp2_with (first | ((with_reducible refine gate_callee (f := 92) rfl ?_); refine goesL_ (some 17) rfl rfl Try.func92 (by kernel_rfl) rfl #[.agg #[.int .i64 ((rd_T70 l0 x5_1).f0), .int .i64 ((rd_T70 l0 x5_1).f1), .int .i64 ((rd_T70 l0 x5_1).f2)], .int .i64 a1] rfl (by (try simp only [List.map_toArray, List.map_cons, List.map_nil]); first | done | rfl | (simp only [List.length_drop, List.length_take]; rfl)) ?_; (with_reducible refine (spec_l07Has.calls ((rd_T70 l0 x5_1).f0) ((rd_T70 l0 x5_1).f1) ((rd_T70 l0 x5_1).f2) a1 false _ A5.out).mono ?_); rintro e w8 ⟨rfl, hb⟩; refine ⟨_, rfl, ?_⟩; have n0_ := Aside0.mk (below_step (lq HB.out) hb); clear HB; have HB := n0_; clear n0_; (try clear hb); (try clear hb2); (try clear hk); (try clear hi)))
      go_roundg k1
      case measure => have := HK1.out; omega
      case rel => exact ⟨(wrap64 (x5_1 + 1)), (by first | rfl | (simp; done) | (simp [*]; done)), H', ⟨by have := HK1.out; omega⟩, ⟨by exact lq HB.out⟩⟩
    ·rw [if_neg c4] at H
     exact absurd H (by simp)
   ·rw [if_neg c3] at H
    have c3b0 : decide (x5_1 < (l0.length : Int)) = false := decide_eq_false c3
    clear c3
    obtain rfl := Option.some.inj H
    go_wp2
    go_ret
    exact ⟨by first | rfl | (simp [errW_none, errW_some] <;> rfl) | (simp [*, errW_none, errW_some] <;> rfl), by exact lq HB.out⟩

end Go.Proofs.Ytbcpkigeginmnaa.GF
