/- Told by a program of this session, out of the translation: each function of the group as a plain Lean function, and that Go's call comes to just its answer. Lean checks it. -/
import Derived.Test.YtampcamihaleaaaGDx0
import Derived.Test.YtampcamihaleaaaGDx6
namespace Go.Proofs.Ytampcamihaleaaa.GD
open Go.RowKit Go.Proofs.YtampcamihaleaaaW.PrintWords Go.Proofs.YtampcamihaleaaaW.PrintLast Go.Proofs.YtampcamihaleaaaW.PrintMore Go.Proofs.Ytampcamihaleaaa.Q
attribute [local go_sem] max2_int min2_int max_two min_two max_three min_three max_four min_four   -- for this text's walks alone
set_option linter.unusedVariables false
set_option linter.unusedSimpArgs false

/-! ### spec_l07Windows: function 52 -/
def spec_l07Windows.l0 : Nat → Int → List (S41) → Int → Int → List Int → Int → Int → Option ((List (S41)) × Int × Int)
 | 0, _, _, _, _, _, _, _ => none
 | k + 1, x1, x5, x6, x7, x1000, x1001, x1002 => if x7 < x1 then ((spec_l01Below.f x1000 x1001 x1002 24).bind fun bt248 => ((spec_l01PickInt.f x1000 bt248.2.1 bt248.2.2 (([3, 5, 1, 7, 4, 2, 6, 3] : List Int))).bind fun bt254 => (if x5.length < 5864062014805 then ((spec_l01PickInt.f x1000 bt254.2.1 bt254.2.2 (([0, 0, 1, 9] : List Int))).bind fun bt264 => (spec_l07Windows.l0 k x1 (x5 ++ [(⟨x6, wrap64 (4 * (wrap64 (1 + bt248.1))), bt254.1⟩ : S41)]) (wrap64 ((wrap64 (x6 + (wrap64 (4 * (wrap64 (1 + bt248.1)))))) + (wrap64 (4 * bt264.1)))) (wrap64 (x7 + 1)) x1000 bt264.2.1 bt264.2.2)) else (none)))) else (if x1 > 1 then ((spec_l01Once.f x1000 x1001 x1002 3).bind fun bt267 => (if bt267.1 = true then (if 0 < (x5.length : Int) then (if 0 ≤ (wrap64 (x1 - 1)) then (if (wrap64 (x1 - 1)) < (x5.length : Int) then (some (((x5.set (0 : Int).toNat (⟨(rd_T41 x5 (wrap64 (x1 - 1))).f0, (rd_T41 x5 (wrap64 (x1 - 1))).f1, (rd_T41 x5 (wrap64 (x1 - 1))).f2⟩ : S41)).set ((wrap64 (x1 - 1)) : Int).toNat (⟨(rd_T41 x5 0).f0, (rd_T41 x5 0).f1, (rd_T41 x5 0).f2⟩ : S41)), bt267.2.1, bt267.2.2)) else (none)) else (none)) else (none)) else (some (x5, bt267.2.1, bt267.2.2)))) else (some (x5, x1001, x1002)))
def spec_l07Windows.f (k : Nat) (s0_0 : List Int) (s0_1 : Int) (s0_2 : Int) (a1 : Int) : Option ((List (S41)) × Int × Int) := (spec_l01Below.f s0_0 s0_1 s0_2 20).bind fun bt245 => (spec_l07Windows.l0 k a1 (([] : List (S41))) (wrap64 (4 * bt245.1)) 0 s0_0 bt245.2.1 bt245.2.2)
theorem spec_l07Windows.mono_l : ∀ k, (∀ y0 y1 y2 y3 y4 y5 y6, LeO (spec_l07Windows.l0 k y0 y1 y2 y3 y4 y5 y6) (spec_l07Windows.l0 (k + 1) y0 y1 y2 y3 y4 y5 y6))
 | 0 => fun _ _ _ _ _ _ _ r h => by simp [spec_l07Windows.l0] at h
 | k + 1 => by
  have ih0 := spec_l07Windows.mono_l k
  ·intro y0 y1 y2 y3 y4 y5 y6
   unfold spec_l07Windows.l0
   repeat' first
   | (with_reducible exact ih0 _ _ _ _ _ _ _)
   | (with_reducible exact LeO.refl _)
   | (with_reducible exact LeO.none _)
   | (with_reducible refine LeO.ite ?_ ?_)
   | (with_reducible refine LeO.bind ?_ (fun _ => ?_))
   | exact ih0 _ _ _ _ _ _ _
   | exact LeO.none _
   | refine LeO.ite ?_ ?_
   | refine LeO.bind ?_ (fun _ => ?_)
theorem spec_l07Windows.mono : ∀ a0 a1 a2 a3 k, LeO (spec_l07Windows.f k a0 a1 a2 a3) (spec_l07Windows.f (k + 1) a0 a1 a2 a3) := by
 intro a0 a1 a2 a3 k
 have ih0 := spec_l07Windows.mono_l k
 unfold spec_l07Windows.f
 repeat' first
   | (with_reducible exact ih0 _ _ _ _ _ _ _)
   | (with_reducible exact LeO.refl _)
   | (with_reducible exact LeO.none _)
   | (with_reducible refine LeO.ite ?_ ?_)
   | (with_reducible refine LeO.bind ?_ (fun _ => ?_))
   | exact ih0 _ _ _ _ _ _ _
   | exact LeO.none _
   | refine LeO.ite ?_ ?_
   | refine LeO.bind ?_ (fun _ => ?_)
def spec_l07Windows.T8 : Bool × List (List Nat × List Nat) := (true, [([], []), ([], []), ([1], [1]), ([0, 2], [0, 2]), ([], []), ([], []), ([4, 5], [4, 5]), ([6], [6]), ([3, 7], [3, 7]), ([8, 6, 0, 1, 2, 3, 4, 5, 6, 7, 8], [0, 8])])
def spec_l07Windows.B8 : List Nat := [0, 0, 2, 7, 0, 0, 48, 112, 255, 511]
theorem spec_l07Windows.tab8 : rtab .any (opsOf Try.f52 8) = spec_l07Windows.T8 := by kernel_rfl
theorem spec_l07Windows.bits8 : waitsOk spec_l07Windows.T8.2 spec_l07Windows.B8 = true := by kernel_rfl
def spec_l07Windows.T10 : Bool × List (List Nat × List Nat) := (true, [([], []), ([0], [0]), ([1], [1]), ([], []), ([], []), ([4], [4]), ([3, 5], [3, 5]), ([6], [6]), ([], []), ([], []), ([8, 2, 0, 1, 2, 8, 9], [2, 8]), ([9, 7, 10, 0, 1, 2, 3, 4, 5, 6, 7, 8, 9, 10], [7, 9])])
def spec_l07Windows.B10 : List Nat := [0, 1, 3, 0, 0, 16, 56, 120, 0, 0, 775, 2047]
theorem spec_l07Windows.tab10 : rtab .any (opsOf Try.f52 10) = spec_l07Windows.T10 := by kernel_rfl
theorem spec_l07Windows.bits10 : waitsOk spec_l07Windows.T10.2 spec_l07Windows.B10 = true := by kernel_rfl
set_option maxHeartbeats 8000000 in
set_option maxRecDepth 100000 in
theorem spec_l07Windows.calls (k : Nat) (g : Nat) (s0_0 : List Int) (s0_1 : Int) (s0_2 : Int) (a1 : Int) (r1 : List (S41)) (r2 : Int) (r3 : Int) (w0 w : World) (hI : IsS60 w0 w g s0_0 s0_1 s0_2) (hB : Below w0.heap.size w0 w) (h : spec_l07Windows.f k s0_0 s0_1 s0_2 a1 = some (r1, r2, r3)) :
  Calls Try.prog 52 #[.pointer (some ⟨g, 0, none⟩), .int .i64 a1] w fun e w' => ∃ v0_ : Value, e = .returned (v0_) ∧ Kd.R k41 41 w' w.heap.size (fun _ => True) v0_ r1 ∧ IsS60 w0 w' g s0_0 r2 r3 ∧ Below w0.heap.size w0 w' ∧ KeepBut w w' g none := by
 have hu41 := Try.underlying41
 have HI0 := Aside0.mk hI
 have HK := Aside0.mk (KeepBut.refl w g none)
 have HL := Aside0.mk hB.size
 clear hI
 have HW0 := Aside0.mk hB.size
 have HB := Aside0.mk hB
 clear hB
 have H : ((spec_l01Below.f s0_0 s0_1 s0_2 20).bind fun bt245 => (spec_l07Windows.l0 k a1 (([] : List (S41))) (wrap64 (4 * bt245.1)) 0 s0_0 bt245.2.1 bt245.2.2)) = some (r1, r2, r3) := h
 clear h
 obtain ⟨y242, hy242⟩ : ∃ y_ : List (S41), y_ = (([] : List (S41))) := ⟨_, rfl⟩
 replace H : ((spec_l01Below.f s0_0 s0_1 s0_2 20).bind fun bt245 => (spec_l07Windows.l0 k a1 y242 (wrap64 (4 * bt245.1)) 0 s0_0 bt245.2.1 bt245.2.2)) = some (r1, r2, r3) := by first | (rw [hy242]; with_reducible exact H) | (have H2_ := (Option.bind_some _ _).symm.trans H; rw [hy242]; with_reducible exact H2_) | (have H2_ := (Option.bind_some _ _).symm.trans H; with_reducible exact H2_) | with_reducible exact H | (rw [hy242]; exact H) | exact H
 have Ny242 := Aside0.mk hy242
 clear hy242
 replace H := Option.bind_eq_some_iff.mp H
 obtain ⟨⟨t245, t246, t247⟩, A30, H⟩ := H
 (try dsimp only at H)
 have A3 := Aside0.mk A30
 clear A30
 have H' := Aside0.mk H
 clear H
 go_enter Try.func52, Try.ntmps52
 go_wp2_with (first | ((with_reducible refine gate_dst (N := 11) rfl ?_); refine Kd.R_lit k41 _ 41 ?hg (N := 11) ?hd (xs := ([] : List (S41))) (inner := []) (ok := fun _ => True) (okp := fun _ => True) ?hr ?hp (fun _ hk => hk) trivial (Below.refl _ _) (Nat.le_refl _) (by simp) ?_; (case hd => rfl); (case hg => rfl); (case hr => first | (go_simp; done) | (go_simp; rfl)); (case hp => exact (Reps.none _ _)); intro v243 w4 ho5 hb hg_ hnew_; clear hg_ hnew_; (first | rw [← Ny242.out] at ho5 | (simp only [Int.reduceToNat] at ho5; rw [← Ny242.out] at ho5)); have n0_ := Aside0.mk (Kd.R_lower ho5 (keep_size (w := w) (g := g) (row := none) (by repeat (first | (with_reducible first | exact HK.out | apply KeepBut.set_ | apply keep_drewN | apply keep_drew | apply keep_alloc) | exact HK.out)))); have n1_ := Aside0.mk (IsS60.below (by repeat (first | (with_reducible first | exact HI0.out | apply IsS60.alloc | apply IsS60.drewN | apply IsS60.drew | apply IsS60.set_1 | apply IsS60.set_2) | exact HI0.out)) hb); have n2_ := Aside0.mk (KeepBut.trans (by repeat (first | (with_reducible first | exact HK.out | apply KeepBut.set_ | apply keep_drewN | apply keep_drew | apply keep_alloc) | exact HK.out)) (KeepBut.of_below hb g none) (.inl rfl)); have n3_ := Aside0.mk (below_step (by repeat (first | (with_reducible first | exact HB.out | apply below_alloc | apply pw_below_drewN | apply below_drew1 | refine below_set ?_ (IsS60.ge HI0.out)) | exact HB.out)) hb); clear HI0; clear HK; clear HB; have HO244 := n0_; have HI0 := n1_; have HK := n2_; have HB := n3_; clear n0_ n1_ n2_ n3_; clear hb ho5) | ((with_reducible refine gate_callee (f := 44) rfl ?_); refine goesL_ (some 13) rfl rfl Try.func44 (by kernel_rfl) rfl #[.pointer (some ⟨g, 0, none⟩), .int .i64 20] rfl (by (try simp only [List.map_toArray, List.map_cons, List.map_nil]); first | done | rfl | (simp only [List.length_drop, List.length_take]; rfl)) ?_; (with_reducible refine (spec_l01Below.calls g s0_0 s0_1 s0_2 20 t245 t246 t247 w0 _ ?side1 ?side2 A3.out).mono ?_); (case side1 => repeat (first | (with_reducible first | exact HI0.out | apply IsS60.alloc | apply IsS60.drewN | apply IsS60.drew | apply IsS60.set_1 | apply IsS60.set_2) | exact HI0.out)); (case side2 => repeat (first | (with_reducible first | exact HB.out | apply below_alloc | apply pw_below_drewN | apply below_drew1 | refine below_set ?_ (IsS60.ge HI0.out)) | exact HB.out)); rintro e w6 ⟨rfl, hi, hb, hk⟩; refine ⟨_, rfl, ?_⟩; have n0_ := Aside0.mk (Kd.R_mono (Kd.R_keep (IsS60.apart (show IsS60 w0 _ g s0_0 s0_1 s0_2 from by repeat (first | (with_reducible first | exact HI0.out | apply IsS60.alloc | apply IsS60.drewN | apply IsS60.drew | apply IsS60.set_1 | apply IsS60.set_2) | exact HI0.out)) (rq HO244.out) (by decide)) hk (fun _ h => h.2)) (fun _ h => h.1)); have n1_ := Aside0.mk (KeepBut.trans (by repeat (first | (with_reducible first | exact HK.out | apply KeepBut.set_ | apply keep_drewN | apply keep_drew | apply keep_alloc) | exact HK.out)) hk (.inl rfl)); have n2_ := Aside0.mk (hb); have n3_ := Aside0.mk (hi); clear HO244; clear HK; clear HB; clear HI0; have HO244 := n0_; have HK := n1_; have HB := n2_; have HI0 := n3_; clear n0_ n1_ n2_ n3_; (try clear hb); (try clear hb2); (try clear hk); (try clear hi)))
 go_loopg [5, 6, 7] k (fun kq v5 v6 v7 w' => ∃ (x5_1 : List (S41)) (x6_1 : Int) (x7_1 : Int) (x1001_1 : Int) (x1002_1 : Int), v6 = .int .i64 x6_1 ∧ v7 = .int .i64 x7_1 ∧ Aside0 (spec_l07Windows.l0 kq a1 x5_1 x6_1 x7_1 s0_0 x1001_1 x1002_1 = some (r1, r2, r3)) ∧ Aside0 (kq ≤ k) ∧ Aside0 (Kd.R k41 41 w' w.heap.size (fun _ => True) v5 x5_1) ∧ Aside0 (IsS60 w0 w' g s0_0 x1001_1 x1002_1) ∧ Aside0 (KeepBut w w' g none) ∧ Aside0 (Below w0.heap.size w0 w'))
 case atStart => exact ⟨(y242), (wrap64 (4 * t245)), (0), (t246), (t247), (by first | rfl | (simp; done) | (simp [*]; done)), (by first | rfl | (simp; done) | (simp [*]; done)), H', ⟨Nat.le_refl _⟩, ⟨by (with_reducible repeat (first | apply Kd.R_alloc | apply Kd.R_drewN | apply Kd.R_drew)); exact HO244.out⟩, ⟨by repeat (first | (with_reducible first | exact HI0.out | apply IsS60.alloc | apply IsS60.drewN | apply IsS60.drew | apply IsS60.set_1 | apply IsS60.set_2) | exact HI0.out)⟩, ⟨by repeat (first | (with_reducible first | exact HK.out | apply KeepBut.set_ | apply keep_drewN | apply keep_drew | apply keep_alloc) | exact HK.out)⟩, ⟨by repeat (first | (with_reducible first | exact HB.out | apply below_alloc | apply pw_below_drewN | apply below_drew1 | refine below_set ?_ (IsS60.ge HI0.out)) | exact HB.out)⟩⟩
 case round =>
  clear H'
  try clear p2
  try clear c4
  try clear c5
  try clear p6
  obtain ⟨x5_1, x6_1, x7_1, x1001_1, x1002_1, rfl, rfl, HA, HK1, HO_5, HI0, HK, HB⟩ := hrel
  cases gk with
  | zero => exact absurd HA.out (by simp [spec_l07Windows.l0])
  | succ k1 =>
   have H := HA.out
   clear HA
   simp only [spec_l07Windows.l0] at H
   by_cases c7 : x7_1 < a1
   ·rw [if_pos c7] at H
    have c7b0 : decide (x7_1 < a1) = true := decide_eq_true c7
    clear c7
    replace H := Option.bind_eq_some_iff.mp H
    obtain ⟨⟨t248, t249, t250⟩, A80, H⟩ := H
    (try dsimp only at H)
    have A8 := Aside0.mk A80
    clear A80
    obtain ⟨y251, hy251⟩ : ∃ y_ : List Int, y_ = (([3, 5, 1, 7, 4, 2, 6, 3] : List Int)) := ⟨_, rfl⟩
    replace H : ((spec_l01PickInt.f s0_0 t249 t250 y251).bind fun bt254 => (if x5_1.length < 5864062014805 then ((spec_l01PickInt.f s0_0 bt254.2.1 bt254.2.2 (([0, 0, 1, 9] : List Int))).bind fun bt264 => (spec_l07Windows.l0 k1 a1 (x5_1 ++ [(⟨x6_1, wrap64 (4 * (wrap64 (1 + t248))), bt254.1⟩ : S41)]) (wrap64 ((wrap64 (x6_1 + (wrap64 (4 * (wrap64 (1 + t248)))))) + (wrap64 (4 * bt264.1)))) (wrap64 (x7_1 + 1)) s0_0 bt264.2.1 bt264.2.2)) else (none))) = some (r1, r2, r3) := by first | (rw [hy251]; with_reducible exact H) | (have H2_ := (Option.bind_some _ _).symm.trans H; rw [hy251]; with_reducible exact H2_) | (have H2_ := (Option.bind_some _ _).symm.trans H; with_reducible exact H2_) | with_reducible exact H | (rw [hy251]; exact H) | exact H
    have Ny251 := Aside0.mk hy251
    clear hy251
    replace H := Option.bind_eq_some_iff.mp H
    obtain ⟨⟨t254, t255, t256⟩, A90, H⟩ := H
    (try dsimp only at H)
    have A9 := Aside0.mk A90
    clear A90
    by_cases c10 : x5_1.length < 5864062014805
    ·rw [if_pos c10] at H
     have LMc10 := Aside0.mk c10
     clear c10
     obtain ⟨y258, hy258⟩ : ∃ y_ : List (S41), y_ = (x5_1 ++ [(⟨x6_1, wrap64 (4 * (wrap64 (1 + t248))), t254⟩ : S41)]) := ⟨_, rfl⟩
     replace H : ((spec_l01PickInt.f s0_0 t255 t256 (([0, 0, 1, 9] : List Int))).bind fun bt264 => (spec_l07Windows.l0 k1 a1 y258 (wrap64 ((wrap64 (x6_1 + (wrap64 (4 * (wrap64 (1 + t248)))))) + (wrap64 (4 * bt264.1)))) (wrap64 (x7_1 + 1)) s0_0 bt264.2.1 bt264.2.2)) = some (r1, r2, r3) := by first | (rw [hy258]; with_reducible exact H) | (have H2_ := (Option.bind_some _ _).symm.trans H; rw [hy258]; with_reducible exact H2_) | (have H2_ := (Option.bind_some _ _).symm.trans H; with_reducible exact H2_) | with_reducible exact H | (rw [hy258]; exact H) | exact H
     have Ny258 := Aside0.mk hy258
     clear hy258
     obtain ⟨y261, hy261⟩ : ∃ y_ : List Int, y_ = (([0, 0, 1, 9] : List Int)) := ⟨_, rfl⟩
     replace H : ((spec_l01PickInt.f s0_0 t255 t256 y261).bind fun bt264 => (spec_l07Windows.l0 k1 a1 y258 (wrap64 ((wrap64 (x6_1 + (wrap64 (4 * (wrap64 (1 + t248)))))) + (wrap64 (4 * bt264.1)))) (wrap64 (x7_1 + 1)) s0_0 bt264.2.1 bt264.2.2)) = some (r1, r2, r3) := by first | (rw [hy261]; with_reducible exact H) | (have H2_ := (Option.bind_some _ _).symm.trans H; rw [hy261]; with_reducible exact H2_) | (have H2_ := (Option.bind_some _ _).symm.trans H; with_reducible exact H2_) | with_reducible exact H | (rw [hy261]; exact H) | exact H
     have Ny261 := Aside0.mk hy261
     clear hy261
     replace H := Option.bind_eq_some_iff.mp H
     obtain ⟨⟨t264, t265, t266⟩, A110, H⟩ := H
     (try dsimp only at H)
     have A11 := Aside0.mk A110
     clear A110
     have H' := Aside0.mk H
     clear H
     try go_wp2_with (first | ((with_reducible refine gate_callee (f := 44) rfl ?_); refine goesL_ (some 22) rfl rfl Try.func44 (by kernel_rfl) rfl #[.pointer (some ⟨g, 0, none⟩), .int .i64 24] rfl (by (try simp only [List.map_toArray, List.map_cons, List.map_nil]); first | done | rfl | (simp only [List.length_drop, List.length_take]; rfl)) ?_; (with_reducible refine (spec_l01Below.calls g s0_0 x1001_1 x1002_1 24 t248 t249 t250 w0 _ ?side1 ?side2 A8.out).mono ?_); (case side1 => repeat (first | (with_reducible first | exact HI0.out | apply IsS60.alloc | apply IsS60.drewN | apply IsS60.drew | apply IsS60.set_1 | apply IsS60.set_2) | exact HI0.out)); (case side2 => repeat (first | (with_reducible first | exact HB.out | apply below_alloc | apply pw_below_drewN | apply below_drew1 | refine below_set ?_ (IsS60.ge HI0.out)) | exact HB.out)); rintro e w12 ⟨rfl, hi, hb, hk⟩; refine ⟨_, rfl, ?_⟩; have n0_ := Aside0.mk (Kd.R_mono (Kd.R_keep (IsS60.apart (show IsS60 w0 _ g s0_0 x1001_1 x1002_1 from by repeat (first | (with_reducible first | exact HI0.out | apply IsS60.alloc | apply IsS60.drewN | apply IsS60.drew | apply IsS60.set_1 | apply IsS60.set_2) | exact HI0.out)) (rq HO_5.out) (by decide)) hk (fun _ h => h.2)) (fun _ h => h.1)); have n1_ := Aside0.mk (KeepBut.trans (by repeat (first | (with_reducible first | exact HK.out | apply KeepBut.set_ | apply keep_drewN | apply keep_drew | apply keep_alloc) | exact HK.out)) hk (.inl rfl)); have n2_ := Aside0.mk (hb); have n3_ := Aside0.mk (hi); clear HO_5; clear HK; clear HB; clear HI0; have HO_5 := n0_; have HK := n1_; have HB := n2_; have HI0 := n3_; clear n0_ n1_ n2_ n3_; (try clear hb); (try clear hb2); (try clear hk); (try clear hi)) | ((with_reducible refine gate_dst (N := 26) rfl ?_); refine Kd.R_lit (Kd.int .i64) _ 3 ?hg (N := 26) ?hd (xs := ([3, 5, 1, 7, 4, 2, 6, 3] : List Int)) (inner := [.int .i64 3, .int .i64 5, .int .i64 1, .int .i64 7, .int .i64 4, .int .i64 2, .int .i64 6, .int .i64 3]) (ok := fun _ => True) (okp := fun _ => True) ?hr ?hp (fun _ hk => hk) trivial (Below.refl _ _) (Nat.le_refl _) (by simp) ?_; (case hd => rfl); (case hg => rfl); (case hr => first | (go_simp; done) | (go_simp; rfl)); (case hp => exact (Reps.one (show Kd.M (Kd.int .i64) _ _ _ 3 [.int .i64 3] from rfl) (Reps.one (show Kd.M (Kd.int .i64) _ _ _ 5 [.int .i64 5] from rfl) (Reps.one (show Kd.M (Kd.int .i64) _ _ _ 1 [.int .i64 1] from rfl) (Reps.one (show Kd.M (Kd.int .i64) _ _ _ 7 [.int .i64 7] from rfl) (Reps.one (show Kd.M (Kd.int .i64) _ _ _ 4 [.int .i64 4] from rfl) (Reps.one (show Kd.M (Kd.int .i64) _ _ _ 2 [.int .i64 2] from rfl) (Reps.one (show Kd.M (Kd.int .i64) _ _ _ 6 [.int .i64 6] from rfl) (Reps.one (show Kd.M (Kd.int .i64) _ _ _ 3 [.int .i64 3] from rfl) (Reps.none _ _)))))))))); intro v252 w13 ho14 hb hg_ hnew_; clear hg_ hnew_; (first | rw [← Ny251.out] at ho14 | (simp only [Int.reduceToNat] at ho14; rw [← Ny251.out] at ho14)); have n0_ := Aside0.mk (Kd.R_below (rq HO_5.out) hb); have n1_ := Aside0.mk (Kd.R_lower ho14 (keep_size (w := w) (g := g) (row := none) (by repeat (first | (with_reducible first | exact HK.out | apply KeepBut.set_ | apply keep_drewN | apply keep_drew | apply keep_alloc) | exact HK.out)))); have n2_ := Aside0.mk (IsS60.below (by repeat (first | (with_reducible first | exact HI0.out | apply IsS60.alloc | apply IsS60.drewN | apply IsS60.drew | apply IsS60.set_1 | apply IsS60.set_2) | exact HI0.out)) hb); have n3_ := Aside0.mk (KeepBut.trans (by repeat (first | (with_reducible first | exact HK.out | apply KeepBut.set_ | apply keep_drewN | apply keep_drew | apply keep_alloc) | exact HK.out)) (KeepBut.of_below hb g none) (.inl rfl)); have n4_ := Aside0.mk (below_step (by repeat (first | (with_reducible first | exact HB.out | apply below_alloc | apply pw_below_drewN | apply below_drew1 | refine below_set ?_ (IsS60.ge HI0.out)) | exact HB.out)) hb); clear HO_5; clear HI0; clear HK; clear HB; have HO_5 := n0_; have HO253 := n1_; have HI0 := n2_; have HK := n3_; have HB := n4_; clear n0_ n1_ n2_ n3_ n4_; clear hb ho14; obtain ⟨Ao15, co15, eo15⟩ := Kd.R_slice HO253.out; subst eo15) | ((with_reducible refine gate_callee (f := 43) rfl ?_); refine goesL_ (some 27) rfl rfl Try.func43 (by kernel_rfl) rfl #[.pointer (some ⟨g, 0, none⟩), .slice Ao15 y251.length co15] rfl (by (try simp only [List.map_toArray, List.map_cons, List.map_nil]); first | done | rfl | (simp only [List.length_drop, List.length_take]; rfl)) ?_; (with_reducible refine (spec_l01PickInt.calls g s0_0 t249 t250 _ _ y251 t254 t255 t256 w0 _ ?side1 ?side2 ?side3 ?side4 ?side5 A9.out).mono ?_); (case side1 => repeat (first | (with_reducible first | exact HI0.out | apply IsS60.alloc | apply IsS60.drewN | apply IsS60.drew | apply IsS60.set_1 | apply IsS60.set_2) | exact HI0.out)); (case side2 => repeat (first | (with_reducible first | exact HB.out | apply below_alloc | apply pw_below_drewN | apply below_drew1 | refine below_set ?_ (IsS60.ge HI0.out)) | exact HB.out)); (case side3 => repeat (first | exact (Kd.R_reads' HO253.out).2.2 | (with_reducible refine Kd.C_alloc ?_ _) | (with_reducible refine Kd.C_drewN ?_ _) | (with_reducible refine Kd.C_drew ?_))); (case side4 => exact (Kd.R_reads' HO253.out).2.1); (case side5 => exact far_slice (IsS60.own_ne HI0.out HO253.out (by decide))); rintro e w16 ⟨rfl, hi, hb, hk⟩; refine ⟨_, rfl, ?_⟩; have n0_ := Aside0.mk (Kd.R_mono (Kd.R_keep (IsS60.apart (show IsS60 w0 _ g s0_0 t249 t250 from by repeat (first | (with_reducible first | exact HI0.out | apply IsS60.alloc | apply IsS60.drewN | apply IsS60.drew | apply IsS60.set_1 | apply IsS60.set_2) | exact HI0.out)) (rq HO_5.out) (by decide)) hk (fun _ h => h.2)) (fun _ h => h.1)); have n1_ := Aside0.mk (Kd.R_mono (Kd.R_keep (IsS60.apart (show IsS60 w0 _ g s0_0 t249 t250 from by repeat (first | (with_reducible first | exact HI0.out | apply IsS60.alloc | apply IsS60.drewN | apply IsS60.drew | apply IsS60.set_1 | apply IsS60.set_2) | exact HI0.out)) (rq HO253.out) (by decide)) hk (fun _ h => h.2)) (fun _ h => h.1)); have n2_ := Aside0.mk (KeepBut.trans (by repeat (first | (with_reducible first | exact HK.out | apply KeepBut.set_ | apply keep_drewN | apply keep_drew | apply keep_alloc) | exact HK.out)) hk (.inl rfl)); have n3_ := Aside0.mk (hb); have n4_ := Aside0.mk (hi); clear HO_5; clear HO253; clear HK; clear HB; clear HI0; have HO_5 := n0_; have HO253 := n1_; have HK := n2_; have HB := n3_; have HI0 := n4_; clear n0_ n1_ n2_ n3_ n4_; (try clear hb); (try clear hb2); (try clear hk); (try clear hi)) | ((with_reducible refine gate_dst (N := 8) rfl ?_); refine box_event ?hg (N := 8) ?hd (cs := #[.int .i64 0, .int .i64 0, .int .i64 0]) (t := 41) ?hr ?_; (case hd => rfl); (case hg => rfl); (case hr => first | (go_simp; done) | (go_simp; rfl)); intro gb257 hg w17 hbox hb; have n0_ := Aside0.mk (Kd.R_below (Kd.R_elderB (rq HO_5.out) gb257 (Nat.le_of_eq hg.symm)) hb); have n1_ := Aside0.mk (Kd.R_below (rq HO253.out) hb); have n2_ := Aside0.mk (IsS60.below (by repeat (first | (with_reducible first | exact HI0.out | apply IsS60.alloc | apply IsS60.drewN | apply IsS60.drew | apply IsS60.set_1 | apply IsS60.set_2) | exact HI0.out)) hb); have n3_ := Aside0.mk (KeepBut.trans (by repeat (first | (with_reducible first | exact HK.out | apply KeepBut.set_ | apply keep_drewN | apply keep_drew | apply keep_alloc) | exact HK.out)) (KeepBut.of_below hb g none) (.inl rfl)); have n4_ := Aside0.mk (below_step (by repeat (first | (with_reducible first | exact HB.out | apply below_alloc | apply pw_below_drewN | apply below_drew1 | refine below_set ?_ (IsS60.ge HI0.out)) | exact HB.out)) hb); have n5_ := Aside0.mk (hbox); have n6_ := Aside0.mk ((by rw [hg]; exact (keep_size (w := w) (g := g) (row := none) (by repeat (first | (with_reducible first | exact HK.out | apply KeepBut.set_ | apply keep_drewN | apply keep_drew | apply keep_alloc) | exact HK.out))) : w.heap.size ≤ gb257)); have n7_ := Aside0.mk ((Nat.le_trans HW0.out (by rw [hg]; exact (keep_size (w := w) (g := g) (row := none) (by repeat (first | (with_reducible first | exact HK.out | apply KeepBut.set_ | apply keep_drewN | apply keep_drew | apply keep_alloc) | exact HK.out))) : w.heap.size ≤ gb257) : w0.heap.size ≤ gb257)); have n8_ := Aside0.mk ((by rw [hg]; exact Nat.ne_of_lt (IsS60.lt (show IsS60 w0 _ g s0_0 t255 t256 from by repeat (first | (with_reducible first | exact HI0.out | apply IsS60.alloc | apply IsS60.drewN | apply IsS60.drew | apply IsS60.set_1 | apply IsS60.set_2) | exact HI0.out))) : g ≠ gb257)); have n9_ := Aside0.mk ((by rw [hg]; exact Nat.ne_of_gt (IsS60.lt (show IsS60 w0 _ g s0_0 t255 t256 from by repeat (first | (with_reducible first | exact HI0.out | apply IsS60.alloc | apply IsS60.drewN | apply IsS60.drew | apply IsS60.set_1 | apply IsS60.set_2) | exact HI0.out))) : gb257 ≠ g)); clear HO_5; clear HO253; clear HI0; clear HK; clear HB; have HO_5 := n0_; have HO253 := n1_; have HI0 := n2_; have HK := n3_; have HB := n4_; have BK257 := n5_; have GW257 := n6_; have GE257 := n7_; have NB0_257 := n8_; have NB257_0 := n9_; clear n0_ n1_ n2_ n3_ n4_ n5_ n6_ n7_ n8_ n9_; clear hb hbox hg; have hnb18 := NB257_0.out; have hnc18 := NB0_257.out; have hcz19_0 : w17.cell? ⟨gb257, 0, none⟩ = some (.int .i64 0) := (blk_cell BK257.out 0).trans rfl; have hcz19_1 : w17.cell? ⟨gb257, 1, none⟩ = some (.int .i64 0) := (blk_cell BK257.out 1).trans rfl; have hcz19_2 : w17.cell? ⟨gb257, 2, none⟩ = some (.int .i64 0) := (blk_cell BK257.out 2).trans rfl; have hfz19_0 := blk_frozen BK257.out 0; have hfz19_1 := blk_frozen BK257.out 1; have hfz19_2 := blk_frozen BK257.out 2) | ((with_reducible refine gate_builtin (b := .append) (xs := #[.tmp 29, .tmp 31]) rfl ?_); at_builtin; refine Kd.R_append k41 w.heap.size rfl (.tmp 29) (.tmp 31) 25 41 (.agg #[(.int .i64 0), (.int .i64 0), (.int .i64 0)]) 24 rfl Try.underlying25 info41 rfl (by decide) (by omega) u5 x5_1 (⟨x6_1, wrap64 (4 * (wrap64 (1 + t248))), t254⟩ : S41) [.int .i64 x6_1, .int .i64 (wrap64 (4 * (wrap64 (1 + t248)))), .int .i64 t254] (fun k_ => k_ ≠ gb257) (fun _ => False) rfl (by first | (go_simp; done) | (go_simp; rfl)) ?aP (fun _ hk => hk.elim) ?aF ?aO (Below.refl _ _) ?aS ?aL ?_; (case aP => exact k41_mkM _ _ _ (⟨x6_1, wrap64 (4 * (wrap64 (1 + t248))), t254⟩ : S41)); (case aF => exact (fun k_ hk => Kd.freshB (g := gb257) (o := .cells #[.int .i64 x6_1, .int .i64 (wrap64 (4 * (wrap64 (1 + t248)))), .int .i64 t254] 41 (0, 0)) (by (with_reducible repeat (first | refine blk_drewN ?_ _ | refine blk_drew ?_ | refine blk_alloc ?_ _)); refine blk_put (cs := #[.int .i64 x6_1, .int .i64 (wrap64 (4 * (wrap64 (1 + t248)))), .int .i64 0]) ?_ 2 _ rfl; (with_reducible repeat (first | refine blk_drewN ?_ _ | refine blk_drew ?_ | refine blk_alloc ?_ _)); refine blk_put (cs := #[.int .i64 x6_1, .int .i64 0, .int .i64 0]) ?_ 1 _ rfl; (with_reducible repeat (first | refine blk_drewN ?_ _ | refine blk_drew ?_ | refine blk_alloc ?_ _)); refine blk_put (cs := #[.int .i64 0, .int .i64 0, .int .i64 0]) ?_ 0 _ rfl; (with_reducible repeat (first | refine blk_drewN ?_ _ | refine blk_drew ?_ | refine blk_alloc ?_ _)); exact BK257.out) k_ hk)); (case aO => exact (by (with_reducible repeat (first | apply Kd.R_alloc | apply Kd.R_drewN | apply Kd.R_drew)); exact Kd.R_mono (Kd.R_far (p := ⟨gb257, 2, none⟩) (Kd.R_far (p := ⟨gb257, 1, none⟩) (Kd.R_far (p := ⟨gb257, 0, none⟩) (Kd.R_mono HO_5.out (fun k_ hk => (⟨hk, hk.2⟩ : _ ∧ k_ ≠ gb257))) (fun _ hk => hk.2) (.int .i64 x6_1)) (fun _ hk => hk.2) (.int .i64 (wrap64 (4 * (wrap64 (1 + t248)))))) (fun _ hk => hk.2) (.int .i64 t254)) (fun _ hk => hk.1.2))); (case aS => exact (keep_size (w := w) (g := g) (row := none) (by repeat (first | (with_reducible first | exact HK.out | apply KeepBut.set_ | apply keep_drewN | apply keep_drew | apply keep_alloc | refine keep_far ?_ GW257.out _) | exact HK.out)))); (case aL => have := LMc10.out; omega); intro v259 w20 ho hb hg hat; rw [← Ny258.out] at ho; have n0_ := Aside0.mk (IsS60.grown (show IsS60 w0 _ g s0_0 t255 t256 from by repeat (first | (with_reducible first | exact HI0.out | apply IsS60.alloc | apply IsS60.drewN | apply IsS60.drew | refine IsS60.far ?_ NB0_257.out _ | apply IsS60.set_1 | apply IsS60.set_2) | exact HI0.out)) hg (IsS60.own_ne HI0.out HO_5.out (by decide))); have n1_ := Aside0.mk (Kd.R_over' (rq (Kd.R_mono (Kd.R_far (p := ⟨gb257, 2, none⟩) (Kd.R_far (p := ⟨gb257, 1, none⟩) (Kd.R_far (p := ⟨gb257, 0, none⟩) (Kd.R_types HO253.out BK257.out (by decide)) (fun _ hk => hk.2) (.int .i64 x6_1)) (fun _ hk => hk.2) (.int .i64 (wrap64 (4 * (wrap64 (1 + t248)))))) (fun _ hk => hk.2) (.int .i64 t254)) (fun _ h_ => h_.1))) (Kd.R_typed (rq (Kd.R_mono (Kd.R_far (p := ⟨gb257, 2, none⟩) (Kd.R_far (p := ⟨gb257, 1, none⟩) (Kd.R_far (p := ⟨gb257, 0, none⟩) (Kd.R_mono HO_5.out (fun k_ hk => (⟨hk, hk.2⟩ : _ ∧ k_ ≠ gb257))) (fun _ hk => hk.2) (.int .i64 x6_1)) (fun _ hk => hk.2) (.int .i64 (wrap64 (4 * (wrap64 (1 + t248)))))) (fun _ hk => hk.2) (.int .i64 t254)) (fun _ h_ => h_.1)))) (by decide) hg); have n2_ := Aside0.mk (blk_grown (g := gb257) (o := .cells #[.int .i64 x6_1, .int .i64 (wrap64 (4 * (wrap64 (1 + t248)))), .int .i64 t254] 41 (0, 0)) (by (with_reducible repeat (first | refine blk_drewN ?_ _ | refine blk_drew ?_ | refine blk_alloc ?_ _)); refine blk_put (cs := #[.int .i64 x6_1, .int .i64 (wrap64 (4 * (wrap64 (1 + t248)))), .int .i64 0]) ?_ 2 _ rfl; (with_reducible repeat (first | refine blk_drewN ?_ _ | refine blk_drew ?_ | refine blk_alloc ?_ _)); refine blk_put (cs := #[.int .i64 x6_1, .int .i64 0, .int .i64 0]) ?_ 1 _ rfl; (with_reducible repeat (first | refine blk_drewN ?_ _ | refine blk_drew ?_ | refine blk_alloc ?_ _)); refine blk_put (cs := #[.int .i64 0, .int .i64 0, .int .i64 0]) ?_ 0 _ rfl; (with_reducible repeat (first | refine blk_drewN ?_ _ | refine blk_drew ?_ | refine blk_alloc ?_ _)); exact BK257.out) hg (Kd.R_away HO_5.out (fun _ hk => hk.2))); have n3_ := Aside0.mk (below_weaken (by repeat (first | (with_reducible first | exact HB.out | apply below_alloc | apply pw_below_drewN | apply below_drew1 | refine below_set ?_ (IsS60.ge HI0.out) | refine below_set ?_ GE257.out) | exact HB.out)) HL.out hb); have n4_ := Aside0.mk (KeepBut.trans (by repeat (first | (with_reducible first | exact HK.out | apply KeepBut.set_ | apply keep_drewN | apply keep_drew | apply keep_alloc | refine keep_far ?_ GW257.out _) | exact HK.out)) (KeepBut.of_grown hg g) (Kd.R_base2 HO_5.out)); have n5_ := Aside0.mk (ho); clear HI0; clear HO253; clear BK257; clear HB; clear HK; clear HO_5; have HI0 := n0_; have HO253 := n1_; have BK257 := n2_; have HB := n3_; have HK := n4_; have HO260 := n5_; clear n0_ n1_ n2_ n3_ n4_ n5_; clear ho hb hg hat))
     have n0_ := Aside0.mk (Kd.R_drew HO253.out)
     have n1_ := Aside0.mk (Kd.R_drew HO260.out)
     have n2_ := Aside0.mk (blk_drew BK257.out)
     have n3_ := Aside0.mk (IsS60.drew HI0.out)
     have n4_ := Aside0.mk (keep_drew HK.out)
     have n5_ := Aside0.mk (below_drew1 HB.out)
     clear HO253
     clear HO260
     clear BK257
     clear HI0
     clear HK
     clear HB
     have HO253 := n0_
     have HO260 := n1_
     have BK257 := n2_
     have HI0 := n3_
     have HK := n4_
     have HB := n5_
     clear n0_ n1_ n2_ n3_ n4_ n5_
     refine start_ (n := 10) (S := fun w' => w'.cell? ⟨gb257, 0, none⟩ = some (.int .i64 x6_1) ∧ w'.cell? ⟨gb257, 1, none⟩ = some (.int .i64 (wrap64 (4 * (wrap64 (1 + t248))))) ∧ w'.cell? ⟨gb257, 2, none⟩ = some (.int .i64 t254)) (ds := []) #[false, false, false, false, false, false, false, false, false, false] (by kernel_rfl) rfl rfl ⟨(blk_cell BK257.out 0).trans rfl, (blk_cell BK257.out 1).trans rfl, (blk_cell BK257.out 2).trans rfl⟩ (fun hHeld => ?_); refine with_tabW spec_l07Windows.tab8 spec_l07Windows.bits8 (fun HT_ HW_ => ?_)
     generalize w20.drew = w21 at HO253 HO260 BK257 HI0 HK HB hHeld ⊢
     refine pure_ (i := 0) (N := some 33) (v := ?_) (a' := ?_) #[true, false, false, false, false, false, false, false, false, false] rfl rfl (any_of HT_.out (by kernel_rfl)) (fun _ _ _ h => h) (Or.inl ⟨by rfl, ?_⟩) ?_ ?_
     rotate_left
     ·intro w'
      go_simp
      with_reducible rfl
     rotate_left
     ·simp only [Act.put, List.setIfInBounds_toArray, List.set_cons_zero, List.set_cons_succ, i64_w, i32_w]
      rfl
     refine pure_ (i := 1) (N := some 34) (v := ?_) (a' := ?_) #[true, true, false, false, false, false, false, false, false, false] rfl rfl (any_of HT_.out (by kernel_rfl)) (fun _ _ _ h => h) (Or.inl ⟨by rfl, ?_⟩) ?_ ?_
     rotate_left
     ·intro w'
      go_simp
      with_reducible rfl
     rotate_left
     ·simp only [Act.put, List.setIfInBounds_toArray, List.set_cons_zero, List.set_cons_succ, i64_w, i32_w]
      rfl
     refine pure_ (i := 4) (N := some 37) (v := ?_) (a' := ?_) #[true, true, false, false, true, false, false, false, false, false] rfl rfl (any_of HT_.out (by kernel_rfl)) (fun _ _ _ h => h) (Or.inl ⟨by rfl, ?_⟩) ?_ ?_
     rotate_left
     ·intro w'
      go_simp
      with_reducible rfl
     rotate_left
     ·simp only [Act.put, List.setIfInBounds_toArray, List.set_cons_zero, List.set_cons_succ, i64_w, i32_w]
      rfl
     refine take_ (i := 2) (N := some 35) (v := ?_) (a' := ?_) #[true, true, true, false, true, false, false, false, false, false] rfl rfl (take_ofW HT_.out HW_.out (by kernel_rfl)) (fun _ _ _ h => h) (Or.inl ⟨by rfl, ?_⟩) hHeld ?_ ?_
     rotate_left
     ·rintro w' ⟨s0, s1, s2⟩
      go_simp
      with_reducible rfl
     rotate_left
     ·simp only [Act.put, List.setIfInBounds_toArray, List.set_cons_zero, List.set_cons_succ, i64_w, i32_w]
      rfl
     refine pure_ (i := 3) (N := some 36) (v := ?_) (a' := ?_) #[true, true, true, true, true, false, false, false, false, false] rfl rfl (any_of HT_.out (by kernel_rfl)) (fun _ _ _ h => h) (Or.inl ⟨by rfl, ?_⟩) ?_ ?_
     rotate_left
     ·intro w'
      go_simp
      with_reducible rfl
     rotate_left
     ·simp only [Act.put, List.setIfInBounds_toArray, List.set_cons_zero, List.set_cons_succ, i64_w, i32_w]
      rfl
     refine one_ (i := 5) (N := some 38) #[true, true, true, true, true, true, false, false, false, false] rfl rfl (one_of HT_.out (by kernel_rfl)) (by decide) (fun K hK => ?_)
     refine Kd.R_lit_step (Kd.int .i64) _ 3 ?hg (N := 38) ?hd (xs := ([0, 0, 1, 9] : List Int)) (inner := [.int .i64 0, .int .i64 0, .int .i64 1, .int .i64 9]) (ok := fun _ => True) (okp := fun _ => True) ?hr ?hp (fun _ hk => hk) trivial (Below.refl _ _) (Nat.le_refl _) (by simp) ?_; (case hd => rfl); (case hg => rfl); (case hr => first | (go_simp; done) | (go_simp; rfl)); (case hp => exact (Reps.one (show Kd.M (Kd.int .i64) _ _ _ 0 [.int .i64 0] from rfl) (Reps.one (show Kd.M (Kd.int .i64) _ _ _ 0 [.int .i64 0] from rfl) (Reps.one (show Kd.M (Kd.int .i64) _ _ _ 1 [.int .i64 1] from rfl) (Reps.one (show Kd.M (Kd.int .i64) _ _ _ 9 [.int .i64 9] from rfl) (Reps.none _ _))))))
     intro v262 w22 ho23 hb hg_ hnew_
     clear hg_ hnew_
     (first | rw [← Ny261.out] at ho23 | (simp only [Int.reduceToNat] at ho23; rw [← Ny261.out] at ho23))
     have n0_ := Aside0.mk (Kd.R_elder' (rq HO253.out) (Kd.R_base ho23) hb)
     have n1_ := Aside0.mk (Kd.R_below (rq HO260.out) hb)
     have n2_ := Aside0.mk (Kd.R_lower (Kd.R_new' ho23 (Kd.R_lt (rq HO253.out))) (keep_size (w := w) (g := g) (row := none) (by repeat (first | (with_reducible first | exact HK.out | apply KeepBut.set_ | apply keep_drewN | apply keep_drew | apply keep_alloc | refine keep_far ?_ GW257.out _) | exact HK.out))))
     have n3_ := Aside0.mk (IsS60.below (by repeat (first | (with_reducible first | exact HI0.out | apply IsS60.alloc | apply IsS60.drewN | apply IsS60.drew | refine IsS60.far ?_ NB0_257.out _ | apply IsS60.set_1 | apply IsS60.set_2) | exact HI0.out)) hb)
     have n4_ := Aside0.mk (blk_below (bq BK257.out) hb)
     have n5_ := Aside0.mk (KeepBut.trans (by repeat (first | (with_reducible first | exact HK.out | apply KeepBut.set_ | apply keep_drewN | apply keep_drew | apply keep_alloc | refine keep_far ?_ GW257.out _) | exact HK.out)) (KeepBut.of_below hb g none) (.inl rfl))
     have n6_ := Aside0.mk (below_step (by repeat (first | (with_reducible first | exact HB.out | apply below_alloc | apply pw_below_drewN | apply below_drew1 | refine below_set ?_ (IsS60.ge HI0.out) | refine below_set ?_ GE257.out) | exact HB.out)) hb)
     clear HO253
     clear HO260
     clear HI0
     clear BK257
     clear HK
     clear HB
     have HO253 := n0_
     have HO260 := n1_
     have HO263 := n2_
     have HI0 := n3_
     have BK257 := n4_
     have HK := n5_
     have HB := n6_
     clear n0_ n1_ n2_ n3_ n4_ n5_ n6_
     clear hb ho23
     obtain ⟨Ao24, co24, eo24⟩ := Kd.R_slice HO263.out
     (first | subst eo24 | (injection eo24 with f1_ f2_ f3_; have f4_ := f1_.symm; have f5_ := f3_.symm; clear f1_ f2_ f3_; subst f4_; subst f5_))
     refine hK.out _ _ ⟨(blk_cell BK257.out 0).trans rfl, (blk_cell BK257.out 1).trans rfl, (blk_cell BK257.out 2).trans rfl⟩ (fun hHeld => ?_)
     clear hK K
     refine norm_ (a' := ?_) ?_ ?_
     rotate_left
     ·show Act.put _ (some 38) _ = _
      simp only [Act.put, List.setIfInBounds_toArray, List.set_cons_zero, List.set_cons_succ, i64_w, i32_w]
      rfl
     refine one_ (i := 6) (N := some 39) #[true, true, true, true, true, true, true, false, false, false] rfl rfl (one_of HT_.out (by kernel_rfl)) (by decide) (fun K hK => ?_)
     refine goes_ Try.func43 (by kernel_rfl) rfl #[.pointer (some ⟨g, 0, none⟩), .slice Ao24 y261.length co24] (by rfl) rfl rfl (by (try simp only [List.map_toArray, List.map_cons, List.map_nil]); first | done | rfl | (simp only [List.length_drop, List.length_take]; rfl)) ?_
     with_reducible refine (spec_l01PickInt.calls g s0_0 t255 t256 _ _ y261 t264 t265 t266 w0 _ ?side1 ?side2 ?side3 ?side4 ?side5 A11.out).mono ?_
     (case side1 => repeat (first | (with_reducible first | exact HI0.out | apply IsS60.alloc | apply IsS60.drewN | apply IsS60.drew | refine IsS60.far ?_ NB0_257.out _ | apply IsS60.set_1 | apply IsS60.set_2) | exact HI0.out))
     (case side2 => repeat (first | (with_reducible first | exact HB.out | apply below_alloc | apply pw_below_drewN | apply below_drew1 | refine below_set ?_ (IsS60.ge HI0.out) | refine below_set ?_ GE257.out) | exact HB.out))
     (case side3 => repeat (first | exact (Kd.R_reads' HO263.out).2.2 | (with_reducible refine Kd.C_alloc ?_ _) | (with_reducible refine Kd.C_drewN ?_ _) | (with_reducible refine Kd.C_drew ?_)))
     (case side4 => exact (Kd.R_reads' HO263.out).2.1)
     (case side5 => exact far_slice (IsS60.own_ne HI0.out HO263.out (by decide)))
     rintro e w25 ⟨rfl, hi, hb, hk⟩
     refine ⟨_, rfl, ?_⟩
     have n0_ := Aside0.mk (Kd.R_mono (Kd.R_keep (IsS60.apart (show IsS60 w0 _ g s0_0 t255 t256 from by repeat (first | (with_reducible first | exact HI0.out | apply IsS60.alloc | apply IsS60.drewN | apply IsS60.drew | refine IsS60.far ?_ NB0_257.out _ | apply IsS60.set_1 | apply IsS60.set_2) | exact HI0.out)) (rq HO253.out) (by decide)) hk (fun _ h => h.2)) (fun _ h => h.1))
     have n1_ := Aside0.mk (KeepBut.blk hk (g' := gb257) (o := .cells #[.int .i64 x6_1, .int .i64 (wrap64 (4 * (wrap64 (1 + t248)))), .int .i64 t254] 41 (0, 0)) (bq BK257.out) NB257_0.out (by simp))
     have n2_ := Aside0.mk (Kd.R_mono (Kd.R_keep (IsS60.apart (show IsS60 w0 _ g s0_0 t255 t256 from by repeat (first | (with_reducible first | exact HI0.out | apply IsS60.alloc | apply IsS60.drewN | apply IsS60.drew | refine IsS60.far ?_ NB0_257.out _ | apply IsS60.set_1 | apply IsS60.set_2) | exact HI0.out)) (rq HO260.out) (by decide)) hk (fun _ h => h.2)) (fun _ h => h.1))
     have n3_ := Aside0.mk (Kd.R_mono (Kd.R_keep (IsS60.apart (show IsS60 w0 _ g s0_0 t255 t256 from by repeat (first | (with_reducible first | exact HI0.out | apply IsS60.alloc | apply IsS60.drewN | apply IsS60.drew | refine IsS60.far ?_ NB0_257.out _ | apply IsS60.set_1 | apply IsS60.set_2) | exact HI0.out)) (rq HO263.out) (by decide)) hk (fun _ h => h.2)) (fun _ h => h.1))
     have n4_ := Aside0.mk (KeepBut.trans (by repeat (first | (with_reducible first | exact HK.out | apply KeepBut.set_ | apply keep_drewN | apply keep_drew | apply keep_alloc | refine keep_far ?_ GW257.out _) | exact HK.out)) hk (.inl rfl))
     have n5_ := Aside0.mk (hb)
     have n6_ := Aside0.mk (hi)
     clear HO253
     clear BK257
     clear HO260
     clear HO263
     clear HK
     clear HB
     clear HI0
     have HO253 := n0_
     have BK257 := n1_
     have HO260 := n2_
     have HO263 := n3_
     have HK := n4_
     have HB := n5_
     have HI0 := n6_
     clear n0_ n1_ n2_ n3_ n4_ n5_ n6_
     (try clear hb)
     (try clear hb2)
     (try clear hk)
     (try clear hi)
     refine hK.out _ _ ⟨(blk_cell BK257.out 0).trans rfl, (blk_cell BK257.out 1).trans rfl, (blk_cell BK257.out 2).trans rfl⟩ (fun hHeld => ?_)
     clear hK K
     refine norm_ (a' := ?_) ?_ ?_
     rotate_left
     ·show Act.put _ (some 39) _ = _
      simp only [Act.put, List.setIfInBounds_toArray, List.set_cons_zero, List.set_cons_succ, i64_w, i32_w]
      rfl
     refine pure_ (i := 7) (N := some 40) (v := ?_) (a' := ?_) #[true, true, true, true, true, true, true, true, false, false] rfl rfl (any_of HT_.out (by kernel_rfl)) (fun _ _ _ h => h) (Or.inl ⟨by rfl, ?_⟩) ?_ ?_
     rotate_left
     ·intro w'
      go_simp
      with_reducible rfl
     rotate_left
     ·simp only [Act.put, List.setIfInBounds_toArray, List.set_cons_zero, List.set_cons_succ, i64_w, i32_w]
      rfl
     refine pure_ (i := 8) (N := some 41) (v := ?_) (a' := ?_) #[true, true, true, true, true, true, true, true, true, false] rfl rfl (any_of HT_.out (by kernel_rfl)) (fun _ _ _ h => h) (Or.inl ⟨by rfl, ?_⟩) ?_ ?_
     rotate_left
     ·intro w'
      go_simp
      with_reducible rfl
     rotate_left
     ·simp only [Act.put, List.setIfInBounds_toArray, List.set_cons_zero, List.set_cons_succ, i64_w, i32_w]
      rfl
     refine pure_ (i := 9) (N := some 6) (v := ?_) (a' := ?_) #[true, true, true, true, true, true, true, true, true, true] rfl rfl (any_of HT_.out (by kernel_rfl)) (fun _ _ _ h => h) (Or.inl ⟨by rfl, ?_⟩) ?_ ?_
     rotate_left
     ·intro w'
      go_simp
      with_reducible rfl
     rotate_left
     ·simp only [Act.put, List.setIfInBounds_toArray, List.set_cons_zero, List.set_cons_succ, i64_w, i32_w]
      rfl
     refine done_ (done_of HT_.out (by kernel_rfl)) ?_
     try go_wp2
     go_roundg k1
     case measure => have := HK1.out; omega
     case rel => exact ⟨(y258), (wrap64 ((wrap64 (x6_1 + (wrap64 (4 * (wrap64 (1 + t248)))))) + (wrap64 (4 * t264)))), (wrap64 (x7_1 + 1)), (t265), (t266), (by first | rfl | (simp; done) | (simp [*]; done)), (by first | rfl | (simp; done) | (simp [*]; done)), H', ⟨by have := HK1.out; omega⟩, ⟨by (with_reducible repeat (first | apply Kd.R_alloc | apply Kd.R_drewN | apply Kd.R_drew)); exact Kd.R_mono HO260.out (fun _ hk => trivial)⟩, ⟨by repeat (first | (with_reducible first | exact HI0.out | apply IsS60.alloc | apply IsS60.drewN | apply IsS60.drew | refine IsS60.far ?_ NB0_257.out _ | apply IsS60.set_1 | apply IsS60.set_2) | exact HI0.out)⟩, ⟨by repeat (first | (with_reducible first | exact HK.out | apply KeepBut.set_ | apply keep_drewN | apply keep_drew | apply keep_alloc | refine keep_far ?_ GW257.out _) | exact HK.out)⟩, ⟨by repeat (first | (with_reducible first | exact HB.out | apply below_alloc | apply pw_below_drewN | apply below_drew1 | refine below_set ?_ (IsS60.ge HI0.out) | refine below_set ?_ GE257.out) | exact HB.out)⟩⟩
    ·rw [if_neg c10] at H
     exact absurd H (by simp)
   ·rw [if_neg c7] at H
    have c7b0 : decide (x7_1 < a1) = false := decide_eq_false c7
    clear c7
    by_cases c26 : a1 > 1
    ·rw [if_pos c26] at H
     have c26b0 : decide (1 < a1) = true := decide_eq_true c26
     clear c26
     replace H := Option.bind_eq_some_iff.mp H
     obtain ⟨⟨t267, t268, t269⟩, A270, H⟩ := H
     (try dsimp only at H)
     have A27 := Aside0.mk A270
     clear A270
     by_cases c28 : t267 = true
     ·subst c28
      rw [if_pos rfl] at H
      by_cases c29 : 0 < (x5_1.length : Int)
      ·rw [if_pos c29] at H
       have c29b0 : decide (0 < (x5_1.length : Int)) = true := decide_eq_true c29
       have c29b1 : decide (0 < x5_1.length) = true := decide_eq_true (by omega)
       clear c29
       obtain ⟨ji30, hji30⟩ : ∃ j_ : Int, (wrap64 (a1 - 1)) = j_ := ⟨_, rfl⟩
       replace H : (if 0 ≤ (ji30) then (if (ji30) < (x5_1.length : Int) then (some (((x5_1.set (0 : Int).toNat (⟨(rd_T41 x5_1 (ji30)).f0, (rd_T41 x5_1 (ji30)).f1, (rd_T41 x5_1 (ji30)).f2⟩ : S41)).set ((ji30) : Int).toNat (⟨(rd_T41 x5_1 0).f0, (rd_T41 x5_1 0).f1, (rd_T41 x5_1 0).f2⟩ : S41)), t268, t269)) else (none)) else (none)) = some (r1, r2, r3) := by first | (rw [hji30] at H; exact H) | (simp only [hji30] at H ⊢; exact H)
       (try rw [hji30] at A27)
       have hji30w : (IntKind.i64.wrap (a1 - 1)) = ji30 := (i64_w _).trans hji30
       by_cases c31 : 0 ≤ (ji30)
       ·rw [if_pos c31] at H
        have c31b0 : decide (0 ≤ (ji30)) = true := decide_eq_true c31
        clear c31
        by_cases c32 : (ji30) < (x5_1.length : Int)
        ·rw [if_pos c32] at H
         have c32b0 : decide ((ji30) < (x5_1.length : Int)) = true := decide_eq_true c32
         clear c32
         obtain ⟨y274, hy274⟩ : ∃ y_ : List (S41), y_ = (x5_1.set (0 : Int).toNat (⟨(rd_T41 x5_1 (ji30)).f0, (rd_T41 x5_1 (ji30)).f1, (rd_T41 x5_1 (ji30)).f2⟩ : S41)) := ⟨_, rfl⟩
         replace H : (some ((y274.set ((ji30) : Int).toNat (⟨(rd_T41 x5_1 0).f0, (rd_T41 x5_1 0).f1, (rd_T41 x5_1 0).f2⟩ : S41)), t268, t269)) = some (r1, r2, r3) := by first | (rw [hy274]; with_reducible exact H) | (have H2_ := (Option.bind_some _ _).symm.trans H; rw [hy274]; with_reducible exact H2_) | (have H2_ := (Option.bind_some _ _).symm.trans H; with_reducible exact H2_) | with_reducible exact H | (rw [hy274]; exact H) | exact H
         have Ny274 := Aside0.mk hy274
         clear hy274
         obtain ⟨y275, hy275⟩ : ∃ y_ : List (S41), y_ = (y274.set ((ji30) : Int).toNat (⟨(rd_T41 x5_1 0).f0, (rd_T41 x5_1 0).f1, (rd_T41 x5_1 0).f2⟩ : S41)) := ⟨_, rfl⟩
         replace H : (some (y275, t268, t269)) = some (r1, r2, r3) := by first | (rw [hy275]; with_reducible exact H) | (have H2_ := (Option.bind_some _ _).symm.trans H; rw [hy275]; with_reducible exact H2_) | (have H2_ := (Option.bind_some _ _).symm.trans H; with_reducible exact H2_) | with_reducible exact H | (rw [hy275]; exact H) | exact H
         have Ny275 := Aside0.mk hy275
         clear hy275
         simp only [Option.some.injEq, Prod.mk.injEq] at H
         obtain ⟨rfl, rfl, rfl⟩ := H
         try go_wp2_with (first | (go_at_call 53; (with_reducible refine (spec_l01Once.calls g s0_0 x1001_1 x1002_1 3 true t268 t269 w0 _ ?side1 ?side2 A27.out).mono ?_); (case side1 => repeat (first | (with_reducible first | exact HI0.out | apply IsS60.alloc | apply IsS60.drewN | apply IsS60.drew | apply IsS60.set_1 | apply IsS60.set_2) | exact HI0.out)); (case side2 => repeat (first | (with_reducible first | exact HB.out | apply below_alloc | apply pw_below_drewN | apply below_drew1 | refine below_set ?_ (IsS60.ge HI0.out)) | exact HB.out)); rintro e w35 ⟨rfl, hi, hb, hk⟩; have n0_ := Aside0.mk (Kd.R_mono (Kd.R_keep (IsS60.apart (show IsS60 w0 _ g s0_0 x1001_1 x1002_1 from by repeat (first | (with_reducible first | exact HI0.out | apply IsS60.alloc | apply IsS60.drewN | apply IsS60.drew | apply IsS60.set_1 | apply IsS60.set_2) | exact HI0.out)) (rq HO_5.out) (by decide)) hk (fun _ h => h.2)) (fun _ h => h.1)); have n1_ := Aside0.mk (KeepBut.trans (by repeat (first | (with_reducible first | exact HK.out | apply KeepBut.set_ | apply keep_drewN | apply keep_drew | apply keep_alloc) | exact HK.out)) hk (.inl rfl)); have n2_ := Aside0.mk (hb); have n3_ := Aside0.mk (hi); clear HO_5; clear HK; clear HB; clear HI0; have HO_5 := n0_; have HK := n1_; have HB := n2_; have HI0 := n3_; clear n0_ n1_ n2_ n3_; (try clear hb); (try clear hb2); (try clear hk); (try clear hi)))
         have n0_ := Aside0.mk (Kd.R_drew HO_5.out)
         have n1_ := Aside0.mk (IsS60.drew HI0.out)
         have n2_ := Aside0.mk (keep_drew HK.out)
         have n3_ := Aside0.mk (below_drew1 HB.out)
         clear HO_5
         clear HI0
         clear HK
         clear HB
         have HO_5 := n0_
         have HI0 := n1_
         have HK := n2_
         have HB := n3_
         clear n0_ n1_ n2_ n3_
         obtain ⟨Ao37, co37, eo37⟩ := Kd.R_slice HO_5.out
         (first | subst eo37 | (injection eo37 with f1_ f2_ f3_; have f4_ := f1_.symm; have f5_ := f3_.symm; clear f1_ f2_ f3_; subst f4_; subst f5_))
         have p270 : 0 ≤ (0 : Int) := (by omega)
         have q270 : 0 < (x5_1.length : Int) := of_decide_eq_true (by first | (with_reducible assumption) | assumption)
         obtain ⟨ad270, e270, hx270_0, hx270_1, hx270_2⟩ := at_T41 (Kd.R_reads' HO_5.out).2.2 0 p270 q270
         cases e270
         have qi270 : (0 < x5_1.length) = True := eq_true (by omega)
         (try rw [show ((0 : Int)).toNat = 0 from rfl] at hx270_0)
         (try rw [show 0 * 3 = 0 from rfl] at hx270_0)
         (try rw [Addr.add_zero'] at hx270_0)
         (try rw [show ((0 : Int)).toNat = 0 from rfl] at hx270_1)
         (try rw [show 0 * 3 = 0 from rfl] at hx270_1)
         (try rw [Addr.add_zero'] at hx270_1)
         (try rw [show ((0 : Int)).toNat = 0 from rfl] at hx270_2)
         (try rw [show 0 * 3 = 0 from rfl] at hx270_2)
         (try rw [Addr.add_zero'] at hx270_2)
         replace p270 := eq_true p270
         replace q270 := eq_true q270
         have p271 : 0 ≤ ((ji30) : Int) := of_decide_eq_true (by first | (with_reducible assumption) | assumption)
         have q271 : (ji30) < (x5_1.length : Int) := of_decide_eq_true (by first | (with_reducible assumption) | assumption)
         obtain ⟨ad271, e271, hx271_0, hx271_1, hx271_2⟩ := at_T41 (Kd.R_reads' HO_5.out).2.2 (ji30) p271 q271
         obtain rfl : ad270 = ad271 := (by injection e271)
         replace p271 := eq_true p271
         replace q271 := eq_true q271
         refine start_ (n := 12) (S := fun w' => w'.cell? ad270 = some (.int .i64 ((rd_T41 x5_1 0).f0)) ∧ w'.cell? ⟨ad270.block, ad270.off + 1, none⟩ = some (.int .i64 ((rd_T41 x5_1 0).f1)) ∧ w'.cell? ⟨ad270.block, ad270.off + 2, none⟩ = some (.int .i64 ((rd_T41 x5_1 0).f2)) ∧ w'.cell? (ad270.add (((ji30)).toNat * 3)) = some (.int .i64 ((rd_T41 x5_1 (ji30)).f0)) ∧ w'.cell? ⟨(ad270.add (((ji30)).toNat * 3)).block, (ad270.add (((ji30)).toNat * 3)).off + 1, none⟩ = some (.int .i64 ((rd_T41 x5_1 (ji30)).f1)) ∧ w'.cell? ⟨(ad270.add (((ji30)).toNat * 3)).block, (ad270.add (((ji30)).toNat * 3)).off + 2, none⟩ = some (.int .i64 ((rd_T41 x5_1 (ji30)).f2))) (ds := []) #[false, false, false, false, false, false, false, false, false, false, false, false] (by kernel_rfl) rfl rfl ⟨hx270_0, hx270_1, hx270_2, hx271_0, hx271_1, hx271_2⟩ (fun hHeld => ?_); refine with_tabW spec_l07Windows.tab10 spec_l07Windows.bits10 (fun HT_ HW_ => ?_)
         generalize w35.drew = w36 at HO_5 HI0 HK HB hx270_0 hx270_1 hx270_2 hx271_0 hx271_1 hx271_2 hHeld ⊢
         refine pure_ (i := 0) (N := some 48) (v := ?_) (a' := ?_) #[true, false, false, false, false, false, false, false, false, false, false, false] rfl rfl (any_of HT_.out (by kernel_rfl)) (fun _ _ _ h => h) (Or.inl ⟨by rfl, ?_⟩) ?_ ?_
         rotate_left
         ·intro w'
          go_simp
          with_reducible rfl
         rotate_left
         ·simp only [Act.put, List.setIfInBounds_toArray, List.set_cons_zero, List.set_cons_succ, i64_w, i32_w]
          rfl
         refine pure_ (i := 1) (N := some 49) (v := ?_) (a' := ?_) #[true, true, false, false, false, false, false, false, false, false, false, false] rfl rfl (any_of HT_.out (by kernel_rfl)) (fun _ _ _ h => h) (Or.inl ⟨by rfl, ?_⟩) ?_ ?_
         rotate_left
         ·intro w'
          go_simp
          with_reducible rfl
         rotate_left
         ·simp only [Act.put, List.setIfInBounds_toArray, List.set_cons_zero, List.set_cons_succ, i64_w, i32_w]
          rfl
         refine pure_ (i := 3) (N := some 51) (v := ?_) (a' := ?_) #[true, true, false, true, false, false, false, false, false, false, false, false] rfl rfl (any_of HT_.out (by kernel_rfl)) (fun _ _ _ h => h) (Or.inl ⟨by rfl, ?_⟩) ?_ ?_
         rotate_left
         ·intro w'
          go_simp
          with_reducible rfl
         rotate_left
         ·simp only [Act.put, List.setIfInBounds_toArray, List.set_cons_zero, List.set_cons_succ, i64_w, i32_w]
          rfl
         refine pure_ (i := 4) (N := some 52) (v := ?_) (a' := ?_) #[true, true, false, true, true, false, false, false, false, false, false, false] rfl rfl (any_of HT_.out (by kernel_rfl)) (fun _ _ _ h => h) (Or.inl ⟨by rfl, ?_⟩) ?_ ?_
         rotate_left
         ·intro w'
          go_simp
          with_reducible rfl
         rotate_left
         ·simp only [Act.put, List.setIfInBounds_toArray, List.set_cons_zero, List.set_cons_succ, i64_w, i32_w]
          rfl
         refine pure_ (i := 5) (N := some 53) (v := ?_) (a' := ?_) #[true, true, false, true, true, true, false, false, false, false, false, false] rfl rfl (any_of HT_.out (by kernel_rfl)) (fun _ _ _ h => h) (Or.inl ⟨by rfl, ?_⟩) ?_ ?_
         rotate_left
         ·intro w'
          go_simp
          with_reducible rfl
         rotate_left
         ·simp only [Act.put, List.setIfInBounds_toArray, List.set_cons_zero, List.set_cons_succ, i64_w, i32_w]
          rfl
         refine pure_ (i := 6) (N := some 54) (v := ?_) (a' := ?_) #[true, true, false, true, true, true, true, false, false, false, false, false] rfl rfl (any_of HT_.out (by kernel_rfl)) (fun _ _ _ h => h) (Or.inl ⟨by rfl, ?_⟩) ?_ ?_
         rotate_left
         ·intro w'
          go_simp
          with_reducible rfl
         rotate_left
         ·simp only [Act.put, List.setIfInBounds_toArray, List.set_cons_zero, List.set_cons_succ, i64_w, i32_w]
          rfl
         refine take_ (i := 2) (N := some 50) (v := ?_) (a' := ?_) #[true, true, true, true, true, true, true, false, false, false, false, false] rfl rfl (take_ofW HT_.out HW_.out (by kernel_rfl)) (fun _ _ _ h => h) (Or.inl ⟨by rfl, ?_⟩) hHeld ?_ ?_
         rotate_left
         ·rintro w' ⟨s0, s1, s2, s3, s4, s5⟩
          go_simp
          with_reducible rfl
         rotate_left
         ·simp only [Act.put, List.setIfInBounds_toArray, List.set_cons_zero, List.set_cons_succ, i64_w, i32_w]
          rfl
         refine take_ (i := 7) (N := some 55) (v := ?_) (a' := ?_) #[true, true, true, true, true, true, true, true, false, false, false, false] rfl rfl (take_ofW HT_.out HW_.out (by kernel_rfl)) (fun _ _ _ h => h) (Or.inl ⟨by rfl, ?_⟩) hHeld ?_ ?_
         rotate_left
         ·rintro w' ⟨s0, s1, s2, s3, s4, s5⟩
          go_simp
          with_reducible rfl
         rotate_left
         ·simp only [Act.put, List.setIfInBounds_toArray, List.set_cons_zero, List.set_cons_succ, i64_w, i32_w]
          rfl
         refine join_ (σ := Nat × Nat) 2 #[true, true, true, true, true, true, true, true, true, true, false, false] (fun s_ => [(9, .pointer (some ⟨s_.1, 0, none⟩)), (10, .pointer (some ⟨s_.2, 0, none⟩))]) (fun s_ w' => (w'.cell? ad270 = some (.int .i64 ((rd_T41 x5_1 0).f0)) ∧ w'.cell? ⟨ad270.block, ad270.off + 1, none⟩ = some (.int .i64 ((rd_T41 x5_1 0).f1)) ∧ w'.cell? ⟨ad270.block, ad270.off + 2, none⟩ = some (.int .i64 ((rd_T41 x5_1 0).f2)) ∧ w'.cell? (ad270.add (((ji30)).toNat * 3)) = some (.int .i64 ((rd_T41 x5_1 (ji30)).f0)) ∧ w'.cell? ⟨(ad270.add (((ji30)).toNat * 3)).block, (ad270.add (((ji30)).toNat * 3)).off + 1, none⟩ = some (.int .i64 ((rd_T41 x5_1 (ji30)).f1)) ∧ w'.cell? ⟨(ad270.add (((ji30)).toNat * 3)).block, (ad270.add (((ji30)).toNat * 3)).off + 2, none⟩ = some (.int .i64 ((rd_T41 x5_1 (ji30)).f2))) ∧ (Kd.R k41 41 w' w.heap.size (fun k_ => k_ ≠ s_.1 ∧ k_ ≠ s_.2) (.slice (some ad270) x5_1.length co37) x5_1) ∧ (w'.heap[s_.1]? = some (.cells #[.int .i64 0, .int .i64 0, .int .i64 0] 41 (0, 0))) ∧ (w'.heap[s_.2]? = some (.cells #[.int .i64 0, .int .i64 0, .int .i64 0] 41 (0, 0))) ∧ (w.heap.size ≤ s_.1) ∧ (w0.heap.size ≤ s_.1) ∧ (g ≠ s_.1) ∧ (s_.1 ≠ g) ∧ (s_.2 ≠ s_.1) ∧ (s_.1 ≠ s_.2) ∧ (w.heap.size ≤ s_.2) ∧ (w0.heap.size ≤ s_.2) ∧ (g ≠ s_.2) ∧ (s_.2 ≠ g) ∧ (IsS60 w0 w' g s0_0 t268 t269) ∧ (KeepBut w w' g none) ∧ (Below w0.heap.size w0 w')) ?_ ?_
         rotate_left
         ·intro hCont
          refine two_ (i := 8) (j := 9) (Ni := some 9) (Nj := some 10) #[true, true, true, true, true, true, true, true, true, false, false, false] #[true, true, true, true, true, true, true, true, false, true, false, false] rfl rfl rfl rfl (two_of HT_.out (by kernel_rfl)) (by decide) (by decide) (fun K hK => ?_) (fun K hK => ?_)
          ·skip
           refine box_step ?hg (N := 9) ?hd (cs := #[.int .i64 0, .int .i64 0, .int .i64 0]) (t := 41) ?hr ?_; (case hd => rfl); (case hg => rfl); (case hr => first | (go_simp; done) | (go_simp; rfl))
           intro gb272 hg w38 hbox hb
           have HS0_ := (hb.cell (World.block_lt_of_cell? _ _ (hHeld.1))).trans (hHeld.1)
           have HS1_ := (hb.cell (World.block_lt_of_cell? _ _ (hHeld.2.1))).trans (hHeld.2.1)
           have HS2_ := (hb.cell (World.block_lt_of_cell? _ _ (hHeld.2.2.1))).trans (hHeld.2.2.1)
           have HS3_ := (hb.cell (World.block_lt_of_cell? _ _ (hHeld.2.2.2.1))).trans (hHeld.2.2.2.1)
           have HS4_ := (hb.cell (World.block_lt_of_cell? _ _ (hHeld.2.2.2.2.1))).trans (hHeld.2.2.2.2.1)
           have HS5_ := (hb.cell (World.block_lt_of_cell? _ _ (hHeld.2.2.2.2.2))).trans (hHeld.2.2.2.2.2)
           have n0_ := Aside0.mk (Kd.R_below (Kd.R_elderB (rq HO_5.out) gb272 (Nat.le_of_eq hg.symm)) hb)
           have n1_ := Aside0.mk (IsS60.below (by repeat (first | (with_reducible first | exact HI0.out | apply IsS60.alloc | apply IsS60.drewN | apply IsS60.drew | apply IsS60.set_1 | apply IsS60.set_2) | exact HI0.out)) hb)
           have n2_ := Aside0.mk (KeepBut.trans (by repeat (first | (with_reducible first | exact HK.out | apply KeepBut.set_ | apply keep_drewN | apply keep_drew | apply keep_alloc) | exact HK.out)) (KeepBut.of_below hb g none) (.inl rfl))
           have n3_ := Aside0.mk (below_step (by repeat (first | (with_reducible first | exact HB.out | apply below_alloc | apply pw_below_drewN | apply below_drew1 | refine below_set ?_ (IsS60.ge HI0.out)) | exact HB.out)) hb)
           have n4_ := Aside0.mk (hbox)
           have n5_ := Aside0.mk ((by rw [hg]; exact (keep_size (w := w) (g := g) (row := none) (by repeat (first | (with_reducible first | exact HK.out | apply KeepBut.set_ | apply keep_drewN | apply keep_drew | apply keep_alloc) | exact HK.out))) : w.heap.size ≤ gb272))
           have n6_ := Aside0.mk ((Nat.le_trans HW0.out (by rw [hg]; exact (keep_size (w := w) (g := g) (row := none) (by repeat (first | (with_reducible first | exact HK.out | apply KeepBut.set_ | apply keep_drewN | apply keep_drew | apply keep_alloc) | exact HK.out))) : w.heap.size ≤ gb272) : w0.heap.size ≤ gb272))
           have n7_ := Aside0.mk ((by rw [hg]; exact Nat.ne_of_lt (IsS60.lt (show IsS60 w0 _ g s0_0 t268 t269 from by repeat (first | (with_reducible first | exact HI0.out | apply IsS60.alloc | apply IsS60.drewN | apply IsS60.drew | apply IsS60.set_1 | apply IsS60.set_2) | exact HI0.out))) : g ≠ gb272))
           have n8_ := Aside0.mk ((by rw [hg]; exact Nat.ne_of_gt (IsS60.lt (show IsS60 w0 _ g s0_0 t268 t269 from by repeat (first | (with_reducible first | exact HI0.out | apply IsS60.alloc | apply IsS60.drewN | apply IsS60.drew | apply IsS60.set_1 | apply IsS60.set_2) | exact HI0.out))) : gb272 ≠ g))
           clear HO_5
           clear HI0
           clear HK
           clear HB
           have HO_5 := n0_
           have HI0 := n1_
           have HK := n2_
           have HB := n3_
           have BK272 := n4_
           have GW272 := n5_
           have GE272 := n6_
           have NB0_272 := n7_
           have NB272_0 := n8_
           clear n0_ n1_ n2_ n3_ n4_ n5_ n6_ n7_ n8_
           clear hb hbox hg
           refine hK.out _ _ ⟨HS0_, HS1_, HS2_, HS3_, HS4_, HS5_⟩ (fun hHeld => ?_)
           clear hK K
           refine norm_ (a' := ?_) ?_ ?_
           rotate_left
           ·show Act.put _ (some 9) _ = _
            simp only [Act.put, List.setIfInBounds_toArray, List.set_cons_zero, List.set_cons_succ, i64_w, i32_w]
            rfl
           refine one_ (i := 9) (N := some 10) #[true, true, true, true, true, true, true, true, true, true, false, false] rfl rfl (one_of HT_.out (by kernel_rfl)) (by decide) (fun K hK => ?_)
           refine box_step ?hg (N := 10) ?hd (cs := #[.int .i64 0, .int .i64 0, .int .i64 0]) (t := 41) ?hr ?_; (case hd => rfl); (case hg => rfl); (case hr => first | (go_simp; done) | (go_simp; rfl))
           intro gb273 hg w39 hbox hb
           have HS0_ := (hb.cell (World.block_lt_of_cell? _ _ (hHeld.1))).trans (hHeld.1)
           have HS1_ := (hb.cell (World.block_lt_of_cell? _ _ (hHeld.2.1))).trans (hHeld.2.1)
           have HS2_ := (hb.cell (World.block_lt_of_cell? _ _ (hHeld.2.2.1))).trans (hHeld.2.2.1)
           have HS3_ := (hb.cell (World.block_lt_of_cell? _ _ (hHeld.2.2.2.1))).trans (hHeld.2.2.2.1)
           have HS4_ := (hb.cell (World.block_lt_of_cell? _ _ (hHeld.2.2.2.2.1))).trans (hHeld.2.2.2.2.1)
           have HS5_ := (hb.cell (World.block_lt_of_cell? _ _ (hHeld.2.2.2.2.2))).trans (hHeld.2.2.2.2.2)
           have n0_ := Aside0.mk (Kd.R_below (Kd.R_elderB (rq HO_5.out) gb273 (Nat.le_of_eq hg.symm)) hb)
           have n1_ := Aside0.mk (IsS60.below (by repeat (first | (with_reducible first | exact HI0.out | apply IsS60.alloc | apply IsS60.drewN | apply IsS60.drew | refine IsS60.far ?_ NB0_272.out _ | apply IsS60.set_1 | apply IsS60.set_2) | exact HI0.out)) hb)
           have n2_ := Aside0.mk (blk_below (bq BK272.out) hb)
           have n3_ := Aside0.mk (KeepBut.trans (by repeat (first | (with_reducible first | exact HK.out | apply KeepBut.set_ | apply keep_drewN | apply keep_drew | apply keep_alloc | refine keep_far ?_ GW272.out _) | exact HK.out)) (KeepBut.of_below hb g none) (.inl rfl))
           have n4_ := Aside0.mk (below_step (by repeat (first | (with_reducible first | exact HB.out | apply below_alloc | apply pw_below_drewN | apply below_drew1 | refine below_set ?_ (IsS60.ge HI0.out) | refine below_set ?_ GE272.out) | exact HB.out)) hb)
           have n5_ := Aside0.mk (hbox)
           have n6_ := Aside0.mk ((by rw [hg]; exact (keep_size (w := w) (g := g) (row := none) (by repeat (first | (with_reducible first | exact HK.out | apply KeepBut.set_ | apply keep_drewN | apply keep_drew | apply keep_alloc | refine keep_far ?_ GW272.out _) | exact HK.out))) : w.heap.size ≤ gb273))
           have n7_ := Aside0.mk ((Nat.le_trans HW0.out (by rw [hg]; exact (keep_size (w := w) (g := g) (row := none) (by repeat (first | (with_reducible first | exact HK.out | apply KeepBut.set_ | apply keep_drewN | apply keep_drew | apply keep_alloc | refine keep_far ?_ GW272.out _) | exact HK.out))) : w.heap.size ≤ gb273) : w0.heap.size ≤ gb273))
           have n8_ := Aside0.mk ((ne_new hg (bq BK272.out) : gb272 ≠ gb273))
           have n9_ := Aside0.mk ((new_ne hg (bq BK272.out) : gb273 ≠ gb272))
           have n10_ := Aside0.mk ((by rw [hg]; exact Nat.ne_of_lt (IsS60.lt (show IsS60 w0 _ g s0_0 t268 t269 from by repeat (first | (with_reducible first | exact HI0.out | apply IsS60.alloc | apply IsS60.drewN | apply IsS60.drew | refine IsS60.far ?_ NB0_272.out _ | apply IsS60.set_1 | apply IsS60.set_2) | exact HI0.out))) : g ≠ gb273))
           have n11_ := Aside0.mk ((by rw [hg]; exact Nat.ne_of_gt (IsS60.lt (show IsS60 w0 _ g s0_0 t268 t269 from by repeat (first | (with_reducible first | exact HI0.out | apply IsS60.alloc | apply IsS60.drewN | apply IsS60.drew | refine IsS60.far ?_ NB0_272.out _ | apply IsS60.set_1 | apply IsS60.set_2) | exact HI0.out))) : gb273 ≠ g))
           clear HO_5
           clear HI0
           clear BK272
           clear HK
           clear HB
           have HO_5 := n0_
           have HI0 := n1_
           have BK272 := n2_
           have HK := n3_
           have HB := n4_
           have BK273 := n5_
           have GW273 := n6_
           have GE273 := n7_
           have NB272_273 := n8_
           have NB273_272 := n9_
           have NB0_273 := n10_
           have NB273_0 := n11_
           clear n0_ n1_ n2_ n3_ n4_ n5_ n6_ n7_ n8_ n9_ n10_ n11_
           clear hb hbox hg
           refine hK.out _ _ ⟨HS0_, HS1_, HS2_, HS3_, HS4_, HS5_⟩ (fun hHeld => ?_)
           clear hK K
           refine norm_ (a' := ?_) ?_ ?_
           rotate_left
           ·show Act.put _ (some 10) _ = _
            simp only [Act.put, List.setIfInBounds_toArray, List.set_cons_zero, List.set_cons_succ, i64_w, i32_w]
            rfl
           exact norm_ (by simp only [putAll, Act.put, List.setIfInBounds_toArray, List.set_cons_zero, List.set_cons_succ]) (hCont (gb272, gb273) _ ⟨hHeld, (by (with_reducible repeat (first | apply Kd.R_alloc | apply Kd.R_drewN | apply Kd.R_drew)); exact Kd.R_mono HO_5.out (fun _ hk => ⟨hk.1.2, hk.2⟩)), (bq BK272.out), (bq BK273.out), GW272.out, GE272.out, NB0_272.out, NB272_0.out, NB273_272.out, NB272_273.out, GW273.out, GE273.out, NB0_273.out, NB273_0.out, (by repeat (first | (with_reducible first | exact HI0.out | apply IsS60.alloc | apply IsS60.drewN | apply IsS60.drew | refine IsS60.far ?_ NB0_272.out _ | refine IsS60.far ?_ NB0_273.out _ | apply IsS60.set_1 | apply IsS60.set_2) | exact HI0.out)), (by repeat (first | (with_reducible first | exact HK.out | apply KeepBut.set_ | apply keep_drewN | apply keep_drew | apply keep_alloc | refine keep_far ?_ GW272.out _ | refine keep_far ?_ GW273.out _) | exact HK.out)), (by repeat (first | (with_reducible first | exact HB.out | apply below_alloc | apply pw_below_drewN | apply below_drew1 | refine below_set ?_ (IsS60.ge HI0.out) | refine below_set ?_ GE272.out | refine below_set ?_ GE273.out) | exact HB.out))⟩)
          ·skip
           refine box_step ?hg (N := 10) ?hd (cs := #[.int .i64 0, .int .i64 0, .int .i64 0]) (t := 41) ?hr ?_; (case hd => rfl); (case hg => rfl); (case hr => first | (go_simp; done) | (go_simp; rfl))
           intro gb273 hg w38 hbox hb
           have HS0_ := (hb.cell (World.block_lt_of_cell? _ _ (hHeld.1))).trans (hHeld.1)
           have HS1_ := (hb.cell (World.block_lt_of_cell? _ _ (hHeld.2.1))).trans (hHeld.2.1)
           have HS2_ := (hb.cell (World.block_lt_of_cell? _ _ (hHeld.2.2.1))).trans (hHeld.2.2.1)
           have HS3_ := (hb.cell (World.block_lt_of_cell? _ _ (hHeld.2.2.2.1))).trans (hHeld.2.2.2.1)
           have HS4_ := (hb.cell (World.block_lt_of_cell? _ _ (hHeld.2.2.2.2.1))).trans (hHeld.2.2.2.2.1)
           have HS5_ := (hb.cell (World.block_lt_of_cell? _ _ (hHeld.2.2.2.2.2))).trans (hHeld.2.2.2.2.2)
           have n0_ := Aside0.mk (Kd.R_below (Kd.R_elderB (rq HO_5.out) gb273 (Nat.le_of_eq hg.symm)) hb)
           have n1_ := Aside0.mk (IsS60.below (by repeat (first | (with_reducible first | exact HI0.out | apply IsS60.alloc | apply IsS60.drewN | apply IsS60.drew | apply IsS60.set_1 | apply IsS60.set_2) | exact HI0.out)) hb)
           have n2_ := Aside0.mk (KeepBut.trans (by repeat (first | (with_reducible first | exact HK.out | apply KeepBut.set_ | apply keep_drewN | apply keep_drew | apply keep_alloc) | exact HK.out)) (KeepBut.of_below hb g none) (.inl rfl))
           have n3_ := Aside0.mk (below_step (by repeat (first | (with_reducible first | exact HB.out | apply below_alloc | apply pw_below_drewN | apply below_drew1 | refine below_set ?_ (IsS60.ge HI0.out)) | exact HB.out)) hb)
           have n4_ := Aside0.mk (hbox)
           have n5_ := Aside0.mk ((by rw [hg]; exact (keep_size (w := w) (g := g) (row := none) (by repeat (first | (with_reducible first | exact HK.out | apply KeepBut.set_ | apply keep_drewN | apply keep_drew | apply keep_alloc) | exact HK.out))) : w.heap.size ≤ gb273))
           have n6_ := Aside0.mk ((Nat.le_trans HW0.out (by rw [hg]; exact (keep_size (w := w) (g := g) (row := none) (by repeat (first | (with_reducible first | exact HK.out | apply KeepBut.set_ | apply keep_drewN | apply keep_drew | apply keep_alloc) | exact HK.out))) : w.heap.size ≤ gb273) : w0.heap.size ≤ gb273))
           have n7_ := Aside0.mk ((by rw [hg]; exact Nat.ne_of_lt (IsS60.lt (show IsS60 w0 _ g s0_0 t268 t269 from by repeat (first | (with_reducible first | exact HI0.out | apply IsS60.alloc | apply IsS60.drewN | apply IsS60.drew | apply IsS60.set_1 | apply IsS60.set_2) | exact HI0.out))) : g ≠ gb273))
           have n8_ := Aside0.mk ((by rw [hg]; exact Nat.ne_of_gt (IsS60.lt (show IsS60 w0 _ g s0_0 t268 t269 from by repeat (first | (with_reducible first | exact HI0.out | apply IsS60.alloc | apply IsS60.drewN | apply IsS60.drew | apply IsS60.set_1 | apply IsS60.set_2) | exact HI0.out))) : gb273 ≠ g))
           clear HO_5
           clear HI0
           clear HK
           clear HB
           have HO_5 := n0_
           have HI0 := n1_
           have HK := n2_
           have HB := n3_
           have BK273 := n4_
           have GW273 := n5_
           have GE273 := n6_
           have NB0_273 := n7_
           have NB273_0 := n8_
           clear n0_ n1_ n2_ n3_ n4_ n5_ n6_ n7_ n8_
           clear hb hbox hg
           refine hK.out _ _ ⟨HS0_, HS1_, HS2_, HS3_, HS4_, HS5_⟩ (fun hHeld => ?_)
           clear hK K
           refine norm_ (a' := ?_) ?_ ?_
           rotate_left
           ·show Act.put _ (some 10) _ = _
            simp only [Act.put, List.setIfInBounds_toArray, List.set_cons_zero, List.set_cons_succ, i64_w, i32_w]
            rfl
           refine one_ (i := 8) (N := some 9) #[true, true, true, true, true, true, true, true, true, true, false, false] rfl rfl (one_of HT_.out (by kernel_rfl)) (by decide) (fun K hK => ?_)
           refine box_step ?hg (N := 9) ?hd (cs := #[.int .i64 0, .int .i64 0, .int .i64 0]) (t := 41) ?hr ?_; (case hd => rfl); (case hg => rfl); (case hr => first | (go_simp; done) | (go_simp; rfl))
           intro gb272 hg w39 hbox hb
           have HS0_ := (hb.cell (World.block_lt_of_cell? _ _ (hHeld.1))).trans (hHeld.1)
           have HS1_ := (hb.cell (World.block_lt_of_cell? _ _ (hHeld.2.1))).trans (hHeld.2.1)
           have HS2_ := (hb.cell (World.block_lt_of_cell? _ _ (hHeld.2.2.1))).trans (hHeld.2.2.1)
           have HS3_ := (hb.cell (World.block_lt_of_cell? _ _ (hHeld.2.2.2.1))).trans (hHeld.2.2.2.1)
           have HS4_ := (hb.cell (World.block_lt_of_cell? _ _ (hHeld.2.2.2.2.1))).trans (hHeld.2.2.2.2.1)
           have HS5_ := (hb.cell (World.block_lt_of_cell? _ _ (hHeld.2.2.2.2.2))).trans (hHeld.2.2.2.2.2)
           have n0_ := Aside0.mk (Kd.R_below (Kd.R_elderB (rq HO_5.out) gb272 (Nat.le_of_eq hg.symm)) hb)
           have n1_ := Aside0.mk (IsS60.below (by repeat (first | (with_reducible first | exact HI0.out | apply IsS60.alloc | apply IsS60.drewN | apply IsS60.drew | refine IsS60.far ?_ NB0_273.out _ | apply IsS60.set_1 | apply IsS60.set_2) | exact HI0.out)) hb)
           have n2_ := Aside0.mk (blk_below (bq BK273.out) hb)
           have n3_ := Aside0.mk (KeepBut.trans (by repeat (first | (with_reducible first | exact HK.out | apply KeepBut.set_ | apply keep_drewN | apply keep_drew | apply keep_alloc | refine keep_far ?_ GW273.out _) | exact HK.out)) (KeepBut.of_below hb g none) (.inl rfl))
           have n4_ := Aside0.mk (below_step (by repeat (first | (with_reducible first | exact HB.out | apply below_alloc | apply pw_below_drewN | apply below_drew1 | refine below_set ?_ (IsS60.ge HI0.out) | refine below_set ?_ GE273.out) | exact HB.out)) hb)
           have n5_ := Aside0.mk (hbox)
           have n6_ := Aside0.mk ((by rw [hg]; exact (keep_size (w := w) (g := g) (row := none) (by repeat (first | (with_reducible first | exact HK.out | apply KeepBut.set_ | apply keep_drewN | apply keep_drew | apply keep_alloc | refine keep_far ?_ GW273.out _) | exact HK.out))) : w.heap.size ≤ gb272))
           have n7_ := Aside0.mk ((Nat.le_trans HW0.out (by rw [hg]; exact (keep_size (w := w) (g := g) (row := none) (by repeat (first | (with_reducible first | exact HK.out | apply KeepBut.set_ | apply keep_drewN | apply keep_drew | apply keep_alloc | refine keep_far ?_ GW273.out _) | exact HK.out))) : w.heap.size ≤ gb272) : w0.heap.size ≤ gb272))
           have n8_ := Aside0.mk ((ne_new hg (bq BK273.out) : gb273 ≠ gb272))
           have n9_ := Aside0.mk ((new_ne hg (bq BK273.out) : gb272 ≠ gb273))
           have n10_ := Aside0.mk ((by rw [hg]; exact Nat.ne_of_lt (IsS60.lt (show IsS60 w0 _ g s0_0 t268 t269 from by repeat (first | (with_reducible first | exact HI0.out | apply IsS60.alloc | apply IsS60.drewN | apply IsS60.drew | refine IsS60.far ?_ NB0_273.out _ | apply IsS60.set_1 | apply IsS60.set_2) | exact HI0.out))) : g ≠ gb272))
           have n11_ := Aside0.mk ((by rw [hg]; exact Nat.ne_of_gt (IsS60.lt (show IsS60 w0 _ g s0_0 t268 t269 from by repeat (first | (with_reducible first | exact HI0.out | apply IsS60.alloc | apply IsS60.drewN | apply IsS60.drew | refine IsS60.far ?_ NB0_273.out _ | apply IsS60.set_1 | apply IsS60.set_2) | exact HI0.out))) : gb272 ≠ g))
           clear HO_5
           clear HI0
           clear BK273
           clear HK
           clear HB
           have HO_5 := n0_
           have HI0 := n1_
           have BK273 := n2_
           have HK := n3_
           have HB := n4_
           have BK272 := n5_
           have GW272 := n6_
           have GE272 := n7_
           have NB273_272 := n8_
           have NB272_273 := n9_
           have NB0_272 := n10_
           have NB272_0 := n11_
           clear n0_ n1_ n2_ n3_ n4_ n5_ n6_ n7_ n8_ n9_ n10_ n11_
           clear hb hbox hg
           refine hK.out _ _ ⟨HS0_, HS1_, HS2_, HS3_, HS4_, HS5_⟩ (fun hHeld => ?_)
           clear hK K
           refine norm_ (a' := ?_) ?_ ?_
           rotate_left
           ·show Act.put _ (some 9) _ = _
            simp only [Act.put, List.setIfInBounds_toArray, List.set_cons_zero, List.set_cons_succ, i64_w, i32_w]
            rfl
           exact norm_ (by simp only [putAll, Act.put, List.setIfInBounds_toArray, List.set_cons_zero, List.set_cons_succ]) (hCont (gb272, gb273) _ ⟨hHeld, (by (with_reducible repeat (first | apply Kd.R_alloc | apply Kd.R_drewN | apply Kd.R_drew)); exact Kd.R_mono HO_5.out (fun _ hk => ⟨hk.2, hk.1.2⟩)), (bq BK272.out), (bq BK273.out), GW272.out, GE272.out, NB0_272.out, NB272_0.out, NB273_272.out, NB272_273.out, GW273.out, GE273.out, NB0_273.out, NB273_0.out, (by repeat (first | (with_reducible first | exact HI0.out | apply IsS60.alloc | apply IsS60.drewN | apply IsS60.drew | refine IsS60.far ?_ NB0_273.out _ | refine IsS60.far ?_ NB0_272.out _ | apply IsS60.set_1 | apply IsS60.set_2) | exact HI0.out)), (by repeat (first | (with_reducible first | exact HK.out | apply KeepBut.set_ | apply keep_drewN | apply keep_drew | apply keep_alloc | refine keep_far ?_ GW273.out _ | refine keep_far ?_ GW272.out _) | exact HK.out)), (by repeat (first | (with_reducible first | exact HB.out | apply below_alloc | apply pw_below_drewN | apply below_drew1 | refine below_set ?_ (IsS60.ge HI0.out) | refine below_set ?_ GE273.out | refine below_set ?_ GE272.out) | exact HB.out))⟩)
         rintro ⟨gb272, gb273⟩ w40 ⟨hS_, h0_, h1_, h2_, h3_, h4_, h5_, h6_, h7_, h8_, h9_, h10_, h11_, h12_, h13_, h14_, h15_⟩
         have n0_ : Aside0 (Kd.R k41 41 w40 w.heap.size (fun k_ => k_ ≠ gb272 ∧ k_ ≠ gb273) (.slice (some ad270) x5_1.length co37) x5_1) := ⟨h0_⟩
         have n1_ : Aside0 (w40.heap[gb272]? = some (.cells #[.int .i64 0, .int .i64 0, .int .i64 0] 41 (0, 0))) := ⟨h1_⟩
         have n2_ : Aside0 (w40.heap[gb273]? = some (.cells #[.int .i64 0, .int .i64 0, .int .i64 0] 41 (0, 0))) := ⟨h2_⟩
         have n3_ : Aside0 (w.heap.size ≤ gb272) := ⟨h3_⟩
         have n4_ : Aside0 (w0.heap.size ≤ gb272) := ⟨h4_⟩
         have n5_ : Aside0 (g ≠ gb272) := ⟨h5_⟩
         have n6_ : Aside0 (gb272 ≠ g) := ⟨h6_⟩
         have n7_ : Aside0 (gb273 ≠ gb272) := ⟨h7_⟩
         have n8_ : Aside0 (gb272 ≠ gb273) := ⟨h8_⟩
         have n9_ : Aside0 (w.heap.size ≤ gb273) := ⟨h9_⟩
         have n10_ : Aside0 (w0.heap.size ≤ gb273) := ⟨h10_⟩
         have n11_ : Aside0 (g ≠ gb273) := ⟨h11_⟩
         have n12_ : Aside0 (gb273 ≠ g) := ⟨h12_⟩
         have n13_ : Aside0 (IsS60 w0 w40 g s0_0 t268 t269) := ⟨h13_⟩
         have n14_ : Aside0 (KeepBut w w40 g none) := ⟨h14_⟩
         have n15_ : Aside0 (Below w0.heap.size w0 w40) := ⟨h15_⟩
         clear HO_5
         clear HI0
         clear HK
         clear HB
         clear h0_ h1_ h2_ h3_ h4_ h5_ h6_ h7_ h8_ h9_ h10_ h11_ h12_ h13_ h14_ h15_
         have HO_5 := n0_
         have BK272 := n1_
         have BK273 := n2_
         have GW272 := n3_
         have GE272 := n4_
         have NB0_272 := n5_
         have NB272_0 := n6_
         have NB273_272 := n7_
         have NB272_273 := n8_
         have GW273 := n9_
         have GE273 := n10_
         have NB0_273 := n11_
         have NB273_0 := n12_
         have HI0 := n13_
         have HK := n14_
         have HB := n15_
         clear n0_ n1_ n2_ n3_ n4_ n5_ n6_ n7_ n8_ n9_ n10_ n11_ n12_ n13_ n14_ n15_
         have hHeld : w40.cell? ad270 = some (.int .i64 ((rd_T41 x5_1 0).f0)) ∧ w40.cell? ⟨ad270.block, ad270.off + 1, none⟩ = some (.int .i64 ((rd_T41 x5_1 0).f1)) ∧ w40.cell? ⟨ad270.block, ad270.off + 2, none⟩ = some (.int .i64 ((rd_T41 x5_1 0).f2)) ∧ w40.cell? (ad270.add (((ji30)).toNat * 3)) = some (.int .i64 ((rd_T41 x5_1 (ji30)).f0)) ∧ w40.cell? ⟨(ad270.add (((ji30)).toNat * 3)).block, (ad270.add (((ji30)).toNat * 3)).off + 1, none⟩ = some (.int .i64 ((rd_T41 x5_1 (ji30)).f1)) ∧ w40.cell? ⟨(ad270.add (((ji30)).toNat * 3)).block, (ad270.add (((ji30)).toNat * 3)).off + 2, none⟩ = some (.int .i64 ((rd_T41 x5_1 (ji30)).f2)) := hS_
         refine norm_ (a' := ?_) ?_ ?_
         rotate_left
         ·simp only [putAll, Act.put, List.setIfInBounds_toArray, List.set_cons_zero, List.set_cons_succ]
          rfl
         refine one_ (i := 10) (N := none) #[true, true, true, true, true, true, true, true, true, true, true, false] rfl rfl (one_of HT_.out (by kernel_rfl)) (by decide) (fun K hK => ?_)
         have hs41 : w40.cell? ⟨gb272, 0, none⟩ = some (.int .i64 0) := (blk_cell BK272.out 0).trans rfl
         have hfs41 := blk_frozen BK272.out 0
         have hns41_1 := NB273_272.out
         have hms41_1 := NB272_273.out
         have hs42 : w40.cell? ⟨gb272, 1, none⟩ = some (.int .i64 0) := (blk_cell BK272.out 1).trans rfl
         have hfs42 := blk_frozen BK272.out 1
         have hns42_1 := NB273_272.out
         have hms42_1 := NB272_273.out
         have hs43 : w40.cell? ⟨gb272, 2, none⟩ = some (.int .i64 0) := (blk_cell BK272.out 2).trans rfl
         have hfs43 := blk_frozen BK272.out 2
         have hns43_1 := NB273_272.out
         have hms43_1 := NB272_273.out
         refine skip_ (w1 := ?_) (by rfl) rfl ?_ ?_
         rotate_left
         ·go_simp
          rfl
         refine hK.out _ _ ⟨((cell_far (p := ⟨gb272, _, none⟩) (by first | exact Kd.own_blk (Kd.R_away HO_5.out (fun _ hk => hk.1)) | (rw [add_block]; exact Kd.own_blk (Kd.R_away HO_5.out (fun _ hk => hk.1))) | (show (Addr.add _ _).block ≠ _; rw [add_block]; exact Kd.own_blk (Kd.R_away HO_5.out (fun _ hk => hk.1))) | (dsimp only; exact Kd.own_blk (Kd.R_away HO_5.out (fun _ hk => hk.1)))) _).trans (((cell_far (p := ⟨gb272, _, none⟩) (by first | exact Kd.own_blk (Kd.R_away HO_5.out (fun _ hk => hk.1)) | (rw [add_block]; exact Kd.own_blk (Kd.R_away HO_5.out (fun _ hk => hk.1))) | (show (Addr.add _ _).block ≠ _; rw [add_block]; exact Kd.own_blk (Kd.R_away HO_5.out (fun _ hk => hk.1))) | (dsimp only; exact Kd.own_blk (Kd.R_away HO_5.out (fun _ hk => hk.1)))) _).trans (((cell_far (p := ⟨gb272, _, none⟩) (by first | exact Kd.own_blk (Kd.R_away HO_5.out (fun _ hk => hk.1)) | (rw [add_block]; exact Kd.own_blk (Kd.R_away HO_5.out (fun _ hk => hk.1))) | (show (Addr.add _ _).block ≠ _; rw [add_block]; exact Kd.own_blk (Kd.R_away HO_5.out (fun _ hk => hk.1))) | (dsimp only; exact Kd.own_blk (Kd.R_away HO_5.out (fun _ hk => hk.1)))) _).trans (hHeld.1)))))), ((cell_far (p := ⟨gb272, _, none⟩) (by first | exact Kd.own_blk (Kd.R_away HO_5.out (fun _ hk => hk.1)) | (rw [add_block]; exact Kd.own_blk (Kd.R_away HO_5.out (fun _ hk => hk.1))) | (show (Addr.add _ _).block ≠ _; rw [add_block]; exact Kd.own_blk (Kd.R_away HO_5.out (fun _ hk => hk.1))) | (dsimp only; exact Kd.own_blk (Kd.R_away HO_5.out (fun _ hk => hk.1)))) _).trans (((cell_far (p := ⟨gb272, _, none⟩) (by first | exact Kd.own_blk (Kd.R_away HO_5.out (fun _ hk => hk.1)) | (rw [add_block]; exact Kd.own_blk (Kd.R_away HO_5.out (fun _ hk => hk.1))) | (show (Addr.add _ _).block ≠ _; rw [add_block]; exact Kd.own_blk (Kd.R_away HO_5.out (fun _ hk => hk.1))) | (dsimp only; exact Kd.own_blk (Kd.R_away HO_5.out (fun _ hk => hk.1)))) _).trans (((cell_far (p := ⟨gb272, _, none⟩) (by first | exact Kd.own_blk (Kd.R_away HO_5.out (fun _ hk => hk.1)) | (rw [add_block]; exact Kd.own_blk (Kd.R_away HO_5.out (fun _ hk => hk.1))) | (show (Addr.add _ _).block ≠ _; rw [add_block]; exact Kd.own_blk (Kd.R_away HO_5.out (fun _ hk => hk.1))) | (dsimp only; exact Kd.own_blk (Kd.R_away HO_5.out (fun _ hk => hk.1)))) _).trans (hHeld.2.1)))))), ((cell_far (p := ⟨gb272, _, none⟩) (by first | exact Kd.own_blk (Kd.R_away HO_5.out (fun _ hk => hk.1)) | (rw [add_block]; exact Kd.own_blk (Kd.R_away HO_5.out (fun _ hk => hk.1))) | (show (Addr.add _ _).block ≠ _; rw [add_block]; exact Kd.own_blk (Kd.R_away HO_5.out (fun _ hk => hk.1))) | (dsimp only; exact Kd.own_blk (Kd.R_away HO_5.out (fun _ hk => hk.1)))) _).trans (((cell_far (p := ⟨gb272, _, none⟩) (by first | exact Kd.own_blk (Kd.R_away HO_5.out (fun _ hk => hk.1)) | (rw [add_block]; exact Kd.own_blk (Kd.R_away HO_5.out (fun _ hk => hk.1))) | (show (Addr.add _ _).block ≠ _; rw [add_block]; exact Kd.own_blk (Kd.R_away HO_5.out (fun _ hk => hk.1))) | (dsimp only; exact Kd.own_blk (Kd.R_away HO_5.out (fun _ hk => hk.1)))) _).trans (((cell_far (p := ⟨gb272, _, none⟩) (by first | exact Kd.own_blk (Kd.R_away HO_5.out (fun _ hk => hk.1)) | (rw [add_block]; exact Kd.own_blk (Kd.R_away HO_5.out (fun _ hk => hk.1))) | (show (Addr.add _ _).block ≠ _; rw [add_block]; exact Kd.own_blk (Kd.R_away HO_5.out (fun _ hk => hk.1))) | (dsimp only; exact Kd.own_blk (Kd.R_away HO_5.out (fun _ hk => hk.1)))) _).trans (hHeld.2.2.1)))))), ((cell_far (p := ⟨gb272, _, none⟩) (by first | exact Kd.own_blk (Kd.R_away HO_5.out (fun _ hk => hk.1)) | (rw [add_block]; exact Kd.own_blk (Kd.R_away HO_5.out (fun _ hk => hk.1))) | (show (Addr.add _ _).block ≠ _; rw [add_block]; exact Kd.own_blk (Kd.R_away HO_5.out (fun _ hk => hk.1))) | (dsimp only; exact Kd.own_blk (Kd.R_away HO_5.out (fun _ hk => hk.1)))) _).trans (((cell_far (p := ⟨gb272, _, none⟩) (by first | exact Kd.own_blk (Kd.R_away HO_5.out (fun _ hk => hk.1)) | (rw [add_block]; exact Kd.own_blk (Kd.R_away HO_5.out (fun _ hk => hk.1))) | (show (Addr.add _ _).block ≠ _; rw [add_block]; exact Kd.own_blk (Kd.R_away HO_5.out (fun _ hk => hk.1))) | (dsimp only; exact Kd.own_blk (Kd.R_away HO_5.out (fun _ hk => hk.1)))) _).trans (((cell_far (p := ⟨gb272, _, none⟩) (by first | exact Kd.own_blk (Kd.R_away HO_5.out (fun _ hk => hk.1)) | (rw [add_block]; exact Kd.own_blk (Kd.R_away HO_5.out (fun _ hk => hk.1))) | (show (Addr.add _ _).block ≠ _; rw [add_block]; exact Kd.own_blk (Kd.R_away HO_5.out (fun _ hk => hk.1))) | (dsimp only; exact Kd.own_blk (Kd.R_away HO_5.out (fun _ hk => hk.1)))) _).trans (hHeld.2.2.2.1)))))), ((cell_far (p := ⟨gb272, _, none⟩) (by first | exact Kd.own_blk (Kd.R_away HO_5.out (fun _ hk => hk.1)) | (rw [add_block]; exact Kd.own_blk (Kd.R_away HO_5.out (fun _ hk => hk.1))) | (show (Addr.add _ _).block ≠ _; rw [add_block]; exact Kd.own_blk (Kd.R_away HO_5.out (fun _ hk => hk.1))) | (dsimp only; exact Kd.own_blk (Kd.R_away HO_5.out (fun _ hk => hk.1)))) _).trans (((cell_far (p := ⟨gb272, _, none⟩) (by first | exact Kd.own_blk (Kd.R_away HO_5.out (fun _ hk => hk.1)) | (rw [add_block]; exact Kd.own_blk (Kd.R_away HO_5.out (fun _ hk => hk.1))) | (show (Addr.add _ _).block ≠ _; rw [add_block]; exact Kd.own_blk (Kd.R_away HO_5.out (fun _ hk => hk.1))) | (dsimp only; exact Kd.own_blk (Kd.R_away HO_5.out (fun _ hk => hk.1)))) _).trans (((cell_far (p := ⟨gb272, _, none⟩) (by first | exact Kd.own_blk (Kd.R_away HO_5.out (fun _ hk => hk.1)) | (rw [add_block]; exact Kd.own_blk (Kd.R_away HO_5.out (fun _ hk => hk.1))) | (show (Addr.add _ _).block ≠ _; rw [add_block]; exact Kd.own_blk (Kd.R_away HO_5.out (fun _ hk => hk.1))) | (dsimp only; exact Kd.own_blk (Kd.R_away HO_5.out (fun _ hk => hk.1)))) _).trans (hHeld.2.2.2.2.1)))))), ((cell_far (p := ⟨gb272, _, none⟩) (by first | exact Kd.own_blk (Kd.R_away HO_5.out (fun _ hk => hk.1)) | (rw [add_block]; exact Kd.own_blk (Kd.R_away HO_5.out (fun _ hk => hk.1))) | (show (Addr.add _ _).block ≠ _; rw [add_block]; exact Kd.own_blk (Kd.R_away HO_5.out (fun _ hk => hk.1))) | (dsimp only; exact Kd.own_blk (Kd.R_away HO_5.out (fun _ hk => hk.1)))) _).trans (((cell_far (p := ⟨gb272, _, none⟩) (by first | exact Kd.own_blk (Kd.R_away HO_5.out (fun _ hk => hk.1)) | (rw [add_block]; exact Kd.own_blk (Kd.R_away HO_5.out (fun _ hk => hk.1))) | (show (Addr.add _ _).block ≠ _; rw [add_block]; exact Kd.own_blk (Kd.R_away HO_5.out (fun _ hk => hk.1))) | (dsimp only; exact Kd.own_blk (Kd.R_away HO_5.out (fun _ hk => hk.1)))) _).trans (((cell_far (p := ⟨gb272, _, none⟩) (by first | exact Kd.own_blk (Kd.R_away HO_5.out (fun _ hk => hk.1)) | (rw [add_block]; exact Kd.own_blk (Kd.R_away HO_5.out (fun _ hk => hk.1))) | (show (Addr.add _ _).block ≠ _; rw [add_block]; exact Kd.own_blk (Kd.R_away HO_5.out (fun _ hk => hk.1))) | (dsimp only; exact Kd.own_blk (Kd.R_away HO_5.out (fun _ hk => hk.1)))) _).trans (hHeld.2.2.2.2.2))))))⟩ (fun hHeld => ?_)
         clear hK K
         refine one_ (i := 11) (N := none) #[true, true, true, true, true, true, true, true, true, true, true, true] rfl rfl (one_of HT_.out (by kernel_rfl)) (by decide) (fun K hK => ?_)
         have hs44 : w40.cell? ⟨gb273, 0, none⟩ = some (.int .i64 0) := (blk_cell BK273.out 0).trans rfl
         have hfs44 := blk_frozen BK273.out 0
         have hns44_0 := NB272_273.out
         have hms44_0 := NB273_272.out
         have hs45 : w40.cell? ⟨gb273, 1, none⟩ = some (.int .i64 0) := (blk_cell BK273.out 1).trans rfl
         have hfs45 := blk_frozen BK273.out 1
         have hns45_0 := NB272_273.out
         have hms45_0 := NB273_272.out
         have hs46 : w40.cell? ⟨gb273, 2, none⟩ = some (.int .i64 0) := (blk_cell BK273.out 2).trans rfl
         have hfs46 := blk_frozen BK273.out 2
         have hns46_0 := NB272_273.out
         have hms46_0 := NB273_272.out
         refine skip_ (w1 := ?_) (by rfl) rfl ?_ ?_
         rotate_left
         ·go_simp
          rfl
         refine hK.out _ _ ⟨((cell_far (p := ⟨gb273, _, none⟩) (by first | exact Kd.own_blk (Kd.R_away HO_5.out (fun _ hk => hk.2)) | (rw [add_block]; exact Kd.own_blk (Kd.R_away HO_5.out (fun _ hk => hk.2))) | (show (Addr.add _ _).block ≠ _; rw [add_block]; exact Kd.own_blk (Kd.R_away HO_5.out (fun _ hk => hk.2))) | (dsimp only; exact Kd.own_blk (Kd.R_away HO_5.out (fun _ hk => hk.2)))) _).trans (((cell_far (p := ⟨gb273, _, none⟩) (by first | exact Kd.own_blk (Kd.R_away HO_5.out (fun _ hk => hk.2)) | (rw [add_block]; exact Kd.own_blk (Kd.R_away HO_5.out (fun _ hk => hk.2))) | (show (Addr.add _ _).block ≠ _; rw [add_block]; exact Kd.own_blk (Kd.R_away HO_5.out (fun _ hk => hk.2))) | (dsimp only; exact Kd.own_blk (Kd.R_away HO_5.out (fun _ hk => hk.2)))) _).trans (((cell_far (p := ⟨gb273, _, none⟩) (by first | exact Kd.own_blk (Kd.R_away HO_5.out (fun _ hk => hk.2)) | (rw [add_block]; exact Kd.own_blk (Kd.R_away HO_5.out (fun _ hk => hk.2))) | (show (Addr.add _ _).block ≠ _; rw [add_block]; exact Kd.own_blk (Kd.R_away HO_5.out (fun _ hk => hk.2))) | (dsimp only; exact Kd.own_blk (Kd.R_away HO_5.out (fun _ hk => hk.2)))) _).trans (hHeld.1)))))), ((cell_far (p := ⟨gb273, _, none⟩) (by first | exact Kd.own_blk (Kd.R_away HO_5.out (fun _ hk => hk.2)) | (rw [add_block]; exact Kd.own_blk (Kd.R_away HO_5.out (fun _ hk => hk.2))) | (show (Addr.add _ _).block ≠ _; rw [add_block]; exact Kd.own_blk (Kd.R_away HO_5.out (fun _ hk => hk.2))) | (dsimp only; exact Kd.own_blk (Kd.R_away HO_5.out (fun _ hk => hk.2)))) _).trans (((cell_far (p := ⟨gb273, _, none⟩) (by first | exact Kd.own_blk (Kd.R_away HO_5.out (fun _ hk => hk.2)) | (rw [add_block]; exact Kd.own_blk (Kd.R_away HO_5.out (fun _ hk => hk.2))) | (show (Addr.add _ _).block ≠ _; rw [add_block]; exact Kd.own_blk (Kd.R_away HO_5.out (fun _ hk => hk.2))) | (dsimp only; exact Kd.own_blk (Kd.R_away HO_5.out (fun _ hk => hk.2)))) _).trans (((cell_far (p := ⟨gb273, _, none⟩) (by first | exact Kd.own_blk (Kd.R_away HO_5.out (fun _ hk => hk.2)) | (rw [add_block]; exact Kd.own_blk (Kd.R_away HO_5.out (fun _ hk => hk.2))) | (show (Addr.add _ _).block ≠ _; rw [add_block]; exact Kd.own_blk (Kd.R_away HO_5.out (fun _ hk => hk.2))) | (dsimp only; exact Kd.own_blk (Kd.R_away HO_5.out (fun _ hk => hk.2)))) _).trans (hHeld.2.1)))))), ((cell_far (p := ⟨gb273, _, none⟩) (by first | exact Kd.own_blk (Kd.R_away HO_5.out (fun _ hk => hk.2)) | (rw [add_block]; exact Kd.own_blk (Kd.R_away HO_5.out (fun _ hk => hk.2))) | (show (Addr.add _ _).block ≠ _; rw [add_block]; exact Kd.own_blk (Kd.R_away HO_5.out (fun _ hk => hk.2))) | (dsimp only; exact Kd.own_blk (Kd.R_away HO_5.out (fun _ hk => hk.2)))) _).trans (((cell_far (p := ⟨gb273, _, none⟩) (by first | exact Kd.own_blk (Kd.R_away HO_5.out (fun _ hk => hk.2)) | (rw [add_block]; exact Kd.own_blk (Kd.R_away HO_5.out (fun _ hk => hk.2))) | (show (Addr.add _ _).block ≠ _; rw [add_block]; exact Kd.own_blk (Kd.R_away HO_5.out (fun _ hk => hk.2))) | (dsimp only; exact Kd.own_blk (Kd.R_away HO_5.out (fun _ hk => hk.2)))) _).trans (((cell_far (p := ⟨gb273, _, none⟩) (by first | exact Kd.own_blk (Kd.R_away HO_5.out (fun _ hk => hk.2)) | (rw [add_block]; exact Kd.own_blk (Kd.R_away HO_5.out (fun _ hk => hk.2))) | (show (Addr.add _ _).block ≠ _; rw [add_block]; exact Kd.own_blk (Kd.R_away HO_5.out (fun _ hk => hk.2))) | (dsimp only; exact Kd.own_blk (Kd.R_away HO_5.out (fun _ hk => hk.2)))) _).trans (hHeld.2.2.1)))))), ((cell_far (p := ⟨gb273, _, none⟩) (by first | exact Kd.own_blk (Kd.R_away HO_5.out (fun _ hk => hk.2)) | (rw [add_block]; exact Kd.own_blk (Kd.R_away HO_5.out (fun _ hk => hk.2))) | (show (Addr.add _ _).block ≠ _; rw [add_block]; exact Kd.own_blk (Kd.R_away HO_5.out (fun _ hk => hk.2))) | (dsimp only; exact Kd.own_blk (Kd.R_away HO_5.out (fun _ hk => hk.2)))) _).trans (((cell_far (p := ⟨gb273, _, none⟩) (by first | exact Kd.own_blk (Kd.R_away HO_5.out (fun _ hk => hk.2)) | (rw [add_block]; exact Kd.own_blk (Kd.R_away HO_5.out (fun _ hk => hk.2))) | (show (Addr.add _ _).block ≠ _; rw [add_block]; exact Kd.own_blk (Kd.R_away HO_5.out (fun _ hk => hk.2))) | (dsimp only; exact Kd.own_blk (Kd.R_away HO_5.out (fun _ hk => hk.2)))) _).trans (((cell_far (p := ⟨gb273, _, none⟩) (by first | exact Kd.own_blk (Kd.R_away HO_5.out (fun _ hk => hk.2)) | (rw [add_block]; exact Kd.own_blk (Kd.R_away HO_5.out (fun _ hk => hk.2))) | (show (Addr.add _ _).block ≠ _; rw [add_block]; exact Kd.own_blk (Kd.R_away HO_5.out (fun _ hk => hk.2))) | (dsimp only; exact Kd.own_blk (Kd.R_away HO_5.out (fun _ hk => hk.2)))) _).trans (hHeld.2.2.2.1)))))), ((cell_far (p := ⟨gb273, _, none⟩) (by first | exact Kd.own_blk (Kd.R_away HO_5.out (fun _ hk => hk.2)) | (rw [add_block]; exact Kd.own_blk (Kd.R_away HO_5.out (fun _ hk => hk.2))) | (show (Addr.add _ _).block ≠ _; rw [add_block]; exact Kd.own_blk (Kd.R_away HO_5.out (fun _ hk => hk.2))) | (dsimp only; exact Kd.own_blk (Kd.R_away HO_5.out (fun _ hk => hk.2)))) _).trans (((cell_far (p := ⟨gb273, _, none⟩) (by first | exact Kd.own_blk (Kd.R_away HO_5.out (fun _ hk => hk.2)) | (rw [add_block]; exact Kd.own_blk (Kd.R_away HO_5.out (fun _ hk => hk.2))) | (show (Addr.add _ _).block ≠ _; rw [add_block]; exact Kd.own_blk (Kd.R_away HO_5.out (fun _ hk => hk.2))) | (dsimp only; exact Kd.own_blk (Kd.R_away HO_5.out (fun _ hk => hk.2)))) _).trans (((cell_far (p := ⟨gb273, _, none⟩) (by first | exact Kd.own_blk (Kd.R_away HO_5.out (fun _ hk => hk.2)) | (rw [add_block]; exact Kd.own_blk (Kd.R_away HO_5.out (fun _ hk => hk.2))) | (show (Addr.add _ _).block ≠ _; rw [add_block]; exact Kd.own_blk (Kd.R_away HO_5.out (fun _ hk => hk.2))) | (dsimp only; exact Kd.own_blk (Kd.R_away HO_5.out (fun _ hk => hk.2)))) _).trans (hHeld.2.2.2.2.1)))))), ((cell_far (p := ⟨gb273, _, none⟩) (by first | exact Kd.own_blk (Kd.R_away HO_5.out (fun _ hk => hk.2)) | (rw [add_block]; exact Kd.own_blk (Kd.R_away HO_5.out (fun _ hk => hk.2))) | (show (Addr.add _ _).block ≠ _; rw [add_block]; exact Kd.own_blk (Kd.R_away HO_5.out (fun _ hk => hk.2))) | (dsimp only; exact Kd.own_blk (Kd.R_away HO_5.out (fun _ hk => hk.2)))) _).trans (((cell_far (p := ⟨gb273, _, none⟩) (by first | exact Kd.own_blk (Kd.R_away HO_5.out (fun _ hk => hk.2)) | (rw [add_block]; exact Kd.own_blk (Kd.R_away HO_5.out (fun _ hk => hk.2))) | (show (Addr.add _ _).block ≠ _; rw [add_block]; exact Kd.own_blk (Kd.R_away HO_5.out (fun _ hk => hk.2))) | (dsimp only; exact Kd.own_blk (Kd.R_away HO_5.out (fun _ hk => hk.2)))) _).trans (((cell_far (p := ⟨gb273, _, none⟩) (by first | exact Kd.own_blk (Kd.R_away HO_5.out (fun _ hk => hk.2)) | (rw [add_block]; exact Kd.own_blk (Kd.R_away HO_5.out (fun _ hk => hk.2))) | (show (Addr.add _ _).block ≠ _; rw [add_block]; exact Kd.own_blk (Kd.R_away HO_5.out (fun _ hk => hk.2))) | (dsimp only; exact Kd.own_blk (Kd.R_away HO_5.out (fun _ hk => hk.2)))) _).trans (hHeld.2.2.2.2.2))))))⟩ (fun hHeld => ?_)
         clear hK K
         refine done_ (done_of HT_.out (by kernel_rfl)) ?_
         have n0_ : Aside0 (Kd.R k41 41 ((((((w40.setCell ⟨gb272, 0, none⟩ (.int .i64 ((rd_T41 x5_1 0).f0))).setCell ⟨gb272, 1, none⟩ (.int .i64 ((rd_T41 x5_1 0).f1))).setCell ⟨gb272, 2, none⟩ (.int .i64 ((rd_T41 x5_1 0).f2))).setCell ⟨gb273, 0, none⟩ (.int .i64 ((rd_T41 x5_1 (ji30)).f0))).setCell ⟨gb273, 1, none⟩ (.int .i64 ((rd_T41 x5_1 (ji30)).f1))).setCell ⟨gb273, 2, none⟩ (.int .i64 ((rd_T41 x5_1 (ji30)).f2))) w.heap.size (fun k_ => k_ ≠ gb272 ∧ k_ ≠ gb273) (.slice (some ad270) x5_1.length co37) x5_1) := ⟨by (with_reducible repeat (first | apply Kd.R_alloc | apply Kd.R_drewN | apply Kd.R_drew)); exact Kd.R_mono (Kd.R_far (p := ⟨gb273, 2, none⟩) (Kd.R_far (p := ⟨gb273, 1, none⟩) (Kd.R_far (p := ⟨gb273, 0, none⟩) (Kd.R_far (p := ⟨gb272, 2, none⟩) (Kd.R_far (p := ⟨gb272, 1, none⟩) (Kd.R_far (p := ⟨gb272, 0, none⟩) (Kd.R_mono (Kd.R_mono HO_5.out (fun k_ hk => (⟨hk, hk.1⟩ : _ ∧ k_ ≠ gb272))) (fun k_ hk => (⟨hk, hk.1.2⟩ : _ ∧ k_ ≠ gb273))) (fun _ hk => hk.1.2) (.int .i64 ((rd_T41 x5_1 0).f0))) (fun _ hk => hk.1.2) (.int .i64 ((rd_T41 x5_1 0).f1))) (fun _ hk => hk.1.2) (.int .i64 ((rd_T41 x5_1 0).f2))) (fun _ hk => hk.2) (.int .i64 ((rd_T41 x5_1 (ji30)).f0))) (fun _ hk => hk.2) (.int .i64 ((rd_T41 x5_1 (ji30)).f1))) (fun _ hk => hk.2) (.int .i64 ((rd_T41 x5_1 (ji30)).f2))) (fun _ hk => ⟨hk.1.1.1, hk.1.1.2⟩)⟩
         have n1_ : Aside0 (((((((w40.setCell ⟨gb272, 0, none⟩ (.int .i64 ((rd_T41 x5_1 0).f0))).setCell ⟨gb272, 1, none⟩ (.int .i64 ((rd_T41 x5_1 0).f1))).setCell ⟨gb272, 2, none⟩ (.int .i64 ((rd_T41 x5_1 0).f2))).setCell ⟨gb273, 0, none⟩ (.int .i64 ((rd_T41 x5_1 (ji30)).f0))).setCell ⟨gb273, 1, none⟩ (.int .i64 ((rd_T41 x5_1 (ji30)).f1))).setCell ⟨gb273, 2, none⟩ (.int .i64 ((rd_T41 x5_1 (ji30)).f2))).heap[gb272]? = some (.cells #[.int .i64 ((rd_T41 x5_1 0).f0), .int .i64 ((rd_T41 x5_1 0).f1), .int .i64 ((rd_T41 x5_1 0).f2)] 41 (0, 0))) := ⟨by (with_reducible repeat (first | refine blk_drewN ?_ _ | refine blk_drew ?_ | refine blk_alloc ?_ _)); refine blk_far ?_ NB272_273.out _; (with_reducible repeat (first | refine blk_drewN ?_ _ | refine blk_drew ?_ | refine blk_alloc ?_ _)); refine blk_far ?_ NB272_273.out _; (with_reducible repeat (first | refine blk_drewN ?_ _ | refine blk_drew ?_ | refine blk_alloc ?_ _)); refine blk_far ?_ NB272_273.out _; (with_reducible repeat (first | refine blk_drewN ?_ _ | refine blk_drew ?_ | refine blk_alloc ?_ _)); refine blk_put (cs := #[.int .i64 ((rd_T41 x5_1 0).f0), .int .i64 ((rd_T41 x5_1 0).f1), .int .i64 0]) ?_ 2 _ rfl; (with_reducible repeat (first | refine blk_drewN ?_ _ | refine blk_drew ?_ | refine blk_alloc ?_ _)); refine blk_put (cs := #[.int .i64 ((rd_T41 x5_1 0).f0), .int .i64 0, .int .i64 0]) ?_ 1 _ rfl; (with_reducible repeat (first | refine blk_drewN ?_ _ | refine blk_drew ?_ | refine blk_alloc ?_ _)); refine blk_put (cs := #[.int .i64 0, .int .i64 0, .int .i64 0]) ?_ 0 _ rfl; (with_reducible repeat (first | refine blk_drewN ?_ _ | refine blk_drew ?_ | refine blk_alloc ?_ _)); exact BK272.out⟩
         have n2_ : Aside0 (((((((w40.setCell ⟨gb272, 0, none⟩ (.int .i64 ((rd_T41 x5_1 0).f0))).setCell ⟨gb272, 1, none⟩ (.int .i64 ((rd_T41 x5_1 0).f1))).setCell ⟨gb272, 2, none⟩ (.int .i64 ((rd_T41 x5_1 0).f2))).setCell ⟨gb273, 0, none⟩ (.int .i64 ((rd_T41 x5_1 (ji30)).f0))).setCell ⟨gb273, 1, none⟩ (.int .i64 ((rd_T41 x5_1 (ji30)).f1))).setCell ⟨gb273, 2, none⟩ (.int .i64 ((rd_T41 x5_1 (ji30)).f2))).heap[gb273]? = some (.cells #[.int .i64 ((rd_T41 x5_1 (ji30)).f0), .int .i64 ((rd_T41 x5_1 (ji30)).f1), .int .i64 ((rd_T41 x5_1 (ji30)).f2)] 41 (0, 0))) := ⟨by (with_reducible repeat (first | refine blk_drewN ?_ _ | refine blk_drew ?_ | refine blk_alloc ?_ _)); refine blk_put (cs := #[.int .i64 ((rd_T41 x5_1 (ji30)).f0), .int .i64 ((rd_T41 x5_1 (ji30)).f1), .int .i64 0]) ?_ 2 _ rfl; (with_reducible repeat (first | refine blk_drewN ?_ _ | refine blk_drew ?_ | refine blk_alloc ?_ _)); refine blk_put (cs := #[.int .i64 ((rd_T41 x5_1 (ji30)).f0), .int .i64 0, .int .i64 0]) ?_ 1 _ rfl; (with_reducible repeat (first | refine blk_drewN ?_ _ | refine blk_drew ?_ | refine blk_alloc ?_ _)); refine blk_put (cs := #[.int .i64 0, .int .i64 0, .int .i64 0]) ?_ 0 _ rfl; (with_reducible repeat (first | refine blk_drewN ?_ _ | refine blk_drew ?_ | refine blk_alloc ?_ _)); refine blk_far ?_ NB273_272.out _; (with_reducible repeat (first | refine blk_drewN ?_ _ | refine blk_drew ?_ | refine blk_alloc ?_ _)); refine blk_far ?_ NB273_272.out _; (with_reducible repeat (first | refine blk_drewN ?_ _ | refine blk_drew ?_ | refine blk_alloc ?_ _)); refine blk_far ?_ NB273_272.out _; (with_reducible repeat (first | refine blk_drewN ?_ _ | refine blk_drew ?_ | refine blk_alloc ?_ _)); exact BK273.out⟩
         have n3_ : Aside0 (IsS60 w0 ((((((w40.setCell ⟨gb272, 0, none⟩ (.int .i64 ((rd_T41 x5_1 0).f0))).setCell ⟨gb272, 1, none⟩ (.int .i64 ((rd_T41 x5_1 0).f1))).setCell ⟨gb272, 2, none⟩ (.int .i64 ((rd_T41 x5_1 0).f2))).setCell ⟨gb273, 0, none⟩ (.int .i64 ((rd_T41 x5_1 (ji30)).f0))).setCell ⟨gb273, 1, none⟩ (.int .i64 ((rd_T41 x5_1 (ji30)).f1))).setCell ⟨gb273, 2, none⟩ (.int .i64 ((rd_T41 x5_1 (ji30)).f2))) g s0_0 t268 t269) := ⟨by repeat (first | (with_reducible first | exact HI0.out | apply IsS60.alloc | apply IsS60.drewN | apply IsS60.drew | refine IsS60.far ?_ NB0_272.out _ | refine IsS60.far ?_ NB0_273.out _ | apply IsS60.set_1 | apply IsS60.set_2) | exact HI0.out)⟩
         have n4_ : Aside0 (KeepBut w ((((((w40.setCell ⟨gb272, 0, none⟩ (.int .i64 ((rd_T41 x5_1 0).f0))).setCell ⟨gb272, 1, none⟩ (.int .i64 ((rd_T41 x5_1 0).f1))).setCell ⟨gb272, 2, none⟩ (.int .i64 ((rd_T41 x5_1 0).f2))).setCell ⟨gb273, 0, none⟩ (.int .i64 ((rd_T41 x5_1 (ji30)).f0))).setCell ⟨gb273, 1, none⟩ (.int .i64 ((rd_T41 x5_1 (ji30)).f1))).setCell ⟨gb273, 2, none⟩ (.int .i64 ((rd_T41 x5_1 (ji30)).f2))) g none) := ⟨by repeat (first | (with_reducible first | exact HK.out | apply KeepBut.set_ | apply keep_drewN | apply keep_drew | apply keep_alloc | refine keep_far ?_ GW272.out _ | refine keep_far ?_ GW273.out _) | exact HK.out)⟩
         have n5_ : Aside0 (Below w0.heap.size w0 ((((((w40.setCell ⟨gb272, 0, none⟩ (.int .i64 ((rd_T41 x5_1 0).f0))).setCell ⟨gb272, 1, none⟩ (.int .i64 ((rd_T41 x5_1 0).f1))).setCell ⟨gb272, 2, none⟩ (.int .i64 ((rd_T41 x5_1 0).f2))).setCell ⟨gb273, 0, none⟩ (.int .i64 ((rd_T41 x5_1 (ji30)).f0))).setCell ⟨gb273, 1, none⟩ (.int .i64 ((rd_T41 x5_1 (ji30)).f1))).setCell ⟨gb273, 2, none⟩ (.int .i64 ((rd_T41 x5_1 (ji30)).f2)))) := ⟨by repeat (first | (with_reducible first | exact HB.out | apply below_alloc | apply pw_below_drewN | apply below_drew1 | refine below_set ?_ (IsS60.ge HI0.out) | refine below_set ?_ GE272.out | refine below_set ?_ GE273.out) | exact HB.out)⟩
         (try clear HO_5)
         (try clear BK272)
         (try clear BK273)
         (try clear HI0)
         (try clear HK)
         (try clear HB)
         generalize ((((((w40.setCell ⟨gb272, 0, none⟩ (.int .i64 ((rd_T41 x5_1 0).f0))).setCell ⟨gb272, 1, none⟩ (.int .i64 ((rd_T41 x5_1 0).f1))).setCell ⟨gb272, 2, none⟩ (.int .i64 ((rd_T41 x5_1 0).f2))).setCell ⟨gb273, 0, none⟩ (.int .i64 ((rd_T41 x5_1 (ji30)).f0))).setCell ⟨gb273, 1, none⟩ (.int .i64 ((rd_T41 x5_1 (ji30)).f1))).setCell ⟨gb273, 2, none⟩ (.int .i64 ((rd_T41 x5_1 (ji30)).f2))) = w47 at n0_ n1_ n2_ n3_ n4_ n5_ ⊢
         have HO_5 := n0_
         have BK272 := n1_
         have BK273 := n2_
         have HI0 := n3_
         have HK := n4_
         have HB := n5_
         clear n0_ n1_ n2_ n3_ n4_ n5_
         have hnb48 := NB273_272.out
         have hnc48 := NB272_273.out
         have hnb49 := NB273_0.out
         have hnc49 := NB0_273.out
         have hcz50_0 : w47.cell? ⟨gb273, 0, none⟩ = some (.int .i64 ((rd_T41 x5_1 (ji30)).f0)) := (blk_cell BK273.out 0).trans rfl
         have hcz50_1 : w47.cell? ⟨gb273, 1, none⟩ = some (.int .i64 ((rd_T41 x5_1 (ji30)).f1)) := (blk_cell BK273.out 1).trans rfl
         have hcz50_2 : w47.cell? ⟨gb273, 2, none⟩ = some (.int .i64 ((rd_T41 x5_1 (ji30)).f2)) := (blk_cell BK273.out 2).trans rfl
         have hfz50_0 := blk_frozen BK273.out 0
         have hfz50_1 := blk_frozen BK273.out 1
         have hfz50_2 := blk_frozen BK273.out 2
         have p33 : 0 ≤ (0 : Int) := (by omega)
         have q33 : (0 : Int) < ((x5_1.length : Int) : Int) := of_decide_eq_true (by first | (with_reducible assumption) | assumption)
         have qi33 : (0 < x5_1.length) = True := eq_true (by omega)
         obtain ⟨go33, co33, eo33, gb33, gl33, cl33, HG33⟩ := Kd.R_form HO_5.out (by omega)
         (first | cases eo33 | (injection eo33 with ea_ en_ ec_; (first | subst ea_ | (injection ea_ with ea_; subst ea_)); subst ec_; clear en_))
         have GB33 := Aside0.mk gb33
         have GG33 := Aside0.mk HG33
         clear gb33 gl33 HG33
         (first | simp only [add_plain] at hx270_0 | skip)
         (first | simp only [add_plain] at hx270_1 | skip)
         (first | simp only [add_plain] at hx270_2 | skip)
         (first | simp only [add_plain] at hx271_0 | skip)
         (first | simp only [add_plain] at hx271_1 | skip)
         (first | simp only [add_plain] at hx271_2 | skip)
         obtain ⟨ce33, hcl33, hM33, hcc33, hfr33⟩ := Kd.R_elem HO_5.out z41 (0 : Int) p33 q33
         obtain rfl := k41_openM hM33
         have hx33_0 : w47.cell? ⟨go33, (0 : Int).toNat * 3, none⟩ = some (.int .i64 ((rd_T41 x5_1 0).f0)) := hcc33 0 _ rfl
         have hx33_1 : w47.cell? ⟨go33, (0 : Int).toNat * 3 + 1, none⟩ = some (.int .i64 ((rd_T41 x5_1 0).f1)) := hcc33 1 _ rfl
         have hx33_2 : w47.cell? ⟨go33, (0 : Int).toNat * 3 + 2, none⟩ = some (.int .i64 ((rd_T41 x5_1 0).f2)) := hcc33 2 _ rfl
         have hf33_0 : w47.frozen? ⟨go33, (0 : Int).toNat * 3, none⟩ = false := hfr33 0
         have hf33_1 : w47.frozen? ⟨go33, (0 : Int).toNat * 3 + 1, none⟩ = false := hfr33 1
         have hf33_2 : w47.frozen? ⟨go33, (0 : Int).toNat * 3 + 2, none⟩ = false := hfr33 2
         clear hcl33 hcc33 hfr33 hM33
         (try rw [show ((0 : Int)).toNat = 0 from rfl] at hx33_0)
         (try simp only [Nat.reduceMul, Nat.zero_mul, Nat.zero_add, Nat.reduceAdd] at hx33_0)
         (try rw [show ((0 : Int)).toNat = 0 from rfl] at hf33_0)
         (try simp only [Nat.reduceMul, Nat.zero_mul, Nat.zero_add, Nat.reduceAdd] at hf33_0)
         (try rw [show ((0 : Int)).toNat = 0 from rfl] at hx33_1)
         (try simp only [Nat.reduceMul, Nat.zero_mul, Nat.zero_add, Nat.reduceAdd] at hx33_1)
         (try rw [show ((0 : Int)).toNat = 0 from rfl] at hf33_1)
         (try simp only [Nat.reduceMul, Nat.zero_mul, Nat.zero_add, Nat.reduceAdd] at hf33_1)
         (try rw [show ((0 : Int)).toNat = 0 from rfl] at hx33_2)
         (try simp only [Nat.reduceMul, Nat.zero_mul, Nat.zero_add, Nat.reduceAdd] at hx33_2)
         (try rw [show ((0 : Int)).toNat = 0 from rfl] at hf33_2)
         (try simp only [Nat.reduceMul, Nat.zero_mul, Nat.zero_add, Nat.reduceAdd] at hf33_2)
         replace p33 := eq_true p33
         replace q33 := eq_true q33
         have HX51 := Aside0.mk (show Kd.R k41 41 w47 w.heap.size (fun k_ => k_ ≠ gb272 ∧ k_ ≠ gb273) (.slice (some ⟨go33, 0, none⟩) x5_1.length co37) x5_1 from (rq HO_5.out))
         obtain ⟨ce51, hcl51, hM51, hcc51, hfr51⟩ := Kd.R_elem HX51.out z41 (0 : Int) (by omega) (by have h_ : (0 : Int) < ((x5_1.length : Int) : Int) := of_decide_eq_true (by first | (with_reducible assumption) | assumption); first | exact h_ | (have e_ := (Kd.R_reads' HO_5.out).1; omega) | simpa using h_)
         obtain rfl := k41_openM hM51
         have HP51 := Kd.R_seg HX51.out (0 : Int) (by omega) (by have h_ : (0 : Int) < ((x5_1.length : Int) : Int) := of_decide_eq_true (by first | (with_reducible assumption) | assumption); first | exact h_ | (have e_ := (Kd.R_reads' HO_5.out).1; omega) | simpa using h_) (seg := [.int .i64 ((rd_T41 x5_1 (ji30)).f0), .int .i64 ((rd_T41 x5_1 (ji30)).f1), .int .i64 ((rd_T41 x5_1 (ji30)).f2)]) (j := 0) hcl51 hcc51 (show 3 ≤ 3 from by decide) (x' := (⟨(rd_T41 x5_1 (ji30)).f0, (rd_T41 x5_1 (ji30)).f1, (rd_T41 x5_1 (ji30)).f2⟩ : S41)) (k41_mkM _ _ _ (⟨(rd_T41 x5_1 (ji30)).f0, (rd_T41 x5_1 (ji30)).f1, (rd_T41 x5_1 (ji30)).f2⟩ : S41) ) (fun _ hk => hk)
         have hx51_0 := hcc51 0 _ rfl
         (try simp only [show (k41).sz = 3 from rfl, Nat.mul_one, Nat.add_zero] at hx51_0)
         (try rw [show ((0 : Int)).toNat = 0 from rfl] at hx51_0)
         (try simp only [Nat.reduceMul, Nat.zero_mul, Nat.zero_add, Nat.reduceAdd] at hx51_0)
         have hf51_0 := hfr51 0
         (try simp only [show (k41).sz = 3 from rfl, Nat.mul_one, Nat.add_zero] at hf51_0)
         (try rw [show ((0 : Int)).toNat = 0 from rfl] at hf51_0)
         (try simp only [Nat.reduceMul, Nat.zero_mul, Nat.zero_add, Nat.reduceAdd] at hf51_0)
         have hx51_1 := hcc51 1 _ rfl
         (try simp only [show (k41).sz = 3 from rfl, Nat.mul_one, Nat.add_zero] at hx51_1)
         (try rw [show ((0 : Int)).toNat = 0 from rfl] at hx51_1)
         (try simp only [Nat.reduceMul, Nat.zero_mul, Nat.zero_add, Nat.reduceAdd] at hx51_1)
         have hf51_1 := hfr51 1
         (try simp only [show (k41).sz = 3 from rfl, Nat.mul_one, Nat.add_zero] at hf51_1)
         (try rw [show ((0 : Int)).toNat = 0 from rfl] at hf51_1)
         (try simp only [Nat.reduceMul, Nat.zero_mul, Nat.zero_add, Nat.reduceAdd] at hf51_1)
         have hx51_2 := hcc51 2 _ rfl
         (try simp only [show (k41).sz = 3 from rfl, Nat.mul_one, Nat.add_zero] at hx51_2)
         (try rw [show ((0 : Int)).toNat = 0 from rfl] at hx51_2)
         (try simp only [Nat.reduceMul, Nat.zero_mul, Nat.zero_add, Nat.reduceAdd] at hx51_2)
         have hf51_2 := hfr51 2
         (try simp only [show (k41).sz = 3 from rfl, Nat.mul_one, Nat.add_zero] at hf51_2)
         (try rw [show ((0 : Int)).toNat = 0 from rfl] at hf51_2)
         (try simp only [Nat.reduceMul, Nat.zero_mul, Nat.zero_add, Nat.reduceAdd] at hf51_2)
         clear hcl51 hcc51 hfr51 hM51
         try go_wp2_with (first | ((with_reducible refine gate_store (t := 41) (p := 58) rfl ?_); refine store_event (t := 41) (p := 58) (v := ?vo_w52) (w1 := (((w47.setCell ⟨go33, 0, none⟩ (.int .i64 ((rd_T41 x5_1 (ji30)).f0))).setCell ⟨go33, 1, none⟩ (.int .i64 ((rd_T41 x5_1 (ji30)).f1))).setCell ⟨go33, 2, none⟩ (.int .i64 ((rd_T41 x5_1 (ji30)).f2)))) ?hg ?ho ?hn ?hr ?_; (case ho => rfl); (case hg => rfl); (case hn => rfl); (case hr => first | (go_simp; done) | (go_simp; rfl)); intro w52 hw; have hg : w47.grownBy w52 (some go33) := (by rw [hw]; exact HP51.2); have hp_ : Kd.R k41 41 w52 w.heap.size (fun k_ => k_ ≠ gb272 ∧ k_ ≠ gb273) (.slice (some ⟨go33, 0, none⟩) x5_1.length co37) y274 := (by rw [hw, Ny274.out]; exact HP51.1); clear HP51; have n0_ := Aside0.mk (hp_); have n1_ := Aside0.mk (IsS60.grown (show IsS60 w0 _ g s0_0 t268 t269 from by repeat (first | (with_reducible first | exact HI0.out | apply IsS60.alloc | apply IsS60.drewN | apply IsS60.drew | refine IsS60.far ?_ NB0_272.out _ | refine IsS60.far ?_ NB0_273.out _ | apply IsS60.set_1 | apply IsS60.set_2) | exact HI0.out)) hg (IsS60.own_ne HI0.out HO_5.out (by decide))); have n2_ := Aside0.mk (blk_grown (g := gb272) (o := .cells #[.int .i64 ((rd_T41 x5_1 0).f0), .int .i64 ((rd_T41 x5_1 0).f1), .int .i64 ((rd_T41 x5_1 0).f2)] 41 (0, 0)) (bq BK272.out) hg (Kd.R_away HO_5.out (fun _ hk => hk.1))); have n3_ := Aside0.mk (blk_grown (g := gb273) (o := .cells #[.int .i64 ((rd_T41 x5_1 (ji30)).f0), .int .i64 ((rd_T41 x5_1 (ji30)).f1), .int .i64 ((rd_T41 x5_1 (ji30)).f2)] 41 (0, 0)) (bq BK273.out) hg (Kd.R_away HO_5.out (fun _ hk => hk.2))); have n4_ := Aside0.mk ((by rw [hw]; exact below_set (below_set (below_set (HB.out) (Nat.le_trans HL.out GB33.out)) (Nat.le_trans HL.out GB33.out)) (Nat.le_trans HL.out GB33.out) : Below w0.heap.size w0 w52)); have n5_ := Aside0.mk (KeepBut.trans (by repeat (first | (with_reducible first | exact HK.out | apply KeepBut.set_ | apply keep_drewN | apply keep_drew | apply keep_alloc | refine keep_far ?_ GW272.out _ | refine keep_far ?_ GW273.out _) | exact HK.out)) (KeepBut.of_grown hg g) (Kd.R_base2 HO_5.out)); clear HO_5; clear HI0; clear BK272; clear BK273; clear HB; clear HK; have HO_5 := n0_; have HI0 := n1_; have BK272 := n2_; have BK273 := n3_; have HB := n4_; have HK := n5_; clear n0_ n1_ n2_ n3_ n4_ n5_; clear hg hw hp_; have hnb53 := NB272_0.out; have hnc53 := NB0_272.out; have hcz54_0 : w52.cell? ⟨gb272, 0, none⟩ = some (.int .i64 ((rd_T41 x5_1 0).f0)) := (blk_cell BK272.out 0).trans rfl; have hcz54_1 : w52.cell? ⟨gb272, 1, none⟩ = some (.int .i64 ((rd_T41 x5_1 0).f1)) := (blk_cell BK272.out 1).trans rfl; have hcz54_2 : w52.cell? ⟨gb272, 2, none⟩ = some (.int .i64 ((rd_T41 x5_1 0).f2)) := (blk_cell BK272.out 2).trans rfl; have hfz54_0 := blk_frozen BK272.out 0; have hfz54_1 := blk_frozen BK272.out 1; have hfz54_2 := blk_frozen BK272.out 2; have p34 : 0 ≤ ((ji30) : Int) := of_decide_eq_true (by first | (with_reducible assumption) | assumption); have q34 : ((ji30) : Int) < ((x5_1.length : Int) : Int) := of_decide_eq_true (by first | (with_reducible assumption) | assumption); obtain ⟨ce34, hcl34, hM34, hcc34, hfr34⟩ := Kd.R_elem HO_5.out z41 ((ji30) : Int) p34 q34; obtain rfl := k41_openM hM34; have hx34_0 : w52.cell? ⟨go33, ((ji30) : Int).toNat * 3, none⟩ = some (.int .i64 ((rd_T41 y274 (ji30)).f0)) := hcc34 0 _ rfl; have hx34_1 : w52.cell? ⟨go33, ((ji30) : Int).toNat * 3 + 1, none⟩ = some (.int .i64 ((rd_T41 y274 (ji30)).f1)) := hcc34 1 _ rfl; have hx34_2 : w52.cell? ⟨go33, ((ji30) : Int).toNat * 3 + 2, none⟩ = some (.int .i64 ((rd_T41 y274 (ji30)).f2)) := hcc34 2 _ rfl; have hf34_0 : w52.frozen? ⟨go33, ((ji30) : Int).toNat * 3, none⟩ = false := hfr34 0; have hf34_1 : w52.frozen? ⟨go33, ((ji30) : Int).toNat * 3 + 1, none⟩ = false := hfr34 1; have hf34_2 : w52.frozen? ⟨go33, ((ji30) : Int).toNat * 3 + 2, none⟩ = false := hfr34 2; clear hcl34 hcc34 hfr34 hM34; replace p34 := eq_true p34; replace q34 := eq_true q34; have HX55 := Aside0.mk (show Kd.R k41 41 w52 w.heap.size (fun k_ => k_ ≠ gb272 ∧ k_ ≠ gb273) (.slice (some ⟨go33, 0, none⟩) x5_1.length co37) y274 from (rq HO_5.out)); obtain ⟨ce55, hcl55, hM55, hcc55, hfr55⟩ := Kd.R_elem HX55.out z41 ((ji30) : Int) (of_decide_eq_true (by first | (with_reducible assumption) | assumption)) (by have h_ : ((ji30) : Int) < ((x5_1.length : Int) : Int) := of_decide_eq_true (by first | (with_reducible assumption) | assumption); first | exact h_ | (have e_ := (Kd.R_reads' HO_5.out).1; omega) | simpa using h_); obtain rfl := k41_openM hM55; have HP55 := Kd.R_seg HX55.out ((ji30) : Int) (of_decide_eq_true (by first | (with_reducible assumption) | assumption)) (by have h_ : ((ji30) : Int) < ((x5_1.length : Int) : Int) := of_decide_eq_true (by first | (with_reducible assumption) | assumption); first | exact h_ | (have e_ := (Kd.R_reads' HO_5.out).1; omega) | simpa using h_) (seg := [.int .i64 ((rd_T41 x5_1 0).f0), .int .i64 ((rd_T41 x5_1 0).f1), .int .i64 ((rd_T41 x5_1 0).f2)]) (j := 0) hcl55 hcc55 (show 3 ≤ 3 from by decide) (x' := (⟨(rd_T41 x5_1 0).f0, (rd_T41 x5_1 0).f1, (rd_T41 x5_1 0).f2⟩ : S41)) (k41_mkM _ _ _ (⟨(rd_T41 x5_1 0).f0, (rd_T41 x5_1 0).f1, (rd_T41 x5_1 0).f2⟩ : S41) ) (fun _ hk => hk); have hx55_0 := hcc55 0 _ rfl; (try simp only [show (k41).sz = 3 from rfl, Nat.mul_one, Nat.add_zero] at hx55_0); have hf55_0 := hfr55 0; (try simp only [show (k41).sz = 3 from rfl, Nat.mul_one, Nat.add_zero] at hf55_0); have hx55_1 := hcc55 1 _ rfl; (try simp only [show (k41).sz = 3 from rfl, Nat.mul_one, Nat.add_zero] at hx55_1); have hf55_1 := hfr55 1; (try simp only [show (k41).sz = 3 from rfl, Nat.mul_one, Nat.add_zero] at hf55_1); have hx55_2 := hcc55 2 _ rfl; (try simp only [show (k41).sz = 3 from rfl, Nat.mul_one, Nat.add_zero] at hx55_2); have hf55_2 := hfr55 2; (try simp only [show (k41).sz = 3 from rfl, Nat.mul_one, Nat.add_zero] at hf55_2); clear hcl55 hcc55 hfr55 hM55) | ((with_reducible refine gate_store (t := 41) (p := 63) rfl ?_); refine store_event (t := 41) (p := 63) (v := ?vo_w56) (w1 := (((w52.setCell ⟨go33, ((ji30) : Int).toNat * 3, none⟩ (.int .i64 ((rd_T41 x5_1 0).f0))).setCell ⟨go33, ((ji30) : Int).toNat * 3 + 1, none⟩ (.int .i64 ((rd_T41 x5_1 0).f1))).setCell ⟨go33, ((ji30) : Int).toNat * 3 + 2, none⟩ (.int .i64 ((rd_T41 x5_1 0).f2)))) ?hg ?ho ?hn ?hr ?_; (case ho => rfl); (case hg => rfl); (case hn => rfl); (case hr => first | (go_simp; done) | (go_simp; rfl)); intro w56 hw; have hg : w52.grownBy w56 (some go33) := (by rw [hw]; exact HP55.2); have hp_ : Kd.R k41 41 w56 w.heap.size (fun k_ => k_ ≠ gb272 ∧ k_ ≠ gb273) (.slice (some ⟨go33, 0, none⟩) x5_1.length co37) y275 := (by rw [hw, Ny275.out]; exact HP55.1); clear HP55; have n0_ := Aside0.mk (hp_); have n1_ := Aside0.mk (IsS60.grown (show IsS60 w0 _ g s0_0 t268 t269 from by repeat (first | (with_reducible first | exact HI0.out | apply IsS60.alloc | apply IsS60.drewN | apply IsS60.drew | refine IsS60.far ?_ NB0_272.out _ | refine IsS60.far ?_ NB0_273.out _ | apply IsS60.set_1 | apply IsS60.set_2) | exact HI0.out)) hg (IsS60.own_ne HI0.out HO_5.out (by decide))); have n2_ := Aside0.mk (blk_grown (g := gb272) (o := .cells #[.int .i64 ((rd_T41 x5_1 0).f0), .int .i64 ((rd_T41 x5_1 0).f1), .int .i64 ((rd_T41 x5_1 0).f2)] 41 (0, 0)) (bq BK272.out) hg (Kd.R_away HO_5.out (fun _ hk => hk.1))); have n3_ := Aside0.mk (blk_grown (g := gb273) (o := .cells #[.int .i64 ((rd_T41 x5_1 (ji30)).f0), .int .i64 ((rd_T41 x5_1 (ji30)).f1), .int .i64 ((rd_T41 x5_1 (ji30)).f2)] 41 (0, 0)) (bq BK273.out) hg (Kd.R_away HO_5.out (fun _ hk => hk.2))); have n4_ := Aside0.mk ((by rw [hw]; exact below_set (below_set (below_set (HB.out) (Nat.le_trans HL.out GB33.out)) (Nat.le_trans HL.out GB33.out)) (Nat.le_trans HL.out GB33.out) : Below w0.heap.size w0 w56)); have n5_ := Aside0.mk (KeepBut.trans (by repeat (first | (with_reducible first | exact HK.out | apply KeepBut.set_ | apply keep_drewN | apply keep_drew | apply keep_alloc | refine keep_far ?_ GW272.out _ | refine keep_far ?_ GW273.out _) | exact HK.out)) (KeepBut.of_grown hg g) (Kd.R_base2 HO_5.out)); clear HO_5; clear HI0; clear BK272; clear BK273; clear HB; clear HK; have HO_5 := n0_; have HI0 := n1_; have BK272 := n2_; have BK273 := n3_; have HB := n4_; have HK := n5_; clear n0_ n1_ n2_ n3_ n4_ n5_; clear hg hw hp_))
         go_ret
         exact ⟨_, by first | rfl | (simp [errW_none, errW_some] <;> rfl) | (simp only [← hji30]; first | rfl | (simp [errW_none, errW_some] <;> rfl)) | (simp [*, errW_none, errW_some] <;> rfl), by (with_reducible repeat (first | apply Kd.R_alloc | apply Kd.R_drewN | apply Kd.R_drew)); exact Kd.R_mono HO_5.out (fun _ hk => trivial), by repeat (first | (with_reducible first | exact HI0.out | apply IsS60.alloc | apply IsS60.drewN | apply IsS60.drew | refine IsS60.far ?_ NB0_272.out _ | refine IsS60.far ?_ NB0_273.out _ | apply IsS60.set_1 | apply IsS60.set_2) | exact HI0.out), by repeat (first | (with_reducible first | exact HB.out | apply below_alloc | apply pw_below_drewN | apply below_drew1 | refine below_set ?_ (IsS60.ge HI0.out) | refine below_set ?_ GE272.out | refine below_set ?_ GE273.out) | exact HB.out), by repeat (first | (with_reducible first | exact HK.out | apply KeepBut.set_ | apply keep_drewN | apply keep_drew | apply keep_alloc | refine keep_far ?_ GW272.out _ | refine keep_far ?_ GW273.out _) | exact HK.out)⟩
        ·rw [if_neg c32] at H
         exact absurd H (by simp)
       ·rw [if_neg c31] at H
        exact absurd H (by simp)
      ·rw [if_neg c29] at H
       exact absurd H (by simp)
     ·replace c28 := Bool.eq_false_iff.mpr c28
      subst c28
      rw [if_neg (show ¬ (false = true) by decide)] at H
      simp only [Option.some.injEq, Prod.mk.injEq] at H
      obtain ⟨rfl, rfl, rfl⟩ := H
      go_wp2_with (first | (go_at_call 53; (with_reducible refine (spec_l01Once.calls g s0_0 x1001_1 x1002_1 3 false t268 t269 w0 _ ?side1 ?side2 A27.out).mono ?_); (case side1 => repeat (first | (with_reducible first | exact HI0.out | apply IsS60.alloc | apply IsS60.drewN | apply IsS60.drew | apply IsS60.set_1 | apply IsS60.set_2) | exact HI0.out)); (case side2 => repeat (first | (with_reducible first | exact HB.out | apply below_alloc | apply pw_below_drewN | apply below_drew1 | refine below_set ?_ (IsS60.ge HI0.out)) | exact HB.out)); rintro e w57 ⟨rfl, hi, hb, hk⟩; have n0_ := Aside0.mk (Kd.R_mono (Kd.R_keep (IsS60.apart (show IsS60 w0 _ g s0_0 x1001_1 x1002_1 from by repeat (first | (with_reducible first | exact HI0.out | apply IsS60.alloc | apply IsS60.drewN | apply IsS60.drew | apply IsS60.set_1 | apply IsS60.set_2) | exact HI0.out)) (rq HO_5.out) (by decide)) hk (fun _ h => h.2)) (fun _ h => h.1)); have n1_ := Aside0.mk (KeepBut.trans (by repeat (first | (with_reducible first | exact HK.out | apply KeepBut.set_ | apply keep_drewN | apply keep_drew | apply keep_alloc) | exact HK.out)) hk (.inl rfl)); have n2_ := Aside0.mk (hb); have n3_ := Aside0.mk (hi); clear HO_5; clear HK; clear HB; clear HI0; have HO_5 := n0_; have HK := n1_; have HB := n2_; have HI0 := n3_; clear n0_ n1_ n2_ n3_; (try clear hb); (try clear hb2); (try clear hk); (try clear hi)))
      go_ret
      exact ⟨_, by first | rfl | (simp [errW_none, errW_some] <;> rfl) | (simp [*, errW_none, errW_some] <;> rfl), by (with_reducible repeat (first | apply Kd.R_alloc | apply Kd.R_drewN | apply Kd.R_drew)); exact HO_5.out, by repeat (first | (with_reducible first | exact HI0.out | apply IsS60.alloc | apply IsS60.drewN | apply IsS60.drew | apply IsS60.set_1 | apply IsS60.set_2) | exact HI0.out), by repeat (first | (with_reducible first | exact HB.out | apply below_alloc | apply pw_below_drewN | apply below_drew1 | refine below_set ?_ (IsS60.ge HI0.out)) | exact HB.out), by repeat (first | (with_reducible first | exact HK.out | apply KeepBut.set_ | apply keep_drewN | apply keep_drew | apply keep_alloc) | exact HK.out)⟩
    ·rw [if_neg c26] at H
     have c26b0 : decide (1 < a1) = false := decide_eq_false c26
     clear c26
     simp only [Option.some.injEq, Prod.mk.injEq] at H
     obtain ⟨rfl, rfl, rfl⟩ := H
     go_wp2
     go_ret
     exact ⟨_, by first | rfl | (simp [errW_none, errW_some] <;> rfl) | (simp [*, errW_none, errW_some] <;> rfl), by (with_reducible repeat (first | apply Kd.R_alloc | apply Kd.R_drewN | apply Kd.R_drew)); exact HO_5.out, by repeat (first | (with_reducible first | exact HI0.out | apply IsS60.alloc | apply IsS60.drewN | apply IsS60.drew | apply IsS60.set_1 | apply IsS60.set_2) | exact HI0.out), by repeat (first | (with_reducible first | exact HB.out | apply below_alloc | apply pw_below_drewN | apply below_drew1 | refine below_set ?_ (IsS60.ge HI0.out)) | exact HB.out), by repeat (first | (with_reducible first | exact HK.out | apply KeepBut.set_ | apply keep_drewN | apply keep_drew | apply keep_alloc) | exact HK.out)⟩

end Go.Proofs.Ytampcamihaleaaa.GD
