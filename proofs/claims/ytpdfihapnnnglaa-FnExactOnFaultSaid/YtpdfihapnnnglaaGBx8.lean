/- Told by a program of this session, out of the translation: each function of the group as a plain Lean function, and that Go's call comes to just its answer. Lean checks it. -/
import Derived.Test.YtpdfihapnnnglaaGBx0
import Derived.Test.YtpdfihapnnnglaaGBx6
import Derived.Test.YtpdfihapnnnglaaGBx7
namespace Go.Proofs.Ytpdfihapnnnglaa.GB
open Go.RowKit Go.Proofs.YtpdfihapnnnglaaW.PrintWords Go.Proofs.YtpdfihapnnnglaaW.PrintLast Go.Proofs.YtpdfihapnnnglaaW.PrintMore Go.Proofs.Ytpdfihapnnnglaa.Q
attribute [local go_sem] max2_int min2_int max_two min_two max_three min_three max_four min_four   -- for this text's walks alone
set_option linter.unusedVariables false
set_option linter.unusedSimpArgs false

/-! ### laws_FnExactOnFault: function 5 -/
def laws_FnExactOnFault.f (k : Nat) (a0_0 : Int) (a0_1 : Int) (a1_0 : Int) (a1_1 : Int) (a1_2 : Int) (a1_3 : Bool) (a2 : Int) : Option (Bool) := (laws_toPolicy.f a0_0 a0_1).bind fun bt239 => ((laws_toHealth.f a1_0 a1_1 a1_2 a1_3).bind fun bt241 => ((spec_OnFault.f k bt239.1 bt239.2 bt241.1 bt241.2.1 bt241.2.2.1 bt241.2.2.2 a2).bind fun bt245 => ((laws_toPolicy.f a0_0 a0_1).bind fun bt251 => ((laws_toHealth.f a1_0 a1_1 a1_2 a1_3).bind fun bt253 => ((impl_OnFault.f bt251.1 bt251.2 bt253.1 bt253.2.1 bt253.2.2.1 bt253.2.2.2 a2).bind fun bt257 => ((laws_eqHealth.f bt257.1 bt257.2.1 bt257.2.2.1 bt257.2.2.2.1 bt245.1 bt245.2.1 bt245.2.2.1 bt245.2.2.2.1).bind fun t263 => (if t263 = true then (if bt257.2.2.2.2 = bt245.2.2.2.2 then (some true) else (some false)) else (some false))))))))
theorem laws_FnExactOnFault.mono : ∀ a0 a1 a2 a3 a4 a5 a6 k, LeO (laws_FnExactOnFault.f k a0 a1 a2 a3 a4 a5 a6) (laws_FnExactOnFault.f (k + 1) a0 a1 a2 a3 a4 a5 a6) := by
 intro a0 a1 a2 a3 a4 a5 a6 k
 unfold laws_FnExactOnFault.f
 repeat' first
   | (with_reducible exact spec_OnFault.mono _ _ _ _ _ _ _ _)
   | (with_reducible exact LeO.refl _)
   | (with_reducible exact LeO.none _)
   | (with_reducible refine LeO.ite ?_ ?_)
   | (with_reducible refine LeO.bind ?_ (fun _ => ?_))
   | exact spec_OnFault.mono _ _ _ _ _ _ _ _
   | exact LeO.none _
   | refine LeO.ite ?_ ?_
   | refine LeO.bind ?_ (fun _ => ?_)
def laws_FnExactOnFault.T1 : Bool × List (List Nat × List Nat) := (true, [([], []), ([0], [0]), ([], []), ([2, 1], [2]), ([], []), ([1, 3, 4, 3], [1, 3, 4]), ([5], [5]), ([6], [6]), ([6], [6]), ([], []), ([9, 7, 5, 0, 1, 2, 3, 4, 5, 6, 7, 9], [7, 9]), ([8, 10, 0, 1, 2, 3, 4, 5, 6, 7, 8, 9, 10], [8])])
def laws_FnExactOnFault.B1 : List Nat := [0, 1, 0, 7, 0, 31, 63, 127, 127, 0, 767, 2047]
theorem laws_FnExactOnFault.tab1 : rtab .any (opsOf Try.f5 1) = laws_FnExactOnFault.T1 := by kernel_rfl
theorem laws_FnExactOnFault.bits1 : waitsOk laws_FnExactOnFault.T1.2 laws_FnExactOnFault.B1 = true := by kernel_rfl
def laws_FnExactOnFault.T2 : Bool × List (List Nat × List Nat) := (true, [([], []), ([0], [0]), ([], []), ([2, 1], [2]), ([], []), ([1, 3, 4, 3], [1, 3, 4]), ([5], [5]), ([6], [6]), ([6], [6]), ([], []), ([9, 7, 5, 0, 1, 2, 3, 4, 5, 6, 7, 9], [7, 9]), ([8, 10, 0, 1, 2, 3, 4, 5, 6, 7, 8, 9, 10], [8])])
def laws_FnExactOnFault.B2 : List Nat := [0, 1, 0, 7, 0, 31, 63, 127, 127, 0, 767, 2047]
theorem laws_FnExactOnFault.tab2 : rtab .any (opsOf Try.f5 2) = laws_FnExactOnFault.T2 := by kernel_rfl
theorem laws_FnExactOnFault.bits2 : waitsOk laws_FnExactOnFault.T2.2 laws_FnExactOnFault.B2 = true := by kernel_rfl
set_option maxHeartbeats 8000000 in
set_option maxRecDepth 100000 in
theorem laws_FnExactOnFault.calls (k : Nat) (a0_0 : Int) (a0_1 : Int) (a1_0 : Int) (a1_1 : Int) (a1_2 : Int) (a1_3 : Bool) (a2 : Int) (w : World) (h : laws_FnExactOnFault.f k a0_0 a0_1 a1_0 a1_1 a1_2 a1_3 a2 = some true) :
  Calls Try.prog 5 #[.agg #[.int .i64 a0_0, .int .i64 a0_1], .agg #[.int .i64 a1_0, .int .i64 a1_1, .int .i64 a1_2, .bool a1_3], .int .i64 a2] w fun e w' => e = .returned (.bool true) ∧ Below w.heap.size w w' := by
 have hu35 := Try.underlying35
 have hu37 := Try.underlying37
 have hu38 := Try.underlying38
 have HB := Aside0.mk (Below.refl w.heap.size w)
 have H : ((laws_toPolicy.f a0_0 a0_1).bind fun bt239 => ((laws_toHealth.f a1_0 a1_1 a1_2 a1_3).bind fun bt241 => ((spec_OnFault.f k bt239.1 bt239.2 bt241.1 bt241.2.1 bt241.2.2.1 bt241.2.2.2 a2).bind fun bt245 => ((laws_toPolicy.f a0_0 a0_1).bind fun bt251 => ((laws_toHealth.f a1_0 a1_1 a1_2 a1_3).bind fun bt253 => ((impl_OnFault.f bt251.1 bt251.2 bt253.1 bt253.2.1 bt253.2.2.1 bt253.2.2.2 a2).bind fun bt257 => ((laws_eqHealth.f bt257.1 bt257.2.1 bt257.2.2.1 bt257.2.2.2.1 bt245.1 bt245.2.1 bt245.2.2.1 bt245.2.2.2.1).bind fun t263 => (if t263 = true then (if bt257.2.2.2.2 = bt245.2.2.2.2 then (some true) else (some false)) else (some false))))))))) = some true := h
 clear h
 replace H := Option.bind_eq_some_iff.mp H
 obtain ⟨⟨t239, t240⟩, A40, H⟩ := H
 (try dsimp only at H)
 have A4 := Aside0.mk A40
 clear A40
 replace H := Option.bind_eq_some_iff.mp H
 obtain ⟨⟨t241, t242, t243, t244⟩, A50, H⟩ := H
 (try dsimp only at H)
 have A5 := Aside0.mk A50
 clear A50
 replace H := Option.bind_eq_some_iff.mp H
 obtain ⟨⟨t245, t246, t247, t248, t249⟩, A60, H⟩ := H
 (try dsimp only at H)
 have A6 := Aside0.mk A60
 clear A60
 replace H := Option.bind_eq_some_iff.mp H
 obtain ⟨⟨t251, t252⟩, A70, H⟩ := H
 (try dsimp only at H)
 have A7 := Aside0.mk A70
 clear A70
 replace H := Option.bind_eq_some_iff.mp H
 obtain ⟨⟨t253, t254, t255, t256⟩, A80, H⟩ := H
 (try dsimp only at H)
 have A8 := Aside0.mk A80
 clear A80
 replace H := Option.bind_eq_some_iff.mp H
 obtain ⟨⟨t257, t258, t259, t260, t261⟩, A90, H⟩ := H
 (try dsimp only at H)
 have A9 := Aside0.mk A90
 clear A90
 replace H := Option.bind_eq_some_iff.mp H
 obtain ⟨t263, A100, H⟩ := H
 (try dsimp only at H)
 have A10 := Aside0.mk A100
 clear A100
 by_cases c11 : t263 = true
 ·subst c11
  rw [if_pos rfl] at H
  by_cases c12 : t261 = t249
  ·rw [if_pos c12] at H
   have c12b0 : (t261 == t249) = true := beq_iff_eq.mpr c12
   have c12b1 : (t261 != t249) = false := bne_eq_false_iff_eq.mpr c12
   clear c12
   clear H
   go_enter Try.func5, Try.ntmps5
   try go_wp2_with (first | ((with_reducible refine gate_dst (N := 3) rfl ?_); refine box_event ?hg (N := 3) ?hd (cs := #[.int .i64 a0_0, .int .i64 a0_1]) (t := 35) ?hr ?_; (case hd => rfl); (case hg => rfl); (case hr => first | (go_simp; done) | (go_simp; rfl)); intro gb237 hg w13 hbox hb; have n0_ := Aside0.mk (below_step (lq HB.out) hb); have n1_ := Aside0.mk (hbox); have n2_ := Aside0.mk ((ge_new hg (lq HB.out) : w.heap.size ≤ gb237)); have n3_ := Aside0.mk ((ge_new hg (lq HB.out) : w.heap.size ≤ gb237)); clear HB; have HB := n0_; have BK237 := n1_; have GW237 := n2_; have GE237 := n3_; clear n0_ n1_ n2_ n3_; clear hb hbox hg) | ((with_reducible refine gate_dst (N := 4) rfl ?_); refine box_event ?hg (N := 4) ?hd (cs := #[.int .i64 a1_0, .int .i64 a1_1, .int .i64 a1_2, .bool a1_3]) (t := 37) ?hr ?_; (case hd => rfl); (case hg => rfl); (case hr => first | (go_simp; done) | (go_simp; rfl)); intro gb238 hg w14 hbox hb; have n0_ := Aside0.mk (blk_below (bq BK237.out) hb); have n1_ := Aside0.mk (below_step (lq HB.out) hb); have n2_ := Aside0.mk (hbox); have n3_ := Aside0.mk ((ge_new hg (lq HB.out) : w.heap.size ≤ gb238)); have n4_ := Aside0.mk ((ge_new hg (lq HB.out) : w.heap.size ≤ gb238)); have n5_ := Aside0.mk ((ne_new hg (bq BK237.out) : gb237 ≠ gb238)); have n6_ := Aside0.mk ((new_ne hg (bq BK237.out) : gb238 ≠ gb237)); clear BK237; clear HB; have BK237 := n0_; have HB := n1_; have BK238 := n2_; have GW238 := n3_; have GE238 := n4_; have NB237_238 := n5_; have NB238_237 := n6_; clear n0_ n1_ n2_ n3_ n4_ n5_ n6_; clear hb hbox hg))
   have n0_ := Aside0.mk (blk_drew BK237.out)
   have n1_ := Aside0.mk (blk_drew BK238.out)
   have n2_ := Aside0.mk (below_drew1 HB.out)
   clear BK237
   clear BK238
   clear HB
   have BK237 := n0_
   have BK238 := n1_
   have HB := n2_
   clear n0_ n1_ n2_
   refine start_ (n := 12) (S := fun w' => w'.cell? ⟨gb237, 0, none⟩ = some (.int .i64 a0_0) ∧ w'.cell? ⟨gb237, 1, none⟩ = some (.int .i64 a0_1) ∧ w'.cell? ⟨gb238, 0, none⟩ = some (.int .i64 a1_0) ∧ w'.cell? ⟨gb238, 1, none⟩ = some (.int .i64 a1_1) ∧ w'.cell? ⟨gb238, 2, none⟩ = some (.int .i64 a1_2) ∧ w'.cell? ⟨gb238, 3, none⟩ = some (.bool a1_3)) (ds := []) #[false, false, false, false, false, false, false, false, false, false, false, false] (by kernel_rfl) rfl rfl ⟨(blk_cell BK237.out 0).trans rfl, (blk_cell BK237.out 1).trans rfl, (blk_cell BK238.out 0).trans rfl, (blk_cell BK238.out 1).trans rfl, (blk_cell BK238.out 2).trans rfl, (blk_cell BK238.out 3).trans rfl⟩ (fun hHeld => ?_); refine with_tabW laws_FnExactOnFault.tab1 laws_FnExactOnFault.bits1 (fun HT_ HW_ => ?_)
   generalize w14.drew = w15 at BK237 BK238 HB hHeld ⊢
   refine pure_ (i := 4) (N := some 16) (v := ?_) (a' := ?_) #[false, false, false, false, true, false, false, false, false, false, false, false] rfl rfl (any_of HT_.out (by kernel_rfl)) (fun _ _ _ h => h) (Or.inl ⟨by rfl, ?_⟩) ?_ ?_
   rotate_left
   ·intro w'
    go_simp
    with_reducible rfl
   rotate_left
   ·simp only [Act.put, List.setIfInBounds_toArray, List.set_cons_zero, List.set_cons_succ, i64_w, i32_w]
    rfl
   refine take_ (i := 0) (N := some 12) (v := ?_) (a' := ?_) #[true, false, false, false, true, false, false, false, false, false, false, false] rfl rfl (take_ofW HT_.out HW_.out (by kernel_rfl)) (fun _ _ _ h => h) (Or.inl ⟨by rfl, ?_⟩) hHeld ?_ ?_
   rotate_left
   ·rintro w' ⟨s0, s1, s2, s3, s4, s5⟩
    go_simp
    with_reducible rfl
   rotate_left
   ·simp only [Act.put, List.setIfInBounds_toArray, List.set_cons_zero, List.set_cons_succ, i64_w, i32_w]
    rfl
   refine take_ (i := 2) (N := some 14) (v := ?_) (a' := ?_) #[true, false, true, false, true, false, false, false, false, false, false, false] rfl rfl (take_ofW HT_.out HW_.out (by kernel_rfl)) (fun _ _ _ h => h) (Or.inl ⟨by rfl, ?_⟩) hHeld ?_ ?_
   rotate_left
   ·rintro w' ⟨s0, s1, s2, s3, s4, s5⟩
    go_simp
    with_reducible rfl
   rotate_left
   ·simp only [Act.put, List.setIfInBounds_toArray, List.set_cons_zero, List.set_cons_succ, i64_w, i32_w]
    rfl
   refine join_ (σ := Nat) 2 #[true, true, true, true, true, true, true, true, true, true, false, false] (fun s_ => [(13, .agg #[.int .i64 t239, .int .i64 t240]), (15, .agg #[.int .i64 t241, .int .i64 t242, .int .i64 t243, .bool t244]), (17, .tuple #[.agg #[.int .i64 t245, .int .i64 t246, .int .i64 t247, .bool t248], .int .i64 t249]), (7, .pointer (some ⟨s_, 0, none⟩)), (11, .tuple #[.agg #[.int .i64 t245, .int .i64 t246, .int .i64 t247, .bool t248], .int .i64 t249]), (18, .agg #[.int .i64 t245, .int .i64 t246, .int .i64 t247, .bool t248]), (19, .int .i64 t249)]) (fun s_ w' => (w'.cell? ⟨gb237, 0, none⟩ = some (.int .i64 a0_0) ∧ w'.cell? ⟨gb237, 1, none⟩ = some (.int .i64 a0_1) ∧ w'.cell? ⟨gb238, 0, none⟩ = some (.int .i64 a1_0) ∧ w'.cell? ⟨gb238, 1, none⟩ = some (.int .i64 a1_1) ∧ w'.cell? ⟨gb238, 2, none⟩ = some (.int .i64 a1_2) ∧ w'.cell? ⟨gb238, 3, none⟩ = some (.bool a1_3)) ∧ (w'.heap[gb237]? = some (.cells #[.int .i64 a0_0, .int .i64 a0_1] 35 (0, 0))) ∧ (w'.heap[gb238]? = some (.cells #[.int .i64 a1_0, .int .i64 a1_1, .int .i64 a1_2, .bool a1_3] 37 (0, 0))) ∧ (w'.heap[s_]? = some (.cells #[.int .i64 0, .int .i64 0, .int .i64 0, .bool false] 38 (0, 0))) ∧ (w.heap.size ≤ s_) ∧ (w.heap.size ≤ s_) ∧ (gb237 ≠ s_) ∧ (s_ ≠ gb237) ∧ (gb238 ≠ s_) ∧ (s_ ≠ gb238) ∧ (Below w.heap.size w w')) ?_ ?_
   rotate_left
   ·intro hCont
    refine two_ (i := 1) (j := 9) (Ni := some 13) (Nj := some 7) #[true, true, true, false, true, false, false, false, false, false, false, false] #[true, false, true, false, true, false, false, false, false, true, false, false] rfl rfl rfl rfl (two_of HT_.out (by kernel_rfl)) (by decide) (by decide) (fun K hK => ?_) (fun K hK => ?_)
    ·skip
     refine goes_ Try.func17 (by kernel_rfl) rfl #[.agg #[.int .i64 a0_0, .int .i64 a0_1]] (by rfl) rfl rfl (by (try simp only [List.map_toArray, List.map_cons, List.map_nil]); first | done | rfl | (simp only [List.length_drop, List.length_take]; rfl)) ?_
     with_reducible refine (laws_toPolicy.calls a0_0 a0_1 t239 t240 _ A4.out).mono ?_
     rintro e w16 ⟨rfl, hb⟩
     refine ⟨_, rfl, ?_⟩
     have n0_ := Aside0.mk (blk_below (bq BK237.out) hb)
     have n1_ := Aside0.mk (blk_below (bq BK238.out) hb)
     have n2_ := Aside0.mk (below_step (lq HB.out) hb)
     clear BK237
     clear BK238
     clear HB
     have BK237 := n0_
     have BK238 := n1_
     have HB := n2_
     clear n0_ n1_ n2_
     (try clear hb)
     (try clear hb2)
     (try clear hk)
     (try clear hi)
     refine hK.out _ _ ⟨(blk_cell BK237.out 0).trans rfl, (blk_cell BK237.out 1).trans rfl, (blk_cell BK238.out 0).trans rfl, (blk_cell BK238.out 1).trans rfl, (blk_cell BK238.out 2).trans rfl, (blk_cell BK238.out 3).trans rfl⟩ (fun hHeld => ?_)
     clear hK K
     refine norm_ (a' := ?_) ?_ ?_
     rotate_left
     ·show Act.put _ (some 13) _ = _
      simp only [Act.put, List.setIfInBounds_toArray, List.set_cons_zero, List.set_cons_succ, i64_w, i32_w]
      rfl
     refine two_ (i := 3) (j := 9) (Ni := some 15) (Nj := some 7) #[true, true, true, true, true, false, false, false, false, false, false, false] #[true, true, true, false, true, false, false, false, false, true, false, false] rfl rfl rfl rfl (two_of HT_.out (by kernel_rfl)) (by decide) (by decide) (fun K hK => ?_) (fun K hK => ?_)
     ·skip
      refine goes_ Try.func18 (by kernel_rfl) rfl #[.agg #[.int .i64 a1_0, .int .i64 a1_1, .int .i64 a1_2, .bool a1_3]] (by rfl) rfl rfl (by (try simp only [List.map_toArray, List.map_cons, List.map_nil]); first | done | rfl | (simp only [List.length_drop, List.length_take]; rfl)) ?_
      with_reducible refine (laws_toHealth.calls a1_0 a1_1 a1_2 a1_3 t241 t242 t243 t244 _ A5.out).mono ?_
      rintro e w17 ⟨rfl, hb⟩
      refine ⟨_, rfl, ?_⟩
      have n0_ := Aside0.mk (blk_below (bq BK237.out) hb)
      have n1_ := Aside0.mk (blk_below (bq BK238.out) hb)
      have n2_ := Aside0.mk (below_step (lq HB.out) hb)
      clear BK237
      clear BK238
      clear HB
      have BK237 := n0_
      have BK238 := n1_
      have HB := n2_
      clear n0_ n1_ n2_
      (try clear hb)
      (try clear hb2)
      (try clear hk)
      (try clear hi)
      refine hK.out _ _ ⟨(blk_cell BK237.out 0).trans rfl, (blk_cell BK237.out 1).trans rfl, (blk_cell BK238.out 0).trans rfl, (blk_cell BK238.out 1).trans rfl, (blk_cell BK238.out 2).trans rfl, (blk_cell BK238.out 3).trans rfl⟩ (fun hHeld => ?_)
      clear hK K
      refine norm_ (a' := ?_) ?_ ?_
      rotate_left
      ·show Act.put _ (some 15) _ = _
       simp only [Act.put, List.setIfInBounds_toArray, List.set_cons_zero, List.set_cons_succ, i64_w, i32_w]
       rfl
      refine two_ (i := 5) (j := 9) (Ni := some 17) (Nj := some 7) #[true, true, true, true, true, true, false, false, false, false, false, false] #[true, true, true, true, true, false, false, false, false, true, false, false] rfl rfl rfl rfl (two_of HT_.out (by kernel_rfl)) (by decide) (by decide) (fun K hK => ?_) (fun K hK => ?_)
      ·skip
       refine goes_ Try.func16 (by kernel_rfl) rfl #[.agg #[.int .i64 t239, .int .i64 t240], .agg #[.int .i64 t241, .int .i64 t242, .int .i64 t243, .bool t244], .int .i64 a2] (by rfl) rfl rfl (by (try simp only [List.map_toArray, List.map_cons, List.map_nil]); first | done | rfl | (simp only [List.length_drop, List.length_take]; rfl)) ?_
       with_reducible refine (spec_OnFault.calls k t239 t240 t241 t242 t243 t244 a2 t245 t246 t247 t248 t249 _ A6.out).mono ?_
       rintro e w18 ⟨rfl, hb⟩
       refine ⟨_, rfl, ?_⟩
       have n0_ := Aside0.mk (blk_below (bq BK237.out) hb)
       have n1_ := Aside0.mk (blk_below (bq BK238.out) hb)
       have n2_ := Aside0.mk (below_step (lq HB.out) hb)
       clear BK237
       clear BK238
       clear HB
       have BK237 := n0_
       have BK238 := n1_
       have HB := n2_
       clear n0_ n1_ n2_
       (try clear hb)
       (try clear hb2)
       (try clear hk)
       (try clear hi)
       refine hK.out _ _ ⟨(blk_cell BK237.out 0).trans rfl, (blk_cell BK237.out 1).trans rfl, (blk_cell BK238.out 0).trans rfl, (blk_cell BK238.out 1).trans rfl, (blk_cell BK238.out 2).trans rfl, (blk_cell BK238.out 3).trans rfl⟩ (fun hHeld => ?_)
       clear hK K
       refine norm_ (a' := ?_) ?_ ?_
       rotate_left
       ·show Act.put _ (some 17) _ = _
        simp only [Act.put, List.setIfInBounds_toArray, List.set_cons_zero, List.set_cons_succ, i64_w, i32_w]
        rfl
       refine pure_ (i := 6) (N := some 11) (v := ?_) (a' := ?_) #[true, true, true, true, true, true, true, false, false, false, false, false] rfl rfl (any_of HT_.out (by kernel_rfl)) (fun _ _ _ h => h) (Or.inl ⟨by rfl, ?_⟩) ?_ ?_
       rotate_left
       ·intro w'
        go_simp
        with_reducible rfl
       rotate_left
       ·simp only [Act.put, List.setIfInBounds_toArray, List.set_cons_zero, List.set_cons_succ, i64_w, i32_w]
        rfl
       refine pure_ (i := 7) (N := some 18) (v := ?_) (a' := ?_) #[true, true, true, true, true, true, true, true, false, false, false, false] rfl rfl (any_of HT_.out (by kernel_rfl)) (fun _ _ _ h => h) (Or.inl ⟨by rfl, ?_⟩) ?_ ?_
       rotate_left
       ·intro w'
        go_simp
        with_reducible rfl
       rotate_left
       ·simp only [Act.put, List.setIfInBounds_toArray, List.set_cons_zero, List.set_cons_succ, i64_w, i32_w]
        rfl
       refine pure_ (i := 8) (N := some 19) (v := ?_) (a' := ?_) #[true, true, true, true, true, true, true, true, true, false, false, false] rfl rfl (any_of HT_.out (by kernel_rfl)) (fun _ _ _ h => h) (Or.inl ⟨by rfl, ?_⟩) ?_ ?_
       rotate_left
       ·intro w'
        go_simp
        with_reducible rfl
       rotate_left
       ·simp only [Act.put, List.setIfInBounds_toArray, List.set_cons_zero, List.set_cons_succ, i64_w, i32_w]
        rfl
       refine one_ (i := 9) (N := some 7) #[true, true, true, true, true, true, true, true, true, true, false, false] rfl rfl (one_of HT_.out (by kernel_rfl)) (by decide) (fun K hK => ?_)
       refine box_step ?hg (N := 7) ?hd (cs := #[.int .i64 0, .int .i64 0, .int .i64 0, .bool false]) (t := 38) ?hr ?_; (case hd => rfl); (case hg => rfl); (case hr => first | (go_simp; done) | (go_simp; rfl))
       intro gb250 hg w19 hbox hb
       have n0_ := Aside0.mk (blk_below (bq BK237.out) hb)
       have n1_ := Aside0.mk (blk_below (bq BK238.out) hb)
       have n2_ := Aside0.mk (below_step (lq HB.out) hb)
       have n3_ := Aside0.mk (hbox)
       have n4_ := Aside0.mk ((ge_new hg (lq HB.out) : w.heap.size ≤ gb250))
       have n5_ := Aside0.mk ((ge_new hg (lq HB.out) : w.heap.size ≤ gb250))
       have n6_ := Aside0.mk ((ne_new hg (bq BK237.out) : gb237 ≠ gb250))
       have n7_ := Aside0.mk ((new_ne hg (bq BK237.out) : gb250 ≠ gb237))
       have n8_ := Aside0.mk ((ne_new hg (bq BK238.out) : gb238 ≠ gb250))
       have n9_ := Aside0.mk ((new_ne hg (bq BK238.out) : gb250 ≠ gb238))
       clear BK237
       clear BK238
       clear HB
       have BK237 := n0_
       have BK238 := n1_
       have HB := n2_
       have BK250 := n3_
       have GW250 := n4_
       have GE250 := n5_
       have NB237_250 := n6_
       have NB250_237 := n7_
       have NB238_250 := n8_
       have NB250_238 := n9_
       clear n0_ n1_ n2_ n3_ n4_ n5_ n6_ n7_ n8_ n9_
       clear hb hbox hg
       refine hK.out _ _ ⟨(blk_cell BK237.out 0).trans rfl, (blk_cell BK237.out 1).trans rfl, (blk_cell BK238.out 0).trans rfl, (blk_cell BK238.out 1).trans rfl, (blk_cell BK238.out 2).trans rfl, (blk_cell BK238.out 3).trans rfl⟩ (fun hHeld => ?_)
       clear hK K
       refine norm_ (a' := ?_) ?_ ?_
       rotate_left
       ·show Act.put _ (some 7) _ = _
        simp only [Act.put, List.setIfInBounds_toArray, List.set_cons_zero, List.set_cons_succ, i64_w, i32_w]
        rfl
       exact norm_ (by simp only [putAll, Act.put, List.setIfInBounds_toArray, List.set_cons_zero, List.set_cons_succ]) (hCont (gb250) _ ⟨hHeld, (bq BK237.out), (bq BK238.out), (bq BK250.out), GW250.out, GE250.out, NB237_250.out, NB250_237.out, NB238_250.out, NB250_238.out, (lq HB.out)⟩)
      ·skip
       refine box_step ?hg (N := 7) ?hd (cs := #[.int .i64 0, .int .i64 0, .int .i64 0, .bool false]) (t := 38) ?hr ?_; (case hd => rfl); (case hg => rfl); (case hr => first | (go_simp; done) | (go_simp; rfl))
       intro gb250 hg w18 hbox hb
       have n0_ := Aside0.mk (blk_below (bq BK237.out) hb)
       have n1_ := Aside0.mk (blk_below (bq BK238.out) hb)
       have n2_ := Aside0.mk (below_step (lq HB.out) hb)
       have n3_ := Aside0.mk (hbox)
       have n4_ := Aside0.mk ((ge_new hg (lq HB.out) : w.heap.size ≤ gb250))
       have n5_ := Aside0.mk ((ge_new hg (lq HB.out) : w.heap.size ≤ gb250))
       have n6_ := Aside0.mk ((ne_new hg (bq BK237.out) : gb237 ≠ gb250))
       have n7_ := Aside0.mk ((new_ne hg (bq BK237.out) : gb250 ≠ gb237))
       have n8_ := Aside0.mk ((ne_new hg (bq BK238.out) : gb238 ≠ gb250))
       have n9_ := Aside0.mk ((new_ne hg (bq BK238.out) : gb250 ≠ gb238))
       clear BK237
       clear BK238
       clear HB
       have BK237 := n0_
       have BK238 := n1_
       have HB := n2_
       have BK250 := n3_
       have GW250 := n4_
       have GE250 := n5_
       have NB237_250 := n6_
       have NB250_237 := n7_
       have NB238_250 := n8_
       have NB250_238 := n9_
       clear n0_ n1_ n2_ n3_ n4_ n5_ n6_ n7_ n8_ n9_
       clear hb hbox hg
       refine hK.out _ _ ⟨(blk_cell BK237.out 0).trans rfl, (blk_cell BK237.out 1).trans rfl, (blk_cell BK238.out 0).trans rfl, (blk_cell BK238.out 1).trans rfl, (blk_cell BK238.out 2).trans rfl, (blk_cell BK238.out 3).trans rfl⟩ (fun hHeld => ?_)
       clear hK K
       refine norm_ (a' := ?_) ?_ ?_
       rotate_left
       ·show Act.put _ (some 7) _ = _
        simp only [Act.put, List.setIfInBounds_toArray, List.set_cons_zero, List.set_cons_succ, i64_w, i32_w]
        rfl
       refine one_ (i := 5) (N := some 17) #[true, true, true, true, true, true, false, false, false, true, false, false] rfl rfl (one_of HT_.out (by kernel_rfl)) (by decide) (fun K hK => ?_)
       refine goes_ Try.func16 (by kernel_rfl) rfl #[.agg #[.int .i64 t239, .int .i64 t240], .agg #[.int .i64 t241, .int .i64 t242, .int .i64 t243, .bool t244], .int .i64 a2] (by rfl) rfl rfl (by (try simp only [List.map_toArray, List.map_cons, List.map_nil]); first | done | rfl | (simp only [List.length_drop, List.length_take]; rfl)) ?_
       with_reducible refine (spec_OnFault.calls k t239 t240 t241 t242 t243 t244 a2 t245 t246 t247 t248 t249 _ A6.out).mono ?_
       rintro e w19 ⟨rfl, hb⟩
       refine ⟨_, rfl, ?_⟩
       have n0_ := Aside0.mk (blk_below (bq BK237.out) hb)
       have n1_ := Aside0.mk (blk_below (bq BK238.out) hb)
       have n2_ := Aside0.mk (blk_below (bq BK250.out) hb)
       have n3_ := Aside0.mk (below_step (lq HB.out) hb)
       clear BK237
       clear BK238
       clear BK250
       clear HB
       have BK237 := n0_
       have BK238 := n1_
       have BK250 := n2_
       have HB := n3_
       clear n0_ n1_ n2_ n3_
       (try clear hb)
       (try clear hb2)
       (try clear hk)
       (try clear hi)
       refine hK.out _ _ ⟨(blk_cell BK237.out 0).trans rfl, (blk_cell BK237.out 1).trans rfl, (blk_cell BK238.out 0).trans rfl, (blk_cell BK238.out 1).trans rfl, (blk_cell BK238.out 2).trans rfl, (blk_cell BK238.out 3).trans rfl⟩ (fun hHeld => ?_)
       clear hK K
       refine norm_ (a' := ?_) ?_ ?_
       rotate_left
       ·show Act.put _ (some 17) _ = _
        simp only [Act.put, List.setIfInBounds_toArray, List.set_cons_zero, List.set_cons_succ, i64_w, i32_w]
        rfl
       refine pure_ (i := 6) (N := some 11) (v := ?_) (a' := ?_) #[true, true, true, true, true, true, true, false, false, true, false, false] rfl rfl (any_of HT_.out (by kernel_rfl)) (fun _ _ _ h => h) (Or.inl ⟨by rfl, ?_⟩) ?_ ?_
       rotate_left
       ·intro w'
        go_simp
        with_reducible rfl
       rotate_left
       ·simp only [Act.put, List.setIfInBounds_toArray, List.set_cons_zero, List.set_cons_succ, i64_w, i32_w]
        rfl
       refine pure_ (i := 7) (N := some 18) (v := ?_) (a' := ?_) #[true, true, true, true, true, true, true, true, false, true, false, false] rfl rfl (any_of HT_.out (by kernel_rfl)) (fun _ _ _ h => h) (Or.inl ⟨by rfl, ?_⟩) ?_ ?_
       rotate_left
       ·intro w'
        go_simp
        with_reducible rfl
       rotate_left
       ·simp only [Act.put, List.setIfInBounds_toArray, List.set_cons_zero, List.set_cons_succ, i64_w, i32_w]
        rfl
       refine pure_ (i := 8) (N := some 19) (v := ?_) (a' := ?_) #[true, true, true, true, true, true, true, true, true, true, false, false] rfl rfl (any_of HT_.out (by kernel_rfl)) (fun _ _ _ h => h) (Or.inl ⟨by rfl, ?_⟩) ?_ ?_
       rotate_left
       ·intro w'
        go_simp
        with_reducible rfl
       rotate_left
       ·simp only [Act.put, List.setIfInBounds_toArray, List.set_cons_zero, List.set_cons_succ, i64_w, i32_w]
        rfl
       exact norm_ (by simp only [putAll, Act.put, List.setIfInBounds_toArray, List.set_cons_zero, List.set_cons_succ]) (hCont (gb250) _ ⟨hHeld, (bq BK237.out), (bq BK238.out), (bq BK250.out), GW250.out, GE250.out, NB237_250.out, NB250_237.out, NB238_250.out, NB250_238.out, (lq HB.out)⟩)
     ·skip
      refine box_step ?hg (N := 7) ?hd (cs := #[.int .i64 0, .int .i64 0, .int .i64 0, .bool false]) (t := 38) ?hr ?_; (case hd => rfl); (case hg => rfl); (case hr => first | (go_simp; done) | (go_simp; rfl))
      intro gb250 hg w17 hbox hb
      have n0_ := Aside0.mk (blk_below (bq BK237.out) hb)
      have n1_ := Aside0.mk (blk_below (bq BK238.out) hb)
      have n2_ := Aside0.mk (below_step (lq HB.out) hb)
      have n3_ := Aside0.mk (hbox)
      have n4_ := Aside0.mk ((ge_new hg (lq HB.out) : w.heap.size ≤ gb250))
      have n5_ := Aside0.mk ((ge_new hg (lq HB.out) : w.heap.size ≤ gb250))
      have n6_ := Aside0.mk ((ne_new hg (bq BK237.out) : gb237 ≠ gb250))
      have n7_ := Aside0.mk ((new_ne hg (bq BK237.out) : gb250 ≠ gb237))
      have n8_ := Aside0.mk ((ne_new hg (bq BK238.out) : gb238 ≠ gb250))
      have n9_ := Aside0.mk ((new_ne hg (bq BK238.out) : gb250 ≠ gb238))
      clear BK237
      clear BK238
      clear HB
      have BK237 := n0_
      have BK238 := n1_
      have HB := n2_
      have BK250 := n3_
      have GW250 := n4_
      have GE250 := n5_
      have NB237_250 := n6_
      have NB250_237 := n7_
      have NB238_250 := n8_
      have NB250_238 := n9_
      clear n0_ n1_ n2_ n3_ n4_ n5_ n6_ n7_ n8_ n9_
      clear hb hbox hg
      refine hK.out _ _ ⟨(blk_cell BK237.out 0).trans rfl, (blk_cell BK237.out 1).trans rfl, (blk_cell BK238.out 0).trans rfl, (blk_cell BK238.out 1).trans rfl, (blk_cell BK238.out 2).trans rfl, (blk_cell BK238.out 3).trans rfl⟩ (fun hHeld => ?_)
      clear hK K
      refine norm_ (a' := ?_) ?_ ?_
      rotate_left
      ·show Act.put _ (some 7) _ = _
       simp only [Act.put, List.setIfInBounds_toArray, List.set_cons_zero, List.set_cons_succ, i64_w, i32_w]
       rfl
      refine one_ (i := 3) (N := some 15) #[true, true, true, true, true, false, false, false, false, true, false, false] rfl rfl (one_of HT_.out (by kernel_rfl)) (by decide) (fun K hK => ?_)
      refine goes_ Try.func18 (by kernel_rfl) rfl #[.agg #[.int .i64 a1_0, .int .i64 a1_1, .int .i64 a1_2, .bool a1_3]] (by rfl) rfl rfl (by (try simp only [List.map_toArray, List.map_cons, List.map_nil]); first | done | rfl | (simp only [List.length_drop, List.length_take]; rfl)) ?_
      with_reducible refine (laws_toHealth.calls a1_0 a1_1 a1_2 a1_3 t241 t242 t243 t244 _ A5.out).mono ?_
      rintro e w18 ⟨rfl, hb⟩
      refine ⟨_, rfl, ?_⟩
      have n0_ := Aside0.mk (blk_below (bq BK237.out) hb)
      have n1_ := Aside0.mk (blk_below (bq BK238.out) hb)
      have n2_ := Aside0.mk (blk_below (bq BK250.out) hb)
      have n3_ := Aside0.mk (below_step (lq HB.out) hb)
      clear BK237
      clear BK238
      clear BK250
      clear HB
      have BK237 := n0_
      have BK238 := n1_
      have BK250 := n2_
      have HB := n3_
      clear n0_ n1_ n2_ n3_
      (try clear hb)
      (try clear hb2)
      (try clear hk)
      (try clear hi)
      refine hK.out _ _ ⟨(blk_cell BK237.out 0).trans rfl, (blk_cell BK237.out 1).trans rfl, (blk_cell BK238.out 0).trans rfl, (blk_cell BK238.out 1).trans rfl, (blk_cell BK238.out 2).trans rfl, (blk_cell BK238.out 3).trans rfl⟩ (fun hHeld => ?_)
      clear hK K
      refine norm_ (a' := ?_) ?_ ?_
      rotate_left
      ·show Act.put _ (some 15) _ = _
       simp only [Act.put, List.setIfInBounds_toArray, List.set_cons_zero, List.set_cons_succ, i64_w, i32_w]
       rfl
      refine one_ (i := 5) (N := some 17) #[true, true, true, true, true, true, false, false, false, true, false, false] rfl rfl (one_of HT_.out (by kernel_rfl)) (by decide) (fun K hK => ?_)
      refine goes_ Try.func16 (by kernel_rfl) rfl #[.agg #[.int .i64 t239, .int .i64 t240], .agg #[.int .i64 t241, .int .i64 t242, .int .i64 t243, .bool t244], .int .i64 a2] (by rfl) rfl rfl (by (try simp only [List.map_toArray, List.map_cons, List.map_nil]); first | done | rfl | (simp only [List.length_drop, List.length_take]; rfl)) ?_
      with_reducible refine (spec_OnFault.calls k t239 t240 t241 t242 t243 t244 a2 t245 t246 t247 t248 t249 _ A6.out).mono ?_
      rintro e w19 ⟨rfl, hb⟩
      refine ⟨_, rfl, ?_⟩
      have n0_ := Aside0.mk (blk_below (bq BK237.out) hb)
      have n1_ := Aside0.mk (blk_below (bq BK238.out) hb)
      have n2_ := Aside0.mk (blk_below (bq BK250.out) hb)
      have n3_ := Aside0.mk (below_step (lq HB.out) hb)
      clear BK237
      clear BK238
      clear BK250
      clear HB
      have BK237 := n0_
      have BK238 := n1_
      have BK250 := n2_
      have HB := n3_
      clear n0_ n1_ n2_ n3_
      (try clear hb)
      (try clear hb2)
      (try clear hk)
      (try clear hi)
      refine hK.out _ _ ⟨(blk_cell BK237.out 0).trans rfl, (blk_cell BK237.out 1).trans rfl, (blk_cell BK238.out 0).trans rfl, (blk_cell BK238.out 1).trans rfl, (blk_cell BK238.out 2).trans rfl, (blk_cell BK238.out 3).trans rfl⟩ (fun hHeld => ?_)
      clear hK K
      refine norm_ (a' := ?_) ?_ ?_
      rotate_left
      ·show Act.put _ (some 17) _ = _
       simp only [Act.put, List.setIfInBounds_toArray, List.set_cons_zero, List.set_cons_succ, i64_w, i32_w]
       rfl
      refine pure_ (i := 6) (N := some 11) (v := ?_) (a' := ?_) #[true, true, true, true, true, true, true, false, false, true, false, false] rfl rfl (any_of HT_.out (by kernel_rfl)) (fun _ _ _ h => h) (Or.inl ⟨by rfl, ?_⟩) ?_ ?_
      rotate_left
      ·intro w'
       go_simp
       with_reducible rfl
      rotate_left
      ·simp only [Act.put, List.setIfInBounds_toArray, List.set_cons_zero, List.set_cons_succ, i64_w, i32_w]
       rfl
      refine pure_ (i := 7) (N := some 18) (v := ?_) (a' := ?_) #[true, true, true, true, true, true, true, true, false, true, false, false] rfl rfl (any_of HT_.out (by kernel_rfl)) (fun _ _ _ h => h) (Or.inl ⟨by rfl, ?_⟩) ?_ ?_
      rotate_left
      ·intro w'
       go_simp
       with_reducible rfl
      rotate_left
      ·simp only [Act.put, List.setIfInBounds_toArray, List.set_cons_zero, List.set_cons_succ, i64_w, i32_w]
       rfl
      refine pure_ (i := 8) (N := some 19) (v := ?_) (a' := ?_) #[true, true, true, true, true, true, true, true, true, true, false, false] rfl rfl (any_of HT_.out (by kernel_rfl)) (fun _ _ _ h => h) (Or.inl ⟨by rfl, ?_⟩) ?_ ?_
      rotate_left
      ·intro w'
       go_simp
       with_reducible rfl
      rotate_left
      ·simp only [Act.put, List.setIfInBounds_toArray, List.set_cons_zero, List.set_cons_succ, i64_w, i32_w]
       rfl
      exact norm_ (by simp only [putAll, Act.put, List.setIfInBounds_toArray, List.set_cons_zero, List.set_cons_succ]) (hCont (gb250) _ ⟨hHeld, (bq BK237.out), (bq BK238.out), (bq BK250.out), GW250.out, GE250.out, NB237_250.out, NB250_237.out, NB238_250.out, NB250_238.out, (lq HB.out)⟩)
    ·skip
     refine box_step ?hg (N := 7) ?hd (cs := #[.int .i64 0, .int .i64 0, .int .i64 0, .bool false]) (t := 38) ?hr ?_; (case hd => rfl); (case hg => rfl); (case hr => first | (go_simp; done) | (go_simp; rfl))
     intro gb250 hg w16 hbox hb
     have n0_ := Aside0.mk (blk_below (bq BK237.out) hb)
     have n1_ := Aside0.mk (blk_below (bq BK238.out) hb)
     have n2_ := Aside0.mk (below_step (lq HB.out) hb)
     have n3_ := Aside0.mk (hbox)
     have n4_ := Aside0.mk ((ge_new hg (lq HB.out) : w.heap.size ≤ gb250))
     have n5_ := Aside0.mk ((ge_new hg (lq HB.out) : w.heap.size ≤ gb250))
     have n6_ := Aside0.mk ((ne_new hg (bq BK237.out) : gb237 ≠ gb250))
     have n7_ := Aside0.mk ((new_ne hg (bq BK237.out) : gb250 ≠ gb237))
     have n8_ := Aside0.mk ((ne_new hg (bq BK238.out) : gb238 ≠ gb250))
     have n9_ := Aside0.mk ((new_ne hg (bq BK238.out) : gb250 ≠ gb238))
     clear BK237
     clear BK238
     clear HB
     have BK237 := n0_
     have BK238 := n1_
     have HB := n2_
     have BK250 := n3_
     have GW250 := n4_
     have GE250 := n5_
     have NB237_250 := n6_
     have NB250_237 := n7_
     have NB238_250 := n8_
     have NB250_238 := n9_
     clear n0_ n1_ n2_ n3_ n4_ n5_ n6_ n7_ n8_ n9_
     clear hb hbox hg
     refine hK.out _ _ ⟨(blk_cell BK237.out 0).trans rfl, (blk_cell BK237.out 1).trans rfl, (blk_cell BK238.out 0).trans rfl, (blk_cell BK238.out 1).trans rfl, (blk_cell BK238.out 2).trans rfl, (blk_cell BK238.out 3).trans rfl⟩ (fun hHeld => ?_)
     clear hK K
     refine norm_ (a' := ?_) ?_ ?_
     rotate_left
     ·show Act.put _ (some 7) _ = _
      simp only [Act.put, List.setIfInBounds_toArray, List.set_cons_zero, List.set_cons_succ, i64_w, i32_w]
      rfl
     refine one_ (i := 1) (N := some 13) #[true, true, true, false, true, false, false, false, false, true, false, false] rfl rfl (one_of HT_.out (by kernel_rfl)) (by decide) (fun K hK => ?_)
     refine goes_ Try.func17 (by kernel_rfl) rfl #[.agg #[.int .i64 a0_0, .int .i64 a0_1]] (by rfl) rfl rfl (by (try simp only [List.map_toArray, List.map_cons, List.map_nil]); first | done | rfl | (simp only [List.length_drop, List.length_take]; rfl)) ?_
     with_reducible refine (laws_toPolicy.calls a0_0 a0_1 t239 t240 _ A4.out).mono ?_
     rintro e w17 ⟨rfl, hb⟩
     refine ⟨_, rfl, ?_⟩
     have n0_ := Aside0.mk (blk_below (bq BK237.out) hb)
     have n1_ := Aside0.mk (blk_below (bq BK238.out) hb)
     have n2_ := Aside0.mk (blk_below (bq BK250.out) hb)
     have n3_ := Aside0.mk (below_step (lq HB.out) hb)
     clear BK237
     clear BK238
     clear BK250
     clear HB
     have BK237 := n0_
     have BK238 := n1_
     have BK250 := n2_
     have HB := n3_
     clear n0_ n1_ n2_ n3_
     (try clear hb)
     (try clear hb2)
     (try clear hk)
     (try clear hi)
     refine hK.out _ _ ⟨(blk_cell BK237.out 0).trans rfl, (blk_cell BK237.out 1).trans rfl, (blk_cell BK238.out 0).trans rfl, (blk_cell BK238.out 1).trans rfl, (blk_cell BK238.out 2).trans rfl, (blk_cell BK238.out 3).trans rfl⟩ (fun hHeld => ?_)
     clear hK K
     refine norm_ (a' := ?_) ?_ ?_
     rotate_left
     ·show Act.put _ (some 13) _ = _
      simp only [Act.put, List.setIfInBounds_toArray, List.set_cons_zero, List.set_cons_succ, i64_w, i32_w]
      rfl
     refine one_ (i := 3) (N := some 15) #[true, true, true, true, true, false, false, false, false, true, false, false] rfl rfl (one_of HT_.out (by kernel_rfl)) (by decide) (fun K hK => ?_)
     refine goes_ Try.func18 (by kernel_rfl) rfl #[.agg #[.int .i64 a1_0, .int .i64 a1_1, .int .i64 a1_2, .bool a1_3]] (by rfl) rfl rfl (by (try simp only [List.map_toArray, List.map_cons, List.map_nil]); first | done | rfl | (simp only [List.length_drop, List.length_take]; rfl)) ?_
     with_reducible refine (laws_toHealth.calls a1_0 a1_1 a1_2 a1_3 t241 t242 t243 t244 _ A5.out).mono ?_
     rintro e w18 ⟨rfl, hb⟩
     refine ⟨_, rfl, ?_⟩
     have n0_ := Aside0.mk (blk_below (bq BK237.out) hb)
     have n1_ := Aside0.mk (blk_below (bq BK238.out) hb)
     have n2_ := Aside0.mk (blk_below (bq BK250.out) hb)
     have n3_ := Aside0.mk (below_step (lq HB.out) hb)
     clear BK237
     clear BK238
     clear BK250
     clear HB
     have BK237 := n0_
     have BK238 := n1_
     have BK250 := n2_
     have HB := n3_
     clear n0_ n1_ n2_ n3_
     (try clear hb)
     (try clear hb2)
     (try clear hk)
     (try clear hi)
     refine hK.out _ _ ⟨(blk_cell BK237.out 0).trans rfl, (blk_cell BK237.out 1).trans rfl, (blk_cell BK238.out 0).trans rfl, (blk_cell BK238.out 1).trans rfl, (blk_cell BK238.out 2).trans rfl, (blk_cell BK238.out 3).trans rfl⟩ (fun hHeld => ?_)
     clear hK K
     refine norm_ (a' := ?_) ?_ ?_
     rotate_left
     ·show Act.put _ (some 15) _ = _
      simp only [Act.put, List.setIfInBounds_toArray, List.set_cons_zero, List.set_cons_succ, i64_w, i32_w]
      rfl
     refine one_ (i := 5) (N := some 17) #[true, true, true, true, true, true, false, false, false, true, false, false] rfl rfl (one_of HT_.out (by kernel_rfl)) (by decide) (fun K hK => ?_)
     refine goes_ Try.func16 (by kernel_rfl) rfl #[.agg #[.int .i64 t239, .int .i64 t240], .agg #[.int .i64 t241, .int .i64 t242, .int .i64 t243, .bool t244], .int .i64 a2] (by rfl) rfl rfl (by (try simp only [List.map_toArray, List.map_cons, List.map_nil]); first | done | rfl | (simp only [List.length_drop, List.length_take]; rfl)) ?_
     with_reducible refine (spec_OnFault.calls k t239 t240 t241 t242 t243 t244 a2 t245 t246 t247 t248 t249 _ A6.out).mono ?_
     rintro e w19 ⟨rfl, hb⟩
     refine ⟨_, rfl, ?_⟩
     have n0_ := Aside0.mk (blk_below (bq BK237.out) hb)
     have n1_ := Aside0.mk (blk_below (bq BK238.out) hb)
     have n2_ := Aside0.mk (blk_below (bq BK250.out) hb)
     have n3_ := Aside0.mk (below_step (lq HB.out) hb)
     clear BK237
     clear BK238
     clear BK250
     clear HB
     have BK237 := n0_
     have BK238 := n1_
     have BK250 := n2_
     have HB := n3_
     clear n0_ n1_ n2_ n3_
     (try clear hb)
     (try clear hb2)
     (try clear hk)
     (try clear hi)
     refine hK.out _ _ ⟨(blk_cell BK237.out 0).trans rfl, (blk_cell BK237.out 1).trans rfl, (blk_cell BK238.out 0).trans rfl, (blk_cell BK238.out 1).trans rfl, (blk_cell BK238.out 2).trans rfl, (blk_cell BK238.out 3).trans rfl⟩ (fun hHeld => ?_)
     clear hK K
     refine norm_ (a' := ?_) ?_ ?_
     rotate_left
     ·show Act.put _ (some 17) _ = _
      simp only [Act.put, List.setIfInBounds_toArray, List.set_cons_zero, List.set_cons_succ, i64_w, i32_w]
      rfl
     refine pure_ (i := 6) (N := some 11) (v := ?_) (a' := ?_) #[true, true, true, true, true, true, true, false, false, true, false, false] rfl rfl (any_of HT_.out (by kernel_rfl)) (fun _ _ _ h => h) (Or.inl ⟨by rfl, ?_⟩) ?_ ?_
     rotate_left
     ·intro w'
      go_simp
      with_reducible rfl
     rotate_left
     ·simp only [Act.put, List.setIfInBounds_toArray, List.set_cons_zero, List.set_cons_succ, i64_w, i32_w]
      rfl
     refine pure_ (i := 7) (N := some 18) (v := ?_) (a' := ?_) #[true, true, true, true, true, true, true, true, false, true, false, false] rfl rfl (any_of HT_.out (by kernel_rfl)) (fun _ _ _ h => h) (Or.inl ⟨by rfl, ?_⟩) ?_ ?_
     rotate_left
     ·intro w'
      go_simp
      with_reducible rfl
     rotate_left
     ·simp only [Act.put, List.setIfInBounds_toArray, List.set_cons_zero, List.set_cons_succ, i64_w, i32_w]
      rfl
     refine pure_ (i := 8) (N := some 19) (v := ?_) (a' := ?_) #[true, true, true, true, true, true, true, true, true, true, false, false] rfl rfl (any_of HT_.out (by kernel_rfl)) (fun _ _ _ h => h) (Or.inl ⟨by rfl, ?_⟩) ?_ ?_
     rotate_left
     ·intro w'
      go_simp
      with_reducible rfl
     rotate_left
     ·simp only [Act.put, List.setIfInBounds_toArray, List.set_cons_zero, List.set_cons_succ, i64_w, i32_w]
      rfl
     exact norm_ (by simp only [putAll, Act.put, List.setIfInBounds_toArray, List.set_cons_zero, List.set_cons_succ]) (hCont (gb250) _ ⟨hHeld, (bq BK237.out), (bq BK238.out), (bq BK250.out), GW250.out, GE250.out, NB237_250.out, NB250_237.out, NB238_250.out, NB250_238.out, (lq HB.out)⟩)
   rintro gb250 w20 ⟨hS_, h0_, h1_, h2_, h3_, h4_, h5_, h6_, h7_, h8_, h9_⟩
   have n0_ : Aside0 (w20.heap[gb237]? = some (.cells #[.int .i64 a0_0, .int .i64 a0_1] 35 (0, 0))) := ⟨h0_⟩
   have n1_ : Aside0 (w20.heap[gb238]? = some (.cells #[.int .i64 a1_0, .int .i64 a1_1, .int .i64 a1_2, .bool a1_3] 37 (0, 0))) := ⟨h1_⟩
   have n2_ : Aside0 (w20.heap[gb250]? = some (.cells #[.int .i64 0, .int .i64 0, .int .i64 0, .bool false] 38 (0, 0))) := ⟨h2_⟩
   have n3_ : Aside0 (w.heap.size ≤ gb250) := ⟨h3_⟩
   have n4_ : Aside0 (w.heap.size ≤ gb250) := ⟨h4_⟩
   have n5_ : Aside0 (gb237 ≠ gb250) := ⟨h5_⟩
   have n6_ : Aside0 (gb250 ≠ gb237) := ⟨h6_⟩
   have n7_ : Aside0 (gb238 ≠ gb250) := ⟨h7_⟩
   have n8_ : Aside0 (gb250 ≠ gb238) := ⟨h8_⟩
   have n9_ : Aside0 (Below w.heap.size w w20) := ⟨h9_⟩
   clear BK237
   clear BK238
   clear HB
   clear h0_ h1_ h2_ h3_ h4_ h5_ h6_ h7_ h8_ h9_
   have BK237 := n0_
   have BK238 := n1_
   have BK250 := n2_
   have GW250 := n3_
   have GE250 := n4_
   have NB237_250 := n5_
   have NB250_237 := n6_
   have NB238_250 := n7_
   have NB250_238 := n8_
   have HB := n9_
   clear n0_ n1_ n2_ n3_ n4_ n5_ n6_ n7_ n8_ n9_
   have hHeld : w20.cell? ⟨gb237, 0, none⟩ = some (.int .i64 a0_0) ∧ w20.cell? ⟨gb237, 1, none⟩ = some (.int .i64 a0_1) ∧ w20.cell? ⟨gb238, 0, none⟩ = some (.int .i64 a1_0) ∧ w20.cell? ⟨gb238, 1, none⟩ = some (.int .i64 a1_1) ∧ w20.cell? ⟨gb238, 2, none⟩ = some (.int .i64 a1_2) ∧ w20.cell? ⟨gb238, 3, none⟩ = some (.bool a1_3) := hS_
   refine norm_ (a' := ?_) ?_ ?_
   rotate_left
   ·simp only [putAll, Act.put, List.setIfInBounds_toArray, List.set_cons_zero, List.set_cons_succ]
    rfl
   refine one_ (i := 10) (N := none) #[true, true, true, true, true, true, true, true, true, true, true, false] rfl rfl (one_of HT_.out (by kernel_rfl)) (by decide) (fun K hK => ?_)
   have hs21 : w20.cell? ⟨gb250, 0, none⟩ = some (.int .i64 0) := (blk_cell BK250.out 0).trans rfl
   have hfs21 := blk_frozen BK250.out 0
   have hns21_0 := NB237_250.out
   have hns21_1 := NB238_250.out
   have hms21_0 := NB250_237.out
   have hms21_1 := NB250_238.out
   have hs22 : w20.cell? ⟨gb250, 1, none⟩ = some (.int .i64 0) := (blk_cell BK250.out 1).trans rfl
   have hfs22 := blk_frozen BK250.out 1
   have hns22_0 := NB237_250.out
   have hns22_1 := NB238_250.out
   have hms22_0 := NB250_237.out
   have hms22_1 := NB250_238.out
   have hs23 : w20.cell? ⟨gb250, 2, none⟩ = some (.int .i64 0) := (blk_cell BK250.out 2).trans rfl
   have hfs23 := blk_frozen BK250.out 2
   have hns23_0 := NB237_250.out
   have hns23_1 := NB238_250.out
   have hms23_0 := NB250_237.out
   have hms23_1 := NB250_238.out
   have hs24 : w20.cell? ⟨gb250, 3, none⟩ = some (.bool false) := (blk_cell BK250.out 3).trans rfl
   have hfs24 := blk_frozen BK250.out 3
   have hns24_0 := NB237_250.out
   have hns24_1 := NB238_250.out
   have hms24_0 := NB250_237.out
   have hms24_1 := NB250_238.out
   refine skip_ (w1 := ?_) (by rfl) rfl ?_ ?_
   rotate_left
   ·go_simp
    rfl
   refine hK.out _ _ ⟨((cell_far (p := ⟨gb250, _, none⟩) NB237_250.out _).trans (((cell_far (p := ⟨gb250, _, none⟩) NB237_250.out _).trans (((cell_far (p := ⟨gb250, _, none⟩) NB237_250.out _).trans (((cell_far (p := ⟨gb250, _, none⟩) NB237_250.out _).trans (hHeld.1)))))))), ((cell_far (p := ⟨gb250, _, none⟩) NB237_250.out _).trans (((cell_far (p := ⟨gb250, _, none⟩) NB237_250.out _).trans (((cell_far (p := ⟨gb250, _, none⟩) NB237_250.out _).trans (((cell_far (p := ⟨gb250, _, none⟩) NB237_250.out _).trans (hHeld.2.1)))))))), ((cell_far (p := ⟨gb250, _, none⟩) NB238_250.out _).trans (((cell_far (p := ⟨gb250, _, none⟩) NB238_250.out _).trans (((cell_far (p := ⟨gb250, _, none⟩) NB238_250.out _).trans (((cell_far (p := ⟨gb250, _, none⟩) NB238_250.out _).trans (hHeld.2.2.1)))))))), ((cell_far (p := ⟨gb250, _, none⟩) NB238_250.out _).trans (((cell_far (p := ⟨gb250, _, none⟩) NB238_250.out _).trans (((cell_far (p := ⟨gb250, _, none⟩) NB238_250.out _).trans (((cell_far (p := ⟨gb250, _, none⟩) NB238_250.out _).trans (hHeld.2.2.2.1)))))))), ((cell_far (p := ⟨gb250, _, none⟩) NB238_250.out _).trans (((cell_far (p := ⟨gb250, _, none⟩) NB238_250.out _).trans (((cell_far (p := ⟨gb250, _, none⟩) NB238_250.out _).trans (((cell_far (p := ⟨gb250, _, none⟩) NB238_250.out _).trans (hHeld.2.2.2.2.1)))))))), ((cell_far (p := ⟨gb250, _, none⟩) NB238_250.out _).trans (((cell_far (p := ⟨gb250, _, none⟩) NB238_250.out _).trans (((cell_far (p := ⟨gb250, _, none⟩) NB238_250.out _).trans (((cell_far (p := ⟨gb250, _, none⟩) NB238_250.out _).trans (hHeld.2.2.2.2.2))))))))⟩ (fun hHeld => ?_)
   clear hK K
   refine pure_ (i := 11) (N := some 8) (v := ?_) (a' := ?_) #[true, true, true, true, true, true, true, true, true, true, true, true] rfl rfl (any_of HT_.out (by kernel_rfl)) (fun _ _ _ h => h) (Or.inl ⟨by rfl, ?_⟩) ?_ ?_
   rotate_left
   ·intro w'
    go_simp
    with_reducible rfl
   rotate_left
   ·simp only [Act.put, List.setIfInBounds_toArray, List.set_cons_zero, List.set_cons_succ, i64_w, i32_w]
    rfl
   refine done_ (done_of HT_.out (by kernel_rfl)) ?_
   try go_wp2
   have n0_ : Aside0 (((((w20.setCell ⟨gb250, 0, none⟩ (.int .i64 t245)).setCell ⟨gb250, 1, none⟩ (.int .i64 t246)).setCell ⟨gb250, 2, none⟩ (.int .i64 t247)).setCell ⟨gb250, 3, none⟩ (.bool t248)).heap[gb237]? = some (.cells #[.int .i64 a0_0, .int .i64 a0_1] 35 (0, 0))) := ⟨by (with_reducible repeat (first | refine blk_drewN ?_ _ | refine blk_drew ?_ | refine blk_alloc ?_ _)); refine blk_far ?_ NB237_250.out _; (with_reducible repeat (first | refine blk_drewN ?_ _ | refine blk_drew ?_ | refine blk_alloc ?_ _)); refine blk_far ?_ NB237_250.out _; (with_reducible repeat (first | refine blk_drewN ?_ _ | refine blk_drew ?_ | refine blk_alloc ?_ _)); refine blk_far ?_ NB237_250.out _; (with_reducible repeat (first | refine blk_drewN ?_ _ | refine blk_drew ?_ | refine blk_alloc ?_ _)); refine blk_far ?_ NB237_250.out _; (with_reducible repeat (first | refine blk_drewN ?_ _ | refine blk_drew ?_ | refine blk_alloc ?_ _)); exact BK237.out⟩
   have n1_ : Aside0 (((((w20.setCell ⟨gb250, 0, none⟩ (.int .i64 t245)).setCell ⟨gb250, 1, none⟩ (.int .i64 t246)).setCell ⟨gb250, 2, none⟩ (.int .i64 t247)).setCell ⟨gb250, 3, none⟩ (.bool t248)).heap[gb238]? = some (.cells #[.int .i64 a1_0, .int .i64 a1_1, .int .i64 a1_2, .bool a1_3] 37 (0, 0))) := ⟨by (with_reducible repeat (first | refine blk_drewN ?_ _ | refine blk_drew ?_ | refine blk_alloc ?_ _)); refine blk_far ?_ NB238_250.out _; (with_reducible repeat (first | refine blk_drewN ?_ _ | refine blk_drew ?_ | refine blk_alloc ?_ _)); refine blk_far ?_ NB238_250.out _; (with_reducible repeat (first | refine blk_drewN ?_ _ | refine blk_drew ?_ | refine blk_alloc ?_ _)); refine blk_far ?_ NB238_250.out _; (with_reducible repeat (first | refine blk_drewN ?_ _ | refine blk_drew ?_ | refine blk_alloc ?_ _)); refine blk_far ?_ NB238_250.out _; (with_reducible repeat (first | refine blk_drewN ?_ _ | refine blk_drew ?_ | refine blk_alloc ?_ _)); exact BK238.out⟩
   have n2_ : Aside0 (((((w20.setCell ⟨gb250, 0, none⟩ (.int .i64 t245)).setCell ⟨gb250, 1, none⟩ (.int .i64 t246)).setCell ⟨gb250, 2, none⟩ (.int .i64 t247)).setCell ⟨gb250, 3, none⟩ (.bool t248)).heap[gb250]? = some (.cells #[.int .i64 t245, .int .i64 t246, .int .i64 t247, .bool t248] 38 (0, 0))) := ⟨by (with_reducible repeat (first | refine blk_drewN ?_ _ | refine blk_drew ?_ | refine blk_alloc ?_ _)); refine blk_put (cs := #[.int .i64 t245, .int .i64 t246, .int .i64 t247, .bool false]) ?_ 3 _ rfl; (with_reducible repeat (first | refine blk_drewN ?_ _ | refine blk_drew ?_ | refine blk_alloc ?_ _)); refine blk_put (cs := #[.int .i64 t245, .int .i64 t246, .int .i64 0, .bool false]) ?_ 2 _ rfl; (with_reducible repeat (first | refine blk_drewN ?_ _ | refine blk_drew ?_ | refine blk_alloc ?_ _)); refine blk_put (cs := #[.int .i64 t245, .int .i64 0, .int .i64 0, .bool false]) ?_ 1 _ rfl; (with_reducible repeat (first | refine blk_drewN ?_ _ | refine blk_drew ?_ | refine blk_alloc ?_ _)); refine blk_put (cs := #[.int .i64 0, .int .i64 0, .int .i64 0, .bool false]) ?_ 0 _ rfl; (with_reducible repeat (first | refine blk_drewN ?_ _ | refine blk_drew ?_ | refine blk_alloc ?_ _)); exact BK250.out⟩
   have n3_ : Aside0 (Below w.heap.size w ((((w20.setCell ⟨gb250, 0, none⟩ (.int .i64 t245)).setCell ⟨gb250, 1, none⟩ (.int .i64 t246)).setCell ⟨gb250, 2, none⟩ (.int .i64 t247)).setCell ⟨gb250, 3, none⟩ (.bool t248))) := ⟨by repeat (first | (with_reducible first | exact HB.out | apply below_alloc | apply pw_below_drewN | apply below_drew1 | refine below_set ?_ GE250.out) | exact HB.out)⟩
   (try clear BK237)
   (try clear BK238)
   (try clear BK250)
   (try clear HB)
   generalize ((((w20.setCell ⟨gb250, 0, none⟩ (.int .i64 t245)).setCell ⟨gb250, 1, none⟩ (.int .i64 t246)).setCell ⟨gb250, 2, none⟩ (.int .i64 t247)).setCell ⟨gb250, 3, none⟩ (.bool t248)) = w25 at n0_ n1_ n2_ n3_ ⊢
   have BK237 := n0_
   have BK238 := n1_
   have BK250 := n2_
   have HB := n3_
   clear n0_ n1_ n2_ n3_
   have n0_ := Aside0.mk (blk_drew BK237.out)
   have n1_ := Aside0.mk (blk_drew BK238.out)
   have n2_ := Aside0.mk (blk_drew BK250.out)
   have n3_ := Aside0.mk (below_drew1 HB.out)
   clear BK237
   clear BK238
   clear BK250
   clear HB
   have BK237 := n0_
   have BK238 := n1_
   have BK250 := n2_
   have HB := n3_
   clear n0_ n1_ n2_ n3_
   refine start_ (n := 12) (S := fun w' => w'.cell? ⟨gb237, 0, none⟩ = some (.int .i64 a0_0) ∧ w'.cell? ⟨gb237, 1, none⟩ = some (.int .i64 a0_1) ∧ w'.cell? ⟨gb238, 0, none⟩ = some (.int .i64 a1_0) ∧ w'.cell? ⟨gb238, 1, none⟩ = some (.int .i64 a1_1) ∧ w'.cell? ⟨gb238, 2, none⟩ = some (.int .i64 a1_2) ∧ w'.cell? ⟨gb238, 3, none⟩ = some (.bool a1_3)) (ds := []) #[false, false, false, false, false, false, false, false, false, false, false, false] (by kernel_rfl) rfl rfl ⟨(blk_cell BK237.out 0).trans rfl, (blk_cell BK237.out 1).trans rfl, (blk_cell BK238.out 0).trans rfl, (blk_cell BK238.out 1).trans rfl, (blk_cell BK238.out 2).trans rfl, (blk_cell BK238.out 3).trans rfl⟩ (fun hHeld => ?_); refine with_tabW laws_FnExactOnFault.tab2 laws_FnExactOnFault.bits2 (fun HT_ HW_ => ?_)
   generalize w25.drew = w26 at BK237 BK238 BK250 HB hHeld ⊢
   refine pure_ (i := 4) (N := some 25) (v := ?_) (a' := ?_) #[false, false, false, false, true, false, false, false, false, false, false, false] rfl rfl (any_of HT_.out (by kernel_rfl)) (fun _ _ _ h => h) (Or.inl ⟨by rfl, ?_⟩) ?_ ?_
   rotate_left
   ·intro w'
    go_simp
    with_reducible rfl
   rotate_left
   ·simp only [Act.put, List.setIfInBounds_toArray, List.set_cons_zero, List.set_cons_succ, i64_w, i32_w]
    rfl
   refine take_ (i := 0) (N := some 21) (v := ?_) (a' := ?_) #[true, false, false, false, true, false, false, false, false, false, false, false] rfl rfl (take_ofW HT_.out HW_.out (by kernel_rfl)) (fun _ _ _ h => h) (Or.inl ⟨by rfl, ?_⟩) hHeld ?_ ?_
   rotate_left
   ·rintro w' ⟨s0, s1, s2, s3, s4, s5⟩
    go_simp
    with_reducible rfl
   rotate_left
   ·simp only [Act.put, List.setIfInBounds_toArray, List.set_cons_zero, List.set_cons_succ, i64_w, i32_w]
    rfl
   refine take_ (i := 2) (N := some 23) (v := ?_) (a' := ?_) #[true, false, true, false, true, false, false, false, false, false, false, false] rfl rfl (take_ofW HT_.out HW_.out (by kernel_rfl)) (fun _ _ _ h => h) (Or.inl ⟨by rfl, ?_⟩) hHeld ?_ ?_
   rotate_left
   ·rintro w' ⟨s0, s1, s2, s3, s4, s5⟩
    go_simp
    with_reducible rfl
   rotate_left
   ·simp only [Act.put, List.setIfInBounds_toArray, List.set_cons_zero, List.set_cons_succ, i64_w, i32_w]
    rfl
   refine join_ (σ := Nat) 2 #[true, true, true, true, true, true, true, true, true, true, false, false] (fun s_ => [(22, .agg #[.int .i64 t251, .int .i64 t252]), (24, .agg #[.int .i64 t253, .int .i64 t254, .int .i64 t255, .bool t256]), (26, .tuple #[.agg #[.int .i64 t257, .int .i64 t258, .int .i64 t259, .bool t260], .int .i64 t261]), (9, .pointer (some ⟨s_, 0, none⟩)), (20, .tuple #[.agg #[.int .i64 t257, .int .i64 t258, .int .i64 t259, .bool t260], .int .i64 t261]), (27, .agg #[.int .i64 t257, .int .i64 t258, .int .i64 t259, .bool t260]), (28, .int .i64 t261)]) (fun s_ w' => (w'.cell? ⟨gb237, 0, none⟩ = some (.int .i64 a0_0) ∧ w'.cell? ⟨gb237, 1, none⟩ = some (.int .i64 a0_1) ∧ w'.cell? ⟨gb238, 0, none⟩ = some (.int .i64 a1_0) ∧ w'.cell? ⟨gb238, 1, none⟩ = some (.int .i64 a1_1) ∧ w'.cell? ⟨gb238, 2, none⟩ = some (.int .i64 a1_2) ∧ w'.cell? ⟨gb238, 3, none⟩ = some (.bool a1_3)) ∧ (w'.heap[gb237]? = some (.cells #[.int .i64 a0_0, .int .i64 a0_1] 35 (0, 0))) ∧ (w'.heap[gb238]? = some (.cells #[.int .i64 a1_0, .int .i64 a1_1, .int .i64 a1_2, .bool a1_3] 37 (0, 0))) ∧ (w'.heap[gb250]? = some (.cells #[.int .i64 t245, .int .i64 t246, .int .i64 t247, .bool t248] 38 (0, 0))) ∧ (w'.heap[s_]? = some (.cells #[.int .i64 0, .int .i64 0, .int .i64 0, .bool false] 38 (0, 0))) ∧ (w.heap.size ≤ s_) ∧ (w.heap.size ≤ s_) ∧ (gb237 ≠ s_) ∧ (s_ ≠ gb237) ∧ (gb238 ≠ s_) ∧ (s_ ≠ gb238) ∧ (gb250 ≠ s_) ∧ (s_ ≠ gb250) ∧ (Below w.heap.size w w')) ?_ ?_
   rotate_left
   ·intro hCont
    refine two_ (i := 1) (j := 9) (Ni := some 22) (Nj := some 9) #[true, true, true, false, true, false, false, false, false, false, false, false] #[true, false, true, false, true, false, false, false, false, true, false, false] rfl rfl rfl rfl (two_of HT_.out (by kernel_rfl)) (by decide) (by decide) (fun K hK => ?_) (fun K hK => ?_)
    ·skip
     refine goes_ Try.func17 (by kernel_rfl) rfl #[.agg #[.int .i64 a0_0, .int .i64 a0_1]] (by rfl) rfl rfl (by (try simp only [List.map_toArray, List.map_cons, List.map_nil]); first | done | rfl | (simp only [List.length_drop, List.length_take]; rfl)) ?_
     with_reducible refine (laws_toPolicy.calls a0_0 a0_1 t251 t252 _ A7.out).mono ?_
     rintro e w27 ⟨rfl, hb⟩
     refine ⟨_, rfl, ?_⟩
     have n0_ := Aside0.mk (blk_below (bq BK237.out) hb)
     have n1_ := Aside0.mk (blk_below (bq BK238.out) hb)
     have n2_ := Aside0.mk (blk_below (bq BK250.out) hb)
     have n3_ := Aside0.mk (below_step (lq HB.out) hb)
     clear BK237
     clear BK238
     clear BK250
     clear HB
     have BK237 := n0_
     have BK238 := n1_
     have BK250 := n2_
     have HB := n3_
     clear n0_ n1_ n2_ n3_
     (try clear hb)
     (try clear hb2)
     (try clear hk)
     (try clear hi)
     refine hK.out _ _ ⟨(blk_cell BK237.out 0).trans rfl, (blk_cell BK237.out 1).trans rfl, (blk_cell BK238.out 0).trans rfl, (blk_cell BK238.out 1).trans rfl, (blk_cell BK238.out 2).trans rfl, (blk_cell BK238.out 3).trans rfl⟩ (fun hHeld => ?_)
     clear hK K
     refine norm_ (a' := ?_) ?_ ?_
     rotate_left
     ·show Act.put _ (some 22) _ = _
      simp only [Act.put, List.setIfInBounds_toArray, List.set_cons_zero, List.set_cons_succ, i64_w, i32_w]
      rfl
     refine two_ (i := 3) (j := 9) (Ni := some 24) (Nj := some 9) #[true, true, true, true, true, false, false, false, false, false, false, false] #[true, true, true, false, true, false, false, false, false, true, false, false] rfl rfl rfl rfl (two_of HT_.out (by kernel_rfl)) (by decide) (by decide) (fun K hK => ?_) (fun K hK => ?_)
     ·skip
      refine goes_ Try.func18 (by kernel_rfl) rfl #[.agg #[.int .i64 a1_0, .int .i64 a1_1, .int .i64 a1_2, .bool a1_3]] (by rfl) rfl rfl (by (try simp only [List.map_toArray, List.map_cons, List.map_nil]); first | done | rfl | (simp only [List.length_drop, List.length_take]; rfl)) ?_
      with_reducible refine (laws_toHealth.calls a1_0 a1_1 a1_2 a1_3 t253 t254 t255 t256 _ A8.out).mono ?_
      rintro e w28 ⟨rfl, hb⟩
      refine ⟨_, rfl, ?_⟩
      have n0_ := Aside0.mk (blk_below (bq BK237.out) hb)
      have n1_ := Aside0.mk (blk_below (bq BK238.out) hb)
      have n2_ := Aside0.mk (blk_below (bq BK250.out) hb)
      have n3_ := Aside0.mk (below_step (lq HB.out) hb)
      clear BK237
      clear BK238
      clear BK250
      clear HB
      have BK237 := n0_
      have BK238 := n1_
      have BK250 := n2_
      have HB := n3_
      clear n0_ n1_ n2_ n3_
      (try clear hb)
      (try clear hb2)
      (try clear hk)
      (try clear hi)
      refine hK.out _ _ ⟨(blk_cell BK237.out 0).trans rfl, (blk_cell BK237.out 1).trans rfl, (blk_cell BK238.out 0).trans rfl, (blk_cell BK238.out 1).trans rfl, (blk_cell BK238.out 2).trans rfl, (blk_cell BK238.out 3).trans rfl⟩ (fun hHeld => ?_)
      clear hK K
      refine norm_ (a' := ?_) ?_ ?_
      rotate_left
      ·show Act.put _ (some 24) _ = _
       simp only [Act.put, List.setIfInBounds_toArray, List.set_cons_zero, List.set_cons_succ, i64_w, i32_w]
       rfl
      refine two_ (i := 5) (j := 9) (Ni := some 26) (Nj := some 9) #[true, true, true, true, true, true, false, false, false, false, false, false] #[true, true, true, true, true, false, false, false, false, true, false, false] rfl rfl rfl rfl (two_of HT_.out (by kernel_rfl)) (by decide) (by decide) (fun K hK => ?_) (fun K hK => ?_)
      ·skip
       refine goes_ Try.func19 (by kernel_rfl) rfl #[.agg #[.int .i64 t251, .int .i64 t252], .agg #[.int .i64 t253, .int .i64 t254, .int .i64 t255, .bool t256], .int .i64 a2] (by rfl) rfl rfl (by (try simp only [List.map_toArray, List.map_cons, List.map_nil]); first | done | rfl | (simp only [List.length_drop, List.length_take]; rfl)) ?_
       with_reducible refine (impl_OnFault.calls t251 t252 t253 t254 t255 t256 a2 t257 t258 t259 t260 t261 _ A9.out).mono ?_
       rintro e w29 ⟨rfl, hb⟩
       refine ⟨_, rfl, ?_⟩
       have n0_ := Aside0.mk (blk_below (bq BK237.out) hb)
       have n1_ := Aside0.mk (blk_below (bq BK238.out) hb)
       have n2_ := Aside0.mk (blk_below (bq BK250.out) hb)
       have n3_ := Aside0.mk (below_step (lq HB.out) hb)
       clear BK237
       clear BK238
       clear BK250
       clear HB
       have BK237 := n0_
       have BK238 := n1_
       have BK250 := n2_
       have HB := n3_
       clear n0_ n1_ n2_ n3_
       (try clear hb)
       (try clear hb2)
       (try clear hk)
       (try clear hi)
       refine hK.out _ _ ⟨(blk_cell BK237.out 0).trans rfl, (blk_cell BK237.out 1).trans rfl, (blk_cell BK238.out 0).trans rfl, (blk_cell BK238.out 1).trans rfl, (blk_cell BK238.out 2).trans rfl, (blk_cell BK238.out 3).trans rfl⟩ (fun hHeld => ?_)
       clear hK K
       refine norm_ (a' := ?_) ?_ ?_
       rotate_left
       ·show Act.put _ (some 26) _ = _
        simp only [Act.put, List.setIfInBounds_toArray, List.set_cons_zero, List.set_cons_succ, i64_w, i32_w]
        rfl
       refine pure_ (i := 6) (N := some 20) (v := ?_) (a' := ?_) #[true, true, true, true, true, true, true, false, false, false, false, false] rfl rfl (any_of HT_.out (by kernel_rfl)) (fun _ _ _ h => h) (Or.inl ⟨by rfl, ?_⟩) ?_ ?_
       rotate_left
       ·intro w'
        go_simp
        with_reducible rfl
       rotate_left
       ·simp only [Act.put, List.setIfInBounds_toArray, List.set_cons_zero, List.set_cons_succ, i64_w, i32_w]
        rfl
       refine pure_ (i := 7) (N := some 27) (v := ?_) (a' := ?_) #[true, true, true, true, true, true, true, true, false, false, false, false] rfl rfl (any_of HT_.out (by kernel_rfl)) (fun _ _ _ h => h) (Or.inl ⟨by rfl, ?_⟩) ?_ ?_
       rotate_left
       ·intro w'
        go_simp
        with_reducible rfl
       rotate_left
       ·simp only [Act.put, List.setIfInBounds_toArray, List.set_cons_zero, List.set_cons_succ, i64_w, i32_w]
        rfl
       refine pure_ (i := 8) (N := some 28) (v := ?_) (a' := ?_) #[true, true, true, true, true, true, true, true, true, false, false, false] rfl rfl (any_of HT_.out (by kernel_rfl)) (fun _ _ _ h => h) (Or.inl ⟨by rfl, ?_⟩) ?_ ?_
       rotate_left
       ·intro w'
        go_simp
        with_reducible rfl
       rotate_left
       ·simp only [Act.put, List.setIfInBounds_toArray, List.set_cons_zero, List.set_cons_succ, i64_w, i32_w]
        rfl
       refine one_ (i := 9) (N := some 9) #[true, true, true, true, true, true, true, true, true, true, false, false] rfl rfl (one_of HT_.out (by kernel_rfl)) (by decide) (fun K hK => ?_)
       refine box_step ?hg (N := 9) ?hd (cs := #[.int .i64 0, .int .i64 0, .int .i64 0, .bool false]) (t := 38) ?hr ?_; (case hd => rfl); (case hg => rfl); (case hr => first | (go_simp; done) | (go_simp; rfl))
       intro gb262 hg w30 hbox hb
       have n0_ := Aside0.mk (blk_below (bq BK237.out) hb)
       have n1_ := Aside0.mk (blk_below (bq BK238.out) hb)
       have n2_ := Aside0.mk (blk_below (bq BK250.out) hb)
       have n3_ := Aside0.mk (below_step (lq HB.out) hb)
       have n4_ := Aside0.mk (hbox)
       have n5_ := Aside0.mk ((ge_new hg (lq HB.out) : w.heap.size ≤ gb262))
       have n6_ := Aside0.mk ((ge_new hg (lq HB.out) : w.heap.size ≤ gb262))
       have n7_ := Aside0.mk ((ne_new hg (bq BK237.out) : gb237 ≠ gb262))
       have n8_ := Aside0.mk ((new_ne hg (bq BK237.out) : gb262 ≠ gb237))
       have n9_ := Aside0.mk ((ne_new hg (bq BK238.out) : gb238 ≠ gb262))
       have n10_ := Aside0.mk ((new_ne hg (bq BK238.out) : gb262 ≠ gb238))
       have n11_ := Aside0.mk ((ne_new hg (bq BK250.out) : gb250 ≠ gb262))
       have n12_ := Aside0.mk ((new_ne hg (bq BK250.out) : gb262 ≠ gb250))
       clear BK237
       clear BK238
       clear BK250
       clear HB
       have BK237 := n0_
       have BK238 := n1_
       have BK250 := n2_
       have HB := n3_
       have BK262 := n4_
       have GW262 := n5_
       have GE262 := n6_
       have NB237_262 := n7_
       have NB262_237 := n8_
       have NB238_262 := n9_
       have NB262_238 := n10_
       have NB250_262 := n11_
       have NB262_250 := n12_
       clear n0_ n1_ n2_ n3_ n4_ n5_ n6_ n7_ n8_ n9_ n10_ n11_ n12_
       clear hb hbox hg
       refine hK.out _ _ ⟨(blk_cell BK237.out 0).trans rfl, (blk_cell BK237.out 1).trans rfl, (blk_cell BK238.out 0).trans rfl, (blk_cell BK238.out 1).trans rfl, (blk_cell BK238.out 2).trans rfl, (blk_cell BK238.out 3).trans rfl⟩ (fun hHeld => ?_)
       clear hK K
       refine norm_ (a' := ?_) ?_ ?_
       rotate_left
       ·show Act.put _ (some 9) _ = _
        simp only [Act.put, List.setIfInBounds_toArray, List.set_cons_zero, List.set_cons_succ, i64_w, i32_w]
        rfl
       exact norm_ (by simp only [putAll, Act.put, List.setIfInBounds_toArray, List.set_cons_zero, List.set_cons_succ]) (hCont (gb262) _ ⟨hHeld, (bq BK237.out), (bq BK238.out), (bq BK250.out), (bq BK262.out), GW262.out, GE262.out, NB237_262.out, NB262_237.out, NB238_262.out, NB262_238.out, NB250_262.out, NB262_250.out, (lq HB.out)⟩)
      ·skip
       refine box_step ?hg (N := 9) ?hd (cs := #[.int .i64 0, .int .i64 0, .int .i64 0, .bool false]) (t := 38) ?hr ?_; (case hd => rfl); (case hg => rfl); (case hr => first | (go_simp; done) | (go_simp; rfl))
       intro gb262 hg w29 hbox hb
       have n0_ := Aside0.mk (blk_below (bq BK237.out) hb)
       have n1_ := Aside0.mk (blk_below (bq BK238.out) hb)
       have n2_ := Aside0.mk (blk_below (bq BK250.out) hb)
       have n3_ := Aside0.mk (below_step (lq HB.out) hb)
       have n4_ := Aside0.mk (hbox)
       have n5_ := Aside0.mk ((ge_new hg (lq HB.out) : w.heap.size ≤ gb262))
       have n6_ := Aside0.mk ((ge_new hg (lq HB.out) : w.heap.size ≤ gb262))
       have n7_ := Aside0.mk ((ne_new hg (bq BK237.out) : gb237 ≠ gb262))
       have n8_ := Aside0.mk ((new_ne hg (bq BK237.out) : gb262 ≠ gb237))
       have n9_ := Aside0.mk ((ne_new hg (bq BK238.out) : gb238 ≠ gb262))
       have n10_ := Aside0.mk ((new_ne hg (bq BK238.out) : gb262 ≠ gb238))
       have n11_ := Aside0.mk ((ne_new hg (bq BK250.out) : gb250 ≠ gb262))
       have n12_ := Aside0.mk ((new_ne hg (bq BK250.out) : gb262 ≠ gb250))
       clear BK237
       clear BK238
       clear BK250
       clear HB
       have BK237 := n0_
       have BK238 := n1_
       have BK250 := n2_
       have HB := n3_
       have BK262 := n4_
       have GW262 := n5_
       have GE262 := n6_
       have NB237_262 := n7_
       have NB262_237 := n8_
       have NB238_262 := n9_
       have NB262_238 := n10_
       have NB250_262 := n11_
       have NB262_250 := n12_
       clear n0_ n1_ n2_ n3_ n4_ n5_ n6_ n7_ n8_ n9_ n10_ n11_ n12_
       clear hb hbox hg
       refine hK.out _ _ ⟨(blk_cell BK237.out 0).trans rfl, (blk_cell BK237.out 1).trans rfl, (blk_cell BK238.out 0).trans rfl, (blk_cell BK238.out 1).trans rfl, (blk_cell BK238.out 2).trans rfl, (blk_cell BK238.out 3).trans rfl⟩ (fun hHeld => ?_)
       clear hK K
       refine norm_ (a' := ?_) ?_ ?_
       rotate_left
       ·show Act.put _ (some 9) _ = _
        simp only [Act.put, List.setIfInBounds_toArray, List.set_cons_zero, List.set_cons_succ, i64_w, i32_w]
        rfl
       refine one_ (i := 5) (N := some 26) #[true, true, true, true, true, true, false, false, false, true, false, false] rfl rfl (one_of HT_.out (by kernel_rfl)) (by decide) (fun K hK => ?_)
       refine goes_ Try.func19 (by kernel_rfl) rfl #[.agg #[.int .i64 t251, .int .i64 t252], .agg #[.int .i64 t253, .int .i64 t254, .int .i64 t255, .bool t256], .int .i64 a2] (by rfl) rfl rfl (by (try simp only [List.map_toArray, List.map_cons, List.map_nil]); first | done | rfl | (simp only [List.length_drop, List.length_take]; rfl)) ?_
       with_reducible refine (impl_OnFault.calls t251 t252 t253 t254 t255 t256 a2 t257 t258 t259 t260 t261 _ A9.out).mono ?_
       rintro e w30 ⟨rfl, hb⟩
       refine ⟨_, rfl, ?_⟩
       have n0_ := Aside0.mk (blk_below (bq BK237.out) hb)
       have n1_ := Aside0.mk (blk_below (bq BK238.out) hb)
       have n2_ := Aside0.mk (blk_below (bq BK250.out) hb)
       have n3_ := Aside0.mk (blk_below (bq BK262.out) hb)
       have n4_ := Aside0.mk (below_step (lq HB.out) hb)
       clear BK237
       clear BK238
       clear BK250
       clear BK262
       clear HB
       have BK237 := n0_
       have BK238 := n1_
       have BK250 := n2_
       have BK262 := n3_
       have HB := n4_
       clear n0_ n1_ n2_ n3_ n4_
       (try clear hb)
       (try clear hb2)
       (try clear hk)
       (try clear hi)
       refine hK.out _ _ ⟨(blk_cell BK237.out 0).trans rfl, (blk_cell BK237.out 1).trans rfl, (blk_cell BK238.out 0).trans rfl, (blk_cell BK238.out 1).trans rfl, (blk_cell BK238.out 2).trans rfl, (blk_cell BK238.out 3).trans rfl⟩ (fun hHeld => ?_)
       clear hK K
       refine norm_ (a' := ?_) ?_ ?_
       rotate_left
       ·show Act.put _ (some 26) _ = _
        simp only [Act.put, List.setIfInBounds_toArray, List.set_cons_zero, List.set_cons_succ, i64_w, i32_w]
        rfl
       refine pure_ (i := 6) (N := some 20) (v := ?_) (a' := ?_) #[true, true, true, true, true, true, true, false, false, true, false, false] rfl rfl (any_of HT_.out (by kernel_rfl)) (fun _ _ _ h => h) (Or.inl ⟨by rfl, ?_⟩) ?_ ?_
       rotate_left
       ·intro w'
        go_simp
        with_reducible rfl
       rotate_left
       ·simp only [Act.put, List.setIfInBounds_toArray, List.set_cons_zero, List.set_cons_succ, i64_w, i32_w]
        rfl
       refine pure_ (i := 7) (N := some 27) (v := ?_) (a' := ?_) #[true, true, true, true, true, true, true, true, false, true, false, false] rfl rfl (any_of HT_.out (by kernel_rfl)) (fun _ _ _ h => h) (Or.inl ⟨by rfl, ?_⟩) ?_ ?_
       rotate_left
       ·intro w'
        go_simp
        with_reducible rfl
       rotate_left
       ·simp only [Act.put, List.setIfInBounds_toArray, List.set_cons_zero, List.set_cons_succ, i64_w, i32_w]
        rfl
       refine pure_ (i := 8) (N := some 28) (v := ?_) (a' := ?_) #[true, true, true, true, true, true, true, true, true, true, false, false] rfl rfl (any_of HT_.out (by kernel_rfl)) (fun _ _ _ h => h) (Or.inl ⟨by rfl, ?_⟩) ?_ ?_
       rotate_left
       ·intro w'
        go_simp
        with_reducible rfl
       rotate_left
       ·simp only [Act.put, List.setIfInBounds_toArray, List.set_cons_zero, List.set_cons_succ, i64_w, i32_w]
        rfl
       exact norm_ (by simp only [putAll, Act.put, List.setIfInBounds_toArray, List.set_cons_zero, List.set_cons_succ]) (hCont (gb262) _ ⟨hHeld, (bq BK237.out), (bq BK238.out), (bq BK250.out), (bq BK262.out), GW262.out, GE262.out, NB237_262.out, NB262_237.out, NB238_262.out, NB262_238.out, NB250_262.out, NB262_250.out, (lq HB.out)⟩)
     ·skip
      refine box_step ?hg (N := 9) ?hd (cs := #[.int .i64 0, .int .i64 0, .int .i64 0, .bool false]) (t := 38) ?hr ?_; (case hd => rfl); (case hg => rfl); (case hr => first | (go_simp; done) | (go_simp; rfl))
      intro gb262 hg w28 hbox hb
      have n0_ := Aside0.mk (blk_below (bq BK237.out) hb)
      have n1_ := Aside0.mk (blk_below (bq BK238.out) hb)
      have n2_ := Aside0.mk (blk_below (bq BK250.out) hb)
      have n3_ := Aside0.mk (below_step (lq HB.out) hb)
      have n4_ := Aside0.mk (hbox)
      have n5_ := Aside0.mk ((ge_new hg (lq HB.out) : w.heap.size ≤ gb262))
      have n6_ := Aside0.mk ((ge_new hg (lq HB.out) : w.heap.size ≤ gb262))
      have n7_ := Aside0.mk ((ne_new hg (bq BK237.out) : gb237 ≠ gb262))
      have n8_ := Aside0.mk ((new_ne hg (bq BK237.out) : gb262 ≠ gb237))
      have n9_ := Aside0.mk ((ne_new hg (bq BK238.out) : gb238 ≠ gb262))
      have n10_ := Aside0.mk ((new_ne hg (bq BK238.out) : gb262 ≠ gb238))
      have n11_ := Aside0.mk ((ne_new hg (bq BK250.out) : gb250 ≠ gb262))
      have n12_ := Aside0.mk ((new_ne hg (bq BK250.out) : gb262 ≠ gb250))
      clear BK237
      clear BK238
      clear BK250
      clear HB
      have BK237 := n0_
      have BK238 := n1_
      have BK250 := n2_
      have HB := n3_
      have BK262 := n4_
      have GW262 := n5_
      have GE262 := n6_
      have NB237_262 := n7_
      have NB262_237 := n8_
      have NB238_262 := n9_
      have NB262_238 := n10_
      have NB250_262 := n11_
      have NB262_250 := n12_
      clear n0_ n1_ n2_ n3_ n4_ n5_ n6_ n7_ n8_ n9_ n10_ n11_ n12_
      clear hb hbox hg
      refine hK.out _ _ ⟨(blk_cell BK237.out 0).trans rfl, (blk_cell BK237.out 1).trans rfl, (blk_cell BK238.out 0).trans rfl, (blk_cell BK238.out 1).trans rfl, (blk_cell BK238.out 2).trans rfl, (blk_cell BK238.out 3).trans rfl⟩ (fun hHeld => ?_)
      clear hK K
      refine norm_ (a' := ?_) ?_ ?_
      rotate_left
      ·show Act.put _ (some 9) _ = _
       simp only [Act.put, List.setIfInBounds_toArray, List.set_cons_zero, List.set_cons_succ, i64_w, i32_w]
       rfl
      refine one_ (i := 3) (N := some 24) #[true, true, true, true, true, false, false, false, false, true, false, false] rfl rfl (one_of HT_.out (by kernel_rfl)) (by decide) (fun K hK => ?_)
      refine goes_ Try.func18 (by kernel_rfl) rfl #[.agg #[.int .i64 a1_0, .int .i64 a1_1, .int .i64 a1_2, .bool a1_3]] (by rfl) rfl rfl (by (try simp only [List.map_toArray, List.map_cons, List.map_nil]); first | done | rfl | (simp only [List.length_drop, List.length_take]; rfl)) ?_
      with_reducible refine (laws_toHealth.calls a1_0 a1_1 a1_2 a1_3 t253 t254 t255 t256 _ A8.out).mono ?_
      rintro e w29 ⟨rfl, hb⟩
      refine ⟨_, rfl, ?_⟩
      have n0_ := Aside0.mk (blk_below (bq BK237.out) hb)
      have n1_ := Aside0.mk (blk_below (bq BK238.out) hb)
      have n2_ := Aside0.mk (blk_below (bq BK250.out) hb)
      have n3_ := Aside0.mk (blk_below (bq BK262.out) hb)
      have n4_ := Aside0.mk (below_step (lq HB.out) hb)
      clear BK237
      clear BK238
      clear BK250
      clear BK262
      clear HB
      have BK237 := n0_
      have BK238 := n1_
      have BK250 := n2_
      have BK262 := n3_
      have HB := n4_
      clear n0_ n1_ n2_ n3_ n4_
      (try clear hb)
      (try clear hb2)
      (try clear hk)
      (try clear hi)
      refine hK.out _ _ ⟨(blk_cell BK237.out 0).trans rfl, (blk_cell BK237.out 1).trans rfl, (blk_cell BK238.out 0).trans rfl, (blk_cell BK238.out 1).trans rfl, (blk_cell BK238.out 2).trans rfl, (blk_cell BK238.out 3).trans rfl⟩ (fun hHeld => ?_)
      clear hK K
      refine norm_ (a' := ?_) ?_ ?_
      rotate_left
      ·show Act.put _ (some 24) _ = _
       simp only [Act.put, List.setIfInBounds_toArray, List.set_cons_zero, List.set_cons_succ, i64_w, i32_w]
       rfl
      refine one_ (i := 5) (N := some 26) #[true, true, true, true, true, true, false, false, false, true, false, false] rfl rfl (one_of HT_.out (by kernel_rfl)) (by decide) (fun K hK => ?_)
      refine goes_ Try.func19 (by kernel_rfl) rfl #[.agg #[.int .i64 t251, .int .i64 t252], .agg #[.int .i64 t253, .int .i64 t254, .int .i64 t255, .bool t256], .int .i64 a2] (by rfl) rfl rfl (by (try simp only [List.map_toArray, List.map_cons, List.map_nil]); first | done | rfl | (simp only [List.length_drop, List.length_take]; rfl)) ?_
      with_reducible refine (impl_OnFault.calls t251 t252 t253 t254 t255 t256 a2 t257 t258 t259 t260 t261 _ A9.out).mono ?_
      rintro e w30 ⟨rfl, hb⟩
      refine ⟨_, rfl, ?_⟩
      have n0_ := Aside0.mk (blk_below (bq BK237.out) hb)
      have n1_ := Aside0.mk (blk_below (bq BK238.out) hb)
      have n2_ := Aside0.mk (blk_below (bq BK250.out) hb)
      have n3_ := Aside0.mk (blk_below (bq BK262.out) hb)
      have n4_ := Aside0.mk (below_step (lq HB.out) hb)
      clear BK237
      clear BK238
      clear BK250
      clear BK262
      clear HB
      have BK237 := n0_
      have BK238 := n1_
      have BK250 := n2_
      have BK262 := n3_
      have HB := n4_
      clear n0_ n1_ n2_ n3_ n4_
      (try clear hb)
      (try clear hb2)
      (try clear hk)
      (try clear hi)
      refine hK.out _ _ ⟨(blk_cell BK237.out 0).trans rfl, (blk_cell BK237.out 1).trans rfl, (blk_cell BK238.out 0).trans rfl, (blk_cell BK238.out 1).trans rfl, (blk_cell BK238.out 2).trans rfl, (blk_cell BK238.out 3).trans rfl⟩ (fun hHeld => ?_)
      clear hK K
      refine norm_ (a' := ?_) ?_ ?_
      rotate_left
      ·show Act.put _ (some 26) _ = _
       simp only [Act.put, List.setIfInBounds_toArray, List.set_cons_zero, List.set_cons_succ, i64_w, i32_w]
       rfl
      refine pure_ (i := 6) (N := some 20) (v := ?_) (a' := ?_) #[true, true, true, true, true, true, true, false, false, true, false, false] rfl rfl (any_of HT_.out (by kernel_rfl)) (fun _ _ _ h => h) (Or.inl ⟨by rfl, ?_⟩) ?_ ?_
      rotate_left
      ·intro w'
       go_simp
       with_reducible rfl
      rotate_left
      ·simp only [Act.put, List.setIfInBounds_toArray, List.set_cons_zero, List.set_cons_succ, i64_w, i32_w]
       rfl
      refine pure_ (i := 7) (N := some 27) (v := ?_) (a' := ?_) #[true, true, true, true, true, true, true, true, false, true, false, false] rfl rfl (any_of HT_.out (by kernel_rfl)) (fun _ _ _ h => h) (Or.inl ⟨by rfl, ?_⟩) ?_ ?_
      rotate_left
      ·intro w'
       go_simp
       with_reducible rfl
      rotate_left
      ·simp only [Act.put, List.setIfInBounds_toArray, List.set_cons_zero, List.set_cons_succ, i64_w, i32_w]
       rfl
      refine pure_ (i := 8) (N := some 28) (v := ?_) (a' := ?_) #[true, true, true, true, true, true, true, true, true, true, false, false] rfl rfl (any_of HT_.out (by kernel_rfl)) (fun _ _ _ h => h) (Or.inl ⟨by rfl, ?_⟩) ?_ ?_
      rotate_left
      ·intro w'
       go_simp
       with_reducible rfl
      rotate_left
      ·simp only [Act.put, List.setIfInBounds_toArray, List.set_cons_zero, List.set_cons_succ, i64_w, i32_w]
       rfl
      exact norm_ (by simp only [putAll, Act.put, List.setIfInBounds_toArray, List.set_cons_zero, List.set_cons_succ]) (hCont (gb262) _ ⟨hHeld, (bq BK237.out), (bq BK238.out), (bq BK250.out), (bq BK262.out), GW262.out, GE262.out, NB237_262.out, NB262_237.out, NB238_262.out, NB262_238.out, NB250_262.out, NB262_250.out, (lq HB.out)⟩)
    ·skip
     refine box_step ?hg (N := 9) ?hd (cs := #[.int .i64 0, .int .i64 0, .int .i64 0, .bool false]) (t := 38) ?hr ?_; (case hd => rfl); (case hg => rfl); (case hr => first | (go_simp; done) | (go_simp; rfl))
     intro gb262 hg w27 hbox hb
     have n0_ := Aside0.mk (blk_below (bq BK237.out) hb)
     have n1_ := Aside0.mk (blk_below (bq BK238.out) hb)
     have n2_ := Aside0.mk (blk_below (bq BK250.out) hb)
     have n3_ := Aside0.mk (below_step (lq HB.out) hb)
     have n4_ := Aside0.mk (hbox)
     have n5_ := Aside0.mk ((ge_new hg (lq HB.out) : w.heap.size ≤ gb262))
     have n6_ := Aside0.mk ((ge_new hg (lq HB.out) : w.heap.size ≤ gb262))
     have n7_ := Aside0.mk ((ne_new hg (bq BK237.out) : gb237 ≠ gb262))
     have n8_ := Aside0.mk ((new_ne hg (bq BK237.out) : gb262 ≠ gb237))
     have n9_ := Aside0.mk ((ne_new hg (bq BK238.out) : gb238 ≠ gb262))
     have n10_ := Aside0.mk ((new_ne hg (bq BK238.out) : gb262 ≠ gb238))
     have n11_ := Aside0.mk ((ne_new hg (bq BK250.out) : gb250 ≠ gb262))
     have n12_ := Aside0.mk ((new_ne hg (bq BK250.out) : gb262 ≠ gb250))
     clear BK237
     clear BK238
     clear BK250
     clear HB
     have BK237 := n0_
     have BK238 := n1_
     have BK250 := n2_
     have HB := n3_
     have BK262 := n4_
     have GW262 := n5_
     have GE262 := n6_
     have NB237_262 := n7_
     have NB262_237 := n8_
     have NB238_262 := n9_
     have NB262_238 := n10_
     have NB250_262 := n11_
     have NB262_250 := n12_
     clear n0_ n1_ n2_ n3_ n4_ n5_ n6_ n7_ n8_ n9_ n10_ n11_ n12_
     clear hb hbox hg
     refine hK.out _ _ ⟨(blk_cell BK237.out 0).trans rfl, (blk_cell BK237.out 1).trans rfl, (blk_cell BK238.out 0).trans rfl, (blk_cell BK238.out 1).trans rfl, (blk_cell BK238.out 2).trans rfl, (blk_cell BK238.out 3).trans rfl⟩ (fun hHeld => ?_)
     clear hK K
     refine norm_ (a' := ?_) ?_ ?_
     rotate_left
     ·show Act.put _ (some 9) _ = _
      simp only [Act.put, List.setIfInBounds_toArray, List.set_cons_zero, List.set_cons_succ, i64_w, i32_w]
      rfl
     refine one_ (i := 1) (N := some 22) #[true, true, true, false, true, false, false, false, false, true, false, false] rfl rfl (one_of HT_.out (by kernel_rfl)) (by decide) (fun K hK => ?_)
     refine goes_ Try.func17 (by kernel_rfl) rfl #[.agg #[.int .i64 a0_0, .int .i64 a0_1]] (by rfl) rfl rfl (by (try simp only [List.map_toArray, List.map_cons, List.map_nil]); first | done | rfl | (simp only [List.length_drop, List.length_take]; rfl)) ?_
     with_reducible refine (laws_toPolicy.calls a0_0 a0_1 t251 t252 _ A7.out).mono ?_
     rintro e w28 ⟨rfl, hb⟩
     refine ⟨_, rfl, ?_⟩
     have n0_ := Aside0.mk (blk_below (bq BK237.out) hb)
     have n1_ := Aside0.mk (blk_below (bq BK238.out) hb)
     have n2_ := Aside0.mk (blk_below (bq BK250.out) hb)
     have n3_ := Aside0.mk (blk_below (bq BK262.out) hb)
     have n4_ := Aside0.mk (below_step (lq HB.out) hb)
     clear BK237
     clear BK238
     clear BK250
     clear BK262
     clear HB
     have BK237 := n0_
     have BK238 := n1_
     have BK250 := n2_
     have BK262 := n3_
     have HB := n4_
     clear n0_ n1_ n2_ n3_ n4_
     (try clear hb)
     (try clear hb2)
     (try clear hk)
     (try clear hi)
     refine hK.out _ _ ⟨(blk_cell BK237.out 0).trans rfl, (blk_cell BK237.out 1).trans rfl, (blk_cell BK238.out 0).trans rfl, (blk_cell BK238.out 1).trans rfl, (blk_cell BK238.out 2).trans rfl, (blk_cell BK238.out 3).trans rfl⟩ (fun hHeld => ?_)
     clear hK K
     refine norm_ (a' := ?_) ?_ ?_
     rotate_left
     ·show Act.put _ (some 22) _ = _
      simp only [Act.put, List.setIfInBounds_toArray, List.set_cons_zero, List.set_cons_succ, i64_w, i32_w]
      rfl
     refine one_ (i := 3) (N := some 24) #[true, true, true, true, true, false, false, false, false, true, false, false] rfl rfl (one_of HT_.out (by kernel_rfl)) (by decide) (fun K hK => ?_)
     refine goes_ Try.func18 (by kernel_rfl) rfl #[.agg #[.int .i64 a1_0, .int .i64 a1_1, .int .i64 a1_2, .bool a1_3]] (by rfl) rfl rfl (by (try simp only [List.map_toArray, List.map_cons, List.map_nil]); first | done | rfl | (simp only [List.length_drop, List.length_take]; rfl)) ?_
     with_reducible refine (laws_toHealth.calls a1_0 a1_1 a1_2 a1_3 t253 t254 t255 t256 _ A8.out).mono ?_
     rintro e w29 ⟨rfl, hb⟩
     refine ⟨_, rfl, ?_⟩
     have n0_ := Aside0.mk (blk_below (bq BK237.out) hb)
     have n1_ := Aside0.mk (blk_below (bq BK238.out) hb)
     have n2_ := Aside0.mk (blk_below (bq BK250.out) hb)
     have n3_ := Aside0.mk (blk_below (bq BK262.out) hb)
     have n4_ := Aside0.mk (below_step (lq HB.out) hb)
     clear BK237
     clear BK238
     clear BK250
     clear BK262
     clear HB
     have BK237 := n0_
     have BK238 := n1_
     have BK250 := n2_
     have BK262 := n3_
     have HB := n4_
     clear n0_ n1_ n2_ n3_ n4_
     (try clear hb)
     (try clear hb2)
     (try clear hk)
     (try clear hi)
     refine hK.out _ _ ⟨(blk_cell BK237.out 0).trans rfl, (blk_cell BK237.out 1).trans rfl, (blk_cell BK238.out 0).trans rfl, (blk_cell BK238.out 1).trans rfl, (blk_cell BK238.out 2).trans rfl, (blk_cell BK238.out 3).trans rfl⟩ (fun hHeld => ?_)
     clear hK K
     refine norm_ (a' := ?_) ?_ ?_
     rotate_left
     ·show Act.put _ (some 24) _ = _
      simp only [Act.put, List.setIfInBounds_toArray, List.set_cons_zero, List.set_cons_succ, i64_w, i32_w]
      rfl
     refine one_ (i := 5) (N := some 26) #[true, true, true, true, true, true, false, false, false, true, false, false] rfl rfl (one_of HT_.out (by kernel_rfl)) (by decide) (fun K hK => ?_)
     refine goes_ Try.func19 (by kernel_rfl) rfl #[.agg #[.int .i64 t251, .int .i64 t252], .agg #[.int .i64 t253, .int .i64 t254, .int .i64 t255, .bool t256], .int .i64 a2] (by rfl) rfl rfl (by (try simp only [List.map_toArray, List.map_cons, List.map_nil]); first | done | rfl | (simp only [List.length_drop, List.length_take]; rfl)) ?_
     with_reducible refine (impl_OnFault.calls t251 t252 t253 t254 t255 t256 a2 t257 t258 t259 t260 t261 _ A9.out).mono ?_
     rintro e w30 ⟨rfl, hb⟩
     refine ⟨_, rfl, ?_⟩
     have n0_ := Aside0.mk (blk_below (bq BK237.out) hb)
     have n1_ := Aside0.mk (blk_below (bq BK238.out) hb)
     have n2_ := Aside0.mk (blk_below (bq BK250.out) hb)
     have n3_ := Aside0.mk (blk_below (bq BK262.out) hb)
     have n4_ := Aside0.mk (below_step (lq HB.out) hb)
     clear BK237
     clear BK238
     clear BK250
     clear BK262
     clear HB
     have BK237 := n0_
     have BK238 := n1_
     have BK250 := n2_
     have BK262 := n3_
     have HB := n4_
     clear n0_ n1_ n2_ n3_ n4_
     (try clear hb)
     (try clear hb2)
     (try clear hk)
     (try clear hi)
     refine hK.out _ _ ⟨(blk_cell BK237.out 0).trans rfl, (blk_cell BK237.out 1).trans rfl, (blk_cell BK238.out 0).trans rfl, (blk_cell BK238.out 1).trans rfl, (blk_cell BK238.out 2).trans rfl, (blk_cell BK238.out 3).trans rfl⟩ (fun hHeld => ?_)
     clear hK K
     refine norm_ (a' := ?_) ?_ ?_
     rotate_left
     ·show Act.put _ (some 26) _ = _
      simp only [Act.put, List.setIfInBounds_toArray, List.set_cons_zero, List.set_cons_succ, i64_w, i32_w]
      rfl
     refine pure_ (i := 6) (N := some 20) (v := ?_) (a' := ?_) #[true, true, true, true, true, true, true, false, false, true, false, false] rfl rfl (any_of HT_.out (by kernel_rfl)) (fun _ _ _ h => h) (Or.inl ⟨by rfl, ?_⟩) ?_ ?_
     rotate_left
     ·intro w'
      go_simp
      with_reducible rfl
     rotate_left
     ·simp only [Act.put, List.setIfInBounds_toArray, List.set_cons_zero, List.set_cons_succ, i64_w, i32_w]
      rfl
     refine pure_ (i := 7) (N := some 27) (v := ?_) (a' := ?_) #[true, true, true, true, true, true, true, true, false, true, false, false] rfl rfl (any_of HT_.out (by kernel_rfl)) (fun _ _ _ h => h) (Or.inl ⟨by rfl, ?_⟩) ?_ ?_
     rotate_left
     ·intro w'
      go_simp
      with_reducible rfl
     rotate_left
     ·simp only [Act.put, List.setIfInBounds_toArray, List.set_cons_zero, List.set_cons_succ, i64_w, i32_w]
      rfl
     refine pure_ (i := 8) (N := some 28) (v := ?_) (a' := ?_) #[true, true, true, true, true, true, true, true, true, true, false, false] rfl rfl (any_of HT_.out (by kernel_rfl)) (fun _ _ _ h => h) (Or.inl ⟨by rfl, ?_⟩) ?_ ?_
     rotate_left
     ·intro w'
      go_simp
      with_reducible rfl
     rotate_left
     ·simp only [Act.put, List.setIfInBounds_toArray, List.set_cons_zero, List.set_cons_succ, i64_w, i32_w]
      rfl
     exact norm_ (by simp only [putAll, Act.put, List.setIfInBounds_toArray, List.set_cons_zero, List.set_cons_succ]) (hCont (gb262) _ ⟨hHeld, (bq BK237.out), (bq BK238.out), (bq BK250.out), (bq BK262.out), GW262.out, GE262.out, NB237_262.out, NB262_237.out, NB238_262.out, NB262_238.out, NB250_262.out, NB262_250.out, (lq HB.out)⟩)
   rintro gb262 w31 ⟨hS_, h0_, h1_, h2_, h3_, h4_, h5_, h6_, h7_, h8_, h9_, h10_, h11_, h12_⟩
   have n0_ : Aside0 (w31.heap[gb237]? = some (.cells #[.int .i64 a0_0, .int .i64 a0_1] 35 (0, 0))) := ⟨h0_⟩
   have n1_ : Aside0 (w31.heap[gb238]? = some (.cells #[.int .i64 a1_0, .int .i64 a1_1, .int .i64 a1_2, .bool a1_3] 37 (0, 0))) := ⟨h1_⟩
   have n2_ : Aside0 (w31.heap[gb250]? = some (.cells #[.int .i64 t245, .int .i64 t246, .int .i64 t247, .bool t248] 38 (0, 0))) := ⟨h2_⟩
   have n3_ : Aside0 (w31.heap[gb262]? = some (.cells #[.int .i64 0, .int .i64 0, .int .i64 0, .bool false] 38 (0, 0))) := ⟨h3_⟩
   have n4_ : Aside0 (w.heap.size ≤ gb262) := ⟨h4_⟩
   have n5_ : Aside0 (w.heap.size ≤ gb262) := ⟨h5_⟩
   have n6_ : Aside0 (gb237 ≠ gb262) := ⟨h6_⟩
   have n7_ : Aside0 (gb262 ≠ gb237) := ⟨h7_⟩
   have n8_ : Aside0 (gb238 ≠ gb262) := ⟨h8_⟩
   have n9_ : Aside0 (gb262 ≠ gb238) := ⟨h9_⟩
   have n10_ : Aside0 (gb250 ≠ gb262) := ⟨h10_⟩
   have n11_ : Aside0 (gb262 ≠ gb250) := ⟨h11_⟩
   have n12_ : Aside0 (Below w.heap.size w w31) := ⟨h12_⟩
   clear BK237
   clear BK238
   clear BK250
   clear HB
   clear h0_ h1_ h2_ h3_ h4_ h5_ h6_ h7_ h8_ h9_ h10_ h11_ h12_
   have BK237 := n0_
   have BK238 := n1_
   have BK250 := n2_
   have BK262 := n3_
   have GW262 := n4_
   have GE262 := n5_
   have NB237_262 := n6_
   have NB262_237 := n7_
   have NB238_262 := n8_
   have NB262_238 := n9_
   have NB250_262 := n10_
   have NB262_250 := n11_
   have HB := n12_
   clear n0_ n1_ n2_ n3_ n4_ n5_ n6_ n7_ n8_ n9_ n10_ n11_ n12_
   have hHeld : w31.cell? ⟨gb237, 0, none⟩ = some (.int .i64 a0_0) ∧ w31.cell? ⟨gb237, 1, none⟩ = some (.int .i64 a0_1) ∧ w31.cell? ⟨gb238, 0, none⟩ = some (.int .i64 a1_0) ∧ w31.cell? ⟨gb238, 1, none⟩ = some (.int .i64 a1_1) ∧ w31.cell? ⟨gb238, 2, none⟩ = some (.int .i64 a1_2) ∧ w31.cell? ⟨gb238, 3, none⟩ = some (.bool a1_3) := hS_
   refine norm_ (a' := ?_) ?_ ?_
   rotate_left
   ·simp only [putAll, Act.put, List.setIfInBounds_toArray, List.set_cons_zero, List.set_cons_succ]
    rfl
   refine one_ (i := 10) (N := none) #[true, true, true, true, true, true, true, true, true, true, true, false] rfl rfl (one_of HT_.out (by kernel_rfl)) (by decide) (fun K hK => ?_)
   have hs32 : w31.cell? ⟨gb262, 0, none⟩ = some (.int .i64 0) := (blk_cell BK262.out 0).trans rfl
   have hfs32 := blk_frozen BK262.out 0
   have hns32_0 := NB237_262.out
   have hns32_1 := NB238_262.out
   have hns32_2 := NB250_262.out
   have hms32_0 := NB262_237.out
   have hms32_1 := NB262_238.out
   have hms32_2 := NB262_250.out
   have hs33 : w31.cell? ⟨gb262, 1, none⟩ = some (.int .i64 0) := (blk_cell BK262.out 1).trans rfl
   have hfs33 := blk_frozen BK262.out 1
   have hns33_0 := NB237_262.out
   have hns33_1 := NB238_262.out
   have hns33_2 := NB250_262.out
   have hms33_0 := NB262_237.out
   have hms33_1 := NB262_238.out
   have hms33_2 := NB262_250.out
   have hs34 : w31.cell? ⟨gb262, 2, none⟩ = some (.int .i64 0) := (blk_cell BK262.out 2).trans rfl
   have hfs34 := blk_frozen BK262.out 2
   have hns34_0 := NB237_262.out
   have hns34_1 := NB238_262.out
   have hns34_2 := NB250_262.out
   have hms34_0 := NB262_237.out
   have hms34_1 := NB262_238.out
   have hms34_2 := NB262_250.out
   have hs35 : w31.cell? ⟨gb262, 3, none⟩ = some (.bool false) := (blk_cell BK262.out 3).trans rfl
   have hfs35 := blk_frozen BK262.out 3
   have hns35_0 := NB237_262.out
   have hns35_1 := NB238_262.out
   have hns35_2 := NB250_262.out
   have hms35_0 := NB262_237.out
   have hms35_1 := NB262_238.out
   have hms35_2 := NB262_250.out
   refine skip_ (w1 := ?_) (by rfl) rfl ?_ ?_
   rotate_left
   ·go_simp
    rfl
   refine hK.out _ _ ⟨((cell_far (p := ⟨gb262, _, none⟩) NB237_262.out _).trans (((cell_far (p := ⟨gb262, _, none⟩) NB237_262.out _).trans (((cell_far (p := ⟨gb262, _, none⟩) NB237_262.out _).trans (((cell_far (p := ⟨gb262, _, none⟩) NB237_262.out _).trans (hHeld.1)))))))), ((cell_far (p := ⟨gb262, _, none⟩) NB237_262.out _).trans (((cell_far (p := ⟨gb262, _, none⟩) NB237_262.out _).trans (((cell_far (p := ⟨gb262, _, none⟩) NB237_262.out _).trans (((cell_far (p := ⟨gb262, _, none⟩) NB237_262.out _).trans (hHeld.2.1)))))))), ((cell_far (p := ⟨gb262, _, none⟩) NB238_262.out _).trans (((cell_far (p := ⟨gb262, _, none⟩) NB238_262.out _).trans (((cell_far (p := ⟨gb262, _, none⟩) NB238_262.out _).trans (((cell_far (p := ⟨gb262, _, none⟩) NB238_262.out _).trans (hHeld.2.2.1)))))))), ((cell_far (p := ⟨gb262, _, none⟩) NB238_262.out _).trans (((cell_far (p := ⟨gb262, _, none⟩) NB238_262.out _).trans (((cell_far (p := ⟨gb262, _, none⟩) NB238_262.out _).trans (((cell_far (p := ⟨gb262, _, none⟩) NB238_262.out _).trans (hHeld.2.2.2.1)))))))), ((cell_far (p := ⟨gb262, _, none⟩) NB238_262.out _).trans (((cell_far (p := ⟨gb262, _, none⟩) NB238_262.out _).trans (((cell_far (p := ⟨gb262, _, none⟩) NB238_262.out _).trans (((cell_far (p := ⟨gb262, _, none⟩) NB238_262.out _).trans (hHeld.2.2.2.2.1)))))))), ((cell_far (p := ⟨gb262, _, none⟩) NB238_262.out _).trans (((cell_far (p := ⟨gb262, _, none⟩) NB238_262.out _).trans (((cell_far (p := ⟨gb262, _, none⟩) NB238_262.out _).trans (((cell_far (p := ⟨gb262, _, none⟩) NB238_262.out _).trans (hHeld.2.2.2.2.2))))))))⟩ (fun hHeld => ?_)
   clear hK K
   refine pure_ (i := 11) (N := some 10) (v := ?_) (a' := ?_) #[true, true, true, true, true, true, true, true, true, true, true, true] rfl rfl (any_of HT_.out (by kernel_rfl)) (fun _ _ _ h => h) (Or.inl ⟨by rfl, ?_⟩) ?_ ?_
   rotate_left
   ·intro w'
    go_simp
    with_reducible rfl
   rotate_left
   ·simp only [Act.put, List.setIfInBounds_toArray, List.set_cons_zero, List.set_cons_succ, i64_w, i32_w]
    rfl
   refine done_ (done_of HT_.out (by kernel_rfl)) ?_
   have hnb36 := NB262_237.out
   have hnc36 := NB237_262.out
   have hnb37 := NB262_238.out
   have hnc37 := NB238_262.out
   have hnb38 := NB262_250.out
   have hnc38 := NB250_262.out
   have hcz39_0 : w31.cell? ⟨gb262, 0, none⟩ = some (.int .i64 0) := (blk_cell BK262.out 0).trans rfl
   have hcz39_1 : w31.cell? ⟨gb262, 1, none⟩ = some (.int .i64 0) := (blk_cell BK262.out 1).trans rfl
   have hcz39_2 : w31.cell? ⟨gb262, 2, none⟩ = some (.int .i64 0) := (blk_cell BK262.out 2).trans rfl
   have hcz39_3 : w31.cell? ⟨gb262, 3, none⟩ = some (.bool false) := (blk_cell BK262.out 3).trans rfl
   have hfz39_0 := blk_frozen BK262.out 0
   have hfz39_1 := blk_frozen BK262.out 1
   have hfz39_2 := blk_frozen BK262.out 2
   have hfz39_3 := blk_frozen BK262.out 3
   have hnb40 := NB250_237.out
   have hnc40 := NB237_250.out
   have hnb41 := NB250_238.out
   have hnc41 := NB238_250.out
   have hcz42_0 : w31.cell? ⟨gb250, 0, none⟩ = some (.int .i64 t245) := (blk_cell BK250.out 0).trans rfl
   have hcz42_1 : w31.cell? ⟨gb250, 1, none⟩ = some (.int .i64 t246) := (blk_cell BK250.out 1).trans rfl
   have hcz42_2 : w31.cell? ⟨gb250, 2, none⟩ = some (.int .i64 t247) := (blk_cell BK250.out 2).trans rfl
   have hcz42_3 : w31.cell? ⟨gb250, 3, none⟩ = some (.bool t248) := (blk_cell BK250.out 3).trans rfl
   have hfz42_0 := blk_frozen BK250.out 0
   have hfz42_1 := blk_frozen BK250.out 1
   have hfz42_2 := blk_frozen BK250.out 2
   have hfz42_3 := blk_frozen BK250.out 3
   try go_wp2_with (first | ((with_reducible refine gate_callee (f := 20) rfl ?_); refine goesL_ (some 31) rfl rfl Try.func20 (by kernel_rfl) rfl #[.agg #[.int .i64 t257, .int .i64 t258, .int .i64 t259, .bool t260], .agg #[.int .i64 t245, .int .i64 t246, .int .i64 t247, .bool t248]] rfl (by (try simp only [List.map_toArray, List.map_cons, List.map_nil]); first | done | rfl | (simp only [List.length_drop, List.length_take]; rfl)) ?_; (with_reducible refine (laws_eqHealth.calls t257 t258 t259 t260 t245 t246 t247 t248 true _ A10.out).mono ?_); rintro e w43 ⟨rfl, hb⟩; refine ⟨_, rfl, ?_⟩; have n0_ := Aside0.mk (blk_below (g := gb237) (o := .cells #[.int .i64 a0_0, .int .i64 a0_1] 35 (0, 0)) (by (with_reducible repeat (first | refine blk_drewN ?_ _ | refine blk_drew ?_ | refine blk_alloc ?_ _)); refine blk_far ?_ NB237_262.out _; (with_reducible repeat (first | refine blk_drewN ?_ _ | refine blk_drew ?_ | refine blk_alloc ?_ _)); refine blk_far ?_ NB237_262.out _; (with_reducible repeat (first | refine blk_drewN ?_ _ | refine blk_drew ?_ | refine blk_alloc ?_ _)); refine blk_far ?_ NB237_262.out _; (with_reducible repeat (first | refine blk_drewN ?_ _ | refine blk_drew ?_ | refine blk_alloc ?_ _)); refine blk_far ?_ NB237_262.out _; (with_reducible repeat (first | refine blk_drewN ?_ _ | refine blk_drew ?_ | refine blk_alloc ?_ _)); exact BK237.out) hb); have n1_ := Aside0.mk (blk_below (g := gb238) (o := .cells #[.int .i64 a1_0, .int .i64 a1_1, .int .i64 a1_2, .bool a1_3] 37 (0, 0)) (by (with_reducible repeat (first | refine blk_drewN ?_ _ | refine blk_drew ?_ | refine blk_alloc ?_ _)); refine blk_far ?_ NB238_262.out _; (with_reducible repeat (first | refine blk_drewN ?_ _ | refine blk_drew ?_ | refine blk_alloc ?_ _)); refine blk_far ?_ NB238_262.out _; (with_reducible repeat (first | refine blk_drewN ?_ _ | refine blk_drew ?_ | refine blk_alloc ?_ _)); refine blk_far ?_ NB238_262.out _; (with_reducible repeat (first | refine blk_drewN ?_ _ | refine blk_drew ?_ | refine blk_alloc ?_ _)); refine blk_far ?_ NB238_262.out _; (with_reducible repeat (first | refine blk_drewN ?_ _ | refine blk_drew ?_ | refine blk_alloc ?_ _)); exact BK238.out) hb); have n2_ := Aside0.mk (blk_below (g := gb250) (o := .cells #[.int .i64 t245, .int .i64 t246, .int .i64 t247, .bool t248] 38 (0, 0)) (by (with_reducible repeat (first | refine blk_drewN ?_ _ | refine blk_drew ?_ | refine blk_alloc ?_ _)); refine blk_far ?_ NB250_262.out _; (with_reducible repeat (first | refine blk_drewN ?_ _ | refine blk_drew ?_ | refine blk_alloc ?_ _)); refine blk_far ?_ NB250_262.out _; (with_reducible repeat (first | refine blk_drewN ?_ _ | refine blk_drew ?_ | refine blk_alloc ?_ _)); refine blk_far ?_ NB250_262.out _; (with_reducible repeat (first | refine blk_drewN ?_ _ | refine blk_drew ?_ | refine blk_alloc ?_ _)); refine blk_far ?_ NB250_262.out _; (with_reducible repeat (first | refine blk_drewN ?_ _ | refine blk_drew ?_ | refine blk_alloc ?_ _)); exact BK250.out) hb); have n3_ := Aside0.mk (blk_below (g := gb262) (o := .cells #[.int .i64 t257, .int .i64 t258, .int .i64 t259, .bool t260] 38 (0, 0)) (by (with_reducible repeat (first | refine blk_drewN ?_ _ | refine blk_drew ?_ | refine blk_alloc ?_ _)); refine blk_put (cs := #[.int .i64 t257, .int .i64 t258, .int .i64 t259, .bool false]) ?_ 3 _ rfl; (with_reducible repeat (first | refine blk_drewN ?_ _ | refine blk_drew ?_ | refine blk_alloc ?_ _)); refine blk_put (cs := #[.int .i64 t257, .int .i64 t258, .int .i64 0, .bool false]) ?_ 2 _ rfl; (with_reducible repeat (first | refine blk_drewN ?_ _ | refine blk_drew ?_ | refine blk_alloc ?_ _)); refine blk_put (cs := #[.int .i64 t257, .int .i64 0, .int .i64 0, .bool false]) ?_ 1 _ rfl; (with_reducible repeat (first | refine blk_drewN ?_ _ | refine blk_drew ?_ | refine blk_alloc ?_ _)); refine blk_put (cs := #[.int .i64 0, .int .i64 0, .int .i64 0, .bool false]) ?_ 0 _ rfl; (with_reducible repeat (first | refine blk_drewN ?_ _ | refine blk_drew ?_ | refine blk_alloc ?_ _)); exact BK262.out) hb); have n4_ := Aside0.mk (below_step (by repeat (first | (with_reducible first | exact HB.out | apply below_alloc | apply pw_below_drewN | apply below_drew1 | refine below_set ?_ GE262.out) | exact HB.out)) hb); clear BK237; clear BK238; clear BK250; clear BK262; clear HB; have BK237 := n0_; have BK238 := n1_; have BK250 := n2_; have BK262 := n3_; have HB := n4_; clear n0_ n1_ n2_ n3_ n4_; (try clear hb); (try clear hb2); (try clear hk); (try clear hi)))
   go_ret
   exact ⟨by first | rfl | (simp [errW_none, errW_some] <;> rfl) | (simp [*, errW_none, errW_some] <;> rfl), by exact lq HB.out⟩
  ·rw [if_neg c12] at H
   have c12b0 : (t261 == t249) = false := beq_eq_false_iff_ne.mpr c12
   have c12b1 : (t261 != t249) = true := bne_iff_ne.mpr c12
   exact absurd H (by simp)
 ·replace c11 := Bool.eq_false_iff.mpr c11
  subst c11
  rw [if_neg (show ¬ (false = true) by decide)] at H
  exact absurd H (by simp)

end Go.Proofs.Ytpdfihapnnnglaa.GB
