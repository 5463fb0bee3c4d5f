/- Short words for walks by hand: fresh rows, boxes, what lies apart. For any program and any memory. -/
import Derived.Test.YtbcpkigeginmnaaM3Z
import Derived.Test.YtbcpkigeginmnaaM14Z
import Derived.Test.YtbcpkigeginmnaaM2Z
set_option linter.unusedVariables false
set_option linter.unusedSimpArgs false
section
namespace Go.Proofs.Ytbcpkigeginmnaa.GF
open Go.RowKit Go.Proofs.YtbcpkigeginmnaaW.PrintWords Go.Proofs.YtbcpkigeginmnaaW.PrintLast Go.Proofs.YtbcpkigeginmnaaW.PrintMore Go.Proofs.Ytbcpkigeginmnaa.Q
attribute [local go_sem] max2_int min2_int max_two min_two max_three min_three max_four min_four   -- for this text's walks alone

def impl_cloneGuest.l0 : Nat → List (List Int) → Int → Int → List Int → Int → List (List Int) → Option (List Int × Int × (List (List Int)))
 | 0, _, _, _, _, _, _ => none
 | k + 1, x13, x14, x15, x399000, x399001, x399002 => if x15 < x14 then (if 0 ≤ x15 then (if x15 < (x13.length : Int) then ((slices_Clone_byte_byte.f (rd_L2 x13 x15)).bind fun t400 => (if x399002.length < 5864062014805 then (impl_cloneGuest.l0 k x13 x14 (wrap64 (x15 + 1)) x399000 x399001 (x399002 ++ [t400])) else (none))) else (none)) else (none)) else (some (x399000, x399001, x399002))
def impl_cloneGuest.f (k : Nat) (l0_0 : List Int) (a0_1 : Int) (l0_2 : List (List Int)) : Option (List Int × Int × (List (List Int))) := (slices_Clone_uint32_uint32.f l0_0).bind fun t395 => (impl_cloneGuest.l0 k l0_2 (l0_2.length : Int) 0 t395 a0_1 ([] : List (List Int)))
def impl_cloneGuest.T1 : Bool × List (List Nat × List Nat) := (true, [([], []), ([0], [0]), ([1], [1]), ([], []), ([3], [3]), ([2, 4], [2, 4]), ([], []), ([6, 5, 2, 0, 1, 2, 3, 4, 5, 6], [5, 6])])
def impl_cloneGuest.B1 : List Nat := [0, 1, 3, 0, 8, 31, 0, 127]
theorem impl_cloneGuest.tab1 : rtab .any (opsOf Try.f44 1) = impl_cloneGuest.T1 := by kernel_rfl
theorem impl_cloneGuest.bits1 : waitsOk impl_cloneGuest.T1.2 impl_cloneGuest.B1 = true := by kernel_rfl
def impl_cloneGuest.T5 : Bool × List (List Nat × List Nat) := (true, [([], []), ([0], [0]), ([], []), ([2], [2]), ([3], [3]), ([1, 4, 3], [1, 4]), ([0, 1, 2, 3, 4, 5], []), ([6, 5, 5, 0, 1, 2, 3, 4, 5], [5, 6])])
def impl_cloneGuest.B5 : List Nat := [0, 1, 0, 4, 12, 31, 63, 127]
theorem impl_cloneGuest.tab5 : rtab .any (opsOf Try.f44 5) = impl_cloneGuest.T5 := by kernel_rfl
theorem impl_cloneGuest.bits5 : waitsOk impl_cloneGuest.T5.2 impl_cloneGuest.B5 = true := by kernel_rfl
set_option maxHeartbeats 8000000 in
set_option maxRecDepth 100000 in
theorem impl_cloneGuest.calls (k : Nat) (A0_0 : Option Addr) (c0_0 : Nat) (l0_0 : List Int) (a0_1 : Int) (A0_2 : Option Addr) (c0_2 : Nat) (l0_2 : List (List Int)) (r1 : List Int) (r2 : Int) (r3 : List (List Int)) (w : World) (hr0_0 : Kd.C (Kd.int .u32) w A0_0 l0_0.length l0_0) (hc0_0 : l0_0.length ≤ c0_0) (hr0_2 : Kd.C (Kd.slice 5 (Kd.int .u8)) w A0_2 l0_2.length l0_2) (hc0_2 : l0_2.length ≤ c0_2) (h : impl_cloneGuest.f k l0_0 a0_1 l0_2 = some (r1, r2, r3)) :
  Calls Try.prog 44 #[.agg #[.slice A0_0 l0_0.length c0_0, .int .u32 a0_1, .slice A0_2 l0_2.length c0_2]] w fun e w' => ∃ v0_ v2_ : Value, e = .returned (.agg #[v0_, .int .u32 r2, v2_]) ∧ Kd.R (Kd.int .u32) 23 w' w.heap.size (fun _ => True) v0_ r1 ∧ Kd.S (Kd.slice 5 (Kd.int .u8)) 68 w' w.heap.size (fun _ => True) v2_ r3 ∧ Below w.heap.size w w' := by
 have hu28 := Try.underlying28
 have HR0_0 := Aside0.mk hr0_0
 have HC0_0 := Aside0.mk hc0_0
 clear hr0_0 hc0_0
 have HR0_2 := Aside0.mk hr0_2
 have HC0_2 := Aside0.mk hc0_2
 clear hr0_2 hc0_2
 have HB := Aside0.mk (Below.refl w.heap.size w)
 have H : ((slices_Clone_uint32_uint32.f l0_0).bind fun t395 => (impl_cloneGuest.l0 k l0_2 (l0_2.length : Int) 0 t395 a0_1 ([] : List (List Int)))) = some (r1, r2, r3) := h
 clear h
 replace H := Option.bind_eq_some_iff.mp H
 obtain ⟨t395, A20, H⟩ := H
 (try dsimp only at H)
 have A2 := Aside0.mk A20
 clear A20
 have H' := Aside0.mk H
 clear H
 go_enter Try.func44, Try.ntmps44
 try go_wp2_with (first | ((with_reducible refine gate_dst (N := 1) rfl ?_); refine box_event ?hg (N := 1) ?hd (cs := #[.slice A0_0 l0_0.length c0_0, .int .u32 a0_1, .slice A0_2 l0_2.length c0_2]) (t := 28) ?hr ?_; (case hd => rfl); (case hg => rfl); (case hr => first | (go_simp; done) | (go_simp; rfl)); intro gb393 hg w3 hbox hb; have n0_ := Aside0.mk (below_step (lq HB.out) hb); have n1_ := Aside0.mk (hbox); have n2_ := Aside0.mk ((ge_new hg (lq HB.out) : w.heap.size ≤ gb393)); have n3_ := Aside0.mk ((ge_new hg (lq HB.out) : w.heap.size ≤ gb393)); clear HB; have HB := n0_; have BK393 := n1_; have GW393 := n2_; have GE393 := n3_; clear n0_ n1_ n2_ n3_; clear hb hbox hg) | ((with_reducible refine gate_dst (N := 2) rfl ?_); refine box_event ?hg (N := 2) ?hd (cs := #[.slice none 0 0, .int .u32 0, .slice none 0 0]) (t := 28) ?hr ?_; (case hd => rfl); (case hg => rfl); (case hr => first | (go_simp; done) | (go_simp; rfl)); intro gb394 hg w4 hbox hb; have n0_ := Aside0.mk (blk_below (bq BK393.out) hb); have n1_ := Aside0.mk (below_step (lq HB.out) hb); have n2_ := Aside0.mk (hbox); have n3_ := Aside0.mk ((ge_new hg (lq HB.out) : w.heap.size ≤ gb394)); have n4_ := Aside0.mk ((ge_new hg (lq HB.out) : w.heap.size ≤ gb394)); have n5_ := Aside0.mk ((ne_new hg (bq BK393.out) : gb393 ≠ gb394)); have n6_ := Aside0.mk ((new_ne hg (bq BK393.out) : gb394 ≠ gb393)); clear BK393; clear HB; have BK393 := n0_; have HB := n1_; have BK394 := n2_; have GW394 := n3_; have GE394 := n4_; have NB393_394 := n5_; have NB394_393 := n6_; clear n0_ n1_ n2_ n3_ n4_ n5_ n6_; clear hb hbox hg))
 have n0_ := Aside0.mk (blk_drew BK393.out)
 have n1_ := Aside0.mk (blk_drew BK394.out)
 have n2_ := Aside0.mk (below_drew1 HB.out)
 clear BK393
 clear BK394
 clear HB
 have BK393 := n0_
 have BK394 := n1_
 have HB := n2_
 clear n0_ n1_ n2_
 refine start_ (n := 8) (S := fun w' => w'.cell? ⟨gb393, 0, none⟩ = some (.slice A0_0 l0_0.length c0_0) ∧ w'.cell? ⟨gb393, 1, none⟩ = some (.int .u32 a0_1) ∧ w'.cell? ⟨gb393, 2, none⟩ = some (.slice A0_2 l0_2.length c0_2)) (ds := []) #[false, false, false, false, false, false, false, false] (by kernel_rfl) rfl rfl ⟨(blk_cell BK393.out 0).trans rfl, (blk_cell BK393.out 1).trans rfl, (blk_cell BK393.out 2).trans rfl⟩ (fun hHeld => ?_); refine with_tabW impl_cloneGuest.tab1 impl_cloneGuest.bits1 (fun HT_ HW_ => ?_)
 generalize w4.drew = w5 at BK393 BK394 HB hHeld ⊢
 refine pure_ (i := 0) (N := some 6) (v := ?_) (a' := ?_) #[true, false, false, false, false, false, false, false] rfl rfl (any_of HT_.out (by kernel_rfl)) (fun _ _ _ h => h) (Or.inl ⟨by rfl, ?_⟩) ?_ ?_
 rotate_left
 ·intro w'
  go_simp
  with_reducible rfl
 rotate_left
 ·simp only [Act.put, List.setIfInBounds_toArray, List.set_cons_zero, List.set_cons_succ, i64_w, i32_w]
  rfl
 refine pure_ (i := 3) (N := some 9) (v := ?_) (a' := ?_) #[true, false, false, true, false, false, false, false] rfl rfl (any_of HT_.out (by kernel_rfl)) (fun _ _ _ h => h) (Or.inl ⟨by rfl, ?_⟩) ?_ ?_
 rotate_left
 ·intro w'
  go_simp
  with_reducible rfl
 rotate_left
 ·simp only [Act.put, List.setIfInBounds_toArray, List.set_cons_zero, List.set_cons_succ, i64_w, i32_w]
  rfl
 refine take_ (i := 1) (N := some 7) (v := ?_) (a' := ?_) #[true, true, false, true, false, false, false, false] rfl rfl (take_ofW HT_.out HW_.out (by kernel_rfl)) (fun _ _ _ h => h) (Or.inl ⟨by rfl, ?_⟩) hHeld ?_ ?_
 rotate_left
 ·rintro w' ⟨s0, s1, s2⟩
  go_simp
  with_reducible rfl
 rotate_left
 ·simp only [Act.put, List.setIfInBounds_toArray, List.set_cons_zero, List.set_cons_succ, i64_w, i32_w]
  rfl
 refine take_ (i := 4) (N := some 10) (v := ?_) (a' := ?_) #[true, true, false, true, true, false, false, false] rfl rfl (take_ofW HT_.out HW_.out (by kernel_rfl)) (fun _ _ _ h => h) (Or.inl ⟨by rfl, ?_⟩) hHeld ?_ ?_
 rotate_left
 ·rintro w' ⟨s0, s1, s2⟩
  go_simp
  with_reducible rfl
 rotate_left
 ·simp only [Act.put, List.setIfInBounds_toArray, List.set_cons_zero, List.set_cons_succ, i64_w, i32_w]
  rfl
 refine join_ (σ := Value × Nat) 1 #[true, true, true, true, true, true, true, false] (fun s_ => [(8, s_.1), (3, .pointer (some ⟨s_.2, 0, none⟩)), (11, .agg #[s_.1, .int .u32 a0_1, .slice none 0 0])]) (fun s_ w' => (w'.cell? ⟨gb393, 0, none⟩ = some (.slice A0_0 l0_0.length c0_0) ∧ w'.cell? ⟨gb393, 1, none⟩ = some (.int .u32 a0_1) ∧ w'.cell? ⟨gb393, 2, none⟩ = some (.slice A0_2 l0_2.length c0_2)) ∧ (Kd.R (Kd.int .u32) 23 w' w.heap.size (fun _ => True) s_.1 t395) ∧ (w'.heap[gb393]? = some (.cells #[.slice A0_0 l0_0.length c0_0, .int .u32 a0_1, .slice A0_2 l0_2.length c0_2] 28 (0, 0))) ∧ (w'.heap[gb394]? = some (.cells #[.slice none 0 0, .int .u32 0, .slice none 0 0] 28 (0, 0))) ∧ (w'.heap[s_.2]? = some (.cells #[.slice none 0 0, .int .u32 0, .slice none 0 0] 28 (0, 0))) ∧ (w.heap.size ≤ s_.2) ∧ (w.heap.size ≤ s_.2) ∧ (gb393 ≠ s_.2) ∧ (s_.2 ≠ gb393) ∧ (gb394 ≠ s_.2) ∧ (s_.2 ≠ gb394) ∧ (Below w.heap.size w w')) ?_ ?_
 rotate_left
 ·intro hCont
  refine two_ (i := 2) (j := 6) (Ni := some 8) (Nj := some 3) #[true, true, true, true, true, false, false, false] #[true, true, false, true, true, false, true, false] rfl rfl rfl rfl (two_of HT_.out (by kernel_rfl)) (by decide) (by decide) (fun K hK => ?_) (fun K hK => ?_)
  ·skip
   refine goes_ Try.func69 (by kernel_rfl) rfl #[.slice A0_0 l0_0.length c0_0] (by rfl) rfl rfl (by (try simp only [List.map_toArray, List.map_cons, List.map_nil]); first | done | rfl | (simp only [List.length_drop, List.length_take]; rfl)) ?_
   with_reducible refine (slices_Clone_uint32_uint32.calls _ _ l0_0 t395 _ ?side1 ?side2 A2.out).mono ?_
   (case side1 => repeat (first | exact (Kd.C_below HR0_0.out HB.out) | (with_reducible refine Kd.C_alloc ?_ _) | (with_reducible refine Kd.C_drewN ?_ _) | (with_reducible refine Kd.C_drew ?_)))
   (case side2 => exact HC0_0.out)
   rintro e w6 ⟨v396, rfl, ho0, hb⟩
   refine ⟨_, rfl, ?_⟩
   have n0_ := Aside0.mk (Kd.R_lower ho0 (below_size (lq HB.out)))
   have n1_ := Aside0.mk (blk_below (bq BK393.out) hb)
   have n2_ := Aside0.mk (blk_below (bq BK394.out) hb)
   have n3_ := Aside0.mk (below_step (lq HB.out) hb)
   clear BK393
   clear BK394
   clear HB
   have HO397 := n0_
   have BK393 := n1_
   have BK394 := n2_
   have HB := n3_
   clear n0_ n1_ n2_ n3_
   (try clear hb)
   (try clear hb2)
   (try clear hk)
   (try clear hi)
   (try clear ho0)
   obtain ⟨Ao7, co7, eo7⟩ := Kd.R_slice HO397.out
   (first | subst eo7 | (injection eo7 with f1_ f2_ f3_; have f4_ := f1_.symm; have f5_ := f3_.symm; clear f1_ f2_ f3_; subst f4_; subst f5_))
   refine hK.out _ _ ⟨(blk_cell BK393.out 0).trans rfl, (blk_cell BK393.out 1).trans rfl, (blk_cell BK393.out 2).trans rfl⟩ (fun hHeld => ?_)
   clear hK K
   refine norm_ (a' := ?_) ?_ ?_
   rotate_left
   ·show Act.put _ (some 8) _ = _
    simp only [Act.put, List.setIfInBounds_toArray, List.set_cons_zero, List.set_cons_succ, i64_w, i32_w]
    rfl
   refine pure_ (i := 5) (N := some 11) (v := ?_) (a' := ?_) #[true, true, true, true, true, true, false, false] rfl rfl (any_of HT_.out (by kernel_rfl)) (fun _ _ _ h => h) (Or.inl ⟨by rfl, ?_⟩) ?_ ?_
   rotate_left
   ·intro w'
    go_simp
    with_reducible rfl
   rotate_left
   ·simp only [Act.put, List.setIfInBounds_toArray, List.set_cons_zero, List.set_cons_succ, i64_w, i32_w]
    rfl
   refine one_ (i := 6) (N := some 3) #[true, true, true, true, true, true, true, false] rfl rfl (one_of HT_.out (by kernel_rfl)) (by decide) (fun K hK => ?_)
   refine box_step ?hg (N := 3) ?hd (cs := #[.slice none 0 0, .int .u32 0, .slice none 0 0]) (t := 28) ?hr ?_; (case hd => rfl); (case hg => rfl); (case hr => first | (go_simp; done) | (go_simp; rfl))
   intro gb398 hg w8 hbox hb
   have n0_ := Aside0.mk (Kd.R_below (rq HO397.out) hb)
   have n1_ := Aside0.mk (blk_below (bq BK393.out) hb)
   have n2_ := Aside0.mk (blk_below (bq BK394.out) hb)
   have n3_ := Aside0.mk (below_step (lq HB.out) hb)
   have n4_ := Aside0.mk (hbox)
   have n5_ := Aside0.mk ((ge_new hg (lq HB.out) : w.heap.size ≤ gb398))
   have n6_ := Aside0.mk ((ge_new hg (lq HB.out) : w.heap.size ≤ gb398))
   have n7_ := Aside0.mk ((ne_new hg (bq BK393.out) : gb393 ≠ gb398))
   have n8_ := Aside0.mk ((new_ne hg (bq BK393.out) : gb398 ≠ gb393))
   have n9_ := Aside0.mk ((ne_new hg (bq BK394.out) : gb394 ≠ gb398))
   have n10_ := Aside0.mk ((new_ne hg (bq BK394.out) : gb398 ≠ gb394))
   clear HO397
   clear BK393
   clear BK394
   clear HB
   have HO397 := n0_
   have BK393 := n1_
   have BK394 := n2_
   have HB := n3_
   have BK398 := n4_
   have GW398 := n5_
   have GE398 := n6_
   have NB393_398 := n7_
   have NB398_393 := n8_
   have NB394_398 := n9_
   have NB398_394 := n10_
   clear n0_ n1_ n2_ n3_ n4_ n5_ n6_ n7_ n8_ n9_ n10_
   clear hb hbox hg
   refine hK.out _ _ ⟨(blk_cell BK393.out 0).trans rfl, (blk_cell BK393.out 1).trans rfl, (blk_cell BK393.out 2).trans rfl⟩ (fun hHeld => ?_)
   clear hK K
   refine norm_ (a' := ?_) ?_ ?_
   rotate_left
   ·show Act.put _ (some 3) _ = _
    simp only [Act.put, List.setIfInBounds_toArray, List.set_cons_zero, List.set_cons_succ, i64_w, i32_w]
    rfl
   exact norm_ (by simp only [putAll, Act.put, List.setIfInBounds_toArray, List.set_cons_zero, List.set_cons_succ]) (hCont (.slice Ao7 t395.length co7, gb398) _ ⟨hHeld, (rq HO397.out), (bq BK393.out), (bq BK394.out), (bq BK398.out), GW398.out, GE398.out, NB393_398.out, NB398_393.out, NB394_398.out, NB398_394.out, (lq HB.out)⟩)
  ·skip
   refine box_step ?hg (N := 3) ?hd (cs := #[.slice none 0 0, .int .u32 0, .slice none 0 0]) (t := 28) ?hr ?_; (case hd => rfl); (case hg => rfl); (case hr => first | (go_simp; done) | (go_simp; rfl))
   intro gb398 hg w6 hbox hb
   have n0_ := Aside0.mk (blk_below (bq BK393.out) hb)
   have n1_ := Aside0.mk (blk_below (bq BK394.out) hb)
   have n2_ := Aside0.mk (below_step (lq HB.out) hb)
   have n3_ := Aside0.mk (hbox)
   have n4_ := Aside0.mk ((ge_new hg (lq HB.out) : w.heap.size ≤ gb398))
   have n5_ := Aside0.mk ((ge_new hg (lq HB.out) : w.heap.size ≤ gb398))
   have n6_ := Aside0.mk ((ne_new hg (bq BK393.out) : gb393 ≠ gb398))
   have n7_ := Aside0.mk ((new_ne hg (bq BK393.out) : gb398 ≠ gb393))
   have n8_ := Aside0.mk ((ne_new hg (bq BK394.out) : gb394 ≠ gb398))
   have n9_ := Aside0.mk ((new_ne hg (bq BK394.out) : gb398 ≠ gb394))
   clear BK393
   clear BK394
   clear HB
   have BK393 := n0_
   have BK394 := n1_
   have HB := n2_
   have BK398 := n3_
   have GW398 := n4_
   have GE398 := n5_
   have NB393_398 := n6_
   have NB398_393 := n7_
   have NB394_398 := n8_
   have NB398_394 := n9_
   clear n0_ n1_ n2_ n3_ n4_ n5_ n6_ n7_ n8_ n9_
   clear hb hbox hg
   refine hK.out _ _ ⟨(blk_cell BK393.out 0).trans rfl, (blk_cell BK393.out 1).trans rfl, (blk_cell BK393.out 2).trans rfl⟩ (fun hHeld => ?_)
   clear hK K
   refine norm_ (a' := ?_) ?_ ?_
   rotate_left
   ·show Act.put _ (some 3) _ = _
    simp only [Act.put, List.setIfInBounds_toArray, List.set_cons_zero, List.set_cons_succ, i64_w, i32_w]
    rfl
   refine one_ (i := 2) (N := some 8) #[true, true, true, true, true, false, true, false] rfl rfl (one_of HT_.out (by kernel_rfl)) (by decide) (fun K hK => ?_)
   refine goes_ Try.func69 (by kernel_rfl) rfl #[.slice A0_0 l0_0.length c0_0] (by rfl) rfl rfl (by (try simp only [List.map_toArray, List.map_cons, List.map_nil]); first | done | rfl | (simp only [List.length_drop, List.length_take]; rfl)) ?_
   with_reducible refine (slices_Clone_uint32_uint32.calls _ _ l0_0 t395 _ ?side1 ?side2 A2.out).mono ?_
   (case side1 => repeat (first | exact (Kd.C_below HR0_0.out HB.out) | (with_reducible refine Kd.C_alloc ?_ _) | (with_reducible refine Kd.C_drewN ?_ _) | (with_reducible refine Kd.C_drew ?_)))
   (case side2 => exact HC0_0.out)
   rintro e w7 ⟨v396, rfl, ho0, hb⟩
   refine ⟨_, rfl, ?_⟩
   have n0_ := Aside0.mk (Kd.R_lower ho0 (below_size (lq HB.out)))
   have n1_ := Aside0.mk (blk_below (bq BK393.out) hb)
   have n2_ := Aside0.mk (blk_below (bq BK394.out) hb)
   have n3_ := Aside0.mk (blk_below (bq BK398.out) hb)
   have n4_ := Aside0.mk (below_step (lq HB.out) hb)
   clear BK393
   clear BK394
   clear BK398
   clear HB
   have HO397 := n0_
   have BK393 := n1_
   have BK394 := n2_
   have BK398 := n3_
   have HB := n4_
   clear n0_ n1_ n2_ n3_ n4_
   (try clear hb)
   (try clear hb2)
   (try clear hk)
   (try clear hi)
   (try clear ho0)
   obtain ⟨Ao8, co8, eo8⟩ := Kd.R_slice HO397.out
   (first | subst eo8 | (injection eo8 with f1_ f2_ f3_; have f4_ := f1_.symm; have f5_ := f3_.symm; clear f1_ f2_ f3_; subst f4_; subst f5_))
   refine hK.out _ _ ⟨(blk_cell BK393.out 0).trans rfl, (blk_cell BK393.out 1).trans rfl, (blk_cell BK393.out 2).trans rfl⟩ (fun hHeld => ?_)
   clear hK K
   refine norm_ (a' := ?_) ?_ ?_
   rotate_left
   ·show Act.put _ (some 8) _ = _
    simp only [Act.put, List.setIfInBounds_toArray, List.set_cons_zero, List.set_cons_succ, i64_w, i32_w]
    rfl
   refine pure_ (i := 5) (N := some 11) (v := ?_) (a' := ?_) #[true, true, true, true, true, true, true, false] rfl rfl (any_of HT_.out (by kernel_rfl)) (fun _ _ _ h => h) (Or.inl ⟨by rfl, ?_⟩) ?_ ?_
   rotate_left
   ·intro w'
    go_simp
    with_reducible rfl
   rotate_left
   ·simp only [Act.put, List.setIfInBounds_toArray, List.set_cons_zero, List.set_cons_succ, i64_w, i32_w]
    rfl
   exact norm_ (by simp only [putAll, Act.put, List.setIfInBounds_toArray, List.set_cons_zero, List.set_cons_succ]) (hCont (.slice Ao8 t395.length co8, gb398) _ ⟨hHeld, (rq HO397.out), (bq BK393.out), (bq BK394.out), (bq BK398.out), GW398.out, GE398.out, NB393_398.out, NB398_393.out, NB394_398.out, NB398_394.out, (lq HB.out)⟩)
 rintro ⟨v396, gb398⟩ w9 ⟨hS_, h0_, h1_, h2_, h3_, h4_, h5_, h6_, h7_, h8_, h9_, h10_⟩
 have n0_ : Aside0 (Kd.R (Kd.int .u32) 23 w9 w.heap.size (fun _ => True) v396 t395) := ⟨h0_⟩
 have n1_ : Aside0 (w9.heap[gb393]? = some (.cells #[.slice A0_0 l0_0.length c0_0, .int .u32 a0_1, .slice A0_2 l0_2.length c0_2] 28 (0, 0))) := ⟨h1_⟩
 have n2_ : Aside0 (w9.heap[gb394]? = some (.cells #[.slice none 0 0, .int .u32 0, .slice none 0 0] 28 (0, 0))) := ⟨h2_⟩
 have n3_ : Aside0 (w9.heap[gb398]? = some (.cells #[.slice none 0 0, .int .u32 0, .slice none 0 0] 28 (0, 0))) := ⟨h3_⟩
 have n4_ : Aside0 (w.heap.size ≤ gb398) := ⟨h4_⟩
 have n5_ : Aside0 (w.heap.size ≤ gb398) := ⟨h5_⟩
 have n6_ : Aside0 (gb393 ≠ gb398) := ⟨h6_⟩
 have n7_ : Aside0 (gb398 ≠ gb393) := ⟨h7_⟩
 have n8_ : Aside0 (gb394 ≠ gb398) := ⟨h8_⟩
 have n9_ : Aside0 (gb398 ≠ gb394) := ⟨h9_⟩
 have n10_ : Aside0 (Below w.heap.size w w9) := ⟨h10_⟩
 clear BK393
 clear BK394
 clear HB
 clear h0_ h1_ h2_ h3_ h4_ h5_ h6_ h7_ h8_ h9_ h10_
 have HO397 := n0_
 have BK393 := n1_
 have BK394 := n2_
 have BK398 := n3_
 have GW398 := n4_
 have GE398 := n5_
 have NB393_398 := n6_
 have NB398_393 := n7_
 have NB394_398 := n8_
 have NB398_394 := n9_
 have HB := n10_
 clear n0_ n1_ n2_ n3_ n4_ n5_ n6_ n7_ n8_ n9_ n10_
 have hHeld : w9.cell? ⟨gb393, 0, none⟩ = some (.slice A0_0 l0_0.length c0_0) ∧ w9.cell? ⟨gb393, 1, none⟩ = some (.int .u32 a0_1) ∧ w9.cell? ⟨gb393, 2, none⟩ = some (.slice A0_2 l0_2.length c0_2) := hS_
 obtain ⟨Ao10, co10, eo10⟩ := Kd.R_slice HO397.out
 (first | subst eo10 | (injection eo10 with f1_ f2_ f3_; have f4_ := f1_.symm; have f5_ := f3_.symm; clear f1_ f2_ f3_; subst f4_; subst f5_))
 refine norm_ (a' := ?_) ?_ ?_
 rotate_left
 ·simp only [putAll, Act.put, List.setIfInBounds_toArray, List.set_cons_zero, List.set_cons_succ]
  rfl
 refine one_ (i := 7) (N := none) #[true, true, true, true, true, true, true, true] rfl rfl (one_of HT_.out (by kernel_rfl)) (by decide) (fun K hK => ?_)
 have hs11 : w9.cell? ⟨gb398, 0, none⟩ = some (.slice none 0 0) := (blk_cell BK398.out 0).trans rfl
 have hfs11 := blk_frozen BK398.out 0
 have hns11_0 := NB393_398.out
 have hns11_1 := NB394_398.out
 have hms11_0 := NB398_393.out
 have hms11_1 := NB398_394.out
 have hs12 : w9.cell? ⟨gb398, 1, none⟩ = some (.int .u32 0) := (blk_cell BK398.out 1).trans rfl
 have hfs12 := blk_frozen BK398.out 1
 have hns12_0 := NB393_398.out
 have hns12_1 := NB394_398.out
 have hms12_0 := NB398_393.out
 have hms12_1 := NB398_394.out
 have hs13 : w9.cell? ⟨gb398, 2, none⟩ = some (.slice none 0 0) := (blk_cell BK398.out 2).trans rfl
 have hfs13 := blk_frozen BK398.out 2
 have hns13_0 := NB393_398.out
 have hns13_1 := NB394_398.out
 have hms13_0 := NB398_393.out
 have hms13_1 := NB398_394.out
 refine skip_ (w1 := ?_) (by rfl) rfl ?_ ?_
 rotate_left
 ·go_simp
  rfl
 refine hK.out _ _ ⟨((cell_far (p := ⟨gb398, _, none⟩) NB393_398.out _).trans (((cell_far (p := ⟨gb398, _, none⟩) NB393_398.out _).trans (((cell_far (p := ⟨gb398, _, none⟩) NB393_398.out _).trans (hHeld.1)))))), ((cell_far (p := ⟨gb398, _, none⟩) NB393_398.out _).trans (((cell_far (p := ⟨gb398, _, none⟩) NB393_398.out _).trans (((cell_far (p := ⟨gb398, _, none⟩) NB393_398.out _).trans (hHeld.2.1)))))), ((cell_far (p := ⟨gb398, _, none⟩) NB393_398.out _).trans (((cell_far (p := ⟨gb398, _, none⟩) NB393_398.out _).trans (((cell_far (p := ⟨gb398, _, none⟩) NB393_398.out _).trans (hHeld.2.2))))))⟩ (fun hHeld => ?_)
 clear hK K
 refine done_ (done_of HT_.out (by kernel_rfl)) ?_
 have hnb14 := NB393_394.out
 have hnc14 := NB394_393.out
 have hnb15 := NB393_398.out
 have hnc15 := NB398_393.out
 have hcz16_0 : w9.cell? ⟨gb393, 0, none⟩ = some (.slice A0_0 l0_0.length c0_0) := (blk_cell BK393.out 0).trans rfl
 have hcz16_1 : w9.cell? ⟨gb393, 1, none⟩ = some (.int .u32 a0_1) := (blk_cell BK393.out 1).trans rfl
 have hcz16_2 : w9.cell? ⟨gb393, 2, none⟩ = some (.slice A0_2 l0_2.length c0_2) := (blk_cell BK393.out 2).trans rfl
 have hfz16_0 := blk_frozen BK393.out 0
 have hfz16_1 := blk_frozen BK393.out 1
 have hfz16_2 := blk_frozen BK393.out 2
 try go_wp2
 go_loopg [15] k (fun kq v15 w' => ∃ (x15_1 : Int) (x399002_1 : List (List Int)) (u399002 : Value), v15 = .int .i64 x15_1 ∧ Aside0 (impl_cloneGuest.l0 kq l0_2 (l0_2.length : Int) x15_1 t395 a0_1 x399002_1 = some (r1, r2, r3)) ∧ Aside0 (kq ≤ k) ∧ Aside0 (Kd.R (Kd.int .u32) 23 w' w.heap.size (fun _ => True) (.slice Ao10 t395.length co10) t395) ∧ Aside0 (Kd.S (Kd.slice 5 (Kd.int .u8)) 68 w' w.heap.size (fun _ => True) u399002 x399002_1) ∧ Aside0 (w'.heap[gb393]? = some (.cells #[(.slice A0_0 l0_0.length c0_0), .int .u32 a0_1, (.slice A0_2 l0_2.length c0_2)] 28 (0, 0))) ∧ Aside0 (w'.heap[gb394]? = some (.cells #[(.slice none 0 0), .int .u32 0, (.slice none 0 0)] 28 (0, 0))) ∧ Aside0 (w'.heap[gb398]? = some (.cells #[(.slice Ao10 t395.length co10), .int .u32 a0_1, u399002] 28 (0, 0))) ∧ Aside0 (Below w.heap.size w w'))
 case atStart => exact ⟨(0), (([] : List (List Int))), (.slice none 0 0), (by first | rfl | (simp; done) | (simp [*]; done)), H', ⟨Nat.le_refl _⟩, ⟨by (with_reducible repeat (first | apply Kd.R_alloc | apply Kd.R_drewN | apply Kd.R_drew)); exact Kd.R_mono (Kd.R_far (p := ⟨gb398, 2, none⟩) (Kd.R_far (p := ⟨gb398, 1, none⟩) (Kd.R_far (p := ⟨gb398, 0, none⟩) (Kd.R_types HO397.out BK398.out (by decide)) (fun _ hk => hk.2) (.slice Ao10 t395.length co10)) (fun _ hk => hk.2) (.int .u32 a0_1)) (fun _ hk => hk.2) (.slice none 0 0)) (fun _ hk => trivial)⟩, ⟨by first | exact Kd.S_nil _ _ _ _ _ | exact Kd.N_nil _ _ _ _ _ | exact Kd.V_nil _ _ _ _ _ | exact Kd.Q_nil _ _ _ _ _ | exact Kd.R_nil _ _ _ _ _⟩, ⟨by (with_reducible repeat (first | refine blk_drewN ?_ _ | refine blk_drew ?_ | refine blk_alloc ?_ _)); refine blk_far ?_ NB393_398.out _; (with_reducible repeat (first | refine blk_drewN ?_ _ | refine blk_drew ?_ | refine blk_alloc ?_ _)); refine blk_far ?_ NB393_398.out _; (with_reducible repeat (first | refine blk_drewN ?_ _ | refine blk_drew ?_ | refine blk_alloc ?_ _)); refine blk_far ?_ NB393_398.out _; (with_reducible repeat (first | refine blk_drewN ?_ _ | refine blk_drew ?_ | refine blk_alloc ?_ _)); exact BK393.out⟩, ⟨by (with_reducible repeat (first | refine blk_drewN ?_ _ | refine blk_drew ?_ | refine blk_alloc ?_ _)); refine blk_far ?_ NB394_398.out _; (with_reducible repeat (first | refine blk_drewN ?_ _ | refine blk_drew ?_ | refine blk_alloc ?_ _)); refine blk_far ?_ NB394_398.out _; (with_reducible repeat (first | refine blk_drewN ?_ _ | refine blk_drew ?_ | refine blk_alloc ?_ _)); refine blk_far ?_ NB394_398.out _; (with_reducible repeat (first | refine blk_drewN ?_ _ | refine blk_drew ?_ | refine blk_alloc ?_ _)); exact BK394.out⟩, ⟨by (with_reducible repeat (first | refine blk_drewN ?_ _ | refine blk_drew ?_ | refine blk_alloc ?_ _)); refine blk_put (cs := #[.slice Ao10 t395.length co10, .int .u32 a0_1, .slice none 0 0]) ?_ 2 _ rfl; (with_reducible repeat (first | refine blk_drewN ?_ _ | refine blk_drew ?_ | refine blk_alloc ?_ _)); refine blk_put (cs := #[.slice Ao10 t395.length co10, .int .u32 0, .slice none 0 0]) ?_ 1 _ rfl; (with_reducible repeat (first | refine blk_drewN ?_ _ | refine blk_drew ?_ | refine blk_alloc ?_ _)); refine blk_put (cs := #[.slice none 0 0, .int .u32 0, .slice none 0 0]) ?_ 0 _ rfl; (with_reducible repeat (first | refine blk_drewN ?_ _ | refine blk_drew ?_ | refine blk_alloc ?_ _)); exact BK398.out⟩, ⟨by repeat (first | (with_reducible first | exact HB.out | apply below_alloc | apply pw_below_drewN | apply below_drew1 | refine below_set ?_ GE398.out) | exact HB.out)⟩⟩
 case round =>
  clear H'
  try clear c1
  try clear p2
  try clear c4
  try clear c6
  try clear c14
  try clear c15
  try clear hcz16_0
  try clear hcz16_1
  try clear hcz16_2
  try clear hfz16_0
  try clear hfz16_1
  try clear hfz16_2
  obtain ⟨x15_1, x399002_1, u399002, rfl, HA, HK1, HO_399000, HO_399002, BK393, BK394, BK398, HB⟩ := hrel
  cases gk with
  | zero => exact absurd HA.out (by simp [impl_cloneGuest.l0])
  | succ k1 =>
   have H := HA.out
   clear HA
   simp only [impl_cloneGuest.l0] at H
   by_cases c17 : x15_1 < (l0_2.length : Int)
   ·rw [if_pos c17] at H
    have c17b0 : decide (x15_1 < (l0_2.length : Int)) = true := decide_eq_true c17
    clear c17
    by_cases c18 : 0 ≤ x15_1
    ·rw [if_pos c18] at H
     have c18b0 : decide (0 ≤ x15_1) = true := decide_eq_true c18
     clear c18
     by_cases c19 : x15_1 < (l0_2.length : Int)
     ·rw [if_pos c19] at H
      have c19b0 : decide (x15_1 < (l0_2.length : Int)) = true := decide_eq_true c19
      clear c19
      replace H := Option.bind_eq_some_iff.mp H
      obtain ⟨t400, A200, H⟩ := H
      (try dsimp only at H)
      have A20 := Aside0.mk A200
      clear A200
      by_cases c21 : x399002_1.length < 5864062014805
      ·rw [if_pos c21] at H
       have LMc21 := Aside0.mk c21
       clear c21
       obtain ⟨y403, hy403⟩ : ∃ y_ : List (List Int), y_ = (x399002_1 ++ [t400]) := ⟨_, rfl⟩
       replace H : (impl_cloneGuest.l0 k1 l0_2 (l0_2.length : Int) (wrap64 (x15_1 + 1)) t395 a0_1 y403) = some (r1, r2, r3) := by first | (rw [hy403]; with_reducible exact H) | (have H2_ := (Option.bind_some _ _).symm.trans H; rw [hy403]; with_reducible exact H2_) | (have H2_ := (Option.bind_some _ _).symm.trans H; with_reducible exact H2_) | with_reducible exact H | (rw [hy403]; exact H) | exact H
       have Ny403 := Aside0.mk hy403
       clear hy403
       have H' := Aside0.mk H
       clear H
       have p399 : 0 ≤ (x15_1 : Int) := of_decide_eq_true (by first | (with_reducible assumption) | assumption)
       have q399 : x15_1 < (l0_2.length : Int) := of_decide_eq_true (by first | (with_reducible assumption) | assumption)
       obtain ⟨ad399, A399_0, c399_0, e399, hx399_0, hl399_0, hi399_0⟩ := at_L2 HR0_2.out x15_1 p399 q399
       cases e399
       replace hx399_0 := (HB.out.cell (World.block_lt_of_cell? w _ hx399_0)).trans hx399_0
       have HR399_0 := Aside0.mk hi399_0
       have HC399_0 := Aside0.mk hl399_0
       clear hi399_0 hl399_0
       replace p399 := eq_true p399
       replace q399 := eq_true q399
       try go_wp2
       have n0_ := Aside0.mk (Kd.R_drew HO_399000.out)
       have n1_ := Aside0.mk (Kd.S_drew HO_399002.out)
       have n2_ := Aside0.mk (blk_drew BK393.out)
       have n3_ := Aside0.mk (blk_drew BK394.out)
       have n4_ := Aside0.mk (blk_drew BK398.out)
       have n5_ := Aside0.mk (below_drew1 HB.out)
       clear HO_399000
       clear HO_399002
       clear BK393
       clear BK394
       clear BK398
       clear HB
       have HO_399000 := n0_
       have HO_399002 := n1_
       have BK393 := n2_
       have BK394 := n3_
       have BK398 := n4_
       have HB := n5_
       clear n0_ n1_ n2_ n3_ n4_ n5_
       refine start_ (n := 8) (S := fun w' => w'.cell? ⟨gb398, 0, none⟩ = some (.slice Ao10 t395.length co10) ∧ w'.cell? ⟨gb398, 1, none⟩ = some (.int .u32 a0_1) ∧ w'.cell? ⟨gb398, 2, none⟩ = some (u399002)) (ds := [7]) #[false, false, false, false, false, false, false, false] (by kernel_rfl) rfl rfl ⟨(blk_cell BK398.out 0).trans rfl, (blk_cell BK398.out 1).trans rfl, (blk_cell BK398.out 2).trans rfl⟩ (fun hHeld => ?_); refine with_tabW impl_cloneGuest.tab5 impl_cloneGuest.bits5 (fun HT_ HW_ => ?_)
       generalize wr.drew = w22 at HO_399000 HO_399002 BK393 BK394 BK398 HB hHeld ⊢
       refine pure_ (i := 0) (N := some 19) (v := ?_) (a' := ?_) #[true, false, false, false, false, false, false, false] rfl rfl (any_of HT_.out (by kernel_rfl)) (fun _ _ _ h => h) (Or.inl ⟨by rfl, ?_⟩) ?_ ?_
       rotate_left
       ·intro w'
        go_simp
        with_reducible rfl
       rotate_left
       ·simp only [Act.put, List.setIfInBounds_toArray, List.set_cons_zero, List.set_cons_succ, i64_w, i32_w]
        rfl
       refine pure_ (i := 2) (N := some 21) (v := ?_) (a' := ?_) #[true, false, true, false, false, false, false, false] rfl rfl (any_of HT_.out (by kernel_rfl)) (fun _ _ _ h => h) (Or.inl ⟨by rfl, ?_⟩) ?_ ?_
       rotate_left
       ·intro w'
        go_simp
        with_reducible rfl
       rotate_left
       ·simp only [Act.put, List.setIfInBounds_toArray, List.set_cons_zero, List.set_cons_succ, i64_w, i32_w]
        rfl
       refine take_ (i := 1) (N := some 20) (v := ?_) (a' := ?_) #[true, true, true, false, false, false, false, false] rfl rfl (take_ofW HT_.out HW_.out (by kernel_rfl)) (fun _ _ _ h => h) (Or.inl ⟨by rfl, ?_⟩) hHeld ?_ ?_
       rotate_left
       ·rintro w' ⟨s0, s1, s2⟩
        go_simp
        with_reducible rfl
       rotate_left
       ·simp only [Act.put, List.setIfInBounds_toArray, List.set_cons_zero, List.set_cons_succ, i64_w, i32_w]
        rfl
       refine one_ (i := 3) (N := some 22) #[true, true, true, true, false, false, false, false] rfl rfl (one_of HT_.out (by kernel_rfl)) (by decide) (fun K hK => ?_)
       refine goes_ Try.func70 (by kernel_rfl) rfl #[.slice A399_0 (rd_L2 l0_2 x15_1).length c399_0] (by rfl) rfl rfl (by (try simp only [List.map_toArray, List.map_cons, List.map_nil]); first | done | rfl | (simp only [List.length_drop, List.length_take]; rfl)) ?_
       with_reducible refine (slices_Clone_byte_byte.calls _ _ (rd_L2 l0_2 x15_1) t400 _ ?side1 ?side2 A20.out).mono ?_
       (case side1 => repeat (first | exact (Kd.C_below HR399_0.out HB.out) | (with_reducible refine Kd.C_alloc ?_ _) | (with_reducible refine Kd.C_drewN ?_ _) | (with_reducible refine Kd.C_drew ?_)))
       (case side2 => exact HC399_0.out)
       rintro e w23 ⟨v401, rfl, ho0, hb⟩
       refine ⟨_, rfl, ?_⟩
       have n0_ := Aside0.mk (Kd.R_below (rq HO_399000.out) hb)
       have n1_ := Aside0.mk (Kd.S_elder' (by (with_reducible repeat (first | apply Kd.S_alloc | apply Kd.S_drewN | apply Kd.S_drew)); exact HO_399002.out) (Kd.R_base ho0) hb)
       have n2_ := Aside0.mk (Kd.R_lower ho0 (below_size (lq HB.out)))
       have n3_ := Aside0.mk (blk_below (bq BK393.out) hb)
       have n4_ := Aside0.mk (blk_below (bq BK394.out) hb)
       have n5_ := Aside0.mk (blk_below (bq BK398.out) hb)
       have n6_ := Aside0.mk (below_step (lq HB.out) hb)
       clear HO_399000
       clear HO_399002
       clear BK393
       clear BK394
       clear BK398
       clear HB
       have HO_399000 := n0_
       have HO_399002 := n1_
       have HO402 := n2_
       have BK393 := n3_
       have BK394 := n4_
       have BK398 := n5_
       have HB := n6_
       clear n0_ n1_ n2_ n3_ n4_ n5_ n6_
       (try clear hb)
       (try clear hb2)
       (try clear hk)
       (try clear hi)
       (try clear ho0)
       obtain ⟨Ao25, co25, eo25⟩ := Kd.R_slice HO402.out
       (first | subst eo25 | (injection eo25 with f1_ f2_ f3_; have f4_ := f1_.symm; have f5_ := f3_.symm; clear f1_ f2_ f3_; subst f4_; subst f5_))
       refine hK.out _ _ ⟨(blk_cell BK398.out 0).trans rfl, (blk_cell BK398.out 1).trans rfl, (blk_cell BK398.out 2).trans rfl⟩ (fun hHeld => ?_)
       clear hK K
       refine norm_ (a' := ?_) ?_ ?_
       rotate_left
       ·show Act.put _ (some 22) _ = _
        simp only [Act.put, List.setIfInBounds_toArray, List.set_cons_zero, List.set_cons_succ, i64_w, i32_w]
        rfl
       refine one_ (i := 4) (N := some 23) #[true, true, true, true, true, false, false, false] rfl rfl (one_of HT_.out (by kernel_rfl)) (by decide) (fun K hK => ?_)
       refine value_ (w1 := ?_) (v := ?_) (by rfl) rfl ?_ ?_
       rotate_left 2
       ·go_simp
        constructor
        ·rfl
        ·rfl
       refine hK.out _ _ ⟨(blk_cell (blk_alloc BK398.out _) 0).trans rfl, (blk_cell (blk_alloc BK398.out _) 1).trans rfl, (blk_cell (blk_alloc BK398.out _) 2).trans rfl⟩ (fun hHeld => ?_)
       clear hK K
       refine norm_ (a' := ?_) ?_ ?_
       rotate_left
       ·show Act.put _ (some 23) _ = _
        simp only [Act.put, List.setIfInBounds_toArray, List.set_cons_zero, List.set_cons_succ, i64_w, i32_w]
        rfl
       refine one_ (i := 5) (N := some 24) #[true, true, true, true, true, true, false, false] rfl rfl (one_of HT_.out (by kernel_rfl)) (by decide) (fun K hK => ?_)
       refine Kd.S_append_step (Kd.slice 5 (Kd.int .u8)) (w0 := w) w.heap.size (by rfl) (.tmp 20) (.tmp 23) 24 68 (.slice none 0 0) 24 rfl Try.underlying24 info68 rfl (by decide) (by omega) u399002 x399002_1 t400 [.slice Ao25 t400.length co25] (fun _ => True) (fun k_ => some k_ = (.slice Ao25 t400.length co25 : Value).ownBlock) rfl rfl ?aP (fun k_ hk_ => ((Kd.R_mono (ok' := fun k_ => ((fun _ => True)) k_ ∧ some k_ ≠ (u399002 : Value).ownBlock) (Kd.R_apart' (HO402.out) (Kd.S_typed HO_399002.out) (by decide)) (fun k_ hk => ⟨trivial, hk.2⟩))).1 k_ hk_.symm) ?aF ?aO ?aB ?aS ?aL ?_
       (case aP => exact Kd.M_row (Kd.R_mono (Kd.R_tight rfl (Kd.R_mono (ok' := fun k_ => ((fun _ => True)) k_ ∧ some k_ ≠ (u399002 : Value).ownBlock) (Kd.R_apart' (HO402.out) (Kd.S_typed HO_399002.out) (by decide)) (fun k_ hk => ⟨trivial, hk.2⟩))) (fun _ h_ => h_)))
       (case aB => exact (lq HB.out))
       (case aF => exact (fun _ _ => trivial))
       (case aO => exact (by (with_reducible repeat (first | apply Kd.S_alloc | apply Kd.S_drewN | apply Kd.S_drew)); exact Kd.S_mono HO_399002.out (fun k_ hk => ⟨trivial, fun e_ => hk.2 e_⟩)))
       (case aS => exact (below_size (lq HB.out)))
       (case aL => have := LMc21.out; omega)
       intro v404 w24 ho hb hg hat
       rw [← Ny403.out] at ho
       have n0_ := Aside0.mk (Kd.R_over' (rq HO_399000.out) (Kd.S_typed (by (with_reducible repeat (first | apply Kd.S_alloc | apply Kd.S_drewN | apply Kd.S_drew)); exact HO_399002.out)) (by decide) hg)
       have n1_ := Aside0.mk (blk_grown (g := gb393) (o := .cells #[.slice A0_0 l0_0.length c0_0, .int .u32 a0_1, .slice (some ad399) l0_2.length c0_2] 28 (0, 0)) (bq BK393.out) hg (Kd.S_ne HO_399002.out BK393.out (by decide)))
       have n2_ := Aside0.mk (blk_grown (g := gb394) (o := .cells #[.slice none 0 0, .int .u32 0, .slice none 0 0] 28 (0, 0)) (bq BK394.out) hg (Kd.S_ne HO_399002.out BK394.out (by decide)))
       have n3_ := Aside0.mk (blk_grown (g := gb398) (o := .cells #[.slice Ao10 t395.length co10, .int .u32 a0_1, u399002] 28 (0, 0)) (bq BK398.out) hg (Kd.S_ne HO_399002.out BK398.out (by decide)))
       have n4_ := Aside0.mk (hb)
       have n5_ := Aside0.mk (ho)
       clear HO_399000
       clear BK393
       clear BK394
       clear BK398
       clear HB
       clear HO_399002
       clear HO402
       have HO_399000 := n0_
       have BK393 := n1_
       have BK394 := n2_
       have BK398 := n3_
       have HB := n4_
       have HO405 := n5_
       clear n0_ n1_ n2_ n3_ n4_ n5_
       clear ho hb hg hat
       obtain ⟨Ao26, co26, eo26⟩ := Kd.S_slice HO405.out
       (first | subst eo26 | (injection eo26 with f1_ f2_ f3_; have f4_ := f1_.symm; have f5_ := f3_.symm; clear f1_ f2_ f3_; subst f4_; subst f5_))
       refine hK.out _ _ ⟨(blk_cell BK398.out 0).trans rfl, (blk_cell BK398.out 1).trans rfl, (blk_cell BK398.out 2).trans rfl⟩ (fun hHeld => ?_)
       clear hK K
       refine norm_ (a' := ?_) ?_ ?_
       rotate_left
       ·show Act.put _ (some 24) _ = _
        simp only [Act.put, List.setIfInBounds_toArray, List.set_cons_zero, List.set_cons_succ, i64_w, i32_w]
        rfl
       refine pure_ (i := 6) (N := some 25) (v := ?_) (a' := ?_) #[true, true, true, true, true, true, true, false] rfl rfl (any_of HT_.out (by kernel_rfl)) (fun _ _ _ h => h) (Or.inl ⟨by rfl, ?_⟩) ?_ ?_
       rotate_left
       ·intro w'
        go_simp
        with_reducible rfl
       rotate_left
       ·simp only [Act.put, List.setIfInBounds_toArray, List.set_cons_zero, List.set_cons_succ, i64_w, i32_w]
        rfl
       refine last_ (i := 7) (N := none) #[true, true, true, true, true, true, true, true] rfl rfl (one_of HT_.out (by kernel_rfl)) (by decide) (fun K hK => ?_)
       have hs27 : w24.cell? ⟨gb398, 2, none⟩ = some (u399002) := (blk_cell BK398.out 2).trans rfl
       have hfs27 := blk_frozen BK398.out 2
       have hns27_0 := NB393_398.out
       have hns27_1 := NB394_398.out
       have hms27_0 := NB398_393.out
       have hms27_1 := NB398_394.out
       refine skip_ (w1 := ?_) (by rfl) rfl ?_ ?_
       rotate_left
       ·go_simp
        rfl
       refine hK.out _ _ ?_
       clear hK K
       refine done_ (done_of HT_.out (by kernel_rfl)) ?_
       try go_wp2
       go_roundg k1
       case measure => have := HK1.out; omega
       case rel => exact ⟨(wrap64 (x15_1 + 1)), (y403), (.slice Ao26 y403.length co26), (by first | rfl | (simp; done) | (simp [*]; done)), H', ⟨by have := HK1.out; omega⟩, ⟨by (with_reducible repeat (first | apply Kd.R_alloc | apply Kd.R_drewN | apply Kd.R_drew)); exact Kd.R_mono (Kd.R_far (p := ⟨gb398, 2, none⟩) (Kd.R_types HO_399000.out BK398.out (by decide)) (fun _ hk => hk.2) (.slice Ao26 y403.length co26)) (fun _ hk => trivial)⟩, ⟨by (with_reducible repeat (first | apply Kd.S_alloc | apply Kd.S_drewN | apply Kd.S_drew)); exact Kd.S_mono (Kd.S_far (p := ⟨gb398, 2, none⟩) (Kd.S_types HO405.out BK398.out (by decide)) (fun _ hk => hk.2) (.slice Ao26 y403.length co26)) (fun _ hk => trivial)⟩, ⟨by (with_reducible repeat (first | refine blk_drewN ?_ _ | refine blk_drew ?_ | refine blk_alloc ?_ _)); refine blk_far ?_ NB393_398.out _; (with_reducible repeat (first | refine blk_drewN ?_ _ | refine blk_drew ?_ | refine blk_alloc ?_ _)); exact BK393.out⟩, ⟨by (with_reducible repeat (first | refine blk_drewN ?_ _ | refine blk_drew ?_ | refine blk_alloc ?_ _)); refine blk_far ?_ NB394_398.out _; (with_reducible repeat (first | refine blk_drewN ?_ _ | refine blk_drew ?_ | refine blk_alloc ?_ _)); exact BK394.out⟩, ⟨by (with_reducible repeat (first | refine blk_drewN ?_ _ | refine blk_drew ?_ | refine blk_alloc ?_ _)); refine blk_put (cs := #[.slice Ao10 t395.length co10, .int .u32 a0_1, u399002]) ?_ 2 _ rfl; (with_reducible repeat (first | refine blk_drewN ?_ _ | refine blk_drew ?_ | refine blk_alloc ?_ _)); exact BK398.out⟩, ⟨by repeat (first | (with_reducible first | exact HB.out | apply below_alloc | apply pw_below_drewN | apply below_drew1 | refine below_set ?_ GE398.out) | exact HB.out)⟩⟩
      ·rw [if_neg c21] at H
       exact absurd H (by simp)
     ·rw [if_neg c19] at H
      exact absurd H (by simp)
    ·rw [if_neg c18] at H
     exact absurd H (by simp)
   ·rw [if_neg c17] at H
    have c17b0 : decide (x15_1 < (l0_2.length : Int)) = false := decide_eq_false c17
    clear c17
    simp only [Option.some.injEq, Prod.mk.injEq] at H
    obtain ⟨rfl, rfl, rfl⟩ := H
    have hnb28 := NB398_393.out
    have hnc28 := NB393_398.out
    have hnb29 := NB398_394.out
    have hnc29 := NB394_398.out
    have hcz30_0 : wr.cell? ⟨gb398, 0, none⟩ = some (.slice Ao10 t395.length co10) := (blk_cell BK398.out 0).trans rfl
    have hcz30_1 : wr.cell? ⟨gb398, 1, none⟩ = some (.int .u32 a0_1) := (blk_cell BK398.out 1).trans rfl
    have hcz30_2 : wr.cell? ⟨gb398, 2, none⟩ = some (u399002) := (blk_cell BK398.out 2).trans rfl
    have hfz30_0 := blk_frozen BK398.out 0
    have hfz30_1 := blk_frozen BK398.out 1
    have hfz30_2 := blk_frozen BK398.out 2
    have hnb31 := NB394_393.out
    have hnc31 := NB393_394.out
    have hcz32_0 : wr.cell? ⟨gb394, 0, none⟩ = some (.slice none 0 0) := (blk_cell BK394.out 0).trans rfl
    have hcz32_1 : wr.cell? ⟨gb394, 1, none⟩ = some (.int .u32 0) := (blk_cell BK394.out 1).trans rfl
    have hcz32_2 : wr.cell? ⟨gb394, 2, none⟩ = some (.slice none 0 0) := (blk_cell BK394.out 2).trans rfl
    have hfz32_0 := blk_frozen BK394.out 0
    have hfz32_1 := blk_frozen BK394.out 1
    have hfz32_2 := blk_frozen BK394.out 2
    obtain ⟨Ao33, co33, eo33⟩ := Kd.S_slice HO_399002.out
    subst eo33
    go_wp2
    refine bodyPost_ret (results_cell_row rfl _ _ gb394 28 #[.slice Ao10 t395.length co10, .int .u32 a0_1, .slice Ao33 x399002_1.length co33] (0, 0) _ rfl (by (with_reducible repeat (first | refine blk_drewN ?_ _ | refine blk_drew ?_ | refine blk_alloc ?_ _)); refine blk_put (cs := #[.slice Ao10 t395.length co10, .int .u32 a0_1, .slice none 0 0]) ?_ 2 _ rfl; (with_reducible repeat (first | refine blk_drewN ?_ _ | refine blk_drew ?_ | refine blk_alloc ?_ _)); refine blk_put (cs := #[.slice Ao10 t395.length co10, .int .u32 0, .slice none 0 0]) ?_ 1 _ rfl; (with_reducible repeat (first | refine blk_drewN ?_ _ | refine blk_drew ?_ | refine blk_alloc ?_ _)); refine blk_put (cs := #[.slice none 0 0, .int .u32 0, .slice none 0 0]) ?_ 0 _ rfl; (with_reducible repeat (first | refine blk_drewN ?_ _ | refine blk_drew ?_ | refine blk_alloc ?_ _)); exact BK394.out) Try.underlying28 rfl (by kernel_rfl)) rfl ?_
    exact ⟨_, _, by first | rfl | (simp [errW_none, errW_some] <;> rfl) | (simp [*, errW_none, errW_some] <;> rfl), by (with_reducible repeat (first | apply Kd.R_alloc | apply Kd.R_drewN | apply Kd.R_drew)); exact Kd.R_mono (Kd.R_far (p := ⟨gb394, 2, none⟩) (Kd.R_far (p := ⟨gb394, 1, none⟩) (Kd.R_far (p := ⟨gb394, 0, none⟩) (Kd.R_types HO_399000.out BK394.out (by decide)) (fun _ hk => hk.2) (.slice Ao10 t395.length co10)) (fun _ hk => hk.2) (.int .u32 a0_1)) (fun _ hk => hk.2) (.slice Ao33 x399002_1.length co33)) (fun _ hk => trivial), by (with_reducible repeat (first | apply Kd.S_alloc | apply Kd.S_drewN | apply Kd.S_drew)); exact Kd.S_mono (Kd.S_far (p := ⟨gb394, 2, none⟩) (Kd.S_far (p := ⟨gb394, 1, none⟩) (Kd.S_far (p := ⟨gb394, 0, none⟩) (Kd.S_types HO_399002.out BK394.out (by decide)) (fun _ hk => hk.2) (.slice Ao10 t395.length co10)) (fun _ hk => hk.2) (.int .u32 a0_1)) (fun _ hk => hk.2) (.slice Ao33 x399002_1.length co33)) (fun _ hk => trivial), by repeat (first | (with_reducible first | exact HB.out | apply below_alloc | apply pw_below_drewN | apply below_drew1 | refine below_set ?_ GE394.out) | exact HB.out)⟩

end Go.Proofs.Ytbcpkigeginmnaa.GF
end
section
namespace Go.Proofs.Ytbcpkigeginmnaa.Hnd
open Go.RowKit Go.Proofs.YtbcpkigeginmnaaW.PrintWords Go.Proofs.YtbcpkigeginmnaaW.PrintLast Go.Proofs.YtbcpkigeginmnaaW.PrintMore Go.Proofs.Ytbcpkigeginmnaa.Q
theorem new_at {W : World} {o : Obj} {g : Nat} (hg : g = W.heap.size) : (W.alloc o).heap[g]? = some o := hg ▸ blk_new W o
theorem kc {W : World} {g t : Nat} {cs : Array Value} {v : Value} (h : W.heap[g]? = some (.cells cs t (0, 0))) (i : Nat) (hv : cs[i]? = some v) : W.cell? ⟨g, i, none⟩ = some v := (blk_cell h i).trans hv
theorem at1_0 {w : World} {o0 : Obj} : (w.alloc o0).heap[w.heap.size]? = some o0 := bq (new_at (W := w) (by simp))
theorem at2_0 {w : World} {o0 o1 : Obj} : ((w.alloc o0).alloc o1).heap[w.heap.size]? = some o0 := bq (new_at (W := w) (by simp))
theorem at2_1 {w : World} {o0 o1 : Obj} : ((w.alloc o0).alloc o1).heap[(w.heap.size + 1)]? = some o1 := bq (new_at (W := (w.alloc o0)) (by simp))
theorem at3_0 {w : World} {o0 o1 o2 : Obj} : (((w.alloc o0).alloc o1).alloc o2).heap[w.heap.size]? = some o0 := bq (new_at (W := w) (by simp))
theorem at3_1 {w : World} {o0 o1 o2 : Obj} : (((w.alloc o0).alloc o1).alloc o2).heap[(w.heap.size + 1)]? = some o1 := bq (new_at (W := (w.alloc o0)) (by simp))
theorem at3_2 {w : World} {o0 o1 o2 : Obj} : (((w.alloc o0).alloc o1).alloc o2).heap[(w.heap.size + 2)]? = some o2 := bq (new_at (W := ((w.alloc o0).alloc o1)) (by simp))
theorem cq {α : Type} {d : Kd α} {W W' : World} {A : Option Addr} {n : Nat} {xs : List α} (h : d.C W A n xs) [q : Quiet W W'] : d.C W' A n xs := Kd.C_below h q.go
structure Fr (S : Nat → Prop) (w w' : World) : Prop where
  os : w'.os = w.os
  tape : w'.tape = w.tape
  output : w'.output = w.output
  size : w.heap.size ≤ w'.heap.size
  block : ∀ k, k < w.heap.size → ¬ S k → w'.heap[k]? = w.heap[k]?
section
variable {S T : Nat → Prop} {a b c w w' : World} {g B : Nat} {o : Obj}
theorem Fr.refl (S : Nat → Prop) (w : World) : Fr S w w := ⟨rfl, rfl, rfl, Nat.le_refl _, fun _ _ _ => rfl⟩
theorem Fr.of_below (S : Nat → Prop) (h : Below w.heap.size w w') : Fr S w w' := ⟨h.os, h.tape, h.output, h.size, fun k hk _ => h.block k hk⟩
theorem Fr.trans (h : Fr S a b) (k : Fr T b c) (hT : ∀ i, T i → S i ∨ a.heap.size ≤ i) : Fr S a c :=
  ⟨k.os.trans h.os, k.tape.trans h.tape, k.output.trans h.output, Nat.le_trans h.size k.size, fun i hi hs =>
    (k.block i (Nat.lt_of_lt_of_le hi h.size) (fun ht => (hT i ht).elim hs (fun h2 => Nat.lt_irrefl _ (Nat.lt_of_lt_of_le hi h2)))).trans (h.block i hi hs)⟩
theorem Fr.step (h : Fr S a b) (k : Below b.heap.size b c) : Fr S a c := h.trans (Fr.of_below (fun _ => False) k) (fun _ ht => ht.elim)
theorem Fr.mono (h : Fr S a b) (hs : ∀ k, S k → T k) : Fr T a b := ⟨h.os, h.tape, h.output, h.size, fun k hk hn => h.block k hk (fun x => hn (hs k x))⟩
theorem Fr.alloc (h : Fr S a w) (o : Obj) : Fr S a (w.alloc o) := h.step (below_alloc (Below.refl _ _) o)
theorem Fr.drew (h : Fr S a w) : Fr S a w.drew := h.step (below_drew (Below.refl _ _))
theorem Fr.drewN (h : Fr S a w) (n : Nat) : Fr S a (w.drewN n) := h.step (pw_below_drewN (Below.refl _ _) n)
theorem Fr.set (h : Fr S a w) {p : Addr} (hp : S p.block ∨ a.heap.size ≤ p.block) (u : Value) : Fr S a (w.setCell p u) := by
  refine h.trans (T := fun k => k = p.block) ?_ (fun i hi => by subst hi; exact hp)
  have hs := (Below.refl 0 w).setCell (Nat.zero_le p.block) u
  exact ⟨hs.os, hs.tape, hs.output, hs.size, fun k hk hn => Below.heap_setCell w p u k hn⟩
theorem Fr.grown (h : Fr S a w) {row : Option Nat} (hg : w.grownBy w' row) (hr : ∀ k, row = some k → S k ∨ a.heap.size ≤ k) : Fr S a w' := by
  refine h.trans (T := fun k => row = some k) ?_ hr
  exact ⟨hg.os, hg.tape, hg.output, hg.size, fun k hk hn => hg.block k hk (fun e => hn e.symm)⟩
theorem Fr.below (h : Fr S a w) (hS : ∀ i, S i → B ≤ i) (hB : B ≤ a.heap.size) : Below B a w :=
  ⟨h.os, h.tape, h.output, h.size, fun k hk => h.block k (Nat.lt_of_lt_of_le hk hB) (fun hs => Nat.lt_irrefl _ (Nat.lt_of_lt_of_le hk (hS k hs)))⟩
theorem fq (h : Fr S a w) [q : Quiet w w'] : Fr S a w' := h.step q.go
theorem Fr.blk (h : Fr S a w) (hb : a.heap[g]? = some o) (hn : ¬ S g) : w.heap[g]? = some o := (h.block g (blk_lt hb) hn).trans hb
variable {α : Type} {d : Kd α} {e base : Nat} {ok : Nat → Prop} {v : Value} {xs : List α}
theorem Fr.Q (h : Fr S a w) (hq : d.Q e a base ok v xs) (hn : ∀ k, ok k → ¬ S k) : d.Q e w base ok v xs := Kd.Q_step hq (fun k hk hlt => h.block k hlt (hn k hk))
theorem Fr.R (h : Fr S a w) (hq : d.R e a base ok v xs) (hn : ∀ k, ok k → ¬ S k) : d.R e w base ok v xs := Kd.R_step hq (fun k hk hlt => h.block k hlt (hn k hk))
theorem Fr.cell (h : Fr S a w) {p : Addr} (hp : p.block < a.heap.size) (hn : ¬ S p.block) : w.cell? p = a.cell? p := World.cell?_of_block (w := a) (h.block p.block hp hn)
theorem R_in (h : d.R e w base ok v xs) : d.R e w base (fun k => ok k ∧ base ≤ k ∧ k < w.heap.size) v xs := Kd.R_mono (Kd.R_bound h) (fun _ hk => ⟨hk.1, hk.2.1, hk.2.2.1⟩)
end
end Go.Proofs.Ytbcpkigeginmnaa.Hnd
end
