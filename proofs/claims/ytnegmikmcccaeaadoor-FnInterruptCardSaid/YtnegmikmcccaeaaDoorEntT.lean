/- Enter, walked by hand. -/
import Derived.Test.YtnegmikmcccaeaaDoorGTx0
import Derived.Test.YtnegmikmcccaeaaDoorGTx2
import Derived.Test.YtnegmikmcccaeaaDoorHnd
namespace Go.Proofs.YtnegmikmcccaeaaDoor.GT
open Go.RowKit Go.Proofs.YtnegmikmcccaeaaDoorW.PrintWords Go.Proofs.YtnegmikmcccaeaaDoorW.PrintLast Go.Proofs.YtnegmikmcccaeaaDoorW.PrintMore Go.Proofs.YtnegmikmcccaeaaDoor.Q Go.Proofs.YtnegmikmcccaeaaDoor.Hnd
set_option linter.unusedVariables false
set_option linter.unusedSimpArgs false
theorem gen_world {P : World → Prop} {W : World} (S : World → Prop) (hS : S W) (h : ∀ W', S W' → P W') : P W := h W hS
theorem sub_shl (a x : Int) : (a - shl .u32 1 x) % 4294967296 = (a - 2 ^ min x.toNat 32) % 4294967296 := by
  have h : shl .u32 1 x = (2 ^ min x.toNat 32) % 4294967296 := by
    unfold shl
    rw [Int.one_mul]
    rfl
  rw [h]
  generalize (2 : Int) ^ min x.toNat 32 = b
  omega
structure EW (w W : World) (a0 : Bool) (a1 a2 a3 a4 : Int) (a5 a6 : Bool) (a7 : Int) : Prop where
  k1 : W.heap[w.heap.size]? = some (.cells #[.bool a0, .int .u32 a1, .int .u32 a2, .int .u32 a3, .int .u32 a4, .bool a5, .bool a6, .int .u32 a7] 26 (0, 0))
  k2 : W.heap[w.heap.size + 1]? = some (.cells #[.bool false, .int .u32 0, .int .u32 0, .int .u32 0, .int .u32 0, .bool false, .bool false, .int .u32 0] 26 (0, 0))
  be : Below w.heap.size w W
def impl_Enter.T6 : Bool × List (List Nat × List Nat) := (true, [([], []), ([0], [0]), ([], []), ([2], [2]), ([3], [3]), ([1, 4], [1, 4]), ([0, 1, 2, 3, 4, 5], []), ([6, 5, 0, 1, 2, 3, 4, 5], [5, 6])])
def impl_Enter.B6 : List Nat := [0, 1, 0, 4, 12, 31, 63, 127]
theorem impl_Enter.tab6 : rtab .any (opsOf Tryd.f13 6) = impl_Enter.T6 := by kernel_rfl
theorem impl_Enter.bits6 : waitsOk impl_Enter.T6.2 impl_Enter.B6 = true := by kernel_rfl
def impl_Enter.f (a0_0 : Bool) (a0_1 : Int) (a0_2 : Int) (a0_3 : Int) (a0_4 : Int) (a0_5 : Bool) (a0_6 : Bool) (a0_7 : Int) (a1 : Int) (a2 : Int) : Option (Bool × Int × Int × Int × Int × Bool × Bool × Int × Int) := (impl_within.f a1 1 33).bind fun t112 => (if t112 = true then (if a1 = 1 then (some (a0_0, a0_1, a2, (a1) % 4294967296, a0_4, false, true, a0_7, a0_1)) else (if 0 ≤ (wrap64 (a1 - 2)) then (some (a0_0, a0_1, a2, (a1) % 4294967296, a0_4, a0_5, true, Go.bits .andNot .u32 a0_7 (shl .u32 1 (wrap64 (a1 - 2))), a0_1)) else (none))) else (some (a0_0, a0_1, a0_2, a0_3, a0_4, a0_5, a0_6, a0_7, a2)))
set_option maxHeartbeats 8000000 in
set_option maxRecDepth 100000 in
theorem impl_Enter.calls (a0_0 : Bool) (a0_1 : Int) (a0_2 : Int) (a0_3 : Int) (a0_4 : Int) (a0_5 : Bool) (a0_6 : Bool) (a0_7 : Int) (a1 : Int) (a2 : Int) (r1 : Bool) (r2 : Int) (r3 : Int) (r4 : Int) (r5 : Int) (r6 : Bool) (r7 : Bool) (r8 : Int) (r9 : Int) (w : World) (h : impl_Enter.f a0_0 a0_1 a0_2 a0_3 a0_4 a0_5 a0_6 a0_7 a1 a2 = some (r1, r2, r3, r4, r5, r6, r7, r8, r9)) :
    Calls Tryd.prog 13 #[.agg #[.bool a0_0, .int .u32 a0_1, .int .u32 a0_2, .int .u32 a0_3, .int .u32 a0_4, .bool a0_5, .bool a0_6, .int .u32 a0_7], .int .i64 a1, .int .u32 a2] w fun e w' => e = .returned (.tuple #[.agg #[.bool r1, .int .u32 r2, .int .u32 r3, .int .u32 r4, .int .u32 r5, .bool r6, .bool r7, .int .u32 r8], .int .u32 r9]) ∧ Below w.heap.size w w' := by
  have hu26 := Tryd.underlying26
  have hn_ : w.heap.size ≠ w.heap.size + 1 := by omega
  unfold impl_Enter.f at h
  obtain ⟨b, hb, h⟩ := Option.bind_eq_some_iff.mp h
  have HB := Aside0.mk hb
  clear hb
  cases b with
  | false =>
    rw [if_neg (by decide)] at h
    have h' := Option.some.inj h
    clear h
    simp only [Prod.mk.injEq] at h'
    obtain ⟨rfl, rfl, rfl, rfl, rfl, rfl, rfl, rfl, rfl⟩ := h'
    go_enter Tryd.func13, Tryd.ntmps13
    go_wp2_with (go_at_call 21; refine (impl_within.calls a1 1 33 false _ HB.out).mono ?_; rintro e w1 ⟨rfl, ⟨nd, rfl⟩⟩)
    all_goals first | (refine bodyPost_ret (results_ct rfl _ _ (w.heap.size + 1) 26 #[.bool a0_0, .int .u32 a0_1, .int .u32 a0_2, .int .u32 a0_3, .int .u32 a0_4, .bool a0_5, .bool a0_6, .int .u32 a0_7] (0, 0) _ rfl (blk_put (blk_put (blk_put (blk_put (blk_put (blk_put (blk_put (blk_put (blk_drewN at2_1 _) 0 _ rfl) 1 _ rfl) 2 _ rfl) 3 _ rfl) 4 _ rfl) 5 _ rfl) 6 _ rfl) 7 _ rfl) Tryd.underlying26 rfl (by kernel_rfl)) rfl ?_; exact ⟨rfl, (Below.setCell (Below.setCell (Below.setCell (Below.setCell (Below.setCell (Below.setCell (Below.setCell (Below.setCell (((((Fr.refl (fun k => w.heap.size ≤ k) w).alloc _).alloc _).drewN _).below (fun _ h => h) (Nat.le_refl _)) (Nat.le_add_right _ 1) _) (Nat.le_add_right _ 1) _) (Nat.le_add_right _ 1) _) (Nat.le_add_right _ 1) _) (Nat.le_add_right _ 1) _) (Nat.le_add_right _ 1) _) (Nat.le_add_right _ 1) _) (Nat.le_add_right _ 1) _)⟩) | (refine bodyPost_ret (results_ct rfl _ _ (w.heap.size + 1) 26 #[.bool a0_0, .int .u32 a0_1, .int .u32 a0_2, .int .u32 a0_3, .int .u32 a0_4, .bool a0_5, .bool a0_6, .int .u32 a0_7] (0, 0) _ rfl (blk_drew (blk_put (blk_put (blk_put (blk_put (blk_put (blk_put (blk_put (blk_put (blk_drewN at2_1 _) 0 _ rfl) 1 _ rfl) 2 _ rfl) 3 _ rfl) 4 _ rfl) 5 _ rfl) 6 _ rfl) 7 _ rfl)) Tryd.underlying26 rfl (by kernel_rfl)) rfl ?_; exact ⟨rfl, below_drew1 (Below.setCell (Below.setCell (Below.setCell (Below.setCell (Below.setCell (Below.setCell (Below.setCell (Below.setCell (((((Fr.refl (fun k => w.heap.size ≤ k) w).alloc _).alloc _).drewN _).below (fun _ h => h) (Nat.le_refl _)) (Nat.le_add_right _ 1) _) (Nat.le_add_right _ 1) _) (Nat.le_add_right _ 1) _) (Nat.le_add_right _ 1) _) (Nat.le_add_right _ 1) _) (Nat.le_add_right _ 1) _) (Nat.le_add_right _ 1) _) (Nat.le_add_right _ 1) _)⟩)
  | true =>
    rw [if_pos rfl] at h
    by_cases c1 : a1 = 1
    · subst c1
      rw [if_pos rfl] at h
      have h' := Option.some.inj h
      clear h
      rw [show (1 : Int) % 4294967296 = 1 from by decide] at h'
      simp only [Prod.mk.injEq] at h'
      obtain ⟨rfl, rfl, rfl, rfl, rfl, rfl, rfl, rfl, rfl⟩ := h'
      go_enter Tryd.func13, Tryd.ntmps13
      go_wp2_with (go_at_call 21; refine (impl_within.calls 1 1 33 true _ HB.out).mono ?_; rintro e w1 ⟨rfl, ⟨nd, rfl⟩⟩)
      refine gen_world (P := fun X => Code.wp _ _ _ _ X) (S := fun X => EW w X a0_0 a0_1 a2 1 a0_4 false true a0_7) ⟨(blk_put (blk_put (blk_put (blk_put (blk_drewN at2_0 _) 2 _ rfl) 3 _ rfl) 6 _ rfl) 5 _ rfl), (blk_far (blk_far (blk_far (blk_far (blk_drewN at2_1 _) (Nat.succ_ne_self _) _) (Nat.succ_ne_self _) _) (Nat.succ_ne_self _) _) (Nat.succ_ne_self _) _), ((((((((Fr.refl (fun k => w.heap.size ≤ k) w).alloc _).alloc _).drewN _).set (p := ⟨w.heap.size, 2, none⟩) (.inl (Nat.le_refl _)) _).set (p := ⟨w.heap.size, 3, none⟩) (.inl (Nat.le_refl _)) _).set (p := ⟨w.heap.size, 6, none⟩) (.inl (Nat.le_refl _)) _).set (p := ⟨w.heap.size, 5, none⟩) (.inl (Nat.le_refl _)) _).below (fun _ h => h) (Nat.le_refl _)⟩ ?_
      intro W HQ0
      have BK1 := Aside0.mk (blk_drew HQ0.k1)
      have BK2 := Aside0.mk (blk_drew HQ0.k2)
      have HBE := Aside0.mk (below_drew1 HQ0.be)
      clear HQ0
      refine start_ (n := 5) (S := fun w' => w'.cell? ⟨w.heap.size, 0, none⟩ = some (.bool a0_0) ∧ w'.cell? ⟨w.heap.size, 1, none⟩ = some (.int .u32 a0_1) ∧ w'.cell? ⟨w.heap.size, 2, none⟩ = some (.int .u32 a2) ∧ w'.cell? ⟨w.heap.size, 3, none⟩ = some (.int .u32 1) ∧ w'.cell? ⟨w.heap.size, 4, none⟩ = some (.int .u32 a0_4) ∧ w'.cell? ⟨w.heap.size, 5, none⟩ = some (.bool false) ∧ w'.cell? ⟨w.heap.size, 6, none⟩ = some (.bool true) ∧ w'.cell? ⟨w.heap.size, 7, none⟩ = some (.int .u32 a0_7)) (ds := []) #[false, false, false, false, false] (by kernel_rfl) rfl rfl ⟨(blk_cell BK1.out 0).trans rfl, (blk_cell BK1.out 1).trans rfl, (blk_cell BK1.out 2).trans rfl, (blk_cell BK1.out 3).trans rfl, (blk_cell BK1.out 4).trans rfl, (blk_cell BK1.out 5).trans rfl, (blk_cell BK1.out 6).trans rfl, (blk_cell BK1.out 7).trans rfl⟩ (fun hHeld => ?_)
      generalize W.drew = w31 at BK1 BK2 HBE hHeld ⊢
      refine pure_ (i := 1) (N := some 30) (v := ?_) (a' := ?_) #[false, true, false, false, false] rfl rfl (by kernel_rfl) (fun _ _ _ h => h) (Or.inl ⟨by rfl, ?_⟩) ?_ ?_
      rotate_left
      · intro w'
        go_simp
        with_reducible rfl
      rotate_left
      · simp only [Act.put, List.setIfInBounds_toArray, List.set_cons_zero, List.set_cons_succ, i64_w, i32_w]
        rfl
      refine take_ (i := 0) (N := some 29) (v := ?_) (a' := ?_) #[true, true, false, false, false] rfl rfl (by kernel_rfl) (fun _ _ _ h => h) (Or.inl ⟨by rfl, ?_⟩) hHeld ?_ ?_
      rotate_left
      · rintro w' ⟨s0, s1, s2, s3, s4, s5, s6, s7⟩
        go_simp
        with_reducible rfl
      rotate_left
      · simp only [Act.put, List.setIfInBounds_toArray, List.set_cons_zero, List.set_cons_succ, i64_w, i32_w]
        rfl
      refine take_ (i := 2) (N := some 31) (v := ?_) (a' := ?_) #[true, true, true, false, false] rfl rfl (by kernel_rfl) (fun _ _ _ h => h) (Or.inl ⟨by rfl, ?_⟩) hHeld ?_ ?_
      rotate_left
      · rintro w' ⟨s0, s1, s2, s3, s4, s5, s6, s7⟩
        go_simp
        with_reducible rfl
      rotate_left
      · simp only [Act.put, List.setIfInBounds_toArray, List.set_cons_zero, List.set_cons_succ, i64_w, i32_w]
        rfl
      refine one_ (i := 3) (N := none) #[true, true, true, true, false] rfl rfl (by kernel_rfl) (by decide) (fun K hK => ?_)
      have hs_0 : w31.cell? ⟨w.heap.size + 1, 0, none⟩ = some (.bool false) := (blk_cell BK2.out 0).trans rfl
      have hfs_0 := blk_frozen BK2.out 0
      have hs_1 : w31.cell? ⟨w.heap.size + 1, 1, none⟩ = some (.int .u32 0) := (blk_cell BK2.out 1).trans rfl
      have hfs_1 := blk_frozen BK2.out 1
      have hs_2 : w31.cell? ⟨w.heap.size + 1, 2, none⟩ = some (.int .u32 0) := (blk_cell BK2.out 2).trans rfl
      have hfs_2 := blk_frozen BK2.out 2
      have hs_3 : w31.cell? ⟨w.heap.size + 1, 3, none⟩ = some (.int .u32 0) := (blk_cell BK2.out 3).trans rfl
      have hfs_3 := blk_frozen BK2.out 3
      have hs_4 : w31.cell? ⟨w.heap.size + 1, 4, none⟩ = some (.int .u32 0) := (blk_cell BK2.out 4).trans rfl
      have hfs_4 := blk_frozen BK2.out 4
      have hs_5 : w31.cell? ⟨w.heap.size + 1, 5, none⟩ = some (.bool false) := (blk_cell BK2.out 5).trans rfl
      have hfs_5 := blk_frozen BK2.out 5
      have hs_6 : w31.cell? ⟨w.heap.size + 1, 6, none⟩ = some (.bool false) := (blk_cell BK2.out 6).trans rfl
      have hfs_6 := blk_frozen BK2.out 6
      have hs_7 : w31.cell? ⟨w.heap.size + 1, 7, none⟩ = some (.int .u32 0) := (blk_cell BK2.out 7).trans rfl
      have hfs_7 := blk_frozen BK2.out 7
      have hn2_ : w.heap.size + 1 ≠ w.heap.size := by omega
      refine skip_ (w1 := ?_) (by rfl) rfl ?_ ?_
      rotate_left
      · go_simp
        rfl
      refine hK.out _ _ ⟨((cell_far (p := ⟨w.heap.size + 1, _, none⟩) hn_ _).trans ((cell_far (p := ⟨w.heap.size + 1, _, none⟩) hn_ _).trans ((cell_far (p := ⟨w.heap.size + 1, _, none⟩) hn_ _).trans ((cell_far (p := ⟨w.heap.size + 1, _, none⟩) hn_ _).trans ((cell_far (p := ⟨w.heap.size + 1, _, none⟩) hn_ _).trans ((cell_far (p := ⟨w.heap.size + 1, _, none⟩) hn_ _).trans ((cell_far (p := ⟨w.heap.size + 1, _, none⟩) hn_ _).trans ((cell_far (p := ⟨w.heap.size + 1, _, none⟩) hn_ _).trans hHeld.1)))))))), ((cell_far (p := ⟨w.heap.size + 1, _, none⟩) hn_ _).trans ((cell_far (p := ⟨w.heap.size + 1, _, none⟩) hn_ _).trans ((cell_far (p := ⟨w.heap.size + 1, _, none⟩) hn_ _).trans ((cell_far (p := ⟨w.heap.size + 1, _, none⟩) hn_ _).trans ((cell_far (p := ⟨w.heap.size + 1, _, none⟩) hn_ _).trans ((cell_far (p := ⟨w.heap.size + 1, _, none⟩) hn_ _).trans ((cell_far (p := ⟨w.heap.size + 1, _, none⟩) hn_ _).trans ((cell_far (p := ⟨w.heap.size + 1, _, none⟩) hn_ _).trans hHeld.2.1)))))))), ((cell_far (p := ⟨w.heap.size + 1, _, none⟩) hn_ _).trans ((cell_far (p := ⟨w.heap.size + 1, _, none⟩) hn_ _).trans ((cell_far (p := ⟨w.heap.size + 1, _, none⟩) hn_ _).trans ((cell_far (p := ⟨w.heap.size + 1, _, none⟩) hn_ _).trans ((cell_far (p := ⟨w.heap.size + 1, _, none⟩) hn_ _).trans ((cell_far (p := ⟨w.heap.size + 1, _, none⟩) hn_ _).trans ((cell_far (p := ⟨w.heap.size + 1, _, none⟩) hn_ _).trans ((cell_far (p := ⟨w.heap.size + 1, _, none⟩) hn_ _).trans hHeld.2.2.1)))))))), ((cell_far (p := ⟨w.heap.size + 1, _, none⟩) hn_ _).trans ((cell_far (p := ⟨w.heap.size + 1, _, none⟩) hn_ _).trans ((cell_far (p := ⟨w.heap.size + 1, _, none⟩) hn_ _).trans ((cell_far (p := ⟨w.heap.size + 1, _, none⟩) hn_ _).trans ((cell_far (p := ⟨w.heap.size + 1, _, none⟩) hn_ _).trans ((cell_far (p := ⟨w.heap.size + 1, _, none⟩) hn_ _).trans ((cell_far (p := ⟨w.heap.size + 1, _, none⟩) hn_ _).trans ((cell_far (p := ⟨w.heap.size + 1, _, none⟩) hn_ _).trans hHeld.2.2.2.1)))))))), ((cell_far (p := ⟨w.heap.size + 1, _, none⟩) hn_ _).trans ((cell_far (p := ⟨w.heap.size + 1, _, none⟩) hn_ _).trans ((cell_far (p := ⟨w.heap.size + 1, _, none⟩) hn_ _).trans ((cell_far (p := ⟨w.heap.size + 1, _, none⟩) hn_ _).trans ((cell_far (p := ⟨w.heap.size + 1, _, none⟩) hn_ _).trans ((cell_far (p := ⟨w.heap.size + 1, _, none⟩) hn_ _).trans ((cell_far (p := ⟨w.heap.size + 1, _, none⟩) hn_ _).trans ((cell_far (p := ⟨w.heap.size + 1, _, none⟩) hn_ _).trans hHeld.2.2.2.2.1)))))))), ((cell_far (p := ⟨w.heap.size + 1, _, none⟩) hn_ _).trans ((cell_far (p := ⟨w.heap.size + 1, _, none⟩) hn_ _).trans ((cell_far (p := ⟨w.heap.size + 1, _, none⟩) hn_ _).trans ((cell_far (p := ⟨w.heap.size + 1, _, none⟩) hn_ _).trans ((cell_far (p := ⟨w.heap.size + 1, _, none⟩) hn_ _).trans ((cell_far (p := ⟨w.heap.size + 1, _, none⟩) hn_ _).trans ((cell_far (p := ⟨w.heap.size + 1, _, none⟩) hn_ _).trans ((cell_far (p := ⟨w.heap.size + 1, _, none⟩) hn_ _).trans hHeld.2.2.2.2.2.1)))))))), ((cell_far (p := ⟨w.heap.size + 1, _, none⟩) hn_ _).trans ((cell_far (p := ⟨w.heap.size + 1, _, none⟩) hn_ _).trans ((cell_far (p := ⟨w.heap.size + 1, _, none⟩) hn_ _).trans ((cell_far (p := ⟨w.heap.size + 1, _, none⟩) hn_ _).trans ((cell_far (p := ⟨w.heap.size + 1, _, none⟩) hn_ _).trans ((cell_far (p := ⟨w.heap.size + 1, _, none⟩) hn_ _).trans ((cell_far (p := ⟨w.heap.size + 1, _, none⟩) hn_ _).trans ((cell_far (p := ⟨w.heap.size + 1, _, none⟩) hn_ _).trans hHeld.2.2.2.2.2.2.1)))))))), ((cell_far (p := ⟨w.heap.size + 1, _, none⟩) hn_ _).trans ((cell_far (p := ⟨w.heap.size + 1, _, none⟩) hn_ _).trans ((cell_far (p := ⟨w.heap.size + 1, _, none⟩) hn_ _).trans ((cell_far (p := ⟨w.heap.size + 1, _, none⟩) hn_ _).trans ((cell_far (p := ⟨w.heap.size + 1, _, none⟩) hn_ _).trans ((cell_far (p := ⟨w.heap.size + 1, _, none⟩) hn_ _).trans ((cell_far (p := ⟨w.heap.size + 1, _, none⟩) hn_ _).trans ((cell_far (p := ⟨w.heap.size + 1, _, none⟩) hn_ _).trans hHeld.2.2.2.2.2.2.2))))))))⟩ (fun hHeld => ?_)
      clear hK K
      refine pure_ (i := 4) (N := some 7) (v := ?_) (a' := ?_) #[true, true, true, true, true] rfl rfl (by kernel_rfl) (fun _ _ _ h => h) (Or.inl ⟨by rfl, ?_⟩) ?_ ?_
      rotate_left
      · intro w'
        go_simp
        with_reducible rfl
      rotate_left
      · simp only [Act.put, List.setIfInBounds_toArray, List.set_cons_zero, List.set_cons_succ, i64_w, i32_w]
        rfl
      refine done_ (by kernel_rfl) ?_
      try go_wp2
      all_goals first | (refine bodyPost_ret (results_ct rfl _ _ (w.heap.size + 1) 26 #[.bool a0_0, .int .u32 a0_1, .int .u32 a2, .int .u32 1, .int .u32 a0_4, .bool false, .bool true, .int .u32 a0_7] (0, 0) _ rfl (blk_put (blk_put (blk_put (blk_put (blk_put (blk_put (blk_put (blk_put BK2.out 0 _ rfl) 1 _ rfl) 2 _ rfl) 3 _ rfl) 4 _ rfl) 5 _ rfl) 6 _ rfl) 7 _ rfl) Tryd.underlying26 rfl (by kernel_rfl)) rfl ?_; exact ⟨rfl, (Below.setCell (Below.setCell (Below.setCell (Below.setCell (Below.setCell (Below.setCell (Below.setCell (Below.setCell HBE.out (Nat.le_add_right _ 1) _) (Nat.le_add_right _ 1) _) (Nat.le_add_right _ 1) _) (Nat.le_add_right _ 1) _) (Nat.le_add_right _ 1) _) (Nat.le_add_right _ 1) _) (Nat.le_add_right _ 1) _) (Nat.le_add_right _ 1) _)⟩) | (refine bodyPost_ret (results_ct rfl _ _ (w.heap.size + 1) 26 #[.bool a0_0, .int .u32 a0_1, .int .u32 a2, .int .u32 1, .int .u32 a0_4, .bool false, .bool true, .int .u32 a0_7] (0, 0) _ rfl (blk_drew (blk_put (blk_put (blk_put (blk_put (blk_put (blk_put (blk_put (blk_put BK2.out 0 _ rfl) 1 _ rfl) 2 _ rfl) 3 _ rfl) 4 _ rfl) 5 _ rfl) 6 _ rfl) 7 _ rfl)) Tryd.underlying26 rfl (by kernel_rfl)) rfl ?_; exact ⟨rfl, below_drew1 (Below.setCell (Below.setCell (Below.setCell (Below.setCell (Below.setCell (Below.setCell (Below.setCell (Below.setCell HBE.out (Nat.le_add_right _ 1) _) (Nat.le_add_right _ 1) _) (Nat.le_add_right _ 1) _) (Nat.le_add_right _ 1) _) (Nat.le_add_right _ 1) _) (Nat.le_add_right _ 1) _) (Nat.le_add_right _ 1) _) (Nat.le_add_right _ 1) _)⟩)
    · rw [if_neg c1] at h
      have c1b : (a1 == 1) = false := beq_eq_false_iff_ne.mpr c1
      clear c1
      obtain ⟨ji21, hji21⟩ : ∃ j_ : Int, (wrap64 (a1 - 2)) = j_ := ⟨_, rfl⟩
      rw [hji21] at h
      have hji21w : (IntKind.i64.wrap (a1 - 2)) = ji21 := (i64_w _).trans hji21
      by_cases c3 : 0 ≤ ji21
      · rw [if_pos c3] at h
        have c3b0 := eq_true c3
        have c3b1 : decide (0 ≤ (ji21)) = true := decide_eq_true c3
        clear c3
        obtain ⟨ji23, hji23⟩ : ∃ j_ : Int, (shl .u32 1 (ji21)) = j_ := ⟨_, rfl⟩
        rw [hji23] at h
        have hji23_ : (IntKind.u32.wrap (1 * 2 ^ min (ji21).toNat 32)) = ji23 := hji23
        have hji23z : (ji21) ≤ 32 → (IntKind.u32.wrap (1 * 2 ^ (ji21).toNat)) = ji23 := shl_small hji23
        have hji23u : (IntKind.u32.wrap (2 ^ min (ji21).toNat 32)) = ji23 := by have h_ := hji23_; rw [Int.one_mul] at h_; exact h_
        have hji23v : (ji21) ≤ 32 → (IntKind.u32.wrap (2 ^ (ji21).toNat)) = ji23 := fun hle_ => by have h_ := hji23z hle_; rw [Int.one_mul] at h_; exact h_
        have h' := Option.some.inj h
        clear h
        simp only [Prod.mk.injEq] at h'
        obtain ⟨rfl, rfl, rfl, rfl, rfl, rfl, rfl, rfl, rfl⟩ := h'
        go_enter Tryd.func13, Tryd.ntmps13
        go_wp2_with (go_at_call 21; refine (impl_within.calls a1 1 33 true _ HB.out).mono ?_; rintro e w1 ⟨rfl, ⟨nd, rfl⟩⟩)
        refine gen_world (P := fun X => Code.wp _ _ _ _ X) (S := fun X => EW w X a0_0 a0_1 a2 (a1 % 4294967296) a0_4 a0_5 true a0_7) ⟨(blk_put (blk_put (blk_put (blk_drewN at2_0 _) 2 _ rfl) 3 _ rfl) 6 _ rfl), (blk_far (blk_far (blk_far (blk_drewN at2_1 _) (Nat.succ_ne_self _) _) (Nat.succ_ne_self _) _) (Nat.succ_ne_self _) _), (((((((Fr.refl (fun k => w.heap.size ≤ k) w).alloc _).alloc _).drewN _).set (p := ⟨w.heap.size, 2, none⟩) (.inl (Nat.le_refl _)) _).set (p := ⟨w.heap.size, 3, none⟩) (.inl (Nat.le_refl _)) _).set (p := ⟨w.heap.size, 6, none⟩) (.inl (Nat.le_refl _)) _).below (fun _ h => h) (Nat.le_refl _)⟩ ?_
        intro W HQ0
        have BK1 := Aside0.mk (blk_drew HQ0.k1)
        have BK2 := Aside0.mk (blk_drew HQ0.k2)
        have HBE := Aside0.mk (below_drew1 HQ0.be)
        clear HQ0
        have hn2_ : w.heap.size + 1 ≠ w.heap.size := by omega
        refine start_ (n := 8) (S := fun w' => w'.cell? ⟨w.heap.size, 0, none⟩ = some (.bool a0_0) ∧ w'.cell? ⟨w.heap.size, 1, none⟩ = some (.int .u32 a0_1) ∧ w'.cell? ⟨w.heap.size, 2, none⟩ = some (.int .u32 a2) ∧ w'.cell? ⟨w.heap.size, 3, none⟩ = some (.int .u32 ((a1) % 4294967296)) ∧ w'.cell? ⟨w.heap.size, 4, none⟩ = some (.int .u32 a0_4) ∧ w'.cell? ⟨w.heap.size, 5, none⟩ = some (.bool a0_5) ∧ w'.cell? ⟨w.heap.size, 6, none⟩ = some (.bool true) ∧ w'.cell? ⟨w.heap.size, 7, none⟩ = some (.int .u32 a0_7)) (ds := [7]) #[false, false, false, false, false, false, false, false] (by kernel_rfl) rfl rfl ⟨(blk_cell BK1.out 0).trans rfl, (blk_cell BK1.out 1).trans rfl, (blk_cell BK1.out 2).trans rfl, (blk_cell BK1.out 3).trans rfl, (blk_cell BK1.out 4).trans rfl, (blk_cell BK1.out 5).trans rfl, (blk_cell BK1.out 6).trans rfl, (blk_cell BK1.out 7).trans rfl⟩ (fun hHeld => ?_); refine with_tabW impl_Enter.tab6 impl_Enter.bits6 (fun HT_ HW_ => ?_)
        generalize W.drew = w29 at BK1 BK2 HBE hHeld ⊢
        refine pure_ (i := 0) (N := some 22) (v := ?_) (a' := ?_) #[true, false, false, false, false, false, false, false] rfl rfl (any_of HT_.out (by kernel_rfl)) (fun _ _ _ h => h) (Or.inl ⟨by rfl, ?_⟩) ?_ ?_
        rotate_left
        ·intro w'
         go_simp
         with_reducible rfl
        rotate_left
        ·simp only [Act.put, List.setIfInBounds_toArray, List.set_cons_zero, List.set_cons_succ, i64_w, i32_w]
         rfl
        refine pure_ (i := 2) (N := some 24) (v := ?_) (a' := ?_) #[true, false, true, false, false, false, false, false] rfl rfl (any_of HT_.out (by kernel_rfl)) (fun _ _ _ h => h) (Or.inl ⟨by rfl, ?_⟩) ?_ ?_
        rotate_left
        ·intro w'
         go_simp
         with_reducible rfl
        rotate_left
        ·simp only [Act.put, List.setIfInBounds_toArray, List.set_cons_zero, List.set_cons_succ, i64_w, i32_w]
         rfl
        refine pure_ (i := 3) (N := some 25) (v := ?_) (a' := ?_) #[true, false, true, true, false, false, false, false] rfl rfl (any_of HT_.out (by kernel_rfl)) (fun _ _ _ h => h) (Or.inl ⟨by rfl, ?_⟩) ?_ ?_
        rotate_left
        ·intro w'
         go_simp
         with_reducible rfl
        rotate_left
        ·simp only [Act.put, List.setIfInBounds_toArray, List.set_cons_zero, List.set_cons_succ, i64_w, i32_w]
         rfl
        refine pure_ (i := 4) (N := some 26) (v := ?_) (a' := ?_) #[true, false, true, true, true, false, false, false] rfl rfl (any_of HT_.out (by kernel_rfl)) (fun _ _ _ h => h) (Or.inl ⟨by rfl, ?_⟩) ?_ ?_
        rotate_left
        ·intro w'
         go_simp
         with_reducible rfl
        rotate_left
        ·simp only [Act.put, List.setIfInBounds_toArray, List.set_cons_zero, List.set_cons_succ, i64_w, i32_w]
         rfl
        refine take_ (i := 1) (N := some 23) (v := ?_) (a' := ?_) #[true, true, true, true, true, false, false, false] rfl rfl (take_ofW HT_.out HW_.out (by kernel_rfl)) (fun _ _ _ h => h) (Or.inl ⟨by rfl, ?_⟩) hHeld ?_ ?_
        rotate_left
        ·rintro w' ⟨s0, s1, s2, s3, s4, s5, s6, s7⟩
         go_simp
         with_reducible rfl
        rotate_left
        ·simp only [Act.put, List.setIfInBounds_toArray, List.set_cons_zero, List.set_cons_succ, i64_w, i32_w]
         rfl
        refine pure_ (i := 5) (N := some 27) (v := ?_) (a' := ?_) #[true, true, true, true, true, true, false, false] rfl rfl (any_of HT_.out (by kernel_rfl)) (fun _ _ _ h => h) (Or.inl ⟨by rfl, ?_⟩) ?_ ?_
        rotate_left
        ·intro w'
         go_simp
         with_reducible rfl
        rotate_left
        ·simp only [Act.put, List.setIfInBounds_toArray, List.set_cons_zero, List.set_cons_succ, i64_w, i32_w]
         rfl
        refine pure_ (i := 6) (N := some 28) (v := ?_) (a' := ?_) #[true, true, true, true, true, true, true, false] rfl rfl (any_of HT_.out (by kernel_rfl)) (fun _ _ _ h => h) (Or.inl ⟨by rfl, ?_⟩) ?_ ?_
        rotate_left
        ·intro w'
         go_simp
         with_reducible rfl
        rotate_left
        ·simp only [Act.put, List.setIfInBounds_toArray, List.set_cons_zero, List.set_cons_succ, i64_w, i32_w]
         rfl
        refine last_ (i := 7) (N := none) #[true, true, true, true, true, true, true, true] rfl rfl (one_of HT_.out (by kernel_rfl)) (by decide) (fun K hK => ?_)
        have hs30 : w29.cell? ⟨w.heap.size, 7, none⟩ = some (.int .u32 a0_7) := (blk_cell BK1.out 7).trans rfl
        have hfs30 := blk_frozen BK1.out 7
        have hns30_1 := hn2_
        have hms30_1 := hn_
        refine skip_ (w1 := ?_) (by rfl) rfl ?_ ?_
        rotate_left
        ·go_simp
         rfl
        refine hK.out _ _ ?_
        clear hK K
        refine done_ (done_of HT_.out (by kernel_rfl)) ?_
        try go_wp2
        refine gen_world (P := fun X => Code.wp _ _ _ _ X) (S := fun X => EW w X a0_0 a0_1 a2 (a1 % 4294967296) a0_4 a0_5 true (Go.bits .andNot .u32 a0_7 ji23)) ⟨blk_put BK1.out 7 _ rfl, blk_far BK2.out hn2_ _, Below.setCell HBE.out (Nat.le_refl _) _⟩ ?_
        clear BK1 BK2 HBE hHeld W
        intro W HQ0
        have BK1 := Aside0.mk (blk_drew HQ0.k1)
        have BK2 := Aside0.mk (blk_drew HQ0.k2)
        have HBE := Aside0.mk (below_drew1 HQ0.be)
        clear HQ0
        refine start_ (n := 5) (S := fun w' => w'.cell? ⟨w.heap.size, 0, none⟩ = some (.bool a0_0) ∧ w'.cell? ⟨w.heap.size, 1, none⟩ = some (.int .u32 a0_1) ∧ w'.cell? ⟨w.heap.size, 2, none⟩ = some (.int .u32 a2) ∧ w'.cell? ⟨w.heap.size, 3, none⟩ = some (.int .u32 (a1 % 4294967296)) ∧ w'.cell? ⟨w.heap.size, 4, none⟩ = some (.int .u32 a0_4) ∧ w'.cell? ⟨w.heap.size, 5, none⟩ = some (.bool a0_5) ∧ w'.cell? ⟨w.heap.size, 6, none⟩ = some (.bool true) ∧ w'.cell? ⟨w.heap.size, 7, none⟩ = some (.int .u32 (Go.bits .andNot .u32 a0_7 ji23))) (ds := []) #[false, false, false, false, false] (by kernel_rfl) rfl rfl ⟨(blk_cell BK1.out 0).trans rfl, (blk_cell BK1.out 1).trans rfl, (blk_cell BK1.out 2).trans rfl, (blk_cell BK1.out 3).trans rfl, (blk_cell BK1.out 4).trans rfl, (blk_cell BK1.out 5).trans rfl, (blk_cell BK1.out 6).trans rfl, (blk_cell BK1.out 7).trans rfl⟩ (fun hHeld => ?_)
        generalize W.drew = w31 at BK1 BK2 HBE hHeld ⊢
        refine pure_ (i := 1) (N := some 30) (v := ?_) (a' := ?_) #[false, true, false, false, false] rfl rfl (by kernel_rfl) (fun _ _ _ h => h) (Or.inl ⟨by rfl, ?_⟩) ?_ ?_
        rotate_left
        · intro w'
          go_simp
          with_reducible rfl
        rotate_left
        · simp only [Act.put, List.setIfInBounds_toArray, List.set_cons_zero, List.set_cons_succ, i64_w, i32_w]
          rfl
        refine take_ (i := 0) (N := some 29) (v := ?_) (a' := ?_) #[true, true, false, false, false] rfl rfl (by kernel_rfl) (fun _ _ _ h => h) (Or.inl ⟨by rfl, ?_⟩) hHeld ?_ ?_
        rotate_left
        · rintro w' ⟨s0, s1, s2, s3, s4, s5, s6, s7⟩
          go_simp
          with_reducible rfl
        rotate_left
        · simp only [Act.put, List.setIfInBounds_toArray, List.set_cons_zero, List.set_cons_succ, i64_w, i32_w]
          rfl
        refine take_ (i := 2) (N := some 31) (v := ?_) (a' := ?_) #[true, true, true, false, false] rfl rfl (by kernel_rfl) (fun _ _ _ h => h) (Or.inl ⟨by rfl, ?_⟩) hHeld ?_ ?_
        rotate_left
        · rintro w' ⟨s0, s1, s2, s3, s4, s5, s6, s7⟩
          go_simp
          with_reducible rfl
        rotate_left
        · simp only [Act.put, List.setIfInBounds_toArray, List.set_cons_zero, List.set_cons_succ, i64_w, i32_w]
          rfl
        refine one_ (i := 3) (N := none) #[true, true, true, true, false] rfl rfl (by kernel_rfl) (by decide) (fun K hK => ?_)
        have hs_0 : w31.cell? ⟨w.heap.size + 1, 0, none⟩ = some (.bool false) := (blk_cell BK2.out 0).trans rfl
        have hfs_0 := blk_frozen BK2.out 0
        have hs_1 : w31.cell? ⟨w.heap.size + 1, 1, none⟩ = some (.int .u32 0) := (blk_cell BK2.out 1).trans rfl
        have hfs_1 := blk_frozen BK2.out 1
        have hs_2 : w31.cell? ⟨w.heap.size + 1, 2, none⟩ = some (.int .u32 0) := (blk_cell BK2.out 2).trans rfl
        have hfs_2 := blk_frozen BK2.out 2
        have hs_3 : w31.cell? ⟨w.heap.size + 1, 3, none⟩ = some (.int .u32 0) := (blk_cell BK2.out 3).trans rfl
        have hfs_3 := blk_frozen BK2.out 3
        have hs_4 : w31.cell? ⟨w.heap.size + 1, 4, none⟩ = some (.int .u32 0) := (blk_cell BK2.out 4).trans rfl
        have hfs_4 := blk_frozen BK2.out 4
        have hs_5 : w31.cell? ⟨w.heap.size + 1, 5, none⟩ = some (.bool false) := (blk_cell BK2.out 5).trans rfl
        have hfs_5 := blk_frozen BK2.out 5
        have hs_6 : w31.cell? ⟨w.heap.size + 1, 6, none⟩ = some (.bool false) := (blk_cell BK2.out 6).trans rfl
        have hfs_6 := blk_frozen BK2.out 6
        have hs_7 : w31.cell? ⟨w.heap.size + 1, 7, none⟩ = some (.int .u32 0) := (blk_cell BK2.out 7).trans rfl
        have hfs_7 := blk_frozen BK2.out 7
        have hn2_ : w.heap.size + 1 ≠ w.heap.size := by omega
        refine skip_ (w1 := ?_) (by rfl) rfl ?_ ?_
        rotate_left
        · go_simp
          rfl
        refine hK.out _ _ ⟨((cell_far (p := ⟨w.heap.size + 1, _, none⟩) hn_ _).trans ((cell_far (p := ⟨w.heap.size + 1, _, none⟩) hn_ _).trans ((cell_far (p := ⟨w.heap.size + 1, _, none⟩) hn_ _).trans ((cell_far (p := ⟨w.heap.size + 1, _, none⟩) hn_ _).trans ((cell_far (p := ⟨w.heap.size + 1, _, none⟩) hn_ _).trans ((cell_far (p := ⟨w.heap.size + 1, _, none⟩) hn_ _).trans ((cell_far (p := ⟨w.heap.size + 1, _, none⟩) hn_ _).trans ((cell_far (p := ⟨w.heap.size + 1, _, none⟩) hn_ _).trans hHeld.1)))))))), ((cell_far (p := ⟨w.heap.size + 1, _, none⟩) hn_ _).trans ((cell_far (p := ⟨w.heap.size + 1, _, none⟩) hn_ _).trans ((cell_far (p := ⟨w.heap.size + 1, _, none⟩) hn_ _).trans ((cell_far (p := ⟨w.heap.size + 1, _, none⟩) hn_ _).trans ((cell_far (p := ⟨w.heap.size + 1, _, none⟩) hn_ _).trans ((cell_far (p := ⟨w.heap.size + 1, _, none⟩) hn_ _).trans ((cell_far (p := ⟨w.heap.size + 1, _, none⟩) hn_ _).trans ((cell_far (p := ⟨w.heap.size + 1, _, none⟩) hn_ _).trans hHeld.2.1)))))))), ((cell_far (p := ⟨w.heap.size + 1, _, none⟩) hn_ _).trans ((cell_far (p := ⟨w.heap.size + 1, _, none⟩) hn_ _).trans ((cell_far (p := ⟨w.heap.size + 1, _, none⟩) hn_ _).trans ((cell_far (p := ⟨w.heap.size + 1, _, none⟩) hn_ _).trans ((cell_far (p := ⟨w.heap.size + 1, _, none⟩) hn_ _).trans ((cell_far (p := ⟨w.heap.size + 1, _, none⟩) hn_ _).trans ((cell_far (p := ⟨w.heap.size + 1, _, none⟩) hn_ _).trans ((cell_far (p := ⟨w.heap.size + 1, _, none⟩) hn_ _).trans hHeld.2.2.1)))))))), ((cell_far (p := ⟨w.heap.size + 1, _, none⟩) hn_ _).trans ((cell_far (p := ⟨w.heap.size + 1, _, none⟩) hn_ _).trans ((cell_far (p := ⟨w.heap.size + 1, _, none⟩) hn_ _).trans ((cell_far (p := ⟨w.heap.size + 1, _, none⟩) hn_ _).trans ((cell_far (p := ⟨w.heap.size + 1, _, none⟩) hn_ _).trans ((cell_far (p := ⟨w.heap.size + 1, _, none⟩) hn_ _).trans ((cell_far (p := ⟨w.heap.size + 1, _, none⟩) hn_ _).trans ((cell_far (p := ⟨w.heap.size + 1, _, none⟩) hn_ _).trans hHeld.2.2.2.1)))))))), ((cell_far (p := ⟨w.heap.size + 1, _, none⟩) hn_ _).trans ((cell_far (p := ⟨w.heap.size + 1, _, none⟩) hn_ _).trans ((cell_far (p := ⟨w.heap.size + 1, _, none⟩) hn_ _).trans ((cell_far (p := ⟨w.heap.size + 1, _, none⟩) hn_ _).trans ((cell_far (p := ⟨w.heap.size + 1, _, none⟩) hn_ _).trans ((cell_far (p := ⟨w.heap.size + 1, _, none⟩) hn_ _).trans ((cell_far (p := ⟨w.heap.size + 1, _, none⟩) hn_ _).trans ((cell_far (p := ⟨w.heap.size + 1, _, none⟩) hn_ _).trans hHeld.2.2.2.2.1)))))))), ((cell_far (p := ⟨w.heap.size + 1, _, none⟩) hn_ _).trans ((cell_far (p := ⟨w.heap.size + 1, _, none⟩) hn_ _).trans ((cell_far (p := ⟨w.heap.size + 1, _, none⟩) hn_ _).trans ((cell_far (p := ⟨w.heap.size + 1, _, none⟩) hn_ _).trans ((cell_far (p := ⟨w.heap.size + 1, _, none⟩) hn_ _).trans ((cell_far (p := ⟨w.heap.size + 1, _, none⟩) hn_ _).trans ((cell_far (p := ⟨w.heap.size + 1, _, none⟩) hn_ _).trans ((cell_far (p := ⟨w.heap.size + 1, _, none⟩) hn_ _).trans hHeld.2.2.2.2.2.1)))))))), ((cell_far (p := ⟨w.heap.size + 1, _, none⟩) hn_ _).trans ((cell_far (p := ⟨w.heap.size + 1, _, none⟩) hn_ _).trans ((cell_far (p := ⟨w.heap.size + 1, _, none⟩) hn_ _).trans ((cell_far (p := ⟨w.heap.size + 1, _, none⟩) hn_ _).trans ((cell_far (p := ⟨w.heap.size + 1, _, none⟩) hn_ _).trans ((cell_far (p := ⟨w.heap.size + 1, _, none⟩) hn_ _).trans ((cell_far (p := ⟨w.heap.size + 1, _, none⟩) hn_ _).trans ((cell_far (p := ⟨w.heap.size + 1, _, none⟩) hn_ _).trans hHeld.2.2.2.2.2.2.1)))))))), ((cell_far (p := ⟨w.heap.size + 1, _, none⟩) hn_ _).trans ((cell_far (p := ⟨w.heap.size + 1, _, none⟩) hn_ _).trans ((cell_far (p := ⟨w.heap.size + 1, _, none⟩) hn_ _).trans ((cell_far (p := ⟨w.heap.size + 1, _, none⟩) hn_ _).trans ((cell_far (p := ⟨w.heap.size + 1, _, none⟩) hn_ _).trans ((cell_far (p := ⟨w.heap.size + 1, _, none⟩) hn_ _).trans ((cell_far (p := ⟨w.heap.size + 1, _, none⟩) hn_ _).trans ((cell_far (p := ⟨w.heap.size + 1, _, none⟩) hn_ _).trans hHeld.2.2.2.2.2.2.2))))))))⟩ (fun hHeld => ?_)
        clear hK K
        refine pure_ (i := 4) (N := some 7) (v := ?_) (a' := ?_) #[true, true, true, true, true] rfl rfl (by kernel_rfl) (fun _ _ _ h => h) (Or.inl ⟨by rfl, ?_⟩) ?_ ?_
        rotate_left
        · intro w'
          go_simp
          with_reducible rfl
        rotate_left
        · simp only [Act.put, List.setIfInBounds_toArray, List.set_cons_zero, List.set_cons_succ, i64_w, i32_w]
          rfl
        refine done_ (by kernel_rfl) ?_
        try go_wp2
        all_goals first | (refine bodyPost_ret (results_ct rfl _ _ (w.heap.size + 1) 26 #[.bool a0_0, .int .u32 a0_1, .int .u32 a2, .int .u32 (a1 % 4294967296), .int .u32 a0_4, .bool a0_5, .bool true, .int .u32 (Go.bits .andNot .u32 a0_7 ji23)] (0, 0) _ rfl (blk_put (blk_put (blk_put (blk_put (blk_put (blk_put (blk_put (blk_put BK2.out 0 _ rfl) 1 _ rfl) 2 _ rfl) 3 _ rfl) 4 _ rfl) 5 _ rfl) 6 _ rfl) 7 _ rfl) Tryd.underlying26 rfl (by kernel_rfl)) rfl ?_; exact ⟨rfl, (Below.setCell (Below.setCell (Below.setCell (Below.setCell (Below.setCell (Below.setCell (Below.setCell (Below.setCell HBE.out (Nat.le_add_right _ 1) _) (Nat.le_add_right _ 1) _) (Nat.le_add_right _ 1) _) (Nat.le_add_right _ 1) _) (Nat.le_add_right _ 1) _) (Nat.le_add_right _ 1) _) (Nat.le_add_right _ 1) _) (Nat.le_add_right _ 1) _)⟩) | (refine bodyPost_ret (results_ct rfl _ _ (w.heap.size + 1) 26 #[.bool a0_0, .int .u32 a0_1, .int .u32 a2, .int .u32 (a1 % 4294967296), .int .u32 a0_4, .bool a0_5, .bool true, .int .u32 (Go.bits .andNot .u32 a0_7 ji23)] (0, 0) _ rfl (blk_drew (blk_put (blk_put (blk_put (blk_put (blk_put (blk_put (blk_put (blk_put BK2.out 0 _ rfl) 1 _ rfl) 2 _ rfl) 3 _ rfl) 4 _ rfl) 5 _ rfl) 6 _ rfl) 7 _ rfl)) Tryd.underlying26 rfl (by kernel_rfl)) rfl ?_; exact ⟨rfl, below_drew1 (Below.setCell (Below.setCell (Below.setCell (Below.setCell (Below.setCell (Below.setCell (Below.setCell (Below.setCell HBE.out (Nat.le_add_right _ 1) _) (Nat.le_add_right _ 1) _) (Nat.le_add_right _ 1) _) (Nat.le_add_right _ 1) _) (Nat.le_add_right _ 1) _) (Nat.le_add_right _ 1) _) (Nat.le_add_right _ 1) _) (Nat.le_add_right _ 1) _)⟩)
      · rw [if_neg c3] at h
        cases h
end Go.Proofs.YtnegmikmcccaeaaDoor.GT
