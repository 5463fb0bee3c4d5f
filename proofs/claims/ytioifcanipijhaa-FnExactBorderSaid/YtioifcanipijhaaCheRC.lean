/- What border comes to where both rows begin with their blocks, walked by hand. -/
import Derived.Test.YtioifcanipijhaaGCx0
import Derived.Test.YtioifcanipijhaaChdC
import Derived.Deep.RegionWith
namespace Go.Proofs.Ytioifcanipijhaa.GC
open Go.RowKit Go.Proofs.YtioifcanipijhaaW.PrintWords Go.Proofs.YtioifcanipijhaaW.PrintLast Go.Proofs.YtioifcanipijhaaW.PrintMore Go.Proofs.Ytioifcanipijhaa.Q Go.Proofs.Ytioifcanipijhaa.Hnd
set_option linter.unusedVariables false
set_option linter.unusedSimpArgs false
def BordPostR (g1 g2 : Nat) (v2 : Value) (xs : List Int) (r : Int × List Int) (base : Nat) (W : World) (e : Ending) (w' : World) : Prop :=
  ∃ vc v2' : Value, e = .returned vc ∧ Kd.R (Kd.int .u32) 46 w' W.heap.size (fun k => v2'.ownBlock ≠ some k) vc xs ∧ w'.heap[g1]? = some (.cells #[.int .i64 r.1, .slice none 0 0] 39 (0, 0)) ∧ w'.heap[g2]? = some (.cells #[v2'] 31 (0, 0)) ∧
    Kd.R (Kd.int .u32) 46 w' base (fun k => k ≠ g1 ∧ k ≠ g2) v2' r.2 ∧ Fr (fun k => k = g1 ∨ k = g2) W w' ∧ (∀ k, v2'.ownBlock = some k → v2.ownBlock = some k ∨ W.heap.size ≤ k)
set_option maxHeartbeats 8000000 in
set_option maxRecDepth 100000 in
theorem bord_callsR (g1 g2 : Nat) (h k0 fr tt dp : Int) (v1 v2 : Value) (xs ys : List Int) (base : Nat) (W : World) (hb1 : W.heap[g1]? = some (.cells #[.int .i64 h, v1] 39 (0, 0))) (hv1 : Kd.R (Kd.int .u32) 46 W base (fun k => k ≠ g1 ∧ k ≠ g2) v1 xs)
    (hb2 : W.heap[g2]? = some (.cells #[v2] 31 (0, 0))) (hv2 : Kd.R (Kd.int .u32) 46 W base (fun k => k ≠ g1 ∧ k ≠ g2) v2 ys) (hg : g1 ≠ g2) (hbase : base ≤ W.heap.size) (l1 : xs.length < 2000000) (l2 : ys.length < 2000000) :
    Calls Try.prog 68 #[.agg #[.int .i64 k0, .int .i64 fr, .int .i64 tt, .int .i64 dp], .pointer (some ⟨g1, 0, none⟩), .pointer (some ⟨g2, 0, none⟩)] W (BordPostR g1 g2 v2 xs (bordF k0 h xs ys) base W) := by
  have lt1 := blk_lt hb1
  have lt2 := blk_lt hb2
  obtain ⟨A1, c1, rfl⟩ := Kd.R_slice hv1
  obtain ⟨A2, c2, rfl⟩ := Kd.R_slice hv2
  have hl2 := (Kd.R_reads' hv2).2.1
  have n1 : g1 ≠ W.heap.size := by omega
  have n2 : g2 ≠ W.heap.size := by omega
  have p0 := kc hb1 0 rfl
  have p1 := kc hb1 1 rfl
  have q0 := kc hb2 0 rfl
  have f0 := blk_frozen hb1 0
  have f1 := blk_frozen hb1 1
  have f2 := blk_frozen hb2 0
  have hlc1 := (Kd.R_reads' hv1).2.1
  have C1 := Aside0.mk (Kd.R_reads' hv1).2.2
  have C2 := Aside0.mk (Kd.R_reads' hv2).2.2
  have B1 := Aside0.mk hb1
  have B2 := Aside0.mk hb2
  have V1 := Aside0.mk hv1
  have V2 := Aside0.mk hv2
  have L1 := Aside0.mk l1
  have L2 := Aside0.mk l2
  have HBS := Aside0.mk hbase
  have HG := Aside0.mk hg
  have hg' : g2 ≠ g1 := Ne.symm hg
  have hcl : slices_Clone_uint32_uint32.f xs = some xs := by unfold slices_Clone_uint32_uint32.f; rw [if_pos (by have := L1.out; omega)]
  have HCL := Aside0.mk hcl
  clear hb1 hb2 hv1 hv2 l1 l2 hbase hcl
  by_cases c0 : k0 = 1
  · subst c0
    have e1 : bordF 1 h xs ys = ((ys.length : Int) + (xs.length : Int), ys ++ xs) := rfl
    rw [e1]
    go_enter Try.func68, Try.ntmps68
    go_wp2_with (go_at_call 64; refine (slices_Clone_uint32_uint32.calls A1 c1 xs xs _ (cq C1.out) hlc1 HCL.out).mono ?_; rintro e w1 ⟨v, rfl, ho, hb⟩; obtain ⟨Ac, cc, rfl⟩ := Kd.R_slice ho; have HC := Aside0.mk (Kd.R_mono (R_in ho) (fun k hk => (by have := hk.2.1; simp at this; exact ⟨this, hk.2.2⟩ : W.heap.size < k ∧ k < w1.heap.size))); have K3 := Aside0.mk (blk_below at1_0 hb); have D1 := Aside0.mk (blk_below (bq B1.out) hb); have D2 := Aside0.mk (blk_below (bq B2.out) hb); have F1 := Aside0.mk (Fr.step ((Fr.refl (fun _ => False) W).alloc _) hb); have hs1 : W.heap.size < w1.heap.size := by have := hb.size; simp at this; omega
                 have n3 : g1 ≠ w1.heap.size := by omega
                 have n4 : g2 ≠ w1.heap.size := by omega
                 have n5 : g1 < w1.heap.size := by omega
                 have n6 : g2 < w1.heap.size := by omega
                 have n7 : W.heap.size ≠ w1.heap.size := by omega
                 clear hb ho p0 p1 q0 f0 f1 f2; have p0 := kc D1.out 0 rfl; have p1 := kc D1.out 1 rfl; have q0 := kc D2.out 0 rfl; have f0 := blk_frozen D1.out 0; have f1 := blk_frozen D1.out 1; have f2 := blk_frozen D2.out 0; have z0 := kc K3.out 0 rfl)
    have E1 := Aside0.mk (Kd.C_below C1.out (F1.out.below (fun _ h => h.elim) (Nat.le_refl _)))
    have E2 := Aside0.mk (Kd.C_below C2.out (F1.out.below (fun _ h => h.elim) (Nat.le_refl _)))
    go_region_with (go_at_call 87; refine (concat_calls w1.heap.size A2 A1 c2 c1 ys xs _ (bq (blk_new w1 (.cells #[.slice A2 ys.length c2, .slice A1 xs.length c1] 24 (0, 0)))) (cq E2.out) (cq E1.out) L2.out L1.out).mono ?_; rintro e w2 ⟨v, rfl, ho, hb⟩; obtain ⟨Av, cv, rfl⟩ := Kd.R_slice ho; have HV := Aside0.mk (Kd.R_mono (R_in ho) (fun k hk => (by have := hk.2.1; simp at this; exact ⟨this, hk.2.2⟩ : w1.heap.size < k ∧ k < w2.heap.size))); have F12 := Aside0.mk (Fr.step (((Fr.refl (fun _ => False) w1).alloc _).drew) hb); have G1 := Aside0.mk (blk_below (bq D1.out) hb); have G2 := Aside0.mk (blk_below (bq D2.out) hb); have F2 := Aside0.mk (Fr.step ((F1.out.alloc _).drew) hb); have hs2 := hb.size; clear hb ho p0 p1 q0 f0 f1 f2; have p0 := kc G1.out 0 rfl; have p1 := kc G1.out 1 rfl; have q0 := kc G2.out 0 rfl; have f0 := blk_frozen G1.out 0; have f1 := blk_frozen G1.out 1; have f2 := blk_frozen G2.out 0)
    all_goals
      go_wp2
      go_ret
      have hs12 := F12.out.size
      have FU : Fr (fun k => k = g1 ∨ k = g2) w2 (((w2.setCell ⟨g2, 0, none⟩ (.slice Av (ys.length + xs.length) cv)).setCell ⟨g1, 0, none⟩ (.int .i64 ((ys.length : Int) + (xs.length : Int)))).setCell ⟨g1, 1, none⟩ (.slice none 0 0)) :=
        (((Fr.refl _ w2).set (.inl (.inr rfl)) _).set (.inl (.inl rfl)) _).set (.inl (.inl rfl)) _
      have GQ := HV.out
      rw [show (ys ++ xs).length = ys.length + xs.length from by simp] at GQ
      refine ⟨.slice Ac xs.length cc, .slice Av (ys.length + xs.length) cv, rfl, ?_, blk_put (blk_put (blk_far G1.out hg _) 0 _ rfl) 1 _ rfl, blk_far (blk_far (blk_put G2.out 0 _ rfl) hg' _) hg' _, ?_, ?_, ?_⟩
      · refine Kd.R_lower (Kd.R_mono (FU.R (F12.out.R HC.out (fun _ _ h => h)) (fun k hk hs => by rcases hs with e | e <;> omega)) (fun k hk e => ?_)) (by simp)
        have := (GQ.1 k e).1
        omega
      · refine Kd.R_lower (Kd.R_mono (FU.R (GQ) (fun k hk hs => by rcases hs with e | e <;> omega)) (fun k hk => by omega)) (by have := HBS.out; simp; omega)
      · exact (F2.out.mono (fun _ h => h.elim)).trans FU (fun _ h => .inl h)
      · intro k e
        have := (GQ.1 k e).1
        exact .inr (by omega)
  · have c0b : (k0 == 1) = false := beq_eq_false_iff_ne.mpr c0
    by_cases cx : 0 < xs.length
    · have e1 : bordF k0 h xs ys = (h, xs) := by unfold bordF; rw [if_neg c0, if_pos cx]
      rw [e1]
      have cx' : (0 : Int) < (xs.length : Int) := by omega
      clear c0
      go_enter Try.func68, Try.ntmps68
      go_wp2_with (go_at_call 64; refine (slices_Clone_uint32_uint32.calls A1 c1 xs xs _ (cq C1.out) hlc1 HCL.out).mono ?_; rintro e w1 ⟨v, rfl, ho, hb⟩; obtain ⟨Ac, cc, rfl⟩ := Kd.R_slice ho; have HC := Aside0.mk (Kd.R_mono (R_in ho) (fun k hk => (by have := hk.2.1; simp at this; exact ⟨this, hk.2.2⟩ : W.heap.size < k ∧ k < w1.heap.size))); have K3 := Aside0.mk (blk_below at1_0 hb); have D1 := Aside0.mk (blk_below (bq B1.out) hb); have D2 := Aside0.mk (blk_below (bq B2.out) hb); have F1 := Aside0.mk (Fr.step ((Fr.refl (fun _ => False) W).alloc _) hb); have hs1 : W.heap.size < w1.heap.size := by have := hb.size; simp at this; omega
                   have n3 : g1 ≠ w1.heap.size := by omega
                   have n4 : g2 ≠ w1.heap.size := by omega
                   have n5 : g1 < w1.heap.size := by omega
                   have n6 : g2 < w1.heap.size := by omega
                   have n7 : W.heap.size ≠ w1.heap.size := by omega
                   clear hb ho p0 p1 q0 f0 f1 f2; have p0 := kc D1.out 0 rfl; have p1 := kc D1.out 1 rfl; have q0 := kc D2.out 0 rfl; have f0 := blk_frozen D1.out 0; have f1 := blk_frozen D1.out 1; have f2 := blk_frozen D2.out 0; have z0 := kc K3.out 0 rfl)
      have E1 := Aside0.mk (Kd.C_below C1.out (F1.out.below (fun _ h => h.elim) (Nat.le_refl _)))
      go_wp2_with (go_at_call 64; refine (slices_Clone_uint32_uint32.calls A1 c1 xs xs _ (cq E1.out) hlc1 HCL.out).mono ?_; rintro e w2 ⟨v, rfl, ho, hb⟩; obtain ⟨Av, cv, rfl⟩ := Kd.R_slice ho; have HV := Aside0.mk (R_in ho); have F12 := Aside0.mk (Fr.step (Fr.refl (fun _ => False) w1) hb); have G1 := Aside0.mk (blk_below (bq D1.out) hb); have G2 := Aside0.mk (blk_below (bq D2.out) hb); have F2 := Aside0.mk (Fr.step F1.out hb); have hs2 := hb.size; clear hb ho p0 p1 q0 f0 f1 f2; have p0 := kc G1.out 0 rfl; have p1 := kc G1.out 1 rfl; have q0 := kc G2.out 0 rfl; have f0 := blk_frozen G1.out 0; have f1 := blk_frozen G1.out 1; have f2 := blk_frozen G2.out 0)
      go_ret
      have FU : Fr (fun k => k = g1 ∨ k = g2) w2 ((w2.setCell ⟨g2, 0, none⟩ (.slice Av xs.length cv)).setCell ⟨g1, 1, none⟩ (.slice none 0 0)) := ((Fr.refl _ w2).set (.inl (.inr rfl)) _).set (.inl (.inl rfl)) _
      have GQ := HV.out
      refine ⟨.slice Ac xs.length cc, .slice Av xs.length cv, rfl, ?_, blk_put (blk_far G1.out hg _) 1 _ rfl, blk_far (blk_put G2.out 0 _ rfl) hg' _, ?_, ?_, ?_⟩
      · refine Kd.R_lower (Kd.R_mono (FU.R (F12.out.R HC.out (fun _ _ h => h)) (fun k hk hs => by rcases hs with e | e <;> omega)) (fun k hk e => ?_)) (by simp)
        have := (GQ.1 k e).2.1
        omega
      · refine Kd.R_lower (Kd.R_mono (FU.R (GQ) (fun k hk hs => by rcases hs with e | e <;> omega)) (fun k hk => by omega)) (by have := HBS.out; omega)
      · exact (F2.out.mono (fun _ h => h.elim)).trans FU (fun _ h => .inl h)
      · intro k e
        have := (GQ.1 k e).2.1
        exact .inr (by omega)
    · have e1 : bordF k0 h xs ys = (h, ys) := by unfold bordF; rw [if_neg c0, if_neg cx]
      rw [e1]
      have cx' : ¬ (0 : Int) < (xs.length : Int) := by omega
      clear c0
      go_enter Try.func68, Try.ntmps68
      go_wp2_with (go_at_call 64; refine (slices_Clone_uint32_uint32.calls A1 c1 xs xs _ (cq C1.out) hlc1 HCL.out).mono ?_; rintro e w1 ⟨v, rfl, ho, hb⟩; obtain ⟨Ac, cc, rfl⟩ := Kd.R_slice ho; have HC := Aside0.mk (Kd.R_mono (R_in ho) (fun k hk => (by have := hk.2.1; simp at this; exact ⟨this, hk.2.2⟩ : W.heap.size < k ∧ k < w1.heap.size))); have K3 := Aside0.mk (blk_below at1_0 hb); have D1 := Aside0.mk (blk_below (bq B1.out) hb); have D2 := Aside0.mk (blk_below (bq B2.out) hb); have F1 := Aside0.mk (Fr.step ((Fr.refl (fun _ => False) W).alloc _) hb); have hs1 : W.heap.size < w1.heap.size := by have := hb.size; simp at this; omega
                   have n3 : g1 ≠ w1.heap.size := by omega
                   have n4 : g2 ≠ w1.heap.size := by omega
                   have n5 : g1 < w1.heap.size := by omega
                   have n6 : g2 < w1.heap.size := by omega
                   have n7 : W.heap.size ≠ w1.heap.size := by omega
                   clear hb ho p0 p1 q0 f0 f1 f2; have p0 := kc D1.out 0 rfl; have p1 := kc D1.out 1 rfl; have q0 := kc D2.out 0 rfl; have f0 := blk_frozen D1.out 0; have f1 := blk_frozen D1.out 1; have f2 := blk_frozen D2.out 0; have z0 := kc K3.out 0 rfl)
      go_ret
      have FU : Fr (fun k => k = g1 ∨ k = g2) w1 (w1.setCell ⟨g1, 1, none⟩ (.slice none 0 0)) := (Fr.refl _ w1).set (.inl (.inl rfl)) _
      refine ⟨.slice Ac xs.length cc, .slice A2 ys.length c2, rfl, ?_, blk_put D1.out 1 _ rfl, blk_far D2.out hg' _, ?_, ?_, fun k e => .inl e⟩
      · refine Kd.R_lower (Kd.R_mono (FU.R HC.out (fun k hk hs => by rcases hs with e | e <;> omega)) (fun k hk e => ?_)) (by simp)
        have := Kd.R_lt V2.out k e
        omega
      · exact FU.R (F1.out.R V2.out (fun _ _ h => h)) (fun k hk hs => by rcases hs with e | e <;> omega)
      · exact (F1.out.mono (fun _ h => h.elim)).trans FU (fun _ h => .inl h)
end Go.Proofs.Ytioifcanipijhaa.GC
