/- What the channel functions of the program come to, walked by hand: send, and the functions over it. -/
import Derived.Test.YtioifcanipijhaaGCx0T
import Derived.Test.YtioifcanipijhaaGCx2T
import Derived.Test.YtioifcanipijhaaGCx3T
import Derived.Test.YtioifcanipijhaaHndT
namespace Go.Proofs.Ytioifcanipijhaa.GC
open Go.RowKit Go.Proofs.YtioifcanipijhaaW.PrintWords Go.Proofs.YtioifcanipijhaaW.PrintLast Go.Proofs.YtioifcanipijhaaW.PrintMore Go.Proofs.Ytioifcanipijhaa.Q Go.Proofs.Ytioifcanipijhaa.Hnd
set_option linter.unusedVariables false
set_option linter.unusedSimpArgs false
/-- What a send leaves: the code, and the words that were sent. -/
def sendF (k0 dp h : Int) (xs : List Int) (x : Int) : Int × List Int := if k0 = 0 then (0, [x]) else if wrap64 (wrap64 (dp - h) - (xs.length : Int)) = 0 then (2, xs) else (0, xs ++ [x])
def SendPost (g : Nat) (h : Int) (v : Value) (r : Int × List Int) (base : Nat) (W : World) (e : Ending) (w' : World) : Prop :=
  e = .returned (.int .i64 r.1) ∧ ∃ v' : Value, w'.heap[g]? = some (.cells #[.int .i64 h, v'] 39 (0, 0)) ∧ Kd.R (Kd.int .u32) 46 w' base (fun k => k ≠ g) v' r.2 ∧ Fr (fun k => k = g ∨ v.ownBlock = some k) W w' ∧ (∀ k, v'.ownBlock = some k → v.ownBlock = some k ∨ W.heap.size ≤ k)
set_option maxHeartbeats 8000000 in
set_option maxRecDepth 100000 in
theorem send_calls (g : Nat) (h k0 fr tt dp x : Int) (v : Value) (xs : List Int) (base : Nat) (W : World) (hb : W.heap[g]? = some (.cells #[.int .i64 h, v] 39 (0, 0))) (hv : Kd.R (Kd.int .u32) 46 W base (fun k => k ≠ g) v xs) (hbase : base ≤ W.heap.size) (hl : xs.length < 2000000) :
    Calls Try.prog 67 #[.pointer (some ⟨g, 0, none⟩), .agg #[.int .i64 k0, .int .i64 fr, .int .i64 tt, .int .i64 dp], .int .u32 x] W (SendPost g h v (sendF k0 dp h xs x) base W) := by
  have hlt := blk_lt hb
  have hne : g ≠ W.heap.size := by omega
  have hne1 : g ≠ W.heap.size + 1 := by omega
  have hc0 : W.cell? ⟨g, 0, none⟩ = some (.int .i64 h) := (blk_cell hb 0).trans rfl
  have hc1 : W.cell? ⟨g, 1, none⟩ = some v := (blk_cell hb 1).trans rfl
  have hf0 := blk_frozen hb 0
  have hf1 := blk_frozen hb 1
  have HBK := Aside0.mk hb
  have HV := Aside0.mk hv
  have HL := Aside0.mk hl
  have HBS := Aside0.mk hbase
  clear hb hv hl hbase
  by_cases c0 : k0 = 0
  · subst c0
    have e1 : sendF 0 dp h xs x = (0, [x]) := by unfold sendF; rw [if_pos rfl]
    rw [e1]
    go_enter Try.func67, Try.ntmps67
    go_wp2
    go_ret
    refine ⟨rfl, _, ?_, R_fresh (g := W.heap.size + 1) (xs := [x]) ?_ ?_ (by simp [maxLen]) ?_ rfl, ?_, ?_⟩
    · exact bq (blk_put HBK.out 1 _ rfl)
    · exact new_at (by simp)
    · have := HBS.out; omega
    · show W.heap.size + 1 ≠ g; omega
    · exact (((Fr.refl _ W).set (.inl (.inl rfl)) _).alloc _).alloc _
    · intro k hk
      have : W.heap.size + 1 = k := by simpa [Value.ownBlock] using hk
      exact .inr (by omega)
  · have c0b : (k0 == 0) = false := beq_eq_false_iff_ne.mpr c0
    obtain ⟨A, c, rfl⟩ := Kd.R_slice HV.out
    have hlc := (Kd.R_reads' HV.out).2.1
    have HCR := Aside0.mk (Kd.R_reads' HV.out).2.2
    have hro : impl_room.f k0 fr tt dp h xs = some (wrap64 (wrap64 (dp - h) - (xs.length : Int))) := by unfold impl_room.f; rw [if_neg c0]
    have HRO := Aside0.mk hro
    clear hro
    by_cases c1 : wrap64 (wrap64 (dp - h) - (xs.length : Int)) = 0
    · have e1 : sendF k0 dp h xs x = (2, xs) := by unfold sendF; rw [if_neg c0, if_pos c1]
      rw [e1]
      have HC1 := Aside0.mk c1
      rw [c1] at HRO
      clear c1 c0
      go_enter Try.func67, Try.ntmps67
      go_wp2_with fail
      go_region_held3 (fun w' => w'.cell? ⟨g, 0, none⟩ = some (.int .i64 h) ∧ w'.cell? ⟨g, 1, none⟩ = some (.slice A xs.length c) ∧ w'.cell? ⟨W.heap.size, 0, none⟩ = some (.int .i64 k0) ∧ w'.cell? ⟨W.heap.size, 1, none⟩ = some (.int .i64 fr) ∧ w'.cell? ⟨W.heap.size, 2, none⟩ = some (.int .i64 tt) ∧ w'.cell? ⟨W.heap.size, 3, none⟩ = some (.int .i64 dp)) (go_keep)
        ((go_at_call 62; refine (impl_room.calls k0 fr tt dp h A c xs 0 _ (cq HCR.out) hlc HRO.out).mono ?_; rintro e w' ⟨rfl, hb'⟩; have HB1 := Aside0.mk hb'; have z0 : w'.cell? ⟨g, 0, none⟩ = some (.int .i64 h) := pw_cell_below hb' ((blk_cell (bq HBK.out) 0).trans rfl); have z1 : w'.cell? ⟨g, 1, none⟩ = some (.slice A xs.length c) := pw_cell_below hb' ((blk_cell (bq HBK.out) 1).trans rfl); have z2 : w'.cell? ⟨W.heap.size, 0, none⟩ = some (.int .i64 k0) := pw_cell_below hb' ((blk_cell (bq (blk_new W (.cells #[.int .i64 k0, .int .i64 fr, .int .i64 tt, .int .i64 dp] 29 (0, 0)))) 0).trans rfl); have z3 : w'.cell? ⟨W.heap.size, 1, none⟩ = some (.int .i64 fr) := pw_cell_below hb' ((blk_cell (bq (blk_new W (.cells #[.int .i64 k0, .int .i64 fr, .int .i64 tt, .int .i64 dp] 29 (0, 0)))) 1).trans rfl); have z4 : w'.cell? ⟨W.heap.size, 2, none⟩ = some (.int .i64 tt) := pw_cell_below hb' ((blk_cell (bq (blk_new W (.cells #[.int .i64 k0, .int .i64 fr, .int .i64 tt, .int .i64 dp] 29 (0, 0)))) 2).trans rfl); have z5 : w'.cell? ⟨W.heap.size, 3, none⟩ = some (.int .i64 dp) := pw_cell_below hb' ((blk_cell (bq (blk_new W (.cells #[.int .i64 k0, .int .i64 fr, .int .i64 tt, .int .i64 dp] 29 (0, 0)))) 3).trans rfl)))
      go_wp2
      go_ret
      have hfr : Fr (fun k => k = g ∨ (Value.slice A xs.length c).ownBlock = some k) W w' := (((Fr.refl _ W).alloc _).drew).step HB1.out
      have hfr0 : Fr (fun _ => False) W w' := (((Fr.refl _ W).alloc _).drew).step HB1.out
      exact ⟨rfl, _, hfr0.blk HBK.out id, hfr0.R HV.out (fun _ _ h => h), hfr, fun k hk => .inl hk⟩
    · have e1 : sendF k0 dp h xs x = (0, xs ++ [x]) := by unfold sendF; rw [if_neg c0, if_neg c1]
      rw [e1]
      have c1b : (wrap64 (wrap64 (dp - h) - (xs.length : Int)) == 0) = false := beq_eq_false_iff_ne.mpr c1
      generalize wrap64 (wrap64 (dp - h) - (xs.length : Int)) = rm at HRO c1b
      clear c1 c0
      go_enter Try.func67, Try.ntmps67
      go_wp2_with fail
      go_region_held3 (fun w' => w'.cell? ⟨g, 0, none⟩ = some (.int .i64 h) ∧ w'.cell? ⟨g, 1, none⟩ = some (.slice A xs.length c) ∧ w'.cell? ⟨W.heap.size, 0, none⟩ = some (.int .i64 k0) ∧ w'.cell? ⟨W.heap.size, 1, none⟩ = some (.int .i64 fr) ∧ w'.cell? ⟨W.heap.size, 2, none⟩ = some (.int .i64 tt) ∧ w'.cell? ⟨W.heap.size, 3, none⟩ = some (.int .i64 dp)) (go_keep)
        ((go_at_call 62; refine (impl_room.calls k0 fr tt dp h A c xs rm _ (cq HCR.out) hlc HRO.out).mono ?_; rintro e w' ⟨rfl, hb'⟩; have HB1 := Aside0.mk hb'; have z0 : w'.cell? ⟨g, 0, none⟩ = some (.int .i64 h) := pw_cell_below hb' ((blk_cell (bq HBK.out) 0).trans rfl); have z1 : w'.cell? ⟨g, 1, none⟩ = some (.slice A xs.length c) := pw_cell_below hb' ((blk_cell (bq HBK.out) 1).trans rfl); have z2 : w'.cell? ⟨W.heap.size, 0, none⟩ = some (.int .i64 k0) := pw_cell_below hb' ((blk_cell (bq (blk_new W (.cells #[.int .i64 k0, .int .i64 fr, .int .i64 tt, .int .i64 dp] 29 (0, 0)))) 0).trans rfl); have z3 : w'.cell? ⟨W.heap.size, 1, none⟩ = some (.int .i64 fr) := pw_cell_below hb' ((blk_cell (bq (blk_new W (.cells #[.int .i64 k0, .int .i64 fr, .int .i64 tt, .int .i64 dp] 29 (0, 0)))) 1).trans rfl); have z4 : w'.cell? ⟨W.heap.size, 2, none⟩ = some (.int .i64 tt) := pw_cell_below hb' ((blk_cell (bq (blk_new W (.cells #[.int .i64 k0, .int .i64 fr, .int .i64 tt, .int .i64 dp] 29 (0, 0)))) 2).trans rfl); have z5 : w'.cell? ⟨W.heap.size, 3, none⟩ = some (.int .i64 dp) := pw_cell_below hb' ((blk_cell (bq (blk_new W (.cells #[.int .i64 k0, .int .i64 fr, .int .i64 tt, .int .i64 dp] 29 (0, 0)))) 3).trans rfl)))
      have hfr0 : Fr (fun _ => False) W w' := (((Fr.refl _ W).alloc _).drew).step HB1.out
      have HV1 := Aside0.mk (hfr0.R HV.out (fun _ _ h => h))
      have HBK1 := Aside0.mk (hfr0.blk HBK.out id)
      have HF0 := Aside0.mk hfr0
      have hsz := hfr0.size
      clear hfr0
      go_wp2_with ((with_reducible refine gate_builtin (b := .append) (xs := #[.tmp 11, .tmp 13]) rfl ?_); at_builtin; refine Kd.R_append (Kd.int .u32) (w0 := w') base rfl (.tmp 11) (.tmp 13) 24 46 (.int .u32 0) 4 rfl Try.underlying24 info46 rfl (by decide) (by omega) (.slice A xs.length c) xs x [.int .u32 x] (fun k => k ≠ g) (fun _ => False) rfl rfl ?aP (fun _ hk => hk.elim) ?aF ?aO ?aB ?aS ?aL ?_; (case aP => exact rfl); (case aB => exact Below.refl _ _); (case aF => exact (fun k hk => by omega)); (case aO => exact HV1.out); (case aS => have := HBS.out; omega); (case aL => have := HL.out; omega); intro v1 w1 ho hb hg hat; obtain ⟨A1, c1, rfl⟩ := Kd.R_slice ho; rw [show (xs ++ [x]).length = xs.length + 1 from by simp] at ho hat; have HO := Aside0.mk ho; have HG := Aside0.mk hg; have HAT := Aside0.mk hat; have hbk1 := blk_grown HBK1.out hg (fun e => HV1.out.1 g e.symm rfl); have HBK2 := Aside0.mk hbk1; have y0 : w1.cell? ⟨g, 0, none⟩ = some (.int .i64 h) := (blk_cell hbk1 0).trans rfl; have y1 : w1.cell? ⟨g, 1, none⟩ = some (.slice A xs.length c) := (blk_cell hbk1 1).trans rfl; have y2 := blk_frozen hbk1 0; have y3 := blk_frozen hbk1 1; clear ho hb hg hat hbk1)
      go_ret
      refine ⟨rfl, _, blk_put HBK2.out 1 _ rfl, ?_, ?_, ?_⟩
      · exact Kd.R_mono (Kd.R_far (p := ⟨g, 1, none⟩) HO.out (fun k hk => hk) _) (fun _ hk => hk)
      · exact (((HF0.out.mono (fun _ h => h.elim)).grown HG.out (fun k hk => .inl (.inr hk))).set (.inl (.inl rfl)) _)
      · intro k hk
        rcases HAT.out with e | ⟨b, e, hle⟩
        · exact .inl (e ▸ hk)
        · rw [e] at hk
          injection hk with hk
          exact .inr (by omega)

def impl_SendOn.f (a0 a1 a2 a3 b0 : Int) (l : List Int) (x : Int) : Option (Int × List Int × Int) :=
  if l.length < 2000000 then (impl_isOut.f a0 a1 a2 a3 b0 l).bind fun b => some (if b = true then (b0, (sendF a0 a3 b0 l x).2, (sendF a0 a3 b0 l x).1) else (0, [], 3)) else none
set_option maxHeartbeats 8000000 in
set_option maxRecDepth 100000 in
theorem impl_SendOn.calls (a0 a1 a2 a3 b0 : Int) (A : Option Addr) (c : Nat) (l : List Int) (x : Int) (r1 : Int) (r2 : List Int) (r3 : Int) (w : World) (hr : Kd.C (Kd.int .u32) w A l.length l) (hc : l.length ≤ c) (h : impl_SendOn.f a0 a1 a2 a3 b0 l x = some (r1, r2, r3)) :
    Calls Try.prog 36 #[.agg #[.int .i64 a0, .int .i64 a1, .int .i64 a2, .int .i64 a3], .agg #[.int .i64 b0, .slice A l.length c], .int .u32 x] w fun e w' => ∃ v1_ : Value, e = .returned (.tuple #[.agg #[.int .i64 r1, v1_], .int .i64 r3]) ∧ Kd.R (Kd.int .u32) 46 w' w.heap.size (fun _ => True) v1_ r2 ∧ Below w.heap.size w w' := by
  have hu29 := Try.underlying29
  have hu39 := Try.underlying39
  unfold impl_SendOn.f at h
  split at h
  case isFalse => cases h
  case isTrue hl =>
  obtain ⟨b, hb, h⟩ := Option.bind_eq_some_iff.mp h
  replace h := Option.some.inj h
  have HR := Aside0.mk hr
  have HL := Aside0.mk hl
  have HO := Aside0.mk hb
  clear hr hl hb
  cases b with
  | false =>
    rw [if_neg (by decide)] at h
    simp only [Prod.mk.injEq] at h
    obtain ⟨rfl, rfl, rfl⟩ := h
    go_enter Try.func36, Try.ntmps36
    go_wp2_with (go_at_call 61; refine (impl_isOut.calls a0 a1 a2 a3 b0 A c l false _ (cq HR.out) hc HO.out).mono ?_; rintro e w1 ⟨rfl, hb⟩; have HB1 := Aside0.mk hb; have K6 := Aside0.mk (blk_below at3_2 hb); clear hb; have q0 := kc K6.out 0 rfl; have q1 := kc K6.out 1 rfl; have qf0 := blk_frozen K6.out 0; have qf1 := blk_frozen K6.out 1)
    have b6 : w1.heap[w.heap.size + 2]? = some (.cells #[.int .i64 0, .slice none 0 0] 39 (0, 0)) := blk_below at3_2 HB1.out
    have hB : Below w.heap.size w w1 := ((((Fr.refl (fun _ => False) w).alloc _).alloc _).alloc _ |>.step HB1.out).below (fun _ h => h.elim) (Nat.le_refl _)
    refine bodyPost_ret (results_ct rfl _ _ (w.heap.size + 2) 39 #[.int .i64 0, .slice none 0 0] (0, 0) _ rfl (blk_put (blk_put b6 0 _ rfl) 1 _ rfl) Try.underlying39 rfl (by kernel_rfl)) rfl ?_
    exact ⟨_, rfl, Kd.R_nil _ _ _ _ _, (hB.setCell (Nat.le_add_right _ 2) _).setCell (Nat.le_add_right _ 2) _⟩
  | true =>
    rw [if_pos rfl] at h
    simp only [Prod.mk.injEq] at h
    obtain ⟨rfl, rfl, rfl⟩ := h
    have hcl : impl_cloneOut.f b0 l = some (b0, l) := by unfold impl_cloneOut.f slices_Clone_uint32_uint32.f; rw [if_pos (by have := HL.out; omega)]; rfl
    have HCL := Aside0.mk hcl
    clear hcl
    go_enter Try.func36, Try.ntmps36
    go_wp2_with (go_at_call 61; refine (impl_isOut.calls a0 a1 a2 a3 b0 A c l true _ (cq HR.out) hc HO.out).mono ?_; rintro e w1 ⟨rfl, hb⟩; have K3 := Aside0.mk (blk_below at3_0 hb); have K4 := Aside0.mk (blk_below at3_1 hb); have K6 := Aside0.mk (blk_below at3_2 hb); have hs1 : w.heap.size + 2 < w1.heap.size := by have := hb.size; simp at this; omega
                 have HB1 := Aside0.mk (Fr.step ((((Fr.refl (fun _ => False) w).alloc _).alloc _).alloc _) hb); clear hb; have q0 := kc K4.out 0 rfl; have q1 := kc K4.out 1 rfl)
    go_wp2_with (go_at_call 66; refine (impl_cloneOut.calls b0 A c l b0 l _ (Kd.C_below HR.out (HB1.out.below (fun _ h => h.elim) (Nat.le_refl _))) hc HCL.out).mono ?_; rintro e w2 ⟨v, rfl, ho, hb⟩; obtain ⟨Av, cv, rfl⟩ := Kd.R_slice ho; have HV := Aside0.mk (R_in ho); have L3 := Aside0.mk (blk_below K3.out hb); have L6 := Aside0.mk (blk_below K6.out hb); have HB2 := Aside0.mk (HB1.out.step hb); have HB12 := Aside0.mk hb.size; have hs2 : w.heap.size + 2 < w2.heap.size := by (have := hb.size; omega)
                 have hne8 : w.heap.size ≠ w2.heap.size := by omega
                 have hlt8 : w.heap.size < w2.heap.size := by omega
                 clear hb ho; have p0 := kc L3.out 0 rfl; have p1 := kc L3.out 1 rfl; have p2 := kc L3.out 2 rfl; have p3 := kc L3.out 3 rfl)
    go_wp2_with (go_at_call 67; refine (send_calls w2.heap.size b0 a0 a1 a2 a3 x (.slice Av l.length cv) l w1.heap.size _ (blk_new _ _) (rq (Kd.R_mono HV.out (fun k hk => Nat.ne_of_lt hk.2.2))) (Nat.le_trans HB12.out (by simp)) HL.out).mono ?_; rintro e w4 ⟨rfl, v', hb8, hr8, hfr, hown⟩; obtain ⟨A8, c8, rfl⟩ := Kd.R_slice hr8; have K8 := Aside0.mk hb8; have R8 := Aside0.mk hr8; have N6 := Aside0.mk (hfr.blk (bq L6.out) (fun hs => hs.elim (fun e => by omega) (fun e => by have := (HV.out.1 _ e).2.1; omega))); have F8 := Aside0.mk hfr; have hne6 : w2.heap.size ≠ w.heap.size + 2 := by omega
                 clear hb8 hr8 hfr hown; have u0 := kc K8.out 0 rfl; have u1 := kc K8.out 1 rfl; have r0 := kc N6.out 0 rfl; have r1 := kc N6.out 1 rfl; have rf0 := blk_frozen N6.out 0; have rf1 := blk_frozen N6.out 1)
    refine bodyPost_ret (results_ct rfl _ _ (w.heap.size + 2) 39 #[.int .i64 b0, .slice A8 (sendF a0 a3 b0 l x).2.length c8] (0, 0) _ rfl (blk_put (blk_put N6.out 0 _ rfl) 1 _ rfl) Try.underlying39 rfl (by kernel_rfl)) rfl ?_
    have hB : Below w.heap.size w w4 := (((HB2.out.alloc _).mono (T := fun k => w.heap.size ≤ k) (fun _ h => h.elim)).trans F8.out (fun k hk => .inr (hk.elim (fun e => by omega) (fun e => by have := (HV.out.1 _ e).2.1; omega)))).below (fun _ h => h) (Nat.le_refl _)
    have hR8 := Kd.R_lower (R_in R8.out) (base' := w.heap.size) (by omega)
    have hfar : ∀ k, (k ≠ w2.heap.size ∧ w1.heap.size ≤ k ∧ k < w4.heap.size) → k ≠ w.heap.size + 2 := fun k hk => by omega
    exact ⟨_, rfl, Kd.R_mono (Kd.R_far (Kd.R_far hR8 hfar _) hfar _) (fun _ _ => trivial), (hB.setCell (Nat.le_add_right _ 2) _).setCell (Nat.le_add_right _ 2) _⟩
end Go.Proofs.Ytioifcanipijhaa.GC
