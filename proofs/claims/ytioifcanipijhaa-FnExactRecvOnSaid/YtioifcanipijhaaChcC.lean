/- What recv and RecvOn come to, walked by hand. -/
import Derived.Test.YtioifcanipijhaaGCx0
import Derived.Test.YtioifcanipijhaaGCx3
import Derived.Test.YtioifcanipijhaaHnd
namespace Go.Proofs.Ytioifcanipijhaa.GC
open Go.RowKit Go.Proofs.YtioifcanipijhaaW.PrintWords Go.Proofs.YtioifcanipijhaaW.PrintLast Go.Proofs.YtioifcanipijhaaW.PrintMore Go.Proofs.Ytioifcanipijhaa.Q Go.Proofs.Ytioifcanipijhaa.Hnd
set_option linter.unusedVariables false
set_option linter.unusedSimpArgs false
/-- What a receive tells: the word, the code, and what is left. -/
def recvF (k0 : Int) : List Int → Int × Int × List Int
  | [] => (0, 1, [])
  | x :: t => (x, 0, if k0 = 1 then t else x :: t)
def RecvPost (g : Nat) (v : Value) (r : Int × Int × List Int) (base : Nat) (W : World) (e : Ending) (w' : World) : Prop :=
  e = .returned (.tuple #[.int .u32 r.1, .int .i64 r.2.1]) ∧ ∃ v' : Value, w'.heap[g]? = some (.cells #[v'] 31 (0, 0)) ∧ Kd.Q (Kd.int .u32) 46 w' base (fun k => k ≠ g) v' r.2.2 ∧ Fr (fun k => k = g) W w' ∧ (∀ k, v'.ownBlock = some k → v.ownBlock = some k)
set_option maxHeartbeats 8000000 in
set_option maxRecDepth 100000 in
theorem recv_calls (g : Nat) (k0 fr tt dp : Int) (v : Value) (xs : List Int) (base : Nat) (W : World) (hb : W.heap[g]? = some (.cells #[v] 31 (0, 0))) (hv : Kd.Q (Kd.int .u32) 46 W base (fun k => k ≠ g) v xs) :
    Calls Try.prog 65 #[.pointer (some ⟨g, 0, none⟩), .agg #[.int .i64 k0, .int .i64 fr, .int .i64 tt, .int .i64 dp]] W (RecvPost g v (recvF k0 xs) base W) := by
  have hlt := blk_lt hb
  have hne : g ≠ W.heap.size := by omega
  obtain ⟨A, c, rfl, hlc⟩ := Kd.Q_slice hv
  have hc0 : W.cell? ⟨g, 0, none⟩ = some (.slice A xs.length c) := kc hb 0 rfl
  have hf0 := blk_frozen hb 0
  have HBK := Aside0.mk hb
  have HV := Aside0.mk hv
  clear hb hv
  cases xs with
  | nil =>
    go_enter Try.func65, Try.ntmps65
    go_wp2
    go_ret2
    exact ⟨rfl, _, bq HBK.out, Fr.Q ((Fr.refl (fun _ => False) W).alloc _) HV.out (fun _ _ h => h), (Fr.refl _ W).alloc _, fun _ h => h⟩
  | cons x t =>
    obtain ⟨gq, o, cap, e, hb1, hl1, cells, hcl⟩ := Kd.Q_form HV.out (by simp)
    injection e with e1 e2 e3
    subst e1; subst e3
    clear e2
    obtain ⟨hx, hfx⟩ := Kd.Q_cell (d := 0) HV.out 0 (by decide) (by simp)
    have hx' : W.cell? ⟨gq, o, none⟩ = some (.int .u32 x) := hx
    clear hx
    have hnq : gq ≠ W.heap.size := by omega
    clear hcl
    by_cases c1 : k0 = 1
    · subst c1
      have e1 : recvF 1 (x :: t) = (x, 0, t) := rfl
      rw [e1]
      have hq := Kd.Q_drop HV.out (k := 1) (by simp)
      by_cases hc1 : c = 1
      · subst hc1
        have HQ : Aside0 (Kd.Q (Kd.int .u32) 46 W base (fun k => k ≠ g) (.slice (some ⟨gq, o, none⟩) t.length 0) t) := ⟨hq⟩
        clear hq
        have HN := Aside0.mk hlc
        clear hlc
        go_enter Try.func65, Try.ntmps65
        go_wp2
        go_ret2
        have hfr := ((Fr.refl (fun k => k = g) W).set (p := ⟨g, 0, none⟩) (.inl rfl) (.slice (some ⟨gq, o, none⟩) t.length 0)).alloc (.cells #[.int .i64 1, .int .i64 fr, .int .i64 tt, .int .i64 dp] 29)
        exact ⟨rfl, _, bq (blk_put HBK.out 0 _ rfl), hfr.Q HQ.out (fun _ h => h), hfr, fun _ h => h⟩
      · have HQ : Aside0 (Kd.Q (Kd.int .u32) 46 W base (fun k => k ≠ g) (.slice (some ⟨gq, o + 1, none⟩) t.length (c - 1)) t) := ⟨by rw [if_neg hc1] at hq; exact hq⟩
        clear hq
        go_enter Try.func65, Try.ntmps65
        go_wp2
        go_ret2
        have hfr := ((Fr.refl (fun k => k = g) W).set (p := ⟨g, 0, none⟩) (.inl rfl) (.slice (some ⟨gq, o + 1, none⟩) t.length (c - 1))).alloc (.cells #[.int .i64 1, .int .i64 fr, .int .i64 tt, .int .i64 dp] 29)
        exact ⟨rfl, _, bq (blk_put HBK.out 0 _ rfl), hfr.Q HQ.out (fun _ h => h), hfr, fun _ h => h⟩
    · have c1b : (k0 == 1) = false := beq_eq_false_iff_ne.mpr c1
      have e1 : recvF k0 (x :: t) = (x, 0, x :: t) := by show (x, 0, if k0 = 1 then t else x :: t) = _; rw [if_neg c1]
      rw [e1]
      clear c1
      go_enter Try.func65, Try.ntmps65
      go_wp2
      go_ret2
      exact ⟨rfl, _, bq HBK.out, Fr.Q ((Fr.refl (fun _ => False) W).alloc _) HV.out (fun _ _ h => h), (Fr.refl _ W).alloc _, fun _ h => h⟩

def impl_RecvOn.f (a0 a1 a2 a3 : Int) (l : List Int) : Option (List Int × Int × Int) :=
  if l.length < 2000000 then (impl_isIn.f a0 a1 a2 a3 l).bind fun b => some (if b = true then ((recvF a0 l).2.2, (recvF a0 l).1, (recvF a0 l).2.1) else ([], 0, 3)) else none
set_option maxHeartbeats 8000000 in
set_option maxRecDepth 100000 in
theorem impl_RecvOn.calls (a0 a1 a2 a3 : Int) (A : Option Addr) (c : Nat) (l : List Int) (r1 : List Int) (r2 r3 : Int) (w : World) (hr : Kd.C (Kd.int .u32) w A l.length l) (hc : l.length ≤ c) (h : impl_RecvOn.f a0 a1 a2 a3 l = some (r1, r2, r3)) :
    Calls Try.prog 32 #[.agg #[.int .i64 a0, .int .i64 a1, .int .i64 a2, .int .i64 a3], .agg #[.slice A l.length c]] w fun e w' => ∃ v1_ : Value, e = .returned (.tuple #[.agg #[v1_], .int .u32 r2, .int .i64 r3]) ∧ Kd.Q (Kd.int .u32) 46 w' w.heap.size (fun _ => True) v1_ r1 ∧ Below w.heap.size w w' := by
  have hu29 := Try.underlying29
  have hu31 := Try.underlying31
  unfold impl_RecvOn.f at h
  split at h
  case isFalse => cases h
  case isTrue hl =>
  obtain ⟨b, hb, h⟩ := Option.bind_eq_some_iff.mp h
  replace h := Option.some.inj h
  have HR := Aside0.mk hr
  have HL := Aside0.mk hl
  have HO := Aside0.mk hb
  clear hr hl hb
  cases b with
  | false =>
    rw [if_neg (by decide)] at h
    simp only [Prod.mk.injEq] at h
    obtain ⟨rfl, rfl, rfl⟩ := h
    go_enter Try.func32, Try.ntmps32
    go_wp2_with (go_at_call 59; refine (impl_isIn.calls a0 a1 a2 a3 A c l false _ (cq HR.out) hc HO.out).mono ?_; rintro e w1 ⟨rfl, hb⟩; have HB1 := Aside0.mk hb; have K6 := Aside0.mk (blk_below at3_2 hb); clear hb; have q0 := kc K6.out 0 rfl; have qf0 := blk_frozen K6.out 0)
    have hB : Below w.heap.size w w1 := ((((Fr.refl (fun _ => False) w).alloc _).alloc _).alloc _ |>.step HB1.out).below (fun _ h => h.elim) (Nat.le_refl _)
    refine bodyPost_ret (results_ctt rfl _ _ (w.heap.size + 2) 31 #[.slice none 0 0] (0, 0) _ rfl (blk_put K6.out 0 _ rfl) Try.underlying31 rfl (by kernel_rfl)) rfl ?_
    exact ⟨_, rfl, Kd.Q_nil _ _ _ _ _, hB.setCell (Nat.le_add_right _ 2) _⟩
  | true =>
    rw [if_pos rfl] at h
    simp only [Prod.mk.injEq] at h
    obtain ⟨rfl, rfl, rfl⟩ := h
    have hcl : slices_Clone_uint32_uint32.f l = some l := by unfold slices_Clone_uint32_uint32.f; rw [if_pos (by have := HL.out; omega)]
    have HCL := Aside0.mk hcl
    clear hcl
    go_enter Try.func32, Try.ntmps32
    go_wp2_with (go_at_call 59; refine (impl_isIn.calls a0 a1 a2 a3 A c l true _ (cq HR.out) hc HO.out).mono ?_; rintro e w1 ⟨rfl, hb⟩; have K3 := Aside0.mk (blk_below at3_0 hb); have K4 := Aside0.mk (blk_below at3_1 hb); have K6 := Aside0.mk (blk_below at3_2 hb); have hs1 : w.heap.size + 2 < w1.heap.size := by have := hb.size; simp at this; omega
                 have HB1 := Aside0.mk (Fr.step ((((Fr.refl (fun _ => False) w).alloc _).alloc _).alloc _) hb); clear hb; have q0 := kc K4.out 0 rfl)
    go_wp2_with (go_at_call 64; refine (slices_Clone_uint32_uint32.calls A c l l _ (Kd.C_below HR.out (HB1.out.below (fun _ h => h.elim) (Nat.le_refl _))) hc HCL.out).mono ?_; rintro e w2 ⟨v, rfl, ho, hb⟩; obtain ⟨Av, cv, rfl⟩ := Kd.R_slice ho; have HV := Aside0.mk (R_in ho); have L3 := Aside0.mk (blk_below K3.out hb); have L6 := Aside0.mk (blk_below K6.out hb); have HB2 := Aside0.mk (HB1.out.step hb); have HB12 := Aside0.mk hb.size; have hs2 : w.heap.size + 2 < w2.heap.size := by (have := hb.size; omega)
                 have hne8 : w.heap.size ≠ w2.heap.size := by omega
                 have hlt8 : w.heap.size < w2.heap.size := by omega
                 clear hb ho; have p0 := kc L3.out 0 rfl; have p1 := kc L3.out 1 rfl; have p2 := kc L3.out 2 rfl; have p3 := kc L3.out 3 rfl)
    go_wp2_with (go_at_call 65; refine (recv_calls w2.heap.size a0 a1 a2 a3 (.slice Av l.length cv) l w1.heap.size _ (blk_new _ _) (Kd.Q_of_R (rq (Kd.R_mono HV.out (fun k hk => Nat.ne_of_lt hk.2.2))))).mono ?_; rintro e w4 ⟨rfl, v', hb8, hr8, hfr, hown⟩; obtain ⟨A8, c8, rfl, hl8⟩ := Kd.Q_slice hr8; have K8 := Aside0.mk hb8; have R8 := Aside0.mk hr8; have N6 := Aside0.mk (hfr.blk (bq L6.out) (fun e => by omega)); have F8 := Aside0.mk hfr; have hne6 : w2.heap.size ≠ w.heap.size + 2 := by omega
                 clear hb8 hr8 hfr hown hl8; have u0 := kc K8.out 0 rfl; have r0 := kc N6.out 0 rfl; have rf0 := blk_frozen N6.out 0)
    refine bodyPost_ret (results_ctt rfl _ _ (w.heap.size + 2) 31 #[.slice A8 (recvF a0 l).2.2.length c8] (0, 0) _ rfl (blk_put N6.out 0 _ rfl) Try.underlying31 rfl (by kernel_rfl)) rfl ?_
    have hB : Below w.heap.size w w4 := (((HB2.out.alloc _).mono (T := fun k => w.heap.size ≤ k) (fun _ h => h.elim)).trans F8.out (fun k hk => .inr (by subst hk; omega))).below (fun _ h => h) (Nat.le_refl _)
    have hR8 := Kd.Q_lower (Q_in R8.out) (base' := w.heap.size) (by omega)
    have hfar : ∀ k, (k ≠ w2.heap.size ∧ w1.heap.size ≤ k ∧ k < w4.heap.size) → k ≠ w.heap.size + 2 := fun k hk => by omega
    exact ⟨_, rfl, Kd.Q_mono (Kd.Q_far hR8 hfar _) (fun _ _ => trivial), hB.setCell (Nat.le_add_right _ 2) _⟩
end Go.Proofs.Ytioifcanipijhaa.GC
