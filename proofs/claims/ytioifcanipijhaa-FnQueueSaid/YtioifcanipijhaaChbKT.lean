/- What the channel functions of the program come to, walked by hand: send, and the functions over it. -/
import Derived.Test.YtioifcanipijhaaGKx0T
import Derived.Test.YtioifcanipijhaaGKx1T
import Derived.Test.YtioifcanipijhaaHndKT
namespace Go.Proofs.Ytioifcanipijhaa.GK
open Go.RowKit Go.Proofs.YtioifcanipijhaaW.PrintWords Go.Proofs.YtioifcanipijhaaW.PrintLast Go.Proofs.YtioifcanipijhaaW.PrintMore Go.Proofs.Ytioifcanipijhaa.Q Go.Proofs.Ytioifcanipijhaa.Hnd
set_option linter.unusedVariables false
set_option linter.unusedSimpArgs false
/-- What a send leaves: the code, and the words that were sent. -/
def sendF (k0 dp h : Int) (xs : List Int) (x : Int) : Int × List Int := if k0 = 0 then (0, [x]) else if wrap64 (wrap64 (dp - h) - (xs.length : Int)) = 0 then (2, xs) else (0, xs ++ [x])
def SendPost (g : Nat) (h : Int) (v : Value) (r : Int × List Int) (base : Nat) (W : World) (e : Ending) (w' : World) : Prop :=
  e = .returned (.int .i64 r.1) ∧ ∃ v' : Value, w'.heap[g]? = some (.cells #[.int .i64 h, v'] 39 (0, 0)) ∧ Kd.R (Kd.int .u32) 46 w' base (fun k => k ≠ g) v' r.2 ∧ Fr (fun k => k = g ∨ v.ownBlock = some k) W w' ∧ (∀ k, v'.ownBlock = some k → v.ownBlock = some k ∨ W.heap.size ≤ k)
set_option maxHeartbeats 8000000 in
set_option maxRecDepth 100000 in
theorem send_calls (g : Nat) (h k0 fr tt dp x : Int) (v : Value) (xs : List Int) (base : Nat) (W : World) (hb : W.heap[g]? = some (.cells #[.int .i64 h, v] 39 (0, 0))) (hv : Kd.R (Kd.int .u32) 46 W base (fun k => k ≠ g) v xs) (hbase : base ≤ W.heap.size) (hl : xs.length < 2000000) :
    Calls Try.prog 67 #[.pointer (some ⟨g, 0, none⟩), .agg #[.int .i64 k0, .int .i64 fr, .int .i64 tt, .int .i64 dp], .int .u32 x] W (SendPost g h v (sendF k0 dp h xs x) base W) := by
  have hlt := blk_lt hb
  have hne : g ≠ W.heap.size := by omega
  have hne1 : g ≠ W.heap.size + 1 := by omega
  have hc0 : W.cell? ⟨g, 0, none⟩ = some (.int .i64 h) := (blk_cell hb 0).trans rfl
  have hc1 : W.cell? ⟨g, 1, none⟩ = some v := (blk_cell hb 1).trans rfl
  have hf0 := blk_frozen hb 0
  have hf1 := blk_frozen hb 1
  have HBK := Aside0.mk hb
  have HV := Aside0.mk hv
  have HL := Aside0.mk hl
  have HBS := Aside0.mk hbase
  clear hb hv hl hbase
  by_cases c0 : k0 = 0
  · subst c0
    have e1 : sendF 0 dp h xs x = (0, [x]) := by unfold sendF; rw [if_pos rfl]
    rw [e1]
    go_enter Try.func67, Try.ntmps67
    go_wp2
    go_ret
    refine ⟨rfl, _, ?_, R_fresh (g := W.heap.size + 1) (xs := [x]) ?_ ?_ (by simp [maxLen]) ?_ rfl, ?_, ?_⟩
    · exact bq (blk_put HBK.out 1 _ rfl)
    · exact new_at (by simp)
    · have := HBS.out; omega
    · show W.heap.size + 1 ≠ g; omega
    · exact (((Fr.refl _ W).set (.inl (.inl rfl)) _).alloc _).alloc _
    · intro k hk
      have : W.heap.size + 1 = k := by simpa [Value.ownBlock] using hk
      exact .inr (by omega)
  · have c0b : (k0 == 0) = false := beq_eq_false_iff_ne.mpr c0
    obtain ⟨A, c, rfl⟩ := Kd.R_slice HV.out
    have hlc := (Kd.R_reads' HV.out).2.1
    have HCR := Aside0.mk (Kd.R_reads' HV.out).2.2
    have hro : impl_room.f k0 fr tt dp h xs = some (wrap64 (wrap64 (dp - h) - (xs.length : Int))) := by unfold impl_room.f; rw [if_neg c0]
    have HRO := Aside0.mk hro
    clear hro
    by_cases c1 : wrap64 (wrap64 (dp - h) - (xs.length : Int)) = 0
    · have e1 : sendF k0 dp h xs x = (2, xs) := by unfold sendF; rw [if_neg c0, if_pos c1]
      rw [e1]
      have HC1 := Aside0.mk c1
      rw [c1] at HRO
      clear c1 c0
      go_enter Try.func67, Try.ntmps67
      go_wp2_with fail
      go_region_held3 (fun w' => w'.cell? ⟨g, 0, none⟩ = some (.int .i64 h) ∧ w'.cell? ⟨g, 1, none⟩ = some (.slice A xs.length c) ∧ w'.cell? ⟨W.heap.size, 0, none⟩ = some (.int .i64 k0) ∧ w'.cell? ⟨W.heap.size, 1, none⟩ = some (.int .i64 fr) ∧ w'.cell? ⟨W.heap.size, 2, none⟩ = some (.int .i64 tt) ∧ w'.cell? ⟨W.heap.size, 3, none⟩ = some (.int .i64 dp)) (go_keep)
        ((go_at_call 62; refine (impl_room.calls k0 fr tt dp h A c xs 0 _ (cq HCR.out) hlc HRO.out).mono ?_; rintro e w' ⟨rfl, hb'⟩; have HB1 := Aside0.mk hb'; have z0 : w'.cell? ⟨g, 0, none⟩ = some (.int .i64 h) := pw_cell_below hb' ((blk_cell (bq HBK.out) 0).trans rfl); have z1 : w'.cell? ⟨g, 1, none⟩ = some (.slice A xs.length c) := pw_cell_below hb' ((blk_cell (bq HBK.out) 1).trans rfl); have z2 : w'.cell? ⟨W.heap.size, 0, none⟩ = some (.int .i64 k0) := pw_cell_below hb' ((blk_cell (bq (blk_new W (.cells #[.int .i64 k0, .int .i64 fr, .int .i64 tt, .int .i64 dp] 29 (0, 0)))) 0).trans rfl); have z3 : w'.cell? ⟨W.heap.size, 1, none⟩ = some (.int .i64 fr) := pw_cell_below hb' ((blk_cell (bq (blk_new W (.cells #[.int .i64 k0, .int .i64 fr, .int .i64 tt, .int .i64 dp] 29 (0, 0)))) 1).trans rfl); have z4 : w'.cell? ⟨W.heap.size, 2, none⟩ = some (.int .i64 tt) := pw_cell_below hb' ((blk_cell (bq (blk_new W (.cells #[.int .i64 k0, .int .i64 fr, .int .i64 tt, .int .i64 dp] 29 (0, 0)))) 2).trans rfl); have z5 : w'.cell? ⟨W.heap.size, 3, none⟩ = some (.int .i64 dp) := pw_cell_below hb' ((blk_cell (bq (blk_new W (.cells #[.int .i64 k0, .int .i64 fr, .int .i64 tt, .int .i64 dp] 29 (0, 0)))) 3).trans rfl)))
      go_wp2
      go_ret
      have hfr : Fr (fun k => k = g ∨ (Value.slice A xs.length c).ownBlock = some k) W w' := (((Fr.refl _ W).alloc _).drew).step HB1.out
      have hfr0 : Fr (fun _ => False) W w' := (((Fr.refl _ W).alloc _).drew).step HB1.out
      exact ⟨rfl, _, hfr0.blk HBK.out id, hfr0.R HV.out (fun _ _ h => h), hfr, fun k hk => .inl hk⟩
    · have e1 : sendF k0 dp h xs x = (0, xs ++ [x]) := by unfold sendF; rw [if_neg c0, if_neg c1]
      rw [e1]
      have c1b : (wrap64 (wrap64 (dp - h) - (xs.length : Int)) == 0) = false := beq_eq_false_iff_ne.mpr c1
      generalize wrap64 (wrap64 (dp - h) - (xs.length : Int)) = rm at HRO c1b
      clear c1 c0
      go_enter Try.func67, Try.ntmps67
      go_wp2_with fail
      go_region_held3 (fun w' => w'.cell? ⟨g, 0, none⟩ = some (.int .i64 h) ∧ w'.cell? ⟨g, 1, none⟩ = some (.slice A xs.length c) ∧ w'.cell? ⟨W.heap.size, 0, none⟩ = some (.int .i64 k0) ∧ w'.cell? ⟨W.heap.size, 1, none⟩ = some (.int .i64 fr) ∧ w'.cell? ⟨W.heap.size, 2, none⟩ = some (.int .i64 tt) ∧ w'.cell? ⟨W.heap.size, 3, none⟩ = some (.int .i64 dp)) (go_keep)
        ((go_at_call 62; refine (impl_room.calls k0 fr tt dp h A c xs rm _ (cq HCR.out) hlc HRO.out).mono ?_; rintro e w' ⟨rfl, hb'⟩; have HB1 := Aside0.mk hb'; have z0 : w'.cell? ⟨g, 0, none⟩ = some (.int .i64 h) := pw_cell_below hb' ((blk_cell (bq HBK.out) 0).trans rfl); have z1 : w'.cell? ⟨g, 1, none⟩ = some (.slice A xs.length c) := pw_cell_below hb' ((blk_cell (bq HBK.out) 1).trans rfl); have z2 : w'.cell? ⟨W.heap.size, 0, none⟩ = some (.int .i64 k0) := pw_cell_below hb' ((blk_cell (bq (blk_new W (.cells #[.int .i64 k0, .int .i64 fr, .int .i64 tt, .int .i64 dp] 29 (0, 0)))) 0).trans rfl); have z3 : w'.cell? ⟨W.heap.size, 1, none⟩ = some (.int .i64 fr) := pw_cell_below hb' ((blk_cell (bq (blk_new W (.cells #[.int .i64 k0, .int .i64 fr, .int .i64 tt, .int .i64 dp] 29 (0, 0)))) 1).trans rfl); have z4 : w'.cell? ⟨W.heap.size, 2, none⟩ = some (.int .i64 tt) := pw_cell_below hb' ((blk_cell (bq (blk_new W (.cells #[.int .i64 k0, .int .i64 fr, .int .i64 tt, .int .i64 dp] 29 (0, 0)))) 2).trans rfl); have z5 : w'.cell? ⟨W.heap.size, 3, none⟩ = some (.int .i64 dp) := pw_cell_below hb' ((blk_cell (bq (blk_new W (.cells #[.int .i64 k0, .int .i64 fr, .int .i64 tt, .int .i64 dp] 29 (0, 0)))) 3).trans rfl)))
      have hfr0 : Fr (fun _ => False) W w' := (((Fr.refl _ W).alloc _).drew).step HB1.out
      have HV1 := Aside0.mk (hfr0.R HV.out (fun _ _ h => h))
      have HBK1 := Aside0.mk (hfr0.blk HBK.out id)
      have HF0 := Aside0.mk hfr0
      have hsz := hfr0.size
      clear hfr0
      go_wp2_with ((with_reducible refine gate_builtin (b := .append) (xs := #[.tmp 11, .tmp 13]) rfl ?_); at_builtin; refine Kd.R_append (Kd.int .u32) (w0 := w') base rfl (.tmp 11) (.tmp 13) 24 46 (.int .u32 0) 4 rfl Try.underlying24 info46 rfl (by decide) (by omega) (.slice A xs.length c) xs x [.int .u32 x] (fun k => k ≠ g) (fun _ => False) rfl rfl ?aP (fun _ hk => hk.elim) ?aF ?aO ?aB ?aS ?aL ?_; (case aP => exact rfl); (case aB => exact Below.refl _ _); (case aF => exact (fun k hk => by omega)); (case aO => exact HV1.out); (case aS => have := HBS.out; omega); (case aL => have := HL.out; omega); intro v1 w1 ho hb hg hat; obtain ⟨A1, c1, rfl⟩ := Kd.R_slice ho; rw [show (xs ++ [x]).length = xs.length + 1 from by simp] at ho hat; have HO := Aside0.mk ho; have HG := Aside0.mk hg; have HAT := Aside0.mk hat; have hbk1 := blk_grown HBK1.out hg (fun e => HV1.out.1 g e.symm rfl); have HBK2 := Aside0.mk hbk1; have y0 : w1.cell? ⟨g, 0, none⟩ = some (.int .i64 h) := (blk_cell hbk1 0).trans rfl; have y1 : w1.cell? ⟨g, 1, none⟩ = some (.slice A xs.length c) := (blk_cell hbk1 1).trans rfl; have y2 := blk_frozen hbk1 0; have y3 := blk_frozen hbk1 1; clear ho hb hg hat hbk1)
      go_ret
      refine ⟨rfl, _, blk_put HBK2.out 1 _ rfl, ?_, ?_, ?_⟩
      · exact Kd.R_mono (Kd.R_far (p := ⟨g, 1, none⟩) HO.out (fun k hk => hk) _) (fun _ hk => hk)
      · exact (((HF0.out.mono (fun _ h => h.elim)).grown HG.out (fun k hk => .inl (.inr hk))).set (.inl (.inl rfl)) _)
      · intro k hk
        rcases HAT.out with e | ⟨b, e, hle⟩
        · exact .inl (e ▸ hk)
        · rw [e] at hk
          injection hk with hk
          exact .inr (by omega)

end Go.Proofs.Ytioifcanipijhaa.GK
