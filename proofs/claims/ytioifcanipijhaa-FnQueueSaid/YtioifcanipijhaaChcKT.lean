/- What recv and RecvOn come to, walked by hand. -/
import Derived.Test.YtioifcanipijhaaGKx0T
import Derived.Test.YtioifcanipijhaaHndKT
namespace Go.Proofs.Ytioifcanipijhaa.GK
open Go.RowKit Go.Proofs.YtioifcanipijhaaW.PrintWords Go.Proofs.YtioifcanipijhaaW.PrintLast Go.Proofs.YtioifcanipijhaaW.PrintMore Go.Proofs.Ytioifcanipijhaa.Q Go.Proofs.Ytioifcanipijhaa.Hnd
set_option linter.unusedVariables false
set_option linter.unusedSimpArgs false
/-- What a receive tells: the word, the code, and what is left. -/
def recvF (k0 : Int) : List Int → Int × Int × List Int
  | [] => (0, 1, [])
  | x :: t => (x, 0, if k0 = 1 then t else x :: t)
def RecvPost (g : Nat) (v : Value) (r : Int × Int × List Int) (base : Nat) (W : World) (e : Ending) (w' : World) : Prop :=
  e = .returned (.tuple #[.int .u32 r.1, .int .i64 r.2.1]) ∧ ∃ v' : Value, w'.heap[g]? = some (.cells #[v'] 31 (0, 0)) ∧ Kd.Q (Kd.int .u32) 46 w' base (fun k => k ≠ g) v' r.2.2 ∧ Fr (fun k => k = g) W w' ∧ (∀ k, v'.ownBlock = some k → v.ownBlock = some k)
set_option maxHeartbeats 8000000 in
set_option maxRecDepth 100000 in
theorem recv_calls (g : Nat) (k0 fr tt dp : Int) (v : Value) (xs : List Int) (base : Nat) (W : World) (hb : W.heap[g]? = some (.cells #[v] 31 (0, 0))) (hv : Kd.Q (Kd.int .u32) 46 W base (fun k => k ≠ g) v xs) :
    Calls Try.prog 65 #[.pointer (some ⟨g, 0, none⟩), .agg #[.int .i64 k0, .int .i64 fr, .int .i64 tt, .int .i64 dp]] W (RecvPost g v (recvF k0 xs) base W) := by
  have hlt := blk_lt hb
  have hne : g ≠ W.heap.size := by omega
  obtain ⟨A, c, rfl, hlc⟩ := Kd.Q_slice hv
  have hc0 : W.cell? ⟨g, 0, none⟩ = some (.slice A xs.length c) := kc hb 0 rfl
  have hf0 := blk_frozen hb 0
  have HBK := Aside0.mk hb
  have HV := Aside0.mk hv
  clear hb hv
  cases xs with
  | nil =>
    go_enter Try.func65, Try.ntmps65
    go_wp2
    go_ret2
    exact ⟨rfl, _, bq HBK.out, Fr.Q ((Fr.refl (fun _ => False) W).alloc _) HV.out (fun _ _ h => h), (Fr.refl _ W).alloc _, fun _ h => h⟩
  | cons x t =>
    obtain ⟨gq, o, cap, e, hb1, hl1, cells, hcl⟩ := Kd.Q_form HV.out (by simp)
    injection e with e1 e2 e3
    subst e1; subst e3
    clear e2
    obtain ⟨hx, hfx⟩ := Kd.Q_cell (d := 0) HV.out 0 (by decide) (by simp)
    have hx' : W.cell? ⟨gq, o, none⟩ = some (.int .u32 x) := hx
    clear hx
    have hnq : gq ≠ W.heap.size := by omega
    clear hcl
    by_cases c1 : k0 = 1
    · subst c1
      have e1 : recvF 1 (x :: t) = (x, 0, t) := rfl
      rw [e1]
      have hq := Kd.Q_drop HV.out (k := 1) (by simp)
      by_cases hc1 : c = 1
      · subst hc1
        have HQ : Aside0 (Kd.Q (Kd.int .u32) 46 W base (fun k => k ≠ g) (.slice (some ⟨gq, o, none⟩) t.length 0) t) := ⟨hq⟩
        clear hq
        have HN := Aside0.mk hlc
        clear hlc
        go_enter Try.func65, Try.ntmps65
        go_wp2
        go_ret2
        have hfr := ((Fr.refl (fun k => k = g) W).set (p := ⟨g, 0, none⟩) (.inl rfl) (.slice (some ⟨gq, o, none⟩) t.length 0)).alloc (.cells #[.int .i64 1, .int .i64 fr, .int .i64 tt, .int .i64 dp] 29)
        exact ⟨rfl, _, bq (blk_put HBK.out 0 _ rfl), hfr.Q HQ.out (fun _ h => h), hfr, fun _ h => h⟩
      · have HQ : Aside0 (Kd.Q (Kd.int .u32) 46 W base (fun k => k ≠ g) (.slice (some ⟨gq, o + 1, none⟩) t.length (c - 1)) t) := ⟨by rw [if_neg hc1] at hq; exact hq⟩
        clear hq
        go_enter Try.func65, Try.ntmps65
        go_wp2
        go_ret2
        have hfr := ((Fr.refl (fun k => k = g) W).set (p := ⟨g, 0, none⟩) (.inl rfl) (.slice (some ⟨gq, o + 1, none⟩) t.length (c - 1))).alloc (.cells #[.int .i64 1, .int .i64 fr, .int .i64 tt, .int .i64 dp] 29)
        exact ⟨rfl, _, bq (blk_put HBK.out 0 _ rfl), hfr.Q HQ.out (fun _ h => h), hfr, fun _ h => h⟩
    · have c1b : (k0 == 1) = false := beq_eq_false_iff_ne.mpr c1
      have e1 : recvF k0 (x :: t) = (x, 0, x :: t) := by show (x, 0, if k0 = 1 then t else x :: t) = _; rw [if_neg c1]
      rw [e1]
      clear c1
      go_enter Try.func65, Try.ntmps65
      go_wp2
      go_ret2
      exact ⟨rfl, _, bq HBK.out, Fr.Q ((Fr.refl (fun _ => False) W).alloc _) HV.out (fun _ _ h => h), (Fr.refl _ W).alloc _, fun _ h => h⟩

end Go.Proofs.Ytioifcanipijhaa.GK
