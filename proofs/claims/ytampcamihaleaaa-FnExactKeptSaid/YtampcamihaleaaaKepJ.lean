/- Kept, walked by hand: the closure, slices.Clone of windows, slices.DeleteFunc. -/
import Derived.Test.YtampcamihaleaaaGJx0
import Derived.Test.YtampcamihaleaaaGJx1
import Derived.Test.YtampcamihaleaaaWinJ
import Derived.Test.YtampcamihaleaaaHnd
import Derived.Lib.SliceRun
namespace Go.Proofs.Ytampcamihaleaaa.GJ
open Go.Shelf Go.RowKit Go.Proofs.YtampcamihaleaaaW.PrintWords Go.Proofs.YtampcamihaleaaaW.PrintLast Go.Proofs.YtampcamihaleaaaW.PrintMore Go.Proofs.Ytampcamihaleaaa.Q Go.Proofs.Ytampcamihaleaaa.Hnd
set_option linter.unusedVariables false
set_option linter.unusedSimpArgs false
/-- A predicate on windows, told by function g over what it captured: it leaves all alone. -/
def PredC (g : Nat) (lb : Array Value) (p : S41 → Bool) (w : World) : Prop :=
  ∀ (W : World) (x : S41), Below w.heap.size w W → Calls Try.prog g (#[.agg #[.int .i64 x.f0, .int .i64 x.f1, .int .i64 x.f2]] ++ lb) W fun e w' => e = .returned (.bool (p x)) ∧ Below W.heap.size W w'
theorem PredC.b {g : Nat} {lb : Array Value} {p : S41 → Bool} {w W : World} (h : PredC g lb p w) (hb : Below w.heap.size w W) : PredB g lb p W := fun X x hX => by
  refine (h X x (hb.trans (hX.mono hb.size))).mono ?_
  rintro e w' ⟨rfl, h2⟩
  exact ⟨rfl, hX.trans (h2.mono hX.size)⟩
/-- The closure of Kept: 'not all kinds', the kinds in block B. -/
def lacks (kind : Int) (v : S41) : Bool := bits .and .i64 v.f2 kind != kind
set_option maxHeartbeats 1000000 in
theorem kept1_pred (kind : Int) (B : Nat) (w : World) (hB : w.cell? ⟨B, 0, none⟩ = some (.int .i64 kind)) (hlt : B < w.heap.size) : PredC 39 #[.pointer (some ⟨B, 0, none⟩)] (lacks kind) w := fun W x hb => by
  have hc : W.cell? ⟨B, 0, none⟩ = some (.int .i64 kind) := (hb.cell (p := ⟨B, 0, none⟩) hlt).trans hB
  have hu41 := Try.underlying41
  have hBW : B < W.heap.size := Nat.lt_of_lt_of_le hlt hb.size
  have hne : B ≠ W.heap.size := by omega
  clear hB
  show Calls Try.prog 39 #[.agg #[.int .i64 x.f0, .int .i64 x.f1, .int .i64 x.f2], .pointer (some ⟨B, 0, none⟩)] W _
  obtain ⟨x0, x1, x2⟩ := x
  unfold lacks
  dsimp only
  go_enter Try.func39, Try.ntmps39
  go_wp2
  go_ret
  exact ⟨by first | rfl | (simp; done), below_alloc (Below.refl _ _) _⟩
def cloneW.f (l : List S41) : Option (List S41) := if l.length < 5000000 then some l else none
set_option maxHeartbeats 8000000 in
set_option maxRecDepth 100000 in
theorem cloneW.calls (A0 : Option Addr) (c0 : Nat) (l0 : List S41) (w : World) (hr0 : Kd.C k41 w A0 l0.length l0) (hc0 : l0.length ≤ c0) (hl : l0.length < 5000000) :
    Calls Try.prog 38 #[.slice A0 l0.length c0] w fun e w' => ∃ v0_ : Value, e = .returned (v0_) ∧ Kd.R k41 41 w' w.heap.size (fun _ => True) v0_ l0 ∧ Below w.heap.size w w' := by
  have q24 : ∀ (w : World) (a : Option Addr) (n c n' c' : Nat), (binOp .eql 25 (.slice a n c) (.slice none n' c')).run Try.prog w = .ok (.bool a.isNone) w := fun w a n c n' c' => Lib.run_eql_slice_nil w _ _ a n c n' c' Try.underlying25
  cases A0 with
  | none =>
    have hn : l0 = [] := by
      cases l0 with
      | nil => rfl
      | cons x xs => obtain ⟨_, he, _⟩ := hr0.2.2 (by simp); cases he
    subst hn
    clear hr0 hc0 hl
    go_enter Try.func38, Try.ntmps38
    go_wp2
    go_ret
    exact ⟨_, rfl, Kd.R_nil _ _ _ _ _, Below.refl _ _⟩
  | some ad =>
    have HR0 := Aside0.mk hr0
    have LM := Aside0.mk hl
    clear hr0 hl hc0
    have HB := Aside0.mk (Below.refl w.heap.size w)
    go_enter Try.func38, Try.ntmps38
    go_wp2_with (first | ((with_reducible refine gate_dst (N := 5) rfl ?_); refine Kd.R_lit k41 _ 41 ?hg (N := 5) ?hd (xs := ([] : List S41)) (inner := []) (ok := fun _ => True) (okp := fun _ => True) ?hr ?hp (fun _ hk => hk) trivial (Below.refl _ _) (Nat.le_refl _) (by simp) ?_; (case hd => rfl); (case hg => rfl); (case hr => first | (go_simp; done) | (go_simp; rfl)); (case hp => exact (Reps.none _ _)); intro v153 w3 ho4 hb hg_ hnew_; clear hg_ hnew_; have n0_ := Aside0.mk (Kd.R_lower ho4 (below_size (lq HB.out))); have n1_ := Aside0.mk (below_step (lq HB.out) hb); clear HB; have HO154 := n0_; have HB := n1_; clear n0_ n1_; clear hb ho4) | ((with_reducible refine gate_builtin (b := .append) (xs := #[.tmp 5, .tmp 6]) rfl ?_); at_builtin; refine Kd.R_append_rows k41 (w0 := w) w.heap.size rfl (.tmp 5) (.tmp 6) 25 41 (.agg #[(.int .i64 0), (.int .i64 0), (.int .i64 0)]) 24 rfl Try.underlying25 info41 rfl (by decide) (by omega) v153 [] l0 _ _ _ (fun _ => True) (fun _ => False) rfl rfl ?aO ?aR (fun _ _ h => h) (fun _ h => h.elim) ?aF ?aB ?aS ?aL ?_; (case aR => repeat (first | exact (Kd.C_below HR0.out HB.out) | (with_reducible refine Kd.C_alloc ?_ _) | (with_reducible refine Kd.C_drewN ?_ _) | (with_reducible refine Kd.C_drew ?_))); (case aB => exact (lq HB.out)); (case aF => exact (fun _ _ => trivial)); (case aO => exact (rq HO154.out)); (case aS => exact (below_size (lq HB.out))); (case aL => have := LM.out; simp; omega); intro v156 w5 ho hb hg hat; have n0_ := Aside0.mk (hb); have n1_ := Aside0.mk (ho); clear HB; clear HO154; have HB := n0_; have HO157 := n1_; clear n0_ n1_; clear ho hb hg hat))
    go_ret
    exact ⟨_, rfl, HO157.out, HB.out⟩
/-- What DeleteFunc holds behind j windows, i of them kept. -/
structure DL (w0 wr : World) (g c : Nat) (l : List S41) (p : S41 → Bool) (i j : Nat) (xs : List S41) : Prop where
  len : xs.length = l.length
  ij : i < j
  jn : j ≤ l.length
  kept : xs.take i = (l.take j).filter (fun v => !(p v))
  rest : xs.drop j = l.drop j
  row : Kd.R k41 41 wr w0.heap.size (fun _ => True) (.slice (some ⟨g, 0, none⟩) l.length c) xs
  be : Below w0.heap.size w0 wr
theorem DL.step {w0 wr w' : World} {g c : Nat} {l : List S41} {p : S41 → Bool} {i j : Nat} {xs : List S41} (h : DL w0 wr g c l p i j xs) (hb : Below wr.heap.size wr w') : DL w0 w' g c l p i j xs :=
  ⟨h.len, h.ij, h.jn, h.kept, h.rest, Kd.R_below h.row hb, h.be.trans (hb.mono h.be.size)⟩
theorem rd41 (l : List S41) (j : Nat) (hj : j < l.length) : l[j]? = some (rd_T41 l (j : Int)) := rd_at l j hj
theorem DL.at_ {w0 wr : World} {g c : Nat} {l : List S41} {p : S41 → Bool} {i j : Nat} {xs : List S41} (h : DL w0 wr g c l p i j xs) (hj : j < l.length) : rd_T41 xs (j : Int) = rd_T41 l (j : Int) := by
  have e := congrArg (fun z : List S41 => z[0]?) h.rest
  simp only [List.getElem?_drop, Nat.add_zero] at e
  rw [rd41 xs j (by rw [h.len]; exact hj), rd41 l j hj] at e
  exact Option.some.inj e
theorem take_more (l : List S41) (j : Nat) (hj : j < l.length) : l.take (j + 1) = l.take j ++ [rd_T41 l (j : Int)] := by
  rw [List.take_add_one, rd41 l j hj]
  rfl
theorem drop_more {xs l : List S41} {j : Nat} (h : xs.drop j = l.drop j) : xs.drop (j + 1) = l.drop (j + 1) := by
  rw [← List.drop_drop, ← List.drop_drop, h]
theorem DL.gone {w0 wr : World} {g c : Nat} {l : List S41} {p : S41 → Bool} {i j : Nat} {xs : List S41} (h : DL w0 wr g c l p i j xs) (hj : j < l.length) (hp : p (rd_T41 l (j : Int)) = true) : DL w0 wr g c l p i (j + 1) xs :=
  ⟨h.len, Nat.lt_succ_of_lt h.ij, hj, by rw [take_more l j hj, List.filter_append, h.kept]; simp [hp], drop_more h.rest, h.row, h.be⟩
theorem DL.more {w0 wr w' : World} {g c : Nat} {l : List S41} {p : S41 → Bool} {i j : Nat} {xs : List S41} (h : DL w0 wr g c l p i j xs) (hj : j < l.length) (hp : p (rd_T41 l (j : Int)) = false)
    (hr : Kd.R k41 41 w' w0.heap.size (fun _ => True) (.slice (some ⟨g, 0, none⟩) l.length c) (xs.set i (rd_T41 l (j : Int)))) (hb : Below w0.heap.size w0 w') : DL w0 w' g c l p (i + 1) (j + 1) (xs.set i (rd_T41 l (j : Int))) := by
  have hi := h.ij
  have hl := h.len
  refine ⟨by rw [List.length_set]; exact hl, by omega, hj, ?_, ?_, hr, hb⟩
  · rw [take_more l j hj, List.filter_append, ← h.kept, List.take_add_one, List.take_set_of_le (Nat.le_refl i), List.getElem?_set_self (by omega)]
    simp [hp]
  · rw [List.drop_set_of_lt (by omega)]
    exact drop_more h.rest
theorem zeroW (w : World) : (zeroValue 41).run Try.prog w = .ok (.agg #[.int .i64 0, .int .i64 0, .int .i64 0]) w := by kernel_rfl
theorem clear_run (w : World) (ty : TypeId) (b o n c : Nat) (hn : 0 < n)
    (hc : ∀ j, j < n * 3 → (w.cell? ⟨b, o + j, none⟩).isSome = true) (hf : ∀ j, j < n * 3 → w.frozen? ⟨b, o + j, none⟩ = false) :
    (Builtin.clear_ #[25] ty #[.slice (some ⟨b, o, none⟩) n c]).run Try.prog w = .ok (.tuple #[]) (w.setCells b o (List.replicate (n * 3) (.int .i64 0))) := by
  have hzc : (Builtin.zeroCells (Value.agg #[.int .i64 0, .int .i64 0, .int .i64 0]).cells n).toList = List.replicate (n * 3) (.int .i64 0) := by
    show (Builtin.zeroCells #[.int .i64 0, .int .i64 0, .int .i64 0] n).toList = _
    unfold Builtin.zeroCells
    apply List.ext_getElem
    · simp
    · intro i h1 h2
      have h3 : i % 3 = 0 ∨ i % 3 = 1 ∨ i % 3 = 2 := by omega
      rcases h3 with h | h | h <;> simp [h]
  have hst := run_storeCells_cells (P := Try.prog) b o (List.replicate (n * 3) (.int .i64 0)) 0 w (by simpa using hc) (by simpa using hf) (by intro v hv'; rw [List.eq_of_mem_replicate hv']; rfl)
  simp only [Nat.add_zero] at hst
  obtain ⟨m, rfl⟩ : ∃ m, n = m + 1 := ⟨n - 1, by omega⟩
  simp [Builtin.clear_, run_underlying Try.underlying25, zeroW, hzc, hst]
theorem row_block {W : World} {base g n cap : Nat} {ok : Nat → Prop} {xs : List S41} (h : Kd.R k41 41 W base ok (.slice (some ⟨g, 0, none⟩) n cap) xs) : n = xs.length ∧ ∃ cur : Array Value, base ≤ g ∧ W.heap[g]? = some (.cells cur 41 (0, 0)) ∧ n ≤ cap ∧ cur.size = cap * 3 := by
  obtain ⟨h0, inner, ⟨hil, hw⟩, hr⟩ := h
  rcases hw with ⟨e, _⟩ | ⟨g', cap', cur, e, hb, hh, hc, hm, hs, ht⟩
  · cases e
  · injection e with e1 e2 e3
    injection e1 with e1
    injection e1 with e1
    subst e1; subst e3
    exact ⟨e2, cur, hb, hh, e2 ▸ hc, hs⟩
theorem R_past1 {W : World} {base g n cap : Nat} {ok : Nat → Prop} {xs : List S41} (h : Kd.R k41 41 W base ok (.slice (some ⟨g, 0, none⟩) n cap) xs) (o : Nat) (ho : n * 3 ≤ o) (u : Value) : Kd.R k41 41 (W.setCell ⟨g, o, none⟩ u) base ok (.slice (some ⟨g, 0, none⟩) n cap) xs := by
  have hn := (row_block h).1
  obtain ⟨h0, inner, ⟨hil, hw⟩, hr⟩ := h
  rcases hw with ⟨e, _⟩ | ⟨g', cap', cur, e, hb, hh, hc, hm, hs, ht⟩
  · cases e
  · injection e with e1 e2 e3
    injection e1 with e1
    injection e1 with e1
    subst e1; subst e3
    refine ⟨h0, inner, ⟨hil, .inr ⟨g, cap, cur.setIfInBounds o u, by rw [hn], hb, blk_put hh o u rfl, hc, hm, by simp [hs], ?_⟩⟩, hr.imp_ (fun x cs hM => by rw [k41_openM hM]; exact k41_mkM _ _ _ x)⟩
    rw [Array.toList_setIfInBounds, List.take_set_of_le (by rw [← hn]; exact ho)]
    exact ht
theorem R_past {base g n cap : Nat} {ok : Nat → Prop} {xs : List S41} : ∀ (vs : List Value) (W : World) (o : Nat), Kd.R k41 41 W base ok (.slice (some ⟨g, 0, none⟩) n cap) xs → n * 3 ≤ o → Kd.R k41 41 (W.setCells g o vs) base ok (.slice (some ⟨g, 0, none⟩) n cap) xs := by
  intro vs
  induction vs with
  | nil => intro W o h _; exact h
  | cons v vs ih => intro W o h ho; exact ih _ (o + 1) (R_past1 h o ho v) (by omega)
theorem below_cells {B g : Nat} {w0 : World} (hg : B ≤ g) : ∀ (vs : List Value) (W : World) (o : Nat), Below B w0 W → Below B w0 (W.setCells g o vs) := by
  intro vs
  induction vs with
  | nil => intro W o h; exact h
  | cons v vs ih => intro W o h; exact ih _ (o + 1) (h.setCell hg v)
set_option maxHeartbeats 8000000 in
set_option maxRecDepth 100000 in
theorem del_calls (p : S41 → Bool) (g : Nat) (lb : Array Value) (eg : ∀ args w, (callFunc g args).run Try.prog w = .ok (.enter g args) w) (A : Option Addr) (c : Nat) (l : List S41) (w0 W : World)
    (hp : PredC g lb p w0) (hr : Kd.R k41 41 W w0.heap.size (fun _ => True) (.slice A l.length c) l) (hb : Below w0.heap.size w0 W) (hl : l.length ≤ 4) :
    Calls Try.prog 37 #[.slice A l.length c, .func (.func g) #[] lb] W fun e w' => ∃ v : Value, e = .returned v ∧ Kd.R k41 41 w' w0.heap.size (fun _ => True) v (l.filter (fun v => !(p v))) ∧ Below w0.heap.size w0 w' := by
  have hu41 := Try.underlying41
  have HR := Aside0.mk hr
  have HB := Aside0.mk hb
  have HP := Aside0.mk hp
  have hidx := index_calls p g lb eg A c l W (hp.b hb) (Kd.R_reads' hr).2.2
  clear hp hr hb
  cases hf : l.findIdx? p with
  | none =>
    have hi : idxB p l = -1 := by unfold idxB; rw [hf]
    have hall : l.filter (fun v => !(p v)) = l := by
      rw [List.findIdx?_eq_none_iff] at hf
      exact List.filter_eq_self.2 (fun x hx => by rw [hf x hx]; rfl)
    rw [hall]
    rw [hi] at hidx
    clear hi hall hf
    go_enter Try.func37, Try.ntmps37
    go_wp2_with (go_at_call 50; refine hidx.mono ?_; rintro e w1 ⟨rfl, hb1⟩; have HB1 := Aside0.mk hb1; clear hb1)
    go_ret
    exact ⟨_, rfl, Kd.R_below HR.out HB1.out, HB.out.trans (HB1.out.mono HB.out.size)⟩
  | some i0 =>
    have hi : idxB p l = (i0 : Int) := by unfold idxB; rw [hf]
    rw [List.findIdx?_eq_some_iff_getElem] at hf
    obtain ⟨hi0, hpi, hbef⟩ := hf
    obtain ⟨g0, cap, e, gb, gl, cells, HG⟩ := Kd.R_form HR.out (by omega)
    injection e with e1 e2 e3
    subst e1; subst e3
    clear e2
    have hlc := (Kd.R_reads' HR.out).2.1
    have hst : DL w0 W g0 c l p i0 (i0 + 1) l := ⟨rfl, Nat.lt_succ_self _, hi0, by
      rw [take_more l i0 hi0, List.filter_append]
      have e1 : (l.take i0).filter (fun v => !(p v)) = l.take i0 := by
        refine List.filter_eq_self.2 (fun x hx => ?_)
        obtain ⟨k, hk⟩ := List.getElem?_of_mem hx
        have hkl := (List.getElem?_eq_some_iff.1 hk).1
        rw [List.length_take] at hkl
        rw [List.getElem?_take, if_pos (by omega), List.getElem?_eq_getElem (by omega)] at hk
        have := hbef k (by omega)
        rw [Option.some.inj hk] at this
        simpa using this
      have e2 : rd_T41 l (i0 : Int) = l[i0] := Option.some.inj ((rd41 l i0 hi0).symm.trans (List.getElem?_eq_getElem hi0))
      rw [e1, e2]
      simp [hpi], rfl, HR.out, HB.out⟩
    have HST := Aside0.mk hst
    rw [hi] at hidx
    have hne1 : ((i0 : Int) == -1) = false := beq_eq_false_iff_ne.mpr (by omega)
    clear hi hpi hbef hst gb gl HG
    go_enter Try.func37, Try.ntmps37
    go_wp2_with (go_at_call 50; refine hidx.mono ?_; rintro e w1 ⟨rfl, hb1⟩; have HB1 := Aside0.mk hb1; clear hb1)
    clear hidx
    go_loopg [5, 6] l.length (fun gg s5 s6 wr => ∃ (i j : Nat) (xs : List S41), l.length - j ≤ gg ∧ s5 = .int .i64 (i : Int) ∧ s6 = .int .i64 (j : Int) ∧ Aside0 (DL w0 wr g0 c l p i j xs))
    case atStart => exact ⟨i0, i0 + 1, l, by omega, rfl, by go_num, ⟨HST.out.step HB1.out⟩⟩
    case round =>
      obtain ⟨i, j, xs, hg, rfl, rfl, HDL⟩ := hrel
      have D := Aside0.mk HDL.out
      clear HDL
      have hij := D.out.ij
      have hjn := D.out.jn
      have hxl := D.out.len
      by_cases hlt : j < l.length
      · have hltz : (j : Int) < (l.length : Int) := by omega
        obtain ⟨cj, hclj, hMj, hccj, hfrj⟩ := Kd.R_elem D.out.row z41 (j : Int) (by omega) (by omega)
        obtain rfl := k41_openM hMj
        have ej : xs.getD (j : Int).toNat z41 = rd_T41 l (j : Int) := D.out.at_ hlt
        rw [ej] at hccj
        have HV0 := Aside0.mk (show p (rd_T41 l (j : Int)) = p (rd_T41 l (j : Int)) from rfl)
        obtain ⟨v, hv⟩ : ∃ v, v = rd_T41 l (j : Int) := ⟨_, rfl⟩
        rw [← hv] at hccj
        have h0 : wr.cell? ⟨g0, j * 3, none⟩ = some (.int .i64 v.f0) := hccj 0 _ rfl
        have h1 : wr.cell? ⟨g0, j * 3 + 1, none⟩ = some (.int .i64 v.f1) := hccj 1 _ rfl
        have h2 : wr.cell? ⟨g0, j * 3 + 2, none⟩ = some (.int .i64 v.f2) := hccj 2 _ rfl
        clear hccj hclj hMj hfrj ej HV0
        have hcall := fun (X : World) (hX : Below w0.heap.size w0 X) => HP.out X v hX
        have HVE := Aside0.mk hv
        have hg0 : g0 < wr.heap.size := World.block_lt_of_cell? wr _ h0
        have hgn : g0 ≠ wr.heap.size := Nat.ne_of_lt hg0
        have hgn' : wr.heap.size ≠ g0 := Nat.ne_of_gt hg0
        clear hv
        have il : (i : Int) < (l.length : Int) := by omega
        have HBD := Aside0.mk (D.out.be.alloc D.out.be.size (.cells #[.int .i64 v.f0, .int .i64 v.f1, .int .i64 v.f2] 41))
        cases hq : p v with
        | true =>
          simp only [hq] at hcall
          have HQ := Aside0.mk hq
          clear hq
          go_wp2_with (go_at_fn g; refine (hcall _ HBD.out).mono ?_; rintro e w' ⟨rfl, hb'⟩; have HBE := Aside0.mk hb'; clear hb')
          go_roundg (l.length - (j + 1))
          case measure => omega
          case rel => exact ⟨i, j + 1, xs, by omega, rfl, by go_num, ⟨((D.out.step (below_alloc (Below.refl _ _) _)).step HBE.out).gone hlt (by rw [← HVE.out]; exact HQ.out)⟩⟩
        | false =>
          simp only [hq] at hcall
          have HQ := Aside0.mk hq
          clear hq
          go_wp2_with (go_at_fn g; refine (hcall _ HBD.out).mono ?_; rintro e w' ⟨rfl, hb'⟩; have D2 := Aside0.mk ((D.out.step (below_alloc (Below.refl _ _) (.cells #[.int .i64 v.f0, .int .i64 v.f1, .int .i64 v.f2] 41))).step hb'); have K7 := Aside0.mk (blk_below (at1_0 (w := wr) (o0 := .cells #[.int .i64 v.f0, .int .i64 v.f1, .int .i64 v.f2] 41)) hb'); have k0 := kc K7.out 0 rfl; have k1 := kc K7.out 1 rfl; have k2 := kc K7.out 2 rfl; clear hb'; obtain ⟨ci, hcli, hMi, hcci, hfri⟩ := Kd.R_elem D2.out.row z41 (i : Int) (by omega) (by omega); obtain rfl := k41_openM hMi; have HCI := Aside0.mk hcci; have s0 : w'.cell? ⟨g0, i * 3, none⟩ = some _ := hcci 0 _ rfl; have s1 : w'.cell? ⟨g0, i * 3 + 1, none⟩ = some _ := hcci 1 _ rfl; have s2 : w'.cell? ⟨g0, i * 3 + 2, none⟩ = some _ := hcci 2 _ rfl; have f0 : w'.frozen? ⟨g0, i * 3, none⟩ = false := hfri 0; have f1 : w'.frozen? ⟨g0, i * 3 + 1, none⟩ = false := hfri 1; have f2 : w'.frozen? ⟨g0, i * 3 + 2, none⟩ = false := hfri 2; clear hcli hMi hcci hfri)
          go_roundg (l.length - (j + 1))
          case measure => omega
          case rel =>
            have hseg := Kd.R_seg D2.out.row (i : Int) (by omega) (by omega) (seg := [.int .i64 v.f0, .int .i64 v.f1, .int .i64 v.f2]) (j := 0) rfl HCI.out (Nat.le_refl 3) (x' := v) (k41_mkM _ _ _ v) (fun _ hk => hk)
            obtain ⟨_, _, hbg, _⟩ := row_block D2.out.row
            have hq' := HQ.out
            have hve := HVE.out
            refine ⟨i + 1, j + 1, xs.set i v, by omega, by go_num, by go_num, ⟨?_⟩⟩
            rw [hve] at hq' hseg ⊢
            exact D2.out.more hlt hq' hseg.1 (((D2.out.be.setCell hbg _).setCell hbg _).setCell hbg _)
      · have hltz : ¬ (j : Int) < (l.length : Int) := by omega
        have hje : j = l.length := by omega
        obtain ⟨hll, cur, hbg, hheap, hnc, hcs⟩ := row_block D.out.row
        clear hll
        have hil : i < l.length := by omega
        have hcl : ∀ ty, (Builtin.clear_ #[25] ty #[.slice (some ⟨g0, i * 3, none⟩) (l.length - i) (c - i)]).run Try.prog wr = .ok (.tuple #[]) (wr.setCells g0 (i * 3) (List.replicate ((l.length - i) * 3) (.int .i64 0))) := fun ty => clear_run wr ty g0 (i * 3) (l.length - i) (c - i) (by omega) (fun t ht => by rw [blk_cell hheap, Array.getElem?_eq_getElem (by omega)]; rfl) (fun t ht => blk_frozen hheap _)
        have HQ : Aside0 (Kd.R k41 41 (wr.setCells g0 (i * 3) (List.replicate ((l.length - i) * 3) (.int .i64 0))) w0.heap.size (fun _ => True) (.slice (some ⟨g0, 0, none⟩) i c) (l.filter (fun v => !(p v))) ∧ Below w0.heap.size w0 (wr.setCells g0 (i * 3) (List.replicate ((l.length - i) * 3) (.int .i64 0)))) := ⟨⟨by
          have hk := D.out.kept
          rw [hje, List.take_length] at hk
          rw [← hk]
          exact R_past _ _ _ (Kd.R_take D.out.row (by omega)) (Nat.le_refl _), below_cells hbg _ _ _ D.out.be⟩⟩
        have hci : c ≠ i := by omega
        have hile : (i : Int) ≤ (l.length : Int) := by omega
        have hile2 : i ≤ l.length := by omega
        clear hheap hje hcs hbg hxl
        go_wp2
        go_ret
        exact ⟨_, rfl, HQ.out.1, HQ.out.2⟩
def impl_Kept.f (l : List S41) (kind : Int) : Option (List S41) := some (if areWB l = true ∧ 1 ≤ kind ∧ kind ≤ 7 then l.filter (fun v => !(lacks kind v)) else [])
theorem areWB_len {l : List S41} (h : areWB l = true) : l.length ≤ 4 := by
  unfold areWB at h
  by_cases c : l.length ≤ 4
  · exact c
  · exfalso
    simp at h
    omega
set_option maxHeartbeats 8000000 in
set_option maxRecDepth 100000 in
theorem impl_Kept.calls (A : Option Addr) (c : Nat) (l : List S41) (kind : Int) (r : List S41) (w : World) (hr : Kd.C k41 w A l.length l) (hc : l.length ≤ c) (h : impl_Kept.f l kind = some r) :
    Calls Try.prog 21 #[.slice A l.length c, .int .i64 kind] w fun e w' => ∃ v1_ : Value, e = .returned v1_ ∧ Kd.R k41 41 w' w.heap.size (fun _ => True) v1_ r ∧ Below w.heap.size w w' := by
  have hu41 := Try.underlying41
  unfold impl_Kept.f at h
  replace h := Option.some.inj h
  have HR := Aside0.mk hr
  clear hr
  have hwi : impl_within.f kind 1 7 = some (decide (1 ≤ kind ∧ kind ≤ 7)) := by
    unfold impl_within.f; split <;> simp_all <;> omega
  have haw : impl_areWindows.f l = some (areWB l) := rfl
  cases hA : areWB l with
  | false =>
    rw [if_neg (fun x => by rw [hA] at x; cases x.1)] at h
    subst h
    rw [hA] at haw
    have HW := Aside0.mk haw
    clear haw hA hwi
    go_enter Try.func21, Try.ntmps21
    go_wp2_with (go_at_call 29; refine (impl_areWindows.calls A c l false _ (cq HR.out) hc HW.out).mono ?_; rintro e w1 ⟨rfl, hb⟩; have HB1 := Aside0.mk (Fr.step ((Fr.refl (fun _ => False) w).alloc _) hb); clear hb)
    go_ret
    exact ⟨_, rfl, Kd.R_nil _ _ _ _ _, HB1.out.below (fun _ h => h.elim) (Nat.le_refl _)⟩
  | true =>
    have hl4 := areWB_len hA
    by_cases hk : 1 ≤ kind ∧ kind ≤ 7
    · rw [if_pos ⟨hA, hk⟩] at h
      subst h
      rw [hA] at haw
      rw [decide_eq_true hk] at hwi
      have HW := Aside0.mk haw
      have HK := Aside0.mk hwi
      have HL := Aside0.mk hl4
      have eg : ∀ args w, (callFunc 39 args).run Try.prog w = .ok (.enter 39 args) w := enters_of Try.func39 (by kernel_rfl) rfl
      have EG := Aside0.mk eg
      clear haw hA hwi hk hl4 eg
      go_enter Try.func21, Try.ntmps21
      go_wp2_with (first | (go_at_call 29; refine (impl_areWindows.calls A c l true _ (cq HR.out) hc HW.out).mono ?_; rintro e w1 ⟨rfl, hb⟩; have K3 := Aside0.mk (blk_below at1_0 hb); have HB1 := Aside0.mk (Fr.step ((Fr.refl (fun _ => False) w).alloc _) hb); have hs1 : w.heap.size < w1.heap.size := blk_lt K3.out; clear hb; have q0 := kc K3.out 0 rfl) | (go_at_call 36; refine (impl_within.calls kind 1 7 true _ HK.out).mono ?_; rintro e w2 ⟨rfl, hd⟩; have K4 := Aside0.mk (blk_below K3.out hd.below); have HB2 := Aside0.mk (HB1.out.step hd.below); have hs2 : w.heap.size < w2.heap.size := blk_lt K4.out; clear hd) | (go_at_call 38; refine (cloneW.calls A c l _ (Kd.C_below HR.out (HB2.out.below (fun _ h => h.elim) (Nat.le_refl _))) hc (by have := HL.out; omega)).mono ?_; rintro e w3 ⟨v, rfl, ho, hb⟩; obtain ⟨Av, cv, rfl⟩ := Kd.R_slice ho; have HV := Aside0.mk ho; have HB3 := Aside0.mk hb; clear hb ho) | (go_at_call 37; refine (del_calls (lacks kind) 39 #[.pointer (some ⟨w.heap.size, 0, none⟩)] EG.out Av cv l w2 _ (kept1_pred kind w.heap.size w2 (kc K4.out 0 rfl) hs2) HV.out HB3.out HL.out).mono ?_; rintro e w4 ⟨v4, rfl, ho, hb⟩; have HO := Aside0.mk ho; have HB4 := Aside0.mk hb; clear hb ho))
      go_ret
      exact ⟨_, rfl, Kd.R_lower HO.out (Nat.le_of_lt hs2), (HB2.out.step HB4.out).below (fun _ h => h.elim) (Nat.le_refl _)⟩
    · rw [if_neg (fun x => hk x.2)] at h
      subst h
      rw [hA] at haw
      rw [decide_eq_false hk] at hwi
      have HW := Aside0.mk haw
      have HK := Aside0.mk hwi
      clear haw hA hwi hk hl4
      go_enter Try.func21, Try.ntmps21
      go_wp2_with (first | (go_at_call 29; refine (impl_areWindows.calls A c l true _ (cq HR.out) hc HW.out).mono ?_; rintro e w1 ⟨rfl, hb⟩; have K3 := Aside0.mk (blk_below at1_0 hb); have HB1 := Aside0.mk (Fr.step ((Fr.refl (fun _ => False) w).alloc _) hb); clear hb; have q0 := kc K3.out 0 rfl) | (go_at_call 36; refine (impl_within.calls kind 1 7 false _ HK.out).mono ?_; rintro e w2 ⟨rfl, hd⟩; have HB2 := Aside0.mk (HB1.out.step hd.below); clear hd))
      go_ret
      exact ⟨_, rfl, Kd.R_nil _ _ _ _ _, HB2.out.below (fun _ h => h.elim) (Nat.le_refl _)⟩
end Go.Proofs.Ytampcamihaleaaa.GJ
