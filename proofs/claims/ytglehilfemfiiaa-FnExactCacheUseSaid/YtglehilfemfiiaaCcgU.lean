/- What an access makes of a cache, walked by hand. -/
import Derived.Test.YtglehilfemfiiaaCcfU
import Derived.Deep.RegionHeld3
namespace Go.Proofs.Ytglehilfemfiiaa.GU
open Go.RowKit Go.Proofs.YtglehilfemfiiaaW.PrintWords Go.Proofs.YtglehilfemfiiaaW.PrintLast Go.Proofs.YtglehilfemfiiaaW.PrintMore Go.Proofs.Ytglehilfemfiiaa.Q Go.Proofs.Ytglehilfemfiiaa.Hnd
set_option linter.unusedVariables false
set_option linter.unusedSimpArgs false
/-- A cache as its blocks: the box, the table of rows, the rows, all apart. -/
structure CS (cp : Nat) (sp : List Value) (B : Nat) (W : World) (gc gr : Nat) (s0 s1 s2 : Int) (vs : List Value) (rows : List (List S118)) : Prop where
  box : W.heap[gc]? = some (.cells #[.int .i64 s0, .int .i64 s1, .int .i64 s2, .slice (some ⟨gr, 0, none⟩) vs.length cp] 70 (0, 0))
  tab : W.heap[gr]? = some (.cells (vs ++ sp).toArray 116 (0, 0))
  len : rows.length = vs.length
  row : ∀ (i : Nat) (v : Value) (xs : List S118), vs[i]? = some v → rows[i]? = some xs → Kd.R k118 118 W B (fun _ => True) v xs
  apart : ∀ (i j : Nat) (v v' : Value) (k : Nat), i ≠ j → vs[i]? = some v → vs[j]? = some v' → v.ownBlock = some k → v'.ownBlock ≠ some k
  hgc : B ≤ gc
  hgr : B ≤ gr
  hB : B ≤ W.heap.size
section
variable {cp : Nat} {sp : List Value} {B gc gr : Nat} {W W' : World} {s0 s1 s2 : Int} {vs : List Value} {rows : List (List S118)}
theorem CS.step (h : CS cp sp B W gc gr s0 s1 s2 vs rows) (hb : Below W.heap.size W W') : CS cp sp B W' gc gr s0 s1 s2 vs rows :=
  ⟨blk_below h.box hb, blk_below h.tab hb, h.len, fun i v xs h1 h2 => Kd.R_below (h.row i v xs h1 h2) hb, h.apart, h.hgc, h.hgr, Nat.le_trans h.hB hb.size⟩
theorem CS.typed (h : CS cp sp B W gc gr s0 s1 s2 vs rows) {i k : Nat} {v : Value} (hv : vs[i]? = some v) (hk : v.ownBlock = some k) : ∃ cells, W.heap[k]? = some (.cells cells 118 (0, 0)) := by
  have hi := (List.getElem?_eq_some_iff.1 hv).1
  rw [← h.len] at hi
  exact Kd.R_typed (h.row i v _ hv (List.getElem?_eq_getElem hi)) k hk
theorem CS.base (h : CS cp sp B W gc gr s0 s1 s2 vs rows) {i k : Nat} {v : Value} (hv : vs[i]? = some v) (hk : v.ownBlock = some k) : B ≤ k := by
  have hi := (List.getElem?_eq_some_iff.1 hv).1
  rw [← h.len] at hi
  exact Kd.R_base (h.row i v _ hv (List.getElem?_eq_getElem hi)) k hk
theorem CS.ne_box (h : CS cp sp B W gc gr s0 s1 s2 vs rows) {i k : Nat} {v : Value} (hv : vs[i]? = some v) (hk : v.ownBlock = some k) : gc ≠ k := fun e => by
  subst e
  obtain ⟨cells, hc⟩ := h.typed hv hk
  have := h.box.symm.trans hc
  simp at this
theorem CS.ne_tab (h : CS cp sp B W gc gr s0 s1 s2 vs rows) {i k : Nat} {v : Value} (hv : vs[i]? = some v) (hk : v.ownBlock = some k) : gr ≠ k := fun e => by
  subst e
  obtain ⟨cells, hc⟩ := h.typed hv hk
  have := h.tab.symm.trans hc
  simp at this
theorem CS.box_tab (h : CS cp sp B W gc gr s0 s1 s2 vs rows) : gc ≠ gr := fun e => by
  subst e
  have := h.box.symm.trans h.tab
  simp at this
theorem CS.C (h : CS cp sp B W gc gr s0 s1 s2 vs rows) (hm : vs.length ≤ 1000) : Kd.C (Kd.slice 118 k118) W (some ⟨gr, 0, none⟩) rows.length rows := by
  refine ⟨rfl, by rw [h.len]; omega, fun _ => ⟨_, rfl, fun j p hj => ?_⟩⟩
  have hjl := (List.getElem?_eq_some_iff.1 hj).1
  obtain ⟨x, hv⟩ : ∃ x, vs[j]? = some x := ⟨_, List.getElem?_eq_getElem (by rw [← h.len]; exact hjl)⟩
  have hr := h.row j _ p hv hj
  obtain ⟨A, c, e, hlc, hC⟩ := Kd.R_reads hr
  refine ⟨[x], rfl, ⟨A, c, by rw [e], hlc, hC⟩, fun i u hu => ?_⟩
  cases i with
  | succ i => simp at hu
  | zero =>
    rw [Addr.add_lit]
    have : x = u := by simpa using hu
    subst this
    refine (blk_cell h.tab _).trans ?_
    rw [List.getElem?_toArray]
    show (vs ++ sp)[0 + (j * 1 + 0)]? = some x
    rw [show 0 + (j * 1 + 0) = j by omega, List.getElem?_append_left (List.getElem?_eq_some_iff.1 hv).1]
    exact hv
/-- Row r was written (in place or anew); its value goes into the table. -/
theorem CS.put (h : CS cp sp B W gc gr s0 s1 s2 vs rows) {r : Nat} {v v' : Value} {row' : List S118} (hv : vs[r]? = some v) (hf : Fr (fun k => v.ownBlock = some k) W W') (hr : Kd.R k118 118 W' B (fun _ => True) v' row') (ho : ∀ k, v'.ownBlock = some k → v.ownBlock = some k ∨ W.heap.size ≤ k) :
    CS cp sp B (W'.setCell ⟨gr, r, none⟩ v') gc gr s0 s1 s2 (vs.set r v') (rows.set r row') := by
  have hrl := (List.getElem?_eq_some_iff.1 hv).1
  have hbox := hf.blk h.box (fun hk => h.ne_box hv hk rfl)
  have htab := hf.blk h.tab (fun hk => h.ne_tab hv hk rfl)
  have hne : ∀ k, v'.ownBlock = some k → k ≠ gr := fun k hk e => by
    subst e
    obtain ⟨cells, hc⟩ := Kd.R_typed hr k hk
    have := htab.symm.trans hc
    simp at this
  have hfar : ∀ k, k ≠ gr → (W'.setCell ⟨gr, r, none⟩ v').heap[k]? = W'.heap[k]? := fun k hk => Below.heap_setCell W' ⟨gr, r, none⟩ v' k hk
  refine ⟨by rw [List.length_set, hfar gc h.box_tab]; exact hbox, ?_, by rw [List.length_set, List.length_set]; exact h.len, fun i u xs h1 h2 => ?_, fun i j u u' k hij h1 h2 hk hk' => ?_, h.hgc, h.hgr, by rw [show (W'.setCell ⟨gr, r, none⟩ v').heap.size = W'.heap.size by simp [World.setCell]]; exact Nat.le_trans h.hB hf.size⟩
  · have := blk_put htab r v' rfl
    rw [this]
    simp [List.set_append_left _ _ hrl]
  · by_cases e : i = r
    · subst e
      rw [List.getElem?_set_self hrl] at h1
      rw [List.getElem?_set_self (by rw [h.len]; exact hrl)] at h2
      injection h1 with h1
      injection h2 with h2
      subst h1; subst h2
      have hr' := Kd.R_reok rfl hr (ok := fun k => k ≠ gr) hne
      exact Kd.R_mono (Kd.R_far (p := ⟨gr, _, none⟩) hr' (fun k hk => hk) v') (fun _ _ => trivial)
    · rw [List.getElem?_set_ne (Ne.symm e)] at h1 h2
      have hR := h.row i u xs h1 h2
      have h3 : Kd.R k118 118 W B (fun k => k ≠ gr ∧ ¬ v.ownBlock = some k) u xs := Kd.R_reok rfl hR (fun k hk => ⟨fun e2 => h.ne_tab h1 hk e2.symm, fun e2 => h.apart i r u v k e h1 hv hk e2⟩)
      exact Kd.R_mono (Kd.R_far (p := ⟨gr, r, none⟩) (hf.R h3 (fun k hk => hk.2)) (fun k hk => hk.1) v') (fun _ _ => trivial)
  · have key : ∀ (a : Nat) (x : Value), a ≠ r → vs[a]? = some x → x.ownBlock = some k → v'.ownBlock = some k → False := fun a x ha hx hxk hvk => by
      rcases ho k hvk with h5 | h5
      · exact h.apart a r x v k ha hx hv hxk h5
      · obtain ⟨cells, hc⟩ := h.typed hx hxk
        have := blk_lt hc
        omega
    by_cases e : i = r
    · subst e
      rw [List.getElem?_set_self hrl] at h1
      injection h1 with h1
      subst h1
      rw [List.getElem?_set_ne hij] at h2
      exact key j u' (Ne.symm hij) h2 hk' hk
    · rw [List.getElem?_set_ne (Ne.symm e)] at h1
      by_cases e2 : j = r
      · subst e2
        rw [List.getElem?_set_self hrl] at h2
        injection h2 with h2
        subst h2
        exact key i u e h1 hk hk'
      · rw [List.getElem?_set_ne (Ne.symm e2)] at h2
        exact h.apart i j u u' k hij h1 h2 hk hk'
end
theorem tab_cell {W : World} {gr r : Nat} {sp vs : List Value} {v : Value} (h : W.heap[gr]? = some (.cells (vs ++ sp).toArray 116 (0, 0))) (hv : vs[r]? = some v) : W.cell? ⟨gr, r, none⟩ = some v :=
  (blk_cell h r).trans (by rw [List.getElem?_toArray, List.getElem?_append_left (List.getElem?_eq_some_iff.1 hv).1]; exact hv)
/-- What an access makes of a row of ways: whether the line was there, whether a dirty one had to go, the row behind it. -/
def useRow (s1 : Int) (l : List S118) (t : Int) (wr : Bool) : Bool × Bool × List S118 :=
  match l.findIdx? (tagB t) with
  | some i => (true, false, ⟨(rd_T118 l i).f0, (rd_T118 l i).f1 || wr⟩ :: l.eraseIdx i)
  | none => if (l.length : Int) = s1 then (false, (rd_T118 (⟨t, wr⟩ :: l) l.length).f1, (⟨t, wr⟩ :: l).take l.length) else (false, false, ⟨t, wr⟩ :: l)
def UsePost (cp : Nat) (sp : List Value) (B : Nat) (W : World) (gc gr : Nat) (s0 s1 s2 : Int) (vs : List Value) (rows : List (List S118)) (r : Nat) (u : Bool × Bool × List S118) (e : Ending) (w' : World) : Prop :=
  e = .returned (.tuple #[.bool u.1, .bool u.2.1]) ∧ ∃ vs', vs'.length = vs.length ∧ CS cp sp B w' gc gr s0 s1 s2 vs' (rows.set r u.2.2) ∧ Fr (fun k => k = gr ∨ (B ≤ k ∧ ∃ cs, W.heap[k]? = some (.cells cs 118 (0, 0)))) W w'
theorem tdiv_pos {a b : Int} (ha : 0 ≤ a) (h65 : a ≤ 65535) (hb : 1 ≤ b) : wrap64 (Int.tdiv a b) = a / b ∧ 0 ≤ a / b ∧ a / b ≤ 65535 := by
  have h1 : Int.tdiv a b = a / b := Int.tdiv_eq_ediv_of_nonneg ha
  have h2 : 0 ≤ a / b := Int.ediv_nonneg ha (by omega)
  have h3 : a / b ≤ a := Int.ediv_le_self b ha
  rw [h1]
  refine ⟨?_, h2, by omega⟩
  unfold wrap64
  omega
theorem usepost_of {cp : Nat} {sp : List Value} {B gc gr r : Nat} {W W1 W' : World} {s0 s1 s2 : Int} {vs : List Value} {rows : List (List S118)} {u : Bool × Bool × List S118} {v v' : Value} {e : Ending} (h : CS cp sp B W gc gr s0 s1 s2 vs rows) (hb : Below W.heap.size W W1) (hv : vs[r]? = some v) (hf : Fr (fun k => v.ownBlock = some k) W1 W') (hr : Kd.R k118 118 W' B (fun _ => True) v' u.2.2) (ho : ∀ k, v'.ownBlock = some k → v.ownBlock = some k ∨ W1.heap.size ≤ k) (he : e = .returned (.tuple #[.bool u.1, .bool u.2.1])) :
    UsePost cp sp B W gc gr s0 s1 s2 vs rows r u e (W'.setCell ⟨gr, r, none⟩ v') := by
  refine ⟨he, vs.set r v', by rw [List.length_set], (h.step hb).put hv hf hr ho, ?_⟩
  refine Fr.set (p := ⟨gr, r, none⟩) ?_ (.inl (.inl rfl)) v'
  exact (Fr.of_below _ hb).trans hf (fun i hi => .inl (.inr ⟨h.base hv hi, h.typed hv hi⟩))
end Go.Proofs.Ytglehilfemfiiaa.GU
