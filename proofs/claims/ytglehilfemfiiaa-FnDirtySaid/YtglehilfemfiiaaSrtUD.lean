/- slices.Sort at whole numbers, over an own row: the kit's shelf's contract, in the words of the print. -/
import Derived.Test.YtglehilfemfiiaaGUx0D
import Derived.Test.YtglehilfemfiiaaHndD
import Derived.Ground.NamesProg
import Derived.Shelf.Lay
import Derived.Shelf.Sort.Plain
import Derived.Shelf.Slices.In.SortNone
namespace Go.Proofs
open Go.Shelf
shelf_lay Lays.n189 Nm 189 at Try as Try.laysSort
end Go.Proofs
namespace Go.Proofs.Ytglehilfemfiiaa.GU
open Go.Shelf Go.Sort Go.RowKit Go.Proofs.YtglehilfemfiiaaW.PrintWords Go.Proofs.YtglehilfemfiiaaW.PrintLast Go.Proofs.YtglehilfemfiiaaW.PrintMore Go.Proofs.Ytglehilfemfiiaa.Q Go.Proofs.Ytglehilfemfiiaa.Hnd
set_option linter.unusedVariables false
set_option linter.unusedSimpArgs false
def sortI (l : List Int) : List Int := l.mergeSort fun x y => decide (x ≤ y)
theorem sortI_len (l : List Int) : (sortI l).length = l.length := by simp [sortI]
/-- The world behind the sort: the block's cells anew, some new blocks. -/
theorem sort_heap {W : World} {g q : Nat} {cur : Array Value} {d : Array Int} {os : Array Obj} (h : W.heap[g]? = some (.cells cur 3 (0, 0))) :
    (grow (putRow (Value.int .i64) (Sort.ahead W q) g 0 d) os).heap[g]? = some (.cells (putCells (Value.int .i64) 0 d cur) 3 (0, 0)) := by
  have hlt := blk_lt h
  unfold grow putRow mapBlock Sort.ahead
  simp only
  rw [Array.getElem?_append, if_pos (by simpa using hlt), Array.getElem?_modify, if_pos rfl, h]
  rfl
theorem sort_fr {W : World} {g q : Nat} {d : Array Int} {os : Array Obj} (hlt : g < W.heap.size) : Fr (fun k => k = g) W (grow (putRow (Value.int .i64) (Sort.ahead W q) g 0 d) os) := by
  refine ⟨rfl, rfl, rfl, ?_, fun k hk hn => ?_⟩
  · unfold grow putRow mapBlock Sort.ahead
    simp
  · unfold grow putRow mapBlock Sort.ahead
    simp only
    rw [Array.getElem?_append, if_pos (by simpa using hk), Array.getElem?_modify, if_neg (fun e => hn e.symm)]
theorem put_take {n : Nat} {cur : Array Value} {ys : List Int} (hy : ys.length = n) (hn : n ≤ cur.size) : (putCells (Value.int .i64) 0 ys.toArray cur).toList.take n = ys.map (Value.int .i64) := by
  refine List.ext_getElem? (fun j => ?_)
  rw [List.getElem?_take]
  by_cases hj : j < n
  · rw [if_pos hj, Array.getElem?_toList]
    unfold putCells
    rw [Array.getElem?_mapIdx, Array.getElem?_eq_getElem (by omega), Option.map_some, if_pos ⟨Nat.zero_le _, by simp; omega⟩, List.getElem?_map, List.getElem?_eq_getElem (by omega), Option.map_some]
    simp [hy, hj]
  · rw [if_neg hj, List.getElem?_map, List.getElem?_eq_none (by omega)]
    rfl
def slices_Sort_int_int.f (l : List Int) : Option (List Int) := if l.length < 4000000000000000000 then some (sortI l) else none
theorem reps_ints {l : List Int} {inner : List Value} {W : World} {b : Nat} {ok : Nat → Prop} (h : Reps ((Kd.int .i64).M W b ok) 1 l inner) : inner = l.map (Value.int .i64) := by
  refine List.ext_getElem? (fun j => ?_)
  have hlen : inner.length = l.length := by have := h.1; omega
  by_cases hj : j < l.length
  · have hM := h.2 j l[j] (List.getElem?_eq_getElem hj)
    have e : (inner.drop (j * 1)).take 1 = [Value.int .i64 l[j]] := hM
    rw [Nat.mul_one, List.drop_eq_getElem_cons (by omega), List.take_succ_cons] at e
    have e2 : inner[j] = Value.int .i64 l[j] := (List.cons.inj e).1
    rw [List.getElem?_eq_getElem (by omega), e2, List.getElem?_map, List.getElem?_eq_getElem hj]
    rfl
  · rw [List.getElem?_eq_none (by omega), List.getElem?_eq_none (by simp; omega)]
theorem ints_reps (l : List Int) (W : World) (b : Nat) (ok : Nat → Prop) : Reps ((Kd.int .i64).M W b ok) 1 l (l.map (Value.int .i64)) := by
  refine ⟨by simp, fun j p hj => ?_⟩
  obtain ⟨hl, e⟩ := List.getElem?_eq_some_iff.1 hj
  have : ((l.map (Value.int .i64)).drop (j * 1)).take 1 = [Value.int .i64 p] := by
    rw [Nat.mul_one, List.drop_eq_getElem_cons (by simpa using hl), List.getElem_map, e]
    rfl
  rw [this]
  rfl
theorem slices_Sort_int_int.calls (u : Value) (l0 : List Int) (r : List Int) (w0 w : World) (P : Nat → Prop) (hB : Below w0.heap.size w0 w) (ho : Kd.R (Kd.int .i64) 3 w w0.heap.size P u l0) (h : slices_Sort_int_int.f l0 = some r) :
    Calls Try.prog 95 #[u] w fun e w' => e = .returned (.tuple #[]) ∧ Kd.R (Kd.int .i64) 3 w' w0.heap.size P u r ∧ Below w0.heap.size w0 w' := by
  unfold slices_Sort_int_int.f at h
  split at h
  case isFalse => cases h
  case isTrue hl =>
  obtain rfl := Option.some.inj h
  by_cases hp : 0 < l0.length
  · obtain ⟨h0, inner, hw, hr⟩ := ho
    rcases hw.2 with ⟨_, hn⟩ | ⟨g, cap, cur, hv, hb, hh, hc, hm, hs, ht⟩
    · omega
    · subst hv
      have hin := reps_ints hr
      have hsz : cur.size = cap := by rw [hs]; exact Nat.mul_one _
      have hcell : ∀ j, j < l0.length → cur[j]? = some (Value.int .i64 (l0.getD j 0)) := fun j hj => by
        have e := congrArg (fun z : List Value => z[j]?) (ht.trans hin)
        rw [List.getElem?_take, if_pos (by rw [show (Kd.int IntKind.i64).sz = 1 from rfl]; omega), Array.getElem?_toList, List.getElem?_map, List.getElem?_eq_getElem hj] at e
        rw [e, List.getD_eq_getElem?_getD, List.getElem?_eq_getElem hj]
        rfl
      have hH : Holds (Value.int .i64) w g 0 l0.toArray := fun j hj => by
        have hjl : j < l0.length := by simpa using hj
        refine ⟨(blk_cell hh (0 + j)).trans ?_, blk_frozen hh _⟩
        rw [Nat.zero_add, hcell j hjl]
        simp [List.getD_eq_getElem?_getD, hjl]
      refine (Any.slices_Sort_int Try.laysSort g 0 cap l0 w hH (blk_lt hh) (by omega)).mono (fun e w' hh' => ?_)
      obtain ⟨rfl, q, os, rfl⟩ := hh'
      have hF := sort_fr (W := w) (g := g) (q := q) (d := (sortI l0).toArray) (os := os) (blk_lt hh)
      refine ⟨rfl, ?_, hB.trans (hF.below (B := w0.heap.size) (fun i hi => by subst hi; exact hb) hB.size)⟩
      refine ⟨h0, (sortI l0).map (Value.int .i64), ⟨by rw [List.length_map]; exact (Nat.mul_one _).symm, .inr ⟨g, cap, _, by rw [sortI_len], hb, sort_heap hh, by rw [sortI_len]; exact hc, hm, ?_, ?_⟩⟩, ints_reps _ _ _ _⟩
      · unfold putCells
        rw [Array.size_mapIdx, hs]
      · rw [show (sortI l0).length * (Kd.int IntKind.i64).sz = l0.length by rw [sortI_len]; exact Nat.mul_one _]
        exact put_take (sortI_len l0) (by omega)
  · have hx : l0 = [] := List.eq_nil_of_length_eq_zero (by omega)
    subst hx
    obtain ⟨A, c, rfl⟩ := Kd.R_slice ho
    refine (Any.slices_Sort_int_none Try.laysSort A c w).mono (fun e w' hh => ?_)
    obtain ⟨rfl, rfl⟩ := hh
    exact ⟨rfl, by simpa [sortI] using ho, hB⟩
end Go.Proofs.Ytglehilfemfiiaa.GU
