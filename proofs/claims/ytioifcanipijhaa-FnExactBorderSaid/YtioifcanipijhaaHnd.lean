/- Short words for walks by hand: fresh rows, boxes, what lies apart. For any program and any memory. -/
import Derived.Test.YtioifcanipijhaaQ
namespace Go.Proofs.Ytioifcanipijhaa.Hnd
open Go.RowKit Go.Proofs.YtioifcanipijhaaW.PrintWords Go.Proofs.YtioifcanipijhaaW.PrintLast Go.Proofs.YtioifcanipijhaaW.PrintMore Go.Proofs.Ytioifcanipijhaa.Q
set_option linter.unusedVariables false
/-- A row that was just laid. -/
theorem R_fresh {α : Type} {enc : α → Value} {h1 : ∀ x, (enc x).oneCell' = true} {e base g n : Nat} {ok : Nat → Prop} {W : World} {xs : List α} (h : W.heap[g]? = some (.cells (xs.map enc).toArray e (0, 0))) (hb : base ≤ g) (hl : xs.length ≤ maxLen) (hok : ok g) (hn : n = xs.length) :
    (Kd.scalar enc h1).R e W base ok (.slice (some ⟨g, 0, none⟩) n n) xs := by
  subst hn
  refine Kd.R_of_own ⟨by simp [encs], .inr ⟨g, xs.length, _, rfl, hb, h, Nat.le_refl _, hl, by simp, ?_⟩⟩ (fun k hk => ?_)
  · rw [Nat.mul_one, List.take_of_length_le (by simp)]
    rfl
  · have : g = k := by simpa [Value.ownBlock] using hk
    exact this ▸ hok
theorem new_at {W : World} {o : Obj} {g : Nat} (hg : g = W.heap.size) : (W.alloc o).heap[g]? = some o := hg ▸ blk_new W o
/-- A cell of a block that is known. -/
theorem kc {W : World} {g t : Nat} {cs : Array Value} {v : Value} (h : W.heap[g]? = some (.cells cs t (0, 0))) (i : Nat) (hv : cs[i]? = some v) : W.cell? ⟨g, i, none⟩ = some v := (blk_cell h i).trans hv
theorem at1_0 {w : World} {o0 : Obj} : (w.alloc o0).heap[w.heap.size]? = some o0 := bq (new_at (W := w) (by simp))
theorem at2_0 {w : World} {o0 o1 : Obj} : ((w.alloc o0).alloc o1).heap[w.heap.size]? = some o0 := bq (new_at (W := w) (by simp))
theorem at2_1 {w : World} {o0 o1 : Obj} : ((w.alloc o0).alloc o1).heap[(w.heap.size + 1)]? = some o1 := bq (new_at (W := (w.alloc o0)) (by simp))
theorem at3_0 {w : World} {o0 o1 o2 : Obj} : (((w.alloc o0).alloc o1).alloc o2).heap[w.heap.size]? = some o0 := bq (new_at (W := w) (by simp))
theorem at3_1 {w : World} {o0 o1 o2 : Obj} : (((w.alloc o0).alloc o1).alloc o2).heap[(w.heap.size + 1)]? = some o1 := bq (new_at (W := (w.alloc o0)) (by simp))
theorem at3_2 {w : World} {o0 o1 o2 : Obj} : (((w.alloc o0).alloc o1).alloc o2).heap[(w.heap.size + 2)]? = some o2 := bq (new_at (W := ((w.alloc o0).alloc o1)) (by simp))
theorem at4_0 {w : World} {o0 o1 o2 o3 : Obj} : ((((w.alloc o0).alloc o1).alloc o2).alloc o3).heap[w.heap.size]? = some o0 := bq (new_at (W := w) (by simp))
theorem at4_1 {w : World} {o0 o1 o2 o3 : Obj} : ((((w.alloc o0).alloc o1).alloc o2).alloc o3).heap[(w.heap.size + 1)]? = some o1 := bq (new_at (W := (w.alloc o0)) (by simp))
theorem at4_2 {w : World} {o0 o1 o2 o3 : Obj} : ((((w.alloc o0).alloc o1).alloc o2).alloc o3).heap[(w.heap.size + 2)]? = some o2 := bq (new_at (W := ((w.alloc o0).alloc o1)) (by simp))
theorem at4_3 {w : World} {o0 o1 o2 o3 : Obj} : ((((w.alloc o0).alloc o1).alloc o2).alloc o3).heap[(w.heap.size + 3)]? = some o3 := bq (new_at (W := (((w.alloc o0).alloc o1).alloc o2)) (by simp))
theorem at5_0 {w : World} {o0 o1 o2 o3 o4 : Obj} : (((((w.alloc o0).alloc o1).alloc o2).alloc o3).alloc o4).heap[w.heap.size]? = some o0 := bq (new_at (W := w) (by simp))
theorem at5_1 {w : World} {o0 o1 o2 o3 o4 : Obj} : (((((w.alloc o0).alloc o1).alloc o2).alloc o3).alloc o4).heap[(w.heap.size + 1)]? = some o1 := bq (new_at (W := (w.alloc o0)) (by simp))
theorem at5_2 {w : World} {o0 o1 o2 o3 o4 : Obj} : (((((w.alloc o0).alloc o1).alloc o2).alloc o3).alloc o4).heap[(w.heap.size + 2)]? = some o2 := bq (new_at (W := ((w.alloc o0).alloc o1)) (by simp))
theorem at5_3 {w : World} {o0 o1 o2 o3 o4 : Obj} : (((((w.alloc o0).alloc o1).alloc o2).alloc o3).alloc o4).heap[(w.heap.size + 3)]? = some o3 := bq (new_at (W := (((w.alloc o0).alloc o1).alloc o2)) (by simp))
theorem at5_4 {w : World} {o0 o1 o2 o3 o4 : Obj} : (((((w.alloc o0).alloc o1).alloc o2).alloc o3).alloc o4).heap[(w.heap.size + 4)]? = some o4 := bq (new_at (W := ((((w.alloc o0).alloc o1).alloc o2).alloc o3)) (by simp))
theorem at6_0 {w : World} {o0 o1 o2 o3 o4 o5 : Obj} : ((((((w.alloc o0).alloc o1).alloc o2).alloc o3).alloc o4).alloc o5).heap[w.heap.size]? = some o0 := bq (new_at (W := w) (by simp))
theorem at6_1 {w : World} {o0 o1 o2 o3 o4 o5 : Obj} : ((((((w.alloc o0).alloc o1).alloc o2).alloc o3).alloc o4).alloc o5).heap[(w.heap.size + 1)]? = some o1 := bq (new_at (W := (w.alloc o0)) (by simp))
theorem at6_2 {w : World} {o0 o1 o2 o3 o4 o5 : Obj} : ((((((w.alloc o0).alloc o1).alloc o2).alloc o3).alloc o4).alloc o5).heap[(w.heap.size + 2)]? = some o2 := bq (new_at (W := ((w.alloc o0).alloc o1)) (by simp))
theorem at6_3 {w : World} {o0 o1 o2 o3 o4 o5 : Obj} : ((((((w.alloc o0).alloc o1).alloc o2).alloc o3).alloc o4).alloc o5).heap[(w.heap.size + 3)]? = some o3 := bq (new_at (W := (((w.alloc o0).alloc o1).alloc o2)) (by simp))
theorem at6_4 {w : World} {o0 o1 o2 o3 o4 o5 : Obj} : ((((((w.alloc o0).alloc o1).alloc o2).alloc o3).alloc o4).alloc o5).heap[(w.heap.size + 4)]? = some o4 := bq (new_at (W := ((((w.alloc o0).alloc o1).alloc o2).alloc o3)) (by simp))
theorem at6_5 {w : World} {o0 o1 o2 o3 o4 o5 : Obj} : ((((((w.alloc o0).alloc o1).alloc o2).alloc o3).alloc o4).alloc o5).heap[(w.heap.size + 5)]? = some o5 := bq (new_at (W := (((((w.alloc o0).alloc o1).alloc o2).alloc o3).alloc o4)) (by simp))
theorem cq {α : Type} {d : Kd α} {W W' : World} {A : Option Addr} {n : Nat} {xs : List α} (h : d.C W A n xs) [q : Quiet W W'] : d.C W' A n xs := Kd.C_below h q.go
theorem qq {α : Type} {d : Kd α} {e base : Nat} {W W' : World} {ok : Nat → Prop} {v : Value} {xs : List α} (h : d.Q e W base ok v xs) [q : Quiet W W'] : d.Q e W' base ok v xs := Kd.Q_below h q.go
/-- What is not written stays: the rule for the walk's own loads. -/
theorem bcell {W w1 : World} (hb : Below W.heap.size W w1) : (∀ b o, b < W.heap.size → w1.cell? ⟨b, o, none⟩ = W.cell? ⟨b, o, none⟩) ∧ (∀ b o, b < W.heap.size → w1.frozen? ⟨b, o, none⟩ = W.frozen? ⟨b, o, none⟩) :=
  ⟨fun b o h => hb.cell (p := ⟨b, o, none⟩) h, fun b o h => hb.frozen (p := ⟨b, o, none⟩) h⟩
/-- From w to w' at most the blocks of S, and new ones, were written. -/
structure Fr (S : Nat → Prop) (w w' : World) : Prop where
  os : w'.os = w.os
  tape : w'.tape = w.tape
  output : w'.output = w.output
  size : w.heap.size ≤ w'.heap.size
  block : ∀ k, k < w.heap.size → ¬ S k → w'.heap[k]? = w.heap[k]?
section
variable {S T : Nat → Prop} {a b c w w' : World} {g B : Nat} {o : Obj}
theorem Fr.refl (S : Nat → Prop) (w : World) : Fr S w w := ⟨rfl, rfl, rfl, Nat.le_refl _, fun _ _ _ => rfl⟩
theorem Fr.of_below (S : Nat → Prop) (h : Below w.heap.size w w') : Fr S w w' := ⟨h.os, h.tape, h.output, h.size, fun k hk _ => h.block k hk⟩
theorem Fr.trans (h : Fr S a b) (k : Fr T b c) (hT : ∀ i, T i → S i ∨ a.heap.size ≤ i) : Fr S a c :=
  ⟨k.os.trans h.os, k.tape.trans h.tape, k.output.trans h.output, Nat.le_trans h.size k.size, fun i hi hs =>
    (k.block i (Nat.lt_of_lt_of_le hi h.size) (fun ht => (hT i ht).elim hs (fun h2 => Nat.lt_irrefl _ (Nat.lt_of_lt_of_le hi h2)))).trans (h.block i hi hs)⟩
theorem Fr.step (h : Fr S a b) (k : Below b.heap.size b c) : Fr S a c := h.trans (Fr.of_below (fun _ => False) k) (fun _ ht => ht.elim)
theorem Fr.mono (h : Fr S a b) (hs : ∀ k, S k → T k) : Fr T a b := ⟨h.os, h.tape, h.output, h.size, fun k hk hn => h.block k hk (fun x => hn (hs k x))⟩
theorem Fr.alloc (h : Fr S a w) (o : Obj) : Fr S a (w.alloc o) := h.step (below_alloc (Below.refl _ _) o)
theorem Fr.drew (h : Fr S a w) : Fr S a w.drew := h.step (below_drew (Below.refl _ _))
theorem Fr.drewN (h : Fr S a w) (n : Nat) : Fr S a (w.drewN n) := h.step (pw_below_drewN (Below.refl _ _) n)
theorem Fr.set (h : Fr S a w) {p : Addr} (hp : S p.block ∨ a.heap.size ≤ p.block) (u : Value) : Fr S a (w.setCell p u) := by
  refine h.trans (T := fun k => k = p.block) ?_ (fun i hi => by subst hi; exact hp)
  have hs := (Below.refl 0 w).setCell (Nat.zero_le p.block) u
  exact ⟨hs.os, hs.tape, hs.output, hs.size, fun k hk hn => Below.heap_setCell w p u k hn⟩
theorem Fr.grown (h : Fr S a w) {row : Option Nat} (hg : w.grownBy w' row) (hr : ∀ k, row = some k → S k ∨ a.heap.size ≤ k) : Fr S a w' := by
  refine h.trans (T := fun k => row = some k) ?_ hr
  exact ⟨hg.os, hg.tape, hg.output, hg.size, fun k hk hn => hg.block k hk (fun e => hn e.symm)⟩
theorem Fr.below (h : Fr S a w) (hS : ∀ i, S i → B ≤ i) (hB : B ≤ a.heap.size) : Below B a w :=
  ⟨h.os, h.tape, h.output, h.size, fun k hk => h.block k (Nat.lt_of_lt_of_le hk hB) (fun hs => Nat.lt_irrefl _ (Nat.lt_of_lt_of_le hk (hS k hs)))⟩
theorem fq (h : Fr S a w) [q : Quiet w w'] : Fr S a w' := h.step q.go
theorem Fr.blk (h : Fr S a w) (hb : a.heap[g]? = some o) (hn : ¬ S g) : w.heap[g]? = some o := (h.block g (blk_lt hb) hn).trans hb
variable {α : Type} {d : Kd α} {e base : Nat} {ok : Nat → Prop} {v : Value} {xs : List α}
theorem Fr.Q (h : Fr S a w) (hq : d.Q e a base ok v xs) (hn : ∀ k, ok k → ¬ S k) : d.Q e w base ok v xs := Kd.Q_step hq (fun k hk hlt => h.block k hlt (hn k hk))
theorem Fr.R (h : Fr S a w) (hq : d.R e a base ok v xs) (hn : ∀ k, ok k → ¬ S k) : d.R e w base ok v xs := Kd.R_step hq (fun k hk hlt => h.block k hlt (hn k hk))
theorem Fr.cell (h : Fr S a w) {p : Addr} (hp : p.block < a.heap.size) (hn : ¬ S p.block) : w.cell? p = a.cell? p := World.cell?_of_block (w := a) (h.block p.block hp hn)
theorem R_in (h : d.R e w base ok v xs) : d.R e w base (fun k => ok k ∧ base ≤ k ∧ k < w.heap.size) v xs := Kd.R_mono (Kd.R_bound h) (fun _ hk => ⟨hk.1, hk.2.1, hk.2.2.1⟩)
theorem Q_in (h : d.Q e w base ok v xs) : d.Q e w base (fun k => ok k ∧ base ≤ k ∧ k < w.heap.size) v xs := Kd.Q_mono (Kd.Q_bound h) (fun _ hk => ⟨hk.1, hk.2.1, hk.2.2.1⟩)
end
end Go.Proofs.Ytioifcanipijhaa.Hnd
