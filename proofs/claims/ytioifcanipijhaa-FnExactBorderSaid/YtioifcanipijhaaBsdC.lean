/- What the law FnExactBorder holds between its calls: its arguments' boxes, the boxes and rows of each answer; and the contracts of its calls told over these. -/
import Derived.Test.YtioifcanipijhaaGCx0
import Derived.Test.YtioifcanipijhaaGCx4
import Derived.Test.YtioifcanipijhaaGCx5
import Derived.Test.YtioifcanipijhaaGCx6
import Derived.Test.YtioifcanipijhaaGCx12
import Derived.Test.YtioifcanipijhaaGCx14
import Derived.Test.YtioifcanipijhaaCheC
namespace Go.Proofs.Ytioifcanipijhaa.GC
open Go.RowKit Go.Proofs.YtioifcanipijhaaW.PrintWords Go.Proofs.YtioifcanipijhaaW.PrintLast Go.Proofs.YtioifcanipijhaaW.PrintMore Go.Proofs.Ytioifcanipijhaa.Q Go.Proofs.Ytioifcanipijhaa.Hnd
set_option linter.unusedVariables false
set_option linter.unusedSimpArgs false
/-- A row of one's own, in a block of lo..hi. -/
structure Ow (w W : World) (lo hi : Nat) (v : Value) (xs : List Int) : Prop where
  r : Kd.R (Kd.int .u32) 46 W w.heap.size (fun k => lo ≤ k ∧ k < hi) v xs
/-- From W to W' at most the row u and new blocks were written. -/
abbrev Wr (u : Value) (W W' : World) : Prop := Kept W W' (fun k => some k = u.ownBlock)
section
variable {w W W' : World} {lo hi lo' hi' t b : Nat} {v u : Value} {xs ys : List Int} {cs : Array Value}
theorem Ow.form (h : Ow w W lo hi v xs) : ∃ A c, v = .slice A xs.length c ∧ xs.length ≤ c ∧ Kd.C (Kd.int .u32) W A xs.length xs := by
  obtain ⟨A, c, rfl⟩ := Kd.R_slice h.r
  exact ⟨A, c, rfl, (Kd.R_reads' h.r).2.1, (Kd.R_reads' h.r).2.2⟩
theorem Ow.below (h : Ow w W lo hi v xs) (hb : Below W.heap.size W W') : Ow w W' lo hi v xs := ⟨Kd.R_below h.r hb⟩
theorem Ow.at_ (h : Ow w W lo hi v xs) : ∀ k, v.ownBlock = some k → lo ≤ k ∧ k < hi := h.r.1
theorem Ow.wr (h : Ow w W lo hi v xs) (hk : Wr u W W') (hn : ∀ k, v.ownBlock = some k → some k ≠ u.ownBlock) : Ow w W' lo hi v xs :=
  ⟨Kd.R_reok rfl (Kd.R_kept (Kd.R_tight rfl h.r) hk (fun k ho hs => hn k ho.symm hs)) h.r.1⟩
theorem Ow.away (h : Ow w W lo hi v xs) (g : Ow w W lo' hi' u ys) (hl : hi ≤ lo' ∨ hi' ≤ lo) : ∀ k, v.ownBlock = some k → some k ≠ u.ownBlock := by
  intro k hk e
  have h1 := h.at_ k hk
  have h2 := g.at_ k e.symm
  omega
theorem Ow.wide (h : Ow w W lo hi v xs) (h1 : lo' ≤ lo) (h2 : hi ≤ hi') : Ow w W lo' hi' v xs := ⟨Kd.R_mono h.r (fun k hk => ⟨Nat.le_trans h1 hk.1, Nat.lt_of_lt_of_le hk.2 h2⟩)⟩
theorem Ow.blk (h : Ow w W lo hi u xs) (hk : Wr u W W') (hb : W.heap[b]? = some (.cells cs t (0, 0))) (ht : 46 ≠ t) : W'.heap[b]? = some (.cells cs t (0, 0)) :=
  (hk.2 b (blk_lt hb) (Kd.R_ne h.r hb ht)).trans hb
/-- A row that a call has made. -/
theorem Ow.made {ok : Nat → Prop} (hl : w.heap.size ≤ W.heap.size) (h : Kd.R (Kd.int .u32) 46 W' W.heap.size ok v xs) : Ow w W' W.heap.size W'.heap.size v xs :=
  ⟨Kd.R_lower (Kd.R_mono (R_in h) (fun k hk => hk.2)) hl⟩
end
/-- The boxes of the law's own arguments. -/
structure LB (w W : World) (C0 C1 C2 : Array Value) : Prop where
  k0 : W.heap[w.heap.size]? = some (.cells C0 23 (0, 0))
  k1 : W.heap[w.heap.size + 1]? = some (.cells C1 36 (0, 0))
  k2 : W.heap[w.heap.size + 2]? = some (.cells C2 26 (0, 0))
  be : Below w.heap.size w W
/-- The boxes of an OutEnd and an InEnd. -/
structure Pr (W : World) (b1 b2 : Nat) (c1 c2 : Array Value) : Prop where
  p : W.heap[b1]? = some (.cells c1 39 (0, 0))
  q : W.heap[b2]? = some (.cells c2 31 (0, 0))
/-- Three rows, each in a block of its own. -/
structure Tri (w W : World) (lo hi : Nat) (v1 v2 v3 : Value) (x1 x2 x3 : List Int) : Prop where
  a : Ow w W lo hi v1 x1
  b : Ow w W lo hi v2 x2
  c : Ow w W lo hi v3 x3
  ab : ∀ k, v1.ownBlock = some k → some k ≠ v2.ownBlock
  ac : ∀ k, v1.ownBlock = some k → some k ≠ v3.ownBlock
  bc : ∀ k, v2.ownBlock = some k → some k ≠ v3.ownBlock
section
variable {w W W' : World} {C0 C1 C2 c1 c2 : Array Value} {b1 b2 lo hi lo' hi' t b : Nat} {v u v1 v2 v3 : Value} {xs ys x1 x2 x3 y1 y2 y3 : List Int}
theorem LB.below (h : LB w W C0 C1 C2) (hb : Below W.heap.size W W') : LB w W' C0 C1 C2 := ⟨blk_below h.k0 hb, blk_below h.k1 hb, blk_below h.k2 hb, below_step h.be hb⟩
theorem LB.wr (h : LB w W C0 C1 C2) (g : Ow w W lo hi u xs) (hk : Wr u W W') (hb : Below w.heap.size w W') : LB w W' C0 C1 C2 := ⟨g.blk hk h.k0 (by decide), g.blk hk h.k1 (by decide), g.blk hk h.k2 (by decide), hb⟩
theorem Pr.below (h : Pr W b1 b2 c1 c2) (hb : Below W.heap.size W W') : Pr W' b1 b2 c1 c2 := ⟨blk_below h.p hb, blk_below h.q hb⟩
theorem Pr.wr (h : Pr W b1 b2 c1 c2) (g : Ow w W lo hi u xs) (hk : Wr u W W') : Pr W' b1 b2 c1 c2 := ⟨g.blk hk h.p (by decide), g.blk hk h.q (by decide)⟩
theorem Tri.below (h : Tri w W lo hi v1 v2 v3 x1 x2 x3) (hb : Below W.heap.size W W') : Tri w W' lo hi v1 v2 v3 x1 x2 x3 := ⟨h.a.below hb, h.b.below hb, h.c.below hb, h.ab, h.ac, h.bc⟩
theorem Tri.wr (h : Tri w W lo hi v1 v2 v3 x1 x2 x3) (g : Ow w W lo' hi' u xs) (hl : hi ≤ lo' ∨ hi' ≤ lo) (hk : Wr u W W') : Tri w W' lo hi v1 v2 v3 x1 x2 x3 :=
  ⟨h.a.wr hk (h.a.away g hl), h.b.wr hk (h.b.away g hl), h.c.wr hk (h.c.away g hl), h.ab, h.ac, h.bc⟩
theorem Tri.wra (h : Tri w W lo hi v1 v2 v3 x1 x2 x3) (g : Ow w W' lo hi v1 y1) (hk : Wr v1 W W') : Tri w W' lo hi v1 v2 v3 y1 x2 x3 :=
  ⟨g, h.b.wr hk (fun k hk e => h.ab k e.symm hk.symm), h.c.wr hk (fun k hk e => h.ac k e.symm hk.symm), h.ab, h.ac, h.bc⟩
theorem Tri.wrb (h : Tri w W lo hi v1 v2 v3 x1 x2 x3) (g : Ow w W' lo hi v2 y2) (hk : Wr v2 W W') : Tri w W' lo hi v1 v2 v3 x1 y2 x3 :=
  ⟨h.a.wr hk h.ab, g, h.c.wr hk (fun k hk e => h.bc k e.symm hk.symm), h.ab, h.ac, h.bc⟩
theorem Tri.wrc (h : Tri w W lo hi v1 v2 v3 x1 x2 x3) (g : Ow w W' lo hi v3 y3) (hk : Wr v3 W W') : Tri w W' lo hi v1 v2 v3 x1 x2 y3 :=
  ⟨h.a.wr hk h.ac, h.b.wr hk h.bc, g, h.ab, h.ac, h.bc⟩
theorem Tri.made (hl : w.heap.size ≤ W.heap.size) (ha : Kd.R (Kd.int .u32) 46 W' W.heap.size (fun k_ => some k_ ≠ (v2 : Value).ownBlock ∧ some k_ ≠ (v3 : Value).ownBlock) v1 x1)
    (hb : Kd.R (Kd.int .u32) 46 W' W.heap.size (fun k_ => some k_ ≠ (v1 : Value).ownBlock ∧ some k_ ≠ (v3 : Value).ownBlock) v2 x2) (hc : Kd.R (Kd.int .u32) 46 W' W.heap.size (fun k_ => some k_ ≠ (v1 : Value).ownBlock ∧ some k_ ≠ (v2 : Value).ownBlock) v3 x3) :
    Tri w W' W.heap.size W'.heap.size v1 v2 v3 x1 x2 x3 :=
  ⟨Ow.made hl ha, Ow.made hl hb, Ow.made hl hc, fun k hk => (ha.1 k hk).1, fun k hk => (ha.1 k hk).2, fun k hk => (hb.1 k hk).2⟩
end
/-- Short words for plain steps. -/
theorem lbq {w W W' : World} {C0 C1 C2 : Array Value} (h : LB w W C0 C1 C2) [q : Quiet W W'] : LB w W' C0 C1 C2 := h.below q.go
theorem prq {W W' : World} {b1 b2 : Nat} {c1 c2 : Array Value} (h : Pr W b1 b2 c1 c2) [q : Quiet W W'] : Pr W' b1 b2 c1 c2 := h.below q.go
theorem owq {w W W' : World} {lo hi : Nat} {v : Value} {xs : List Int} (h : Ow w W lo hi v xs) [q : Quiet W W'] : Ow w W' lo hi v xs := h.below q.go
theorem trq {w W W' : World} {lo hi : Nat} {v1 v2 v3 : Value} {x1 x2 x3 : List Int} (h : Tri w W lo hi v1 v2 v3 x1 x2 x3) [q : Quiet W W'] : Tri w W' lo hi v1 v2 v3 x1 x2 x3 := h.below q.go
section
variable {w W : World} {lo hi lo' hi' : Nat} {v u v1 v2 v3 : Value} {xs ys : List Int}
theorem toOut_calls (k : Nat) (a0 : Int) (A : Option Addr) (c : Nat) (l r : List Int) (be : Below w.heap.size w W) (hr : Kd.C (Kd.int .u32) W A l.length l) (hc : l.length ≤ c) (h : laws_toOutEnd.f k a0 l = some (a0, r)) :
    Calls Try.prog 22 #[.agg #[.int .i64 a0, .slice A l.length c]] W fun e w' => ∃ A' c', e = .returned (.agg #[.int .i64 a0, .slice A' r.length c']) ∧ Ow w w' W.heap.size w'.heap.size (.slice A' r.length c') r ∧ Below W.heap.size W w' := by
  refine (laws_toOutEnd.calls k a0 A c l a0 r W hr hc h).mono ?_
  rintro e w' ⟨v, rfl, ho, hb⟩
  obtain ⟨A', c', rfl⟩ := Kd.R_slice ho
  exact ⟨A', c', rfl, Ow.made be.size ho, hb⟩
theorem toIn_calls (k : Nat) (A : Option Addr) (c : Nat) (l r : List Int) (be : Below w.heap.size w W) (hr : Kd.C (Kd.int .u32) W A l.length l) (hc : l.length ≤ c) (h : laws_toInEnd.f k l = some r) :
    Calls Try.prog 17 #[.agg #[.slice A l.length c]] W fun e w' => ∃ A' c', e = .returned (.agg #[.slice A' r.length c']) ∧ Ow w w' W.heap.size w'.heap.size (.slice A' r.length c') r ∧ Below W.heap.size W w' := by
  refine (laws_toInEnd.calls k A c l r W hr hc h).mono ?_
  rintro e w' ⟨v, rfl, ho, hb⟩
  obtain ⟨A', c', rfl⟩ := Kd.R_slice ho
  exact ⟨A', c', rfl, Ow.made be.size ho, hb⟩
variable {A1 A2 : Option Addr} {c1 c2 : Nat} {l m : List Int}
theorem specB_calls (k : Nat) (a0 a1 a2 a3 b0 r1 : Int) (r2 r3 r4 : List Int) (be : Below w.heap.size w W) (h1 : Ow w W lo hi (.slice A1 l.length c1) l) (h2 : Ow w W lo' hi' (.slice A2 m.length c2) m) (h : spec_Border.f k a0 a1 a2 a3 b0 l m = some (r1, r2, r3, r4)) :
    Calls Try.prog 37 #[.agg #[.int .i64 a0, .int .i64 a1, .int .i64 a2, .int .i64 a3], .agg #[.int .i64 b0, .slice A1 l.length c1], .agg #[.slice A2 m.length c2]] W fun e w' =>
      ∃ B1 d1 B2 d2 B3 d3, e = .returned (.tuple #[.agg #[.int .i64 r1, .slice B1 r2.length d1], .agg #[.slice B2 r3.length d2], .slice B3 r4.length d3]) ∧ Tri w w' W.heap.size w'.heap.size (.slice B1 r2.length d1) (.slice B2 r3.length d2) (.slice B3 r4.length d3) r2 r3 r4 ∧ Below W.heap.size W w' := by
  have e1 := Kd.R_reads' h1.r
  have e2 := Kd.R_reads' h2.r
  refine (spec_Border.calls k a0 a1 a2 a3 b0 A1 c1 l A2 c2 m r1 r2 r3 r4 W e1.2.2 e1.2.1 e2.2.2 e2.2.1 h).mono ?_
  rintro e w' ⟨v1, v2, v3, rfl, o1, o2, o3, hb⟩
  have T := Tri.made be.size o1 o2 o3
  obtain ⟨B1, d1, rfl⟩ := Kd.R_slice o1
  obtain ⟨B2, d2, rfl⟩ := Kd.R_slice o2
  obtain ⟨B3, d3, rfl⟩ := Kd.R_slice o3
  exact ⟨B1, d1, B2, d2, B3, d3, rfl, T, hb⟩
theorem implB_calls (a0 a1 a2 a3 b0 r1 : Int) (r2 r3 r4 : List Int) (be : Below w.heap.size w W) (h1 : Ow w W lo hi (.slice A1 l.length c1) l) (h2 : Ow w W lo' hi' (.slice A2 m.length c2) m) (h : impl_Border.f a0 a1 a2 a3 b0 l m = some (r1, r2, r3, r4)) :
    Calls Try.prog 38 #[.agg #[.int .i64 a0, .int .i64 a1, .int .i64 a2, .int .i64 a3], .agg #[.int .i64 b0, .slice A1 l.length c1], .agg #[.slice A2 m.length c2]] W fun e w' =>
      ∃ B1 d1 B2 d2 B3 d3, e = .returned (.tuple #[.agg #[.int .i64 r1, .slice B1 r2.length d1], .agg #[.slice B2 r3.length d2], .slice B3 r4.length d3]) ∧ Tri w w' W.heap.size w'.heap.size (.slice B1 r2.length d1) (.slice B2 r3.length d2) (.slice B3 r4.length d3) r2 r3 r4 ∧ Below W.heap.size W w' := by
  have e1 := Kd.R_reads' h1.r
  have e2 := Kd.R_reads' h2.r
  refine (impl_Border.calls a0 a1 a2 a3 b0 A1 c1 l A2 c2 m r1 r2 r3 r4 W e1.2.2 e1.2.1 e2.2.2 e2.2.1 h).mono ?_
  rintro e w' ⟨v1, v2, v3, rfl, o1, o2, o3, hb⟩
  have T := Tri.made be.size o1 o2 o3
  obtain ⟨B1, d1, rfl⟩ := Kd.R_slice o1
  obtain ⟨B2, d2, rfl⟩ := Kd.R_slice o2
  obtain ⟨B3, d3, rfl⟩ := Kd.R_slice o3
  exact ⟨B1, d1, B2, d2, B3, d3, rfl, T, hb⟩
variable {n1 n2 : Nat}
theorem eqO_calls (k : Nat) (a0 : Int) (h1 : Ow w W lo hi (.slice A1 n1 c1) l) (h2 : Ow w W lo' hi' (.slice A2 n2 c2) l) (h : laws_eqOutEnd.f k a0 l a0 l = some true) :
    Calls Try.prog 24 #[.agg #[.int .i64 a0, .slice A1 n1 c1], .agg #[.int .i64 a0, .slice A2 n2 c2]] W fun e w' => e = .returned (.bool true) ∧ Below W.heap.size W w' := by
  obtain ⟨rfl, i1, j1⟩ := Kd.R_reads' h1.r
  obtain ⟨rfl, i2, j2⟩ := Kd.R_reads' h2.r
  exact laws_eqOutEnd.calls k a0 A1 c1 l a0 A2 c2 l true W j1 i1 j2 i2 h
theorem eqI_calls (k : Nat) (h1 : Ow w W lo hi (.slice A1 n1 c1) l) (h2 : Ow w W lo' hi' (.slice A2 n2 c2) l) (h : laws_eqInEnd.f k l l = some true) :
    Calls Try.prog 19 #[.agg #[.slice A1 n1 c1], .agg #[.slice A2 n2 c2]] W fun e w' => e = .returned (.bool true) ∧ Below W.heap.size W w' := by
  obtain ⟨rfl, i1, j1⟩ := Kd.R_reads' h1.r
  obtain ⟨rfl, i2, j2⟩ := Kd.R_reads' h2.r
  exact laws_eqInEnd.calls k A1 c1 l A2 c2 l true W j1 i1 j2 i2 h
theorem eqU_calls (k : Nat) (h1 : Ow w W lo hi (.slice A1 n1 c1) l) (h2 : Ow w W lo' hi' (.slice A2 n2 c2) l) (h : laws_eqUint32S.f k l l = some true) :
    Calls Try.prog 39 #[.slice A1 n1 c1, .slice A2 n2 c2] W fun e w' => e = .returned (.bool true) ∧ Below W.heap.size W w' := by
  obtain ⟨rfl, i1, j1⟩ := Kd.R_reads' h1.r
  obtain ⟨rfl, i2, j2⟩ := Kd.R_reads' h2.r
  refine (laws_eqUint32S.calls k A1 c1 l A2 c2 l true W j1 i1 j2 i2 h).mono ?_
  rintro e w' ⟨rfl, hd⟩
  exact ⟨rfl, hd.below⟩
theorem hdO_calls (k : Nat) (a0 q r : Int) (h1 : Ow w W lo hi (.slice A1 n1 c1) l) (h : laws_heldOutEnd.f k a0 l q = some r) :
    Calls Try.prog 30 #[.agg #[.int .i64 a0, .slice A1 n1 c1], .int .i64 q] W fun e w' => e = .returned (.int .i64 r) ∧ Below W.heap.size W w' := by
  obtain ⟨rfl, i1, j1⟩ := Kd.R_reads' h1.r
  exact laws_heldOutEnd.calls k a0 A1 c1 l q r W j1 i1 h
theorem hdI_calls (k : Nat) (q r : Int) (h1 : Ow w W lo hi (.slice A1 n1 c1) l) (h : laws_heldInEnd.f k l q = some r) :
    Calls Try.prog 34 #[.agg #[.slice A1 n1 c1], .int .i64 q] W fun e w' => e = .returned (.int .i64 r) ∧ Below W.heap.size W w' := by
  obtain ⟨rfl, i1, j1⟩ := Kd.R_reads' h1.r
  exact laws_heldInEnd.calls k A1 c1 l q r W j1 i1 h
theorem hdU_calls (k : Nat) (q r : Int) (h1 : Ow w W lo hi (.slice A1 n1 c1) l) (h : laws_heldUint32S.f k l q = some r) :
    Calls Try.prog 41 #[.slice A1 n1 c1, .int .i64 q] W fun e w' => e = .returned (.int .i64 r) ∧ Below W.heap.size W w' := by
  obtain ⟨rfl, i1, j1⟩ := Kd.R_reads' h1.r
  refine (laws_heldUint32S.calls k A1 c1 l q r W j1 i1 h).mono ?_
  rintro e w' ⟨rfl, hd⟩
  exact ⟨rfl, hd.below⟩
theorem mkO_calls (k : Nat) (a0 q r : Int) (be : Below w.heap.size w W) (h1 : Ow w W lo hi v l) (h : laws_markOutEnd.f k a0 l q = some (r, m)) :
    Calls Try.prog 29 #[.agg #[.int .i64 a0, v], .int .i64 q] W fun e w' => e = .returned (.int .i64 r) ∧ Ow w w' lo hi v m ∧ Below w.heap.size w w' ∧ Wr v W w' := by
  refine (laws_markOutEnd.calls k a0 _ v l q r m w W be (Kd.R_tight rfl h1.r) h).mono ?_
  rintro e w' ⟨rfl, ho, hb, hk⟩
  exact ⟨rfl, ⟨Kd.R_reok rfl ho h1.r.1⟩, hb, hk⟩
theorem mkI_calls (k : Nat) (q r : Int) (be : Below w.heap.size w W) (h1 : Ow w W lo hi v l) (h : laws_markInEnd.f k l q = some (r, m)) :
    Calls Try.prog 33 #[.agg #[v], .int .i64 q] W fun e w' => e = .returned (.int .i64 r) ∧ Ow w w' lo hi v m ∧ Below w.heap.size w w' ∧ Wr v W w' := by
  refine (laws_markInEnd.calls k _ v l q r m w W be (Kd.R_tight rfl h1.r) h).mono ?_
  rintro e w' ⟨rfl, ho, hb, hk⟩
  exact ⟨rfl, ⟨Kd.R_reok rfl ho h1.r.1⟩, hb, hk⟩
theorem mkU_calls (k : Nat) (q r : Int) (be : Below w.heap.size w W) (h1 : Ow w W lo hi v l) (h : laws_markUint32S.f k l q = some (r, m)) :
    Calls Try.prog 40 #[v, .int .i64 q] W fun e w' => e = .returned (.int .i64 r) ∧ Ow w w' lo hi v m ∧ Below w.heap.size w w' ∧ Wr v W w' := by
  refine (laws_markUint32S.calls k _ v l q r m w W be (Kd.R_tight rfl h1.r) h).mono ?_
  rintro e w' ⟨rfl, ho, hb, hk⟩
  exact ⟨rfl, ⟨Kd.R_reok rfl ho h1.r.1⟩, hb, hk⟩
end
theorem blk_ne {W : World} {g g' t t' : Nat} {cs cs' : Array Value} (h : W.heap[g]? = some (.cells cs t (0, 0))) (h' : W.heap[g']? = some (.cells cs' t' (0, 0))) (ht : t ≠ t') : g ≠ g' := by
  intro e
  subst e
  rw [h] at h'
  injection h' with h'
  injection h' with _ h'
  exact ht h'
theorem LB.nes {w W : World} {C0 C1 C2 : Array Value} (h : LB w W C0 C1 C2) :
    (w.heap.size ≠ W.heap.size ∧ W.heap.size ≠ w.heap.size ∧ w.heap.size < W.heap.size ∧ w.heap.size ≠ W.heap.size + 1 ∧ W.heap.size + 1 ≠ w.heap.size ∧ w.heap.size < W.heap.size + 1) ∧
    (w.heap.size + 1 ≠ W.heap.size ∧ W.heap.size ≠ w.heap.size + 1 ∧ w.heap.size + 1 < W.heap.size ∧ w.heap.size + 1 ≠ W.heap.size + 1 ∧ W.heap.size + 1 ≠ w.heap.size + 1 ∧ w.heap.size + 1 < W.heap.size + 1) ∧
    (w.heap.size + 2 ≠ W.heap.size ∧ W.heap.size ≠ w.heap.size + 2 ∧ w.heap.size + 2 < W.heap.size ∧ w.heap.size + 2 ≠ W.heap.size + 1 ∧ W.heap.size + 1 ≠ w.heap.size + 2 ∧ w.heap.size + 2 < W.heap.size + 1) := by
  have a := blk_lt h.k2
  omega
/-- The cells of the law's own boxes, all at once. -/
theorem LB.cells7 {w W : World} {a0 a1 a2 a3 b0 : Int} {s1 s2 : Value} (h : LB w W #[.int .i64 a0, .int .i64 a1, .int .i64 a2, .int .i64 a3] #[.int .i64 b0, s1] #[s2]) :
    W.cell? ⟨w.heap.size, 0, none⟩ = some (.int .i64 a0) ∧ W.cell? ⟨w.heap.size, 1, none⟩ = some (.int .i64 a1) ∧ W.cell? ⟨w.heap.size, 2, none⟩ = some (.int .i64 a2) ∧ W.cell? ⟨w.heap.size, 3, none⟩ = some (.int .i64 a3) ∧
    W.cell? ⟨w.heap.size + 1, 0, none⟩ = some (.int .i64 b0) ∧ W.cell? ⟨w.heap.size + 1, 1, none⟩ = some s1 ∧ W.cell? ⟨w.heap.size + 2, 0, none⟩ = some s2 :=
  ⟨kc h.k0 0 rfl, kc h.k0 1 rfl, kc h.k0 2 rfl, kc h.k0 3 rfl, kc h.k1 0 rfl, kc h.k1 1 rfl, kc h.k2 0 rfl⟩
/-- What a drawn region with the law's own boxes holds between its calls. -/
structure LS (w u0 W : World) (C0 C1 C2 : Array Value) : Prop where
  l : LB w W C0 C1 C2
  b : Below u0.heap.size u0 W
theorem LS.below {w u0 W W' : World} {C0 C1 C2 : Array Value} (h : LS w u0 W C0 C1 C2) (hb : Below W.heap.size W W') : LS w u0 W' C0 C1 C2 := ⟨h.l.below hb, below_step h.b hb⟩
theorem lsq {w u0 W W' : World} {C0 C1 C2 : Array Value} (h : LS w u0 W C0 C1 C2) [q : Quiet W W'] : LS w u0 W' C0 C1 C2 := h.below q.go
/-- Behind a call of Border: the boxes of its answer, its rows, and what stood before. -/
structure L8 (w u0 X : World) (b8 b9 : Nat) (r : Int) (v1 v2 v3 : Value) (V1 V2 V3 : List Int) : Prop where
  p : Pr X b8 b9 #[.int .i64 r, v1] #[v2]
  v : Tri w X u0.heap.size X.heap.size v1 v2 v3 V1 V2 V3
  be : Below u0.heap.size u0 X
section
variable {w u0 u X : World} {b8 b9 lo hi lo' hi' : Nat} {r : Int} {v1 v2 v3 : Value} {V1 V2 V3 : List Int}
theorem Tri.wide (h : Tri w X lo hi v1 v2 v3 V1 V2 V3) (h1 : lo' ≤ lo) (h2 : hi ≤ hi') : Tri w X lo' hi' v1 v2 v3 V1 V2 V3 := ⟨h.a.wide h1 h2, h.b.wide h1 h2, h.c.wide h1 h2, h.ab, h.ac, h.bc⟩
theorem Ow.fr {v : Value} {xs : List Int} (h : Ow w u lo u.heap.size v xs) (f : Fr (fun k => k = b8 ∨ k = b9) u X) (o1 : u.heap.size ≤ b8 ∨ ∃ c, u.heap[b8]? = some (.cells c 39 (0, 0))) (o2 : u.heap.size ≤ b9 ∨ ∃ c, u.heap[b9]? = some (.cells c 31 (0, 0))) : Ow w X lo X.heap.size v xs := by
  have T := Kd.R_tight2 rfl h.r
  have n1 : ∀ k, v.ownBlock = some k → k ≠ b8 := by
    intro k hk e
    subst e
    rcases o1 with o | ⟨c, o⟩
    · have := (h.r.1 k hk).2
      omega
    · exact Kd.R_ne h.r o (by decide) hk.symm
  have n2 : ∀ k, v.ownBlock = some k → k ≠ b9 := by
    intro k hk e
    subst e
    rcases o2 with o | ⟨c, o⟩
    · have := (h.r.1 k hk).2
      omega
    · exact Kd.R_ne h.r o (by decide) hk.symm
  exact ⟨Kd.R_mono (f.R T (fun k hk hs => hs.elim (n1 k hk.1.symm) (n2 k hk.1.symm))) (fun k hk => ⟨hk.2.1, Nat.lt_of_lt_of_le hk.2.2 f.size⟩)⟩
theorem L8.mk_ (B : Below u0.heap.size u0 u) (T : Tri w u u0.heap.size u.heap.size v1 v2 v3 V1 V2 V3) (f : Fr (fun k => k = b8 ∨ k = b9) u X) (p : X.heap[b8]? = some (.cells #[.int .i64 r, v1] 39 (0, 0))) (q : X.heap[b9]? = some (.cells #[v2] 31 (0, 0)))
    (o1 : u.heap.size ≤ b8 ∨ ∃ c, u.heap[b8]? = some (.cells c 39 (0, 0))) (o2 : u.heap.size ≤ b9 ∨ ∃ c, u.heap[b9]? = some (.cells c 31 (0, 0))) (h1 : u0.heap.size ≤ b8) (h2 : u0.heap.size ≤ b9) : L8 w u0 X b8 b9 r v1 v2 v3 V1 V2 V3 :=
  ⟨⟨p, q⟩, ⟨T.a.fr f o1 o2, T.b.fr f o1 o2, T.c.fr f o1 o2, T.ab, T.ac, T.bc⟩, B.trans (f.below (fun i hi => hi.elim (fun e => e ▸ h1) (fun e => e ▸ h2)) B.size)⟩
theorem L8.both (B : Below u0.heap.size u0 u) (T : Tri w u u0.heap.size u.heap.size v1 v2 v3 V1 V2 V3) : L8 w u0 ((u.alloc (.cells #[.int .i64 r, v1] 39)).alloc (.cells #[v2] 31)) u.heap.size (u.heap.size + 1) r v1 v2 v3 V1 V2 V3 :=
  L8.mk_ B T (((Fr.refl _ u).alloc _).alloc _) at2_0 at2_1 (.inl (Nat.le_refl _)) (.inl (Nat.le_succ _)) B.size (Nat.le_succ_of_le B.size)
theorem L8.both' (B : Below u0.heap.size u0 u) (T : Tri w u u0.heap.size u.heap.size v1 v2 v3 V1 V2 V3) : L8 w u0 ((u.alloc (.cells #[v2] 31)).alloc (.cells #[.int .i64 r, v1] 39)) (u.heap.size + 1) u.heap.size r v1 v2 v3 V1 V2 V3 :=
  L8.mk_ B T (((Fr.refl _ u).alloc _).alloc _) at2_1 at2_0 (.inl (Nat.le_succ _)) (.inl (Nat.le_refl _)) (Nat.le_succ_of_le B.size) B.size
theorem L8.one (B : Below u0.heap.size u0 u) (T : Tri w u u0.heap.size u.heap.size v1 v2 v3 V1 V2 V3) (M : u.heap[b8]? = some (.cells #[.int .i64 0, .slice none 0 0] 39 (0, 0))) (h1 : u0.heap.size ≤ b8) :
    L8 w u0 (((u.setCell ⟨b8, 0, none⟩ (.int .i64 r)).setCell ⟨b8, 1, none⟩ v1).alloc (.cells #[v2] 31)) b8 u.heap.size r v1 v2 v3 V1 V2 V3 := by
  have hz : ((u.setCell ⟨b8, 0, none⟩ (.int .i64 r)).setCell ⟨b8, 1, none⟩ v1).heap.size = u.heap.size := by simp
  have f : Fr (fun k => k = b8 ∨ k = u.heap.size) u ((u.setCell ⟨b8, 0, none⟩ (.int .i64 r)).setCell ⟨b8, 1, none⟩ v1) := ((Fr.refl _ u).set (p := ⟨b8, 0, none⟩) (.inl (.inl rfl)) _).set (p := ⟨b8, 1, none⟩) (.inl (.inl rfl)) _
  refine L8.mk_ B T (f.alloc _) (bq (blk_put (blk_put M 0 _ rfl) 1 _ rfl)) ?_ (.inr ⟨_, M⟩) (.inl (Nat.le_refl _)) h1 B.size
  have := at1_0 (w := ((u.setCell ⟨b8, 0, none⟩ (.int .i64 r)).setCell ⟨b8, 1, none⟩ v1)) (o0 := (.cells #[v2] 31))
  rwa [hz] at this
theorem L8.two (B : Below u0.heap.size u0 u) (T : Tri w u u0.heap.size u.heap.size v1 v2 v3 V1 V2 V3) (M : u.heap[b9]? = some (.cells #[.slice none 0 0] 31 (0, 0))) (h1 : u0.heap.size ≤ b9) :
    L8 w u0 ((u.setCell ⟨b9, 0, none⟩ v2).alloc (.cells #[.int .i64 r, v1] 39)) u.heap.size b9 r v1 v2 v3 V1 V2 V3 := by
  have hz : (u.setCell ⟨b9, 0, none⟩ v2).heap.size = u.heap.size := by simp
  have f : Fr (fun k => k = u.heap.size ∨ k = b9) u (u.setCell ⟨b9, 0, none⟩ v2) := (Fr.refl _ u).set (p := ⟨b9, 0, none⟩) (.inl (.inr rfl)) _
  refine L8.mk_ B T (f.alloc _) ?_ (bq (blk_put M 0 _ rfl)) (.inl (Nat.le_refl _)) (.inr ⟨_, M⟩) B.size h1
  have := at1_0 (w := (u.setCell ⟨b9, 0, none⟩ v2)) (o0 := (.cells #[.int .i64 r, v1] 39))
  rwa [hz] at this
theorem L8.old (B : Below u0.heap.size u0 u) (T : Tri w u u0.heap.size u.heap.size v1 v2 v3 V1 V2 V3) (M : u.heap[b8]? = some (.cells #[.int .i64 0, .slice none 0 0] 39 (0, 0))) (M' : u.heap[b9]? = some (.cells #[.slice none 0 0] 31 (0, 0))) (h1 : u0.heap.size ≤ b8) (h2 : u0.heap.size ≤ b9) :
    L8 w u0 (((u.setCell ⟨b8, 0, none⟩ (.int .i64 r)).setCell ⟨b8, 1, none⟩ v1).setCell ⟨b9, 0, none⟩ v2) b8 b9 r v1 v2 v3 V1 V2 V3 := by
  have hn : b8 ≠ b9 := blk_ne M M' (by decide)
  have f : Fr (fun k => k = b8 ∨ k = b9) u (((u.setCell ⟨b8, 0, none⟩ (.int .i64 r)).setCell ⟨b8, 1, none⟩ v1).setCell ⟨b9, 0, none⟩ v2) := (((Fr.refl _ u).set (p := ⟨b8, 0, none⟩) (.inl (.inl rfl)) _).set (p := ⟨b8, 1, none⟩) (.inl (.inl rfl)) _).set (p := ⟨b9, 0, none⟩) (.inl (.inr rfl)) _
  refine L8.mk_ B T f (blk_far (blk_put (blk_put M 0 _ rfl) 1 _ rfl) hn _) (blk_put (blk_far (blk_far M' (Ne.symm hn) _) (Ne.symm hn) _) 0 _ rfl) (.inr ⟨_, M⟩) (.inr ⟨_, M'⟩) h1 h2
end
/-- Behind the copies of the arguments: the law's boxes, the boxes and rows of the reference's answer, of the copies. -/
structure LX (w W : World) (C0 C1 C2 : Array Value) (b8 b9 bX bY n1 n2 n3 : Nat) (r b0 : Int) (v1 v2 v3 x y : Value) (V1 V2 V3 X Y : List Int) : Prop where
  l : LB w W C0 C1 C2
  pv : Pr W b8 b9 #[.int .i64 r, v1] #[v2]
  px : Pr W bX bY #[.int .i64 b0, x] #[y]
  v : Tri w W 0 n1 v1 v2 v3 V1 V2 V3
  x : Ow w W n1 n2 x X
  y : Ow w W n2 n3 y Y
  le : n3 ≤ W.heap.size
/-- Behind the program's call, too. -/
structure LQ (w W : World) (C0 C1 C2 : Array Value) (b8 b9 bX bY bG bH n1 n2 n3 n4 : Nat) (r b0 : Int) (v1 v2 v3 x y g1 g2 g3 : Value) (V1 V2 V3 X Y G1 G2 G3 : List Int) : Prop where
  h : LX w W C0 C1 C2 b8 b9 bX bY n1 n2 n3 r b0 v1 v2 v3 x y V1 V2 V3 X Y
  pg : Pr W bG bH #[.int .i64 r, g1] #[g2]
  g : Tri w W n3 n4 g1 g2 g3 G1 G2 G3
  nn : n1 ≤ n2 ∧ n2 ≤ n3
section
variable {w W W' u0 : World} {C0 C1 C2 : Array Value} {b8 b9 bX bY bG bH n1 n2 n3 n4 : Nat} {r b0 : Int} {v1 v2 v3 x y g1 g2 g3 : Value} {V1 V2 V3 X Y G1 G2 G3 X' Y' G1' G2' G3' : List Int}
theorem LX.below (h : LX w W C0 C1 C2 b8 b9 bX bY n1 n2 n3 r b0 v1 v2 v3 x y V1 V2 V3 X Y) (hb : Below W.heap.size W W') : LX w W' C0 C1 C2 b8 b9 bX bY n1 n2 n3 r b0 v1 v2 v3 x y V1 V2 V3 X Y :=
  ⟨h.l.below hb, h.pv.below hb, h.px.below hb, h.v.below hb, h.x.below hb, h.y.below hb, Nat.le_trans h.le hb.size⟩
theorem lxq (h : LX w W C0 C1 C2 b8 b9 bX bY n1 n2 n3 r b0 v1 v2 v3 x y V1 V2 V3 X Y) [q : Quiet W W'] : LX w W' C0 C1 C2 b8 b9 bX bY n1 n2 n3 r b0 v1 v2 v3 x y V1 V2 V3 X Y := h.below q.go
theorem LQ.below (h : LQ w W C0 C1 C2 b8 b9 bX bY bG bH n1 n2 n3 n4 r b0 v1 v2 v3 x y g1 g2 g3 V1 V2 V3 X Y G1 G2 G3) (hb : Below W.heap.size W W') : LQ w W' C0 C1 C2 b8 b9 bX bY bG bH n1 n2 n3 n4 r b0 v1 v2 v3 x y g1 g2 g3 V1 V2 V3 X Y G1 G2 G3 :=
  ⟨h.h.below hb, h.pg.below hb, h.g.below hb, h.nn⟩
theorem lqq (h : LQ w W C0 C1 C2 b8 b9 bX bY bG bH n1 n2 n3 n4 r b0 v1 v2 v3 x y g1 g2 g3 V1 V2 V3 X Y G1 G2 G3) [q : Quiet W W'] : LQ w W' C0 C1 C2 b8 b9 bX bY bG bH n1 n2 n3 n4 r b0 v1 v2 v3 x y g1 g2 g3 V1 V2 V3 X Y G1 G2 G3 := h.below q.go
/-- The copies are made. -/
theorem LX.mk_ {wc w6 w7 : World} (L : LB w u0 C0 C1 C2) (H : L8 w u0 wc b8 b9 r v1 v2 v3 V1 V2 V3) (b6 : Below wc.heap.size wc w6) (ox : Ow w w6 wc.heap.size w6.heap.size x X) (b7 : Below (w6.alloc (.cells #[.int .i64 b0, x] 39)).heap.size (w6.alloc (.cells #[.int .i64 b0, x] 39)) w7)
    (oy : Ow w w7 (w6.alloc (.cells #[.int .i64 b0, x] 39)).heap.size w7.heap.size y Y) :
    LX w (w7.alloc (.cells #[y] 31)) C0 C1 C2 b8 b9 w6.heap.size w7.heap.size wc.heap.size w6.heap.size w7.heap.size r b0 v1 v2 v3 x y V1 V2 V3 X Y :=
  have b67 : Below wc.heap.size wc w7 := below_step (lq b6) b7
  ⟨lbq ((L.below H.be).below b67), prq (H.p.below b67), ⟨bq (blk_below at1_0 b7), at1_0⟩, trq ((H.v.wide (Nat.zero_le _) (Nat.le_refl _)).below b67), owq ((owq ox : Ow w (w6.alloc (.cells #[.int .i64 b0, x] 39)) _ _ x X).below b7),
    owq (oy.wide (by simp) (Nat.le_refl _)), by simp⟩
theorem LQ.mk_ {wc : World} (h : LX w u0 C0 C1 C2 b8 b9 bX bY n1 n2 n3 r b0 v1 v2 v3 x y V1 V2 V3 X Y) (nn : n1 ≤ n2 ∧ n2 ≤ n3) (H : L8 w u0 wc bG bH r g1 g2 g3 G1 G2 G3) : LQ w wc C0 C1 C2 b8 b9 bX bY bG bH n1 n2 n3 wc.heap.size r b0 v1 v2 v3 x y g1 g2 g3 V1 V2 V3 X Y G1 G2 G3 :=
  ⟨h.below H.be, H.p, H.v.wide h.le (Nat.le_refl _), nn⟩
theorem LQ.markX (h : LQ w W C0 C1 C2 b8 b9 bX bY bG bH n1 n2 n3 n4 r b0 v1 v2 v3 x y g1 g2 g3 V1 V2 V3 X Y G1 G2 G3) (o : Ow w W' n1 n2 x X') (be : Below w.heap.size w W') (k : Wr x W W') : LQ w W' C0 C1 C2 b8 b9 bX bY bG bH n1 n2 n3 n4 r b0 v1 v2 v3 x y g1 g2 g3 V1 V2 V3 X' Y G1 G2 G3 :=
  ⟨⟨h.h.l.wr h.h.x k be, h.h.pv.wr h.h.x k, h.h.px.wr h.h.x k, h.h.v.wr h.h.x (.inl (Nat.le_refl _)) k, o, h.h.y.wr k (h.h.y.away h.h.x (.inr (Nat.le_refl _))), Nat.le_trans h.h.le k.1⟩, h.pg.wr h.h.x k, h.g.wr h.h.x (.inr h.nn.2) k, h.nn⟩
theorem LQ.markY (h : LQ w W C0 C1 C2 b8 b9 bX bY bG bH n1 n2 n3 n4 r b0 v1 v2 v3 x y g1 g2 g3 V1 V2 V3 X Y G1 G2 G3) (o : Ow w W' n2 n3 y Y') (be : Below w.heap.size w W') (k : Wr y W W') : LQ w W' C0 C1 C2 b8 b9 bX bY bG bH n1 n2 n3 n4 r b0 v1 v2 v3 x y g1 g2 g3 V1 V2 V3 X Y' G1 G2 G3 :=
  ⟨⟨h.h.l.wr h.h.y k be, h.h.pv.wr h.h.y k, h.h.px.wr h.h.y k, h.h.v.wr h.h.y (.inl h.nn.1) k, h.h.x.wr k (h.h.x.away h.h.y (.inl (Nat.le_refl _))), o, Nat.le_trans h.h.le k.1⟩, h.pg.wr h.h.y k, h.g.wr h.h.y (.inr (Nat.le_refl _)) k, h.nn⟩
/-- A row of the answer was marked. -/
theorem LQ.wrG {u : Value} {U : List Int} (h : LQ w W C0 C1 C2 b8 b9 bX bY bG bH n1 n2 n3 n4 r b0 v1 v2 v3 x y g1 g2 g3 V1 V2 V3 X Y G1 G2 G3) (o : Ow w W n3 n4 u U) (t : Tri w W' n3 n4 g1 g2 g3 G1' G2' G3') (be : Below w.heap.size w W') (k : Wr u W W') : LQ w W' C0 C1 C2 b8 b9 bX bY bG bH n1 n2 n3 n4 r b0 v1 v2 v3 x y g1 g2 g3 V1 V2 V3 X Y G1' G2' G3' :=
  ⟨⟨h.h.l.wr o k be, h.h.pv.wr o k, h.h.px.wr o k, h.h.v.wr o (.inl (Nat.le_trans h.nn.1 h.nn.2)) k, h.h.x.wr k (h.h.x.away o (.inl h.nn.2)), h.h.y.wr k (h.h.y.away o (.inl (Nat.le_refl _))), Nat.le_trans h.h.le k.1⟩, h.pg.wr o k, t, h.nn⟩
theorem LQ.markA (h : LQ w W C0 C1 C2 b8 b9 bX bY bG bH n1 n2 n3 n4 r b0 v1 v2 v3 x y g1 g2 g3 V1 V2 V3 X Y G1 G2 G3) (o : Ow w W' n3 n4 g1 G1') (be : Below w.heap.size w W') (k : Wr g1 W W') : LQ w W' C0 C1 C2 b8 b9 bX bY bG bH n1 n2 n3 n4 r b0 v1 v2 v3 x y g1 g2 g3 V1 V2 V3 X Y G1' G2 G3 := h.wrG h.g.a (h.g.wra o k) be k
theorem LQ.markB (h : LQ w W C0 C1 C2 b8 b9 bX bY bG bH n1 n2 n3 n4 r b0 v1 v2 v3 x y g1 g2 g3 V1 V2 V3 X Y G1 G2 G3) (o : Ow w W' n3 n4 g2 G2') (be : Below w.heap.size w W') (k : Wr g2 W W') : LQ w W' C0 C1 C2 b8 b9 bX bY bG bH n1 n2 n3 n4 r b0 v1 v2 v3 x y g1 g2 g3 V1 V2 V3 X Y G1 G2' G3 := h.wrG h.g.b (h.g.wrb o k) be k
theorem LQ.markC (h : LQ w W C0 C1 C2 b8 b9 bX bY bG bH n1 n2 n3 n4 r b0 v1 v2 v3 x y g1 g2 g3 V1 V2 V3 X Y G1 G2 G3) (o : Ow w W' n3 n4 g3 G3') (be : Below w.heap.size w W') (k : Wr g3 W W') : LQ w W' C0 C1 C2 b8 b9 bX bY bG bH n1 n2 n3 n4 r b0 v1 v2 v3 x y g1 g2 g3 V1 V2 V3 X Y G1 G2 G3' := h.wrG h.g.c (h.g.wrc o k) be k
end
theorem LX.cells7 {w W : World} {a0 a1 a2 a3 b0 r : Int} {C1 C2 : Array Value} {b8 b9 bX bY n1 n2 n3 : Nat} {v1 v2 v3 x y : Value} {V1 V2 V3 X Y : List Int} (h : LX w W #[.int .i64 a0, .int .i64 a1, .int .i64 a2, .int .i64 a3] C1 C2 b8 b9 bX bY n1 n2 n3 r b0 v1 v2 v3 x y V1 V2 V3 X Y) :
    W.cell? ⟨w.heap.size, 0, none⟩ = some (.int .i64 a0) ∧ W.cell? ⟨w.heap.size, 1, none⟩ = some (.int .i64 a1) ∧ W.cell? ⟨w.heap.size, 2, none⟩ = some (.int .i64 a2) ∧ W.cell? ⟨w.heap.size, 3, none⟩ = some (.int .i64 a3) ∧
    W.cell? ⟨bX, 0, none⟩ = some (.int .i64 b0) ∧ W.cell? ⟨bX, 1, none⟩ = some x ∧ W.cell? ⟨bY, 0, none⟩ = some y :=
  ⟨kc h.l.k0 0 rfl, kc h.l.k0 1 rfl, kc h.l.k0 2 rfl, kc h.l.k0 3 rfl, kc h.px.p 0 rfl, kc h.px.p 1 rfl, kc h.px.q 0 rfl⟩
end Go.Proofs.Ytioifcanipijhaa.GC
