/- What is held where Border has copied both ends, in whatever order; small words for its walk. -/
import Derived.Test.YtioifcanipijhaaGCx0
import Derived.Test.YtioifcanipijhaaHnd
namespace Go.Proofs.Ytioifcanipijhaa.GC
open Go.RowKit Go.Proofs.YtioifcanipijhaaW.PrintWords Go.Proofs.YtioifcanipijhaaW.PrintLast Go.Proofs.YtioifcanipijhaaW.PrintMore Go.Proofs.Ytioifcanipijhaa.Q Go.Proofs.Ytioifcanipijhaa.Hnd
set_option linter.unusedVariables false
set_option linter.unusedSimpArgs false
theorem results_cct {P : Program} {fn : Func} {p p' u : Tmp} {ty ty' : TypeId} (h : fn.results = #[.cell p ty, .cell p' ty', .tmp u]) (tmps : Array Value) (w : World) (g g' : Nat) (t t' : TypeId) (cs cs' : Array Value) (fr fr' : Nat × Nat) (d d' : TypeDesc)
    (hp : tmps.getD p undef = .pointer (some ⟨g, 0, none⟩)) (hg : w.heap[g]? = some (.cells cs t fr))
    (hu : P.underlying ty = some d) (hd : (match d with | .struct _ | .array _ _ => true | _ => false) = true) (hi : (P.info? ty).map (·.size) = some cs.size)
    (hp' : tmps.getD p' undef = .pointer (some ⟨g', 0, none⟩)) (hg' : w.heap[g']? = some (.cells cs' t' fr'))
    (hu' : P.underlying ty' = some d') (hd' : (match d' with | .struct _ | .array _ _ => true | _ => false) = true) (hi' : (P.info? ty').map (·.size) = some cs'.size) :
    (results fn tmps).run P w = .ok (.tuple #[.agg cs, .agg cs', tmps.getD u undef]) w := by
  have h1 : tmps[p]?.getD undef = .pointer (some ⟨g, 0, none⟩) := by simpa using hp
  have h2 : tmps[p']?.getD undef = .pointer (some ⟨g', 0, none⟩) := by simpa using hp'
  simp [results, h, h1, h2, asAddr, run_loadVar_row w g t ty cs fr d hg hu hd hi, run_loadVar_row w g' t' ty' cs' fr' d' hg' hu' hd' hi']
theorem gen_world {P : World → Prop} {W : World} (S : World → Prop) (hS : S W) (h : ∀ W', S W' → P W') : P W := h W hS
/-- Behind both copies: the ends' boxes, the rows, the law's own boxes. -/
structure BQ (w W : World) (c3 : Array Value) (b0 : Int) (u v : Value) (l m : List Int) (g1 g2 : Nat) : Prop where
  k3 : W.heap[w.heap.size]? = some (.cells c3 29 (0, 0))
  k6 : W.heap[w.heap.size + 3]? = some (.cells #[.int .i64 0, .slice none 0 0] 39 (0, 0))
  k7 : W.heap[w.heap.size + 4]? = some (.cells #[.slice none 0 0] 31 (0, 0))
  b1 : W.heap[g1]? = some (.cells #[.int .i64 b0, u] 39 (0, 0))
  b2 : W.heap[g2]? = some (.cells #[v] 31 (0, 0))
  r1 : Kd.R (Kd.int .u32) 46 W w.heap.size (fun k => (k ≠ g1 ∧ k ≠ g2) ∧ some k ≠ v.ownBlock) u l
  r2 : Kd.R (Kd.int .u32) 46 W w.heap.size (fun k => k ≠ g1 ∧ k ≠ g2) v m
  ne : g1 ≠ g2
  q1 : w.heap.size + 4 < g1
  q2 : w.heap.size + 4 < g2
  be : Below w.heap.size w W
/-- The same, ahead of the boxes. -/
structure BP (w W : World) (c3 : Array Value) (u v : Value) (l m : List Int) : Prop where
  k3 : W.heap[w.heap.size]? = some (.cells c3 29 (0, 0))
  k6 : W.heap[w.heap.size + 3]? = some (.cells #[.int .i64 0, .slice none 0 0] 39 (0, 0))
  k7 : W.heap[w.heap.size + 4]? = some (.cells #[.slice none 0 0] 31 (0, 0))
  r1 : Kd.R (Kd.int .u32) 46 W w.heap.size (fun k => some k ≠ v.ownBlock) u l
  r2 : Kd.R (Kd.int .u32) 46 W w.heap.size (fun _ => True) v m
  hs : w.heap.size + 4 < W.heap.size
  be : Below w.heap.size w W
section
variable {w W W' : World} {c3 : Array Value} {b0 : Int} {u v : Value} {l m : List Int} {g1 g2 : Nat} {S : Nat → Prop}
theorem BP.bq (h : BP w W c3 u v l m) (f : Fr S W W') (hS : ∀ k, S k → k = g1 ∨ k = g2) (h1 : W'.heap[g1]? = some (.cells #[.int .i64 b0, u] 39 (0, 0))) (h2 : W'.heap[g2]? = some (.cells #[v] 31 (0, 0)))
    (o1 : W.heap.size ≤ g1 ∨ ∃ c, W.heap[g1]? = some (.cells c 39 (0, 0))) (o2 : W.heap.size ≤ g2 ∨ ∃ c, W.heap[g2]? = some (.cells c 31 (0, 0))) (p1 : w.heap.size + 4 < g1) (p2 : w.heap.size + 4 < g2) (hn : g1 ≠ g2) : BQ w W' c3 b0 u v l m g1 g2 := by
  have far : ∀ {ok : Nat → Prop} {x : Value} {xs : List Int}, Kd.R (Kd.int .u32) 46 W w.heap.size ok x xs → Kd.R (Kd.int .u32) 46 W' w.heap.size (fun k => (k ≠ g1 ∧ k ≠ g2) ∧ ok k) x xs := by
    intro ok x xs hr
    have hb := Kd.R_bound hr
    have n1 : ∀ k, x.ownBlock = some k → k ≠ g1 := by
      intro k hk e
      obtain ⟨_, _, hlt, _⟩ := hb.1 k hk
      rcases o1 with o | ⟨c, o⟩
      · omega
      · obtain ⟨cs, hc⟩ := Kd.R_typed hr k hk
        subst e
        rw [o] at hc
        injection hc with hc
        injection hc with _ hc
        exact absurd hc (by decide)
    have n2 : ∀ k, x.ownBlock = some k → k ≠ g2 := by
      intro k hk e
      obtain ⟨_, _, hlt, _⟩ := hb.1 k hk
      rcases o2 with o | ⟨c, o⟩
      · omega
      · obtain ⟨cs, hc⟩ := Kd.R_typed hr k hk
        subst e
        rw [o] at hc
        injection hc with hc
        injection hc with _ hc
        exact absurd hc (by decide)
    have ht := Kd.R_mono (Kd.R_tight rfl hr) (ok' := fun k => (k ≠ g1 ∧ k ≠ g2) ∧ ok k) (fun k hk => ⟨⟨n1 k hk.symm, n2 k hk.symm⟩, hr.1 k hk.symm⟩)
    exact f.R ht (fun k hk hs => (hS k hs).elim hk.1.1 hk.1.2)
  exact ⟨f.blk h.k3 (fun hs => (hS _ hs).elim (fun e => by omega) (fun e => by omega)), f.blk h.k6 (fun hs => (hS _ hs).elim (fun e => by omega) (fun e => by omega)), f.blk h.k7 (fun hs => (hS _ hs).elim (fun e => by omega) (fun e => by omega)), h1, h2, far h.r1, Kd.R_mono (far h.r2) (fun _ hk => hk.1), hn, p1, p2, h.be.trans (f.below (fun k hk => (hS k hk).elim (fun e => by omega) (fun e => by omega)) h.be.size)⟩
theorem BQ.far (h : BQ w W c3 b0 u v l m g1 g2) : (w.heap.size + 3 ≠ g1 ∧ w.heap.size + 3 ≠ g2 ∧ w.heap.size + 4 ≠ g1 ∧ w.heap.size + 4 ≠ g2) ∧ (g1 ≠ w.heap.size + 3 ∧ g2 ≠ w.heap.size + 3 ∧ g1 ≠ w.heap.size + 4 ∧ g2 ≠ w.heap.size + 4) := by
  have := h.q1
  have := h.q2
  omega
theorem BP.both (h : BP w W c3 u v l m) : BQ w ((W.alloc (.cells #[.int .i64 b0, u] 39)).alloc (.cells #[v] 31)) c3 b0 u v l m W.heap.size (W.heap.size + 1) :=
  h.bq (S := fun _ => False) (((Fr.refl _ W).alloc _).alloc _) (fun _ h => h.elim) at2_0 at2_1 (.inl (Nat.le_refl _)) (.inl (Nat.le_succ _)) h.hs (Nat.lt_succ_of_lt h.hs) (Nat.ne_of_lt (Nat.lt_succ_self _))
theorem BP.both' (h : BP w W c3 u v l m) : BQ w ((W.alloc (.cells #[v] 31)).alloc (.cells #[.int .i64 b0, u] 39)) c3 b0 u v l m (W.heap.size + 1) W.heap.size :=
  h.bq (S := fun _ => False) (((Fr.refl _ W).alloc _).alloc _) (fun _ h => h.elim) at2_1 at2_0 (.inl (Nat.le_succ _)) (.inl (Nat.le_refl _)) (Nat.lt_succ_of_lt h.hs) h.hs (Nat.ne_of_gt (Nat.lt_succ_self _))
theorem BP.one (h : BP w W c3 u v l m) (M : W.heap[g1]? = some (.cells #[.int .i64 0, .slice none 0 0] 39 (0, 0))) (p1 : w.heap.size + 4 < g1) : BQ w (((W.setCell ⟨g1, 0, none⟩ (.int .i64 b0)).setCell ⟨g1, 1, none⟩ u).alloc (.cells #[v] 31)) c3 b0 u v l m g1 W.heap.size :=
  h.bq (S := fun k => k = g1) ((((Fr.refl (fun k => k = g1) W).set (p := ⟨g1, 0, none⟩) (.inl rfl) _).set (p := ⟨g1, 1, none⟩) (.inl rfl) _).alloc _) (fun _ h => .inl h) (blk_alloc (blk_put (blk_put M 0 _ rfl) 1 _ rfl) _) (new_at (by simp)) (.inr ⟨_, M⟩) (.inl (Nat.le_refl _)) p1 h.hs (Nat.ne_of_lt (blk_lt M))
theorem BP.two (h : BP w W c3 u v l m) (M : W.heap[g2]? = some (.cells #[.slice none 0 0] 31 (0, 0))) (p2 : w.heap.size + 4 < g2) : BQ w ((W.setCell ⟨g2, 0, none⟩ v).alloc (.cells #[.int .i64 b0, u] 39)) c3 b0 u v l m W.heap.size g2 :=
  h.bq (S := fun k => k = g2) (((Fr.refl (fun k => k = g2) W).set (p := ⟨g2, 0, none⟩) (.inl rfl) _).alloc _) (fun _ h => .inr h) (new_at (by simp)) (blk_alloc (blk_put M 0 _ rfl) _) (.inl (Nat.le_refl _)) (.inr ⟨_, M⟩) h.hs p2 (Nat.ne_of_gt (blk_lt M))
theorem BP.old (h : BP w W c3 u v l m) (M : W.heap[g1]? = some (.cells #[.int .i64 0, .slice none 0 0] 39 (0, 0))) (M' : W.heap[g2]? = some (.cells #[.slice none 0 0] 31 (0, 0))) (p1 : w.heap.size + 4 < g1) (p2 : w.heap.size + 4 < g2) :
    BQ w (((W.setCell ⟨g1, 0, none⟩ (.int .i64 b0)).setCell ⟨g1, 1, none⟩ u).setCell ⟨g2, 0, none⟩ v) c3 b0 u v l m g1 g2 := by
  have hn : g1 ≠ g2 := fun e => by
    subst e
    rw [M] at M'
    injection M' with M'
    injection M' with _ M'
    exact absurd M' (by decide)
  exact h.bq (S := fun k => k = g1 ∨ k = g2) ((((Fr.refl (fun k => k = g1 ∨ k = g2) W).set (p := ⟨g1, 0, none⟩) (.inl (.inl rfl)) _).set (p := ⟨g1, 1, none⟩) (.inl (.inl rfl)) _).set (p := ⟨g2, 0, none⟩) (.inl (.inr rfl)) _) (fun _ h => h) (blk_far (blk_put (blk_put M 0 _ rfl) 1 _ rfl) hn _) (blk_put (blk_far (blk_far M' (Ne.symm hn) _) (Ne.symm hn) _) 0 _ rfl) (.inr ⟨_, M⟩) (.inr ⟨_, M'⟩) p1 p2 hn
theorem BQ.fin (hq : BQ w W c3 b0 u v l m g1 g2) {Ac A2 : Option Addr} {cc c2 : Nat} {r1 : Int} {r2 : List Int}
    (hc : Kd.R (Kd.int .u32) 46 W' W.heap.size (fun k => (Value.slice A2 r2.length c2).ownBlock ≠ some k) (.slice Ac l.length cc) l) (h2 : Kd.R (Kd.int .u32) 46 W' w.heap.size (fun k => k ≠ g1 ∧ k ≠ g2) (.slice A2 r2.length c2) r2) (hf : Fr (fun k => k = g1 ∨ k = g2) W W')
    (k6 : W'.heap[w.heap.size + 3]? = some (.cells #[.int .i64 0, .slice none 0 0] 39 (0, 0))) (k7 : W'.heap[w.heap.size + 4]? = some (.cells #[.slice none 0 0] 31 (0, 0))) :
    ∃ v1_ v2_ v3_ : Value, Ending.returned (.tuple #[.agg #[.int .i64 r1, .slice none 0 0], .agg #[.slice A2 r2.length c2], .slice Ac l.length cc]) = .returned (.tuple #[.agg #[.int .i64 r1, v1_], .agg #[v2_], v3_]) ∧
      Kd.R (Kd.int .u32) 46 (((W'.setCell ⟨w.heap.size + 3, 0, none⟩ (.int .i64 r1)).setCell ⟨w.heap.size + 3, 1, none⟩ (.slice none 0 0)).setCell ⟨w.heap.size + 4, 0, none⟩ (.slice A2 r2.length c2)).drew w.heap.size (fun k_ => some k_ ≠ (v2_ : Value).ownBlock ∧ some k_ ≠ (v3_ : Value).ownBlock) v1_ [] ∧
      Kd.R (Kd.int .u32) 46 (((W'.setCell ⟨w.heap.size + 3, 0, none⟩ (.int .i64 r1)).setCell ⟨w.heap.size + 3, 1, none⟩ (.slice none 0 0)).setCell ⟨w.heap.size + 4, 0, none⟩ (.slice A2 r2.length c2)).drew w.heap.size (fun k_ => some k_ ≠ (v1_ : Value).ownBlock ∧ some k_ ≠ (v3_ : Value).ownBlock) v2_ r2 ∧
      Kd.R (Kd.int .u32) 46 (((W'.setCell ⟨w.heap.size + 3, 0, none⟩ (.int .i64 r1)).setCell ⟨w.heap.size + 3, 1, none⟩ (.slice none 0 0)).setCell ⟨w.heap.size + 4, 0, none⟩ (.slice A2 r2.length c2)).drew w.heap.size (fun k_ => some k_ ≠ (v1_ : Value).ownBlock ∧ some k_ ≠ (v2_ : Value).ownBlock) v3_ l ∧
      Below w.heap.size w (((W'.setCell ⟨w.heap.size + 3, 0, none⟩ (.int .i64 r1)).setCell ⟨w.heap.size + 3, 1, none⟩ (.slice none 0 0)).setCell ⟨w.heap.size + 4, 0, none⟩ (.slice A2 r2.length c2)).drew := by
  have FU : Fr (fun k => k = w.heap.size + 3 ∨ k = w.heap.size + 4) W' (((W'.setCell ⟨w.heap.size + 3, 0, none⟩ (.int .i64 r1)).setCell ⟨w.heap.size + 3, 1, none⟩ (.slice none 0 0)).setCell ⟨w.heap.size + 4, 0, none⟩ (.slice A2 r2.length c2)).drew :=
    ((((Fr.refl (fun k => k = w.heap.size + 3 ∨ k = w.heap.size + 4) W').set (p := ⟨w.heap.size + 3, 0, none⟩) (.inl (.inl rfl)) _).set (p := ⟨w.heap.size + 3, 1, none⟩) (.inl (.inl rfl)) _).set (p := ⟨w.heap.size + 4, 0, none⟩) (.inl (.inr rfl)) _).drew
  have e2 := Kd.R_types (Kd.R_types h2 k6 (by decide)) k7 (by decide)
  have e3 := Kd.R_types (Kd.R_types hc k6 (by decide)) k7 (by decide)
  have t2 := FU.R (Kd.R_tight rfl e2) (fun k hk hs => by
    have := e2.1 k hk.symm
    rcases hs with hs | hs
    · exact this.1.2 hs
    · exact this.2 hs)
  have t3 := FU.R (Kd.R_tight rfl e3) (fun k hk hs => by
    have := e3.1 k hk.symm
    rcases hs with hs | hs
    · exact this.1.2 hs
    · exact this.2 hs)
  refine ⟨.slice none 0 0, .slice A2 r2.length c2, .slice Ac l.length cc, rfl, Kd.R_nil _ _ _ _ _, Kd.R_mono t2 (fun k hk => ⟨by simp [Value.ownBlock], fun e => ?_⟩), Kd.R_lower (Kd.R_mono t3 (fun k hk => ⟨by simp [Value.ownBlock], fun e => (e3.1 k hk.symm).1.1 e.symm⟩)) hq.be.size, ?_⟩
  · exact (e3.1 k e.symm).1.1 hk.symm
  · have q1 := hq.q1
    have q2 := hq.q2
    have f1 : Fr (fun k => w.heap.size ≤ k) w W := Fr.of_below _ hq.be
    exact ((f1.trans hf (fun k hk => .inl (hk.elim (fun e => by omega) (fun e => by omega)))).trans FU (fun k hk => .inl (hk.elim (fun e => by omega) (fun e => by omega)))).below (fun _ h => h) (Nat.le_refl _)
end
end Go.Proofs.Ytioifcanipijhaa.GC
