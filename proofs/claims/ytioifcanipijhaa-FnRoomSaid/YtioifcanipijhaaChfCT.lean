/- What ContainsFunc over channel operations comes to, and ChanPlay, walked by hand. -/
import Derived.Test.YtioifcanipijhaaGCx0T
import Derived.Test.YtioifcanipijhaaGCx1T
import Derived.Test.YtioifcanipijhaaChbCT
import Derived.Test.YtioifcanipijhaaChcCT
import Derived.Test.YtioifcanipijhaaChdCT
import Derived.Shelf.Abstract
import Derived.Lib.SliceRun
namespace Go.Proofs.Ytioifcanipijhaa.GC
open Go.Shelf Go.RowKit Go.Proofs.YtioifcanipijhaaW.PrintWords Go.Proofs.YtioifcanipijhaaW.PrintLast Go.Proofs.YtioifcanipijhaaW.PrintMore Go.Proofs.Ytioifcanipijhaa.Q Go.Proofs.Ytioifcanipijhaa.Hnd
set_option linter.unusedVariables false
set_option linter.unusedSimpArgs false
/-- What ChanPlay holds in memory: the channel's row, the two ends, their rows. -/
structure PS (W : World) (base g2 g5 g6 : Nat) (a0 a1 a2 a3 h : Int) (xs ys : List Int) (v1 v2 : Value) : Prop where
  k2 : W.heap[g2]? = some (.cells #[.int .i64 a0, .int .i64 a1, .int .i64 a2, .int .i64 a3] 29 (0, 0))
  k5 : W.heap[g5]? = some (.cells #[.int .i64 h, v1] 39 (0, 0))
  k6 : W.heap[g6]? = some (.cells #[v2] 31 (0, 0))
  r1 : Kd.R (Kd.int .u32) 46 W base (fun k => k ≠ g5 ∧ k ≠ g6) v1 xs
  r2 : Kd.Q (Kd.int .u32) 46 W base (fun k => k ≠ g5 ∧ k ≠ g6) v2 ys
  ne : ∀ k, v1.ownBlock = some k → v2.ownBlock ≠ some k
  lt : g2 < base
  h5 : base ≤ g5
  h6 : base ≤ g6
  h56 : g5 ≠ g6
/-- What one of the ends' functions may write. -/
def SP (W : World) (base g5 g6 : Nat) (k : Nat) : Prop := k = g5 ∨ k = g6 ∨ base ≤ k ∧ ∃ cs, W.heap[k]? = some (.cells cs 46 (0, 0))
section
variable {W w' : World} {base g2 g5 g6 : Nat} {a0 a1 a2 a3 h : Int} {xs ys : List Int} {v1 v2 : Value} {e : Ending}
theorem PS.below (p : PS W base g2 g5 g6 a0 a1 a2 a3 h xs ys v1 v2) (hb : Below W.heap.size W w') : PS w' base g2 g5 g6 a0 a1 a2 a3 h xs ys v1 v2 :=
  ⟨blk_below p.k2 hb, blk_below p.k5 hb, blk_below p.k6 hb, Kd.R_below p.r1 hb, Kd.Q_below p.r2 hb, p.ne, p.lt, p.h5, p.h6, p.h56⟩
theorem SP_own1 (p : PS W base g2 g5 g6 a0 a1 a2 a3 h xs ys v1 v2) {k : Nat} (hk : v1.ownBlock = some k) : SP W base g5 g6 k := by
  obtain ⟨cs, hc⟩ := Kd.R_typed p.r1 k hk
  obtain ⟨_, hb, _⟩ := (Kd.R_bound p.r1).1 k hk
  exact .inr (.inr ⟨hb, cs, hc⟩)
theorem PS.frame (hf : Fr (SP W base g5 g6) W w') {g t : Nat} {cs : Array Value} (hb : W.heap[g]? = some (.cells cs t (0, 0))) (ht : t ≠ 46) (n5 : g ≠ g5) (n6 : g ≠ g6) : w'.heap[g]? = some (.cells cs t (0, 0)) :=
  hf.blk hb (fun hs => by
    rcases hs with e | e | ⟨_, cs', hc⟩
    · exact n5 e
    · exact n6 e
    · rw [hc] at hb
      injection hb with hb
      injection hb with _ hb
      exact ht hb.symm)
theorem PS.row (p : PS W base g2 g5 g6 a0 a1 a2 a3 h xs ys v1 v2) (hf : Fr (SP W base g5 g6) W w') {ok : Nat → Prop} {v : Value} {acc : List S72} (hr : Kd.R k72 72 W base ok v acc) : Kd.R k72 72 w' base ok v acc := by
  refine Kd.R_mono (hf.R (Kd.R_bound hr) (fun k hk hs => ?_)) (fun _ hk => hk.1)
  obtain ⟨_, _, _, q, hq, cells, hc⟩ := hk
  have hq' : q = 72 := by
    have : q ∈ [72] := hq
    simpa using this
  subst hq'
  rcases hs with e | e | ⟨_, cs', hc'⟩
  · subst e
    rw [p.k5] at hc
    injection hc with hc
    injection hc with _ hc
    exact absurd hc (by decide)
  · subst e
    rw [p.k6] at hc
    injection hc with hc
    injection hc with _ hc
    exact absurd hc (by decide)
  · rw [hc'] at hc
    injection hc with hc
    injection hc with _ hc
    exact absurd hc (by decide)
theorem PS.send (p : PS W base g2 g5 g6 a0 a1 a2 a3 h xs ys v1 v2) {r : Int × List Int} (hbase : base ≤ W.heap.size) (hp : SendPost g5 h v1 r base W e w') : ∃ v1', PS w' base g2 g5 g6 a0 a1 a2 a3 h r.2 ys v1' v2 ∧ Fr (SP W base g5 g6) W w' := by
  obtain ⟨_, v1', hb5, hr, hf, hown⟩ := hp
  have hf' : Fr (SP W base g5 g6) W w' := hf.mono (fun k hk => hk.elim .inl (fun e => SP_own1 p e))
  have n25 : g2 ≠ g5 := blk_ne p.k2 p.k5 (by decide)
  have n26 : g2 ≠ g6 := blk_ne p.k2 p.k6 (by decide)
  have hk6 : w'.heap[g6]? = some (.cells #[v2] 31 (0, 0)) := hf.blk p.k6 (fun hs => hs.elim (fun e => p.h56 e.symm) (fun e => (p.r1.1 _ e).2 rfl))
  refine ⟨v1', ⟨PS.frame hf' p.k2 (by decide) n25 n26, hb5, hk6, Kd.R_mono (Kd.R_bound hr) (fun k hk => ⟨hk.1, ?_⟩), ?_, ?_, p.lt, p.h5, p.h6, p.h56⟩, hf'⟩
  · obtain ⟨_, _, _, q, hq, cells, hc⟩ := hk
    have hq' : q = 46 := by
      have : q ∈ [46] := hq
      simpa using this
    subst hq'
    exact blk_ne hc hk6 (by decide)
  · exact Kd.Q_mono (hf.Q (Kd.Q_tight rfl p.r2) (fun k hk hs => hs.elim (fun e => (p.r2.1 k hk.symm).1 e) (fun e => p.ne k e hk.symm))) (fun k hk => p.r2.1 k hk.symm)
  · intro k hk e2
    rcases hown k hk with e1 | hle
    · exact p.ne k e1 e2
    · have := Kd.Q_lt p.r2 k e2
      omega
theorem PS.recv (p : PS W base g2 g5 g6 a0 a1 a2 a3 h xs ys v1 v2) {r : Int × Int × List Int} (hp : RecvPost g6 v2 r base W e w') : ∃ v2', PS w' base g2 g5 g6 a0 a1 a2 a3 h xs r.2.2 v1 v2' ∧ Fr (SP W base g5 g6) W w' := by
  obtain ⟨_, v2', hb6, hr, hf, hown⟩ := hp
  have hf' : Fr (SP W base g5 g6) W w' := hf.mono (fun k hk => .inr (.inl hk))
  have n25 : g2 ≠ g5 := blk_ne p.k2 p.k5 (by decide)
  have n26 : g2 ≠ g6 := blk_ne p.k2 p.k6 (by decide)
  exact ⟨v2', ⟨PS.frame hf' p.k2 (by decide) n25 n26, hf.blk p.k5 p.h56, hb6, hf.R p.r1 (fun k hk e => hk.2 e), Kd.Q_mono (Kd.Q_tight rfl hr) (fun k hk => p.r2.1 k (hown k hk.symm)), fun k e1 e2 => p.ne k e1 (hown k e2), p.lt, p.h5, p.h6, p.h56⟩, hf'⟩
theorem PS.drop (p : PS W base g2 g5 g6 a0 a1 a2 a3 h xs ys v1 v2) : PS (W.setCell ⟨g5, 1, none⟩ (.slice none 0 0)) base g2 g5 g6 a0 a1 a2 a3 h [] ys (.slice none 0 0) v2 ∧ Fr (SP W base g5 g6) W (W.setCell ⟨g5, 1, none⟩ (.slice none 0 0)) := by
  have n25 : g2 ≠ g5 := blk_ne p.k2 p.k5 (by decide)
  have n65 : g6 ≠ g5 := Ne.symm p.h56
  refine ⟨⟨blk_far p.k2 n25 _, blk_put p.k5 1 _ rfl, blk_far p.k6 n65 _, Kd.R_nil _ _ _ _ _, Kd.Q_far p.r2 (fun k hk => hk.1) _, fun k e1 => by simp [Value.ownBlock] at e1, p.lt, p.h5, p.h6, p.h56⟩, (Fr.refl _ W).set (.inl (.inl rfl)) _⟩
/-- Rows of what was said, and its box. -/
def T72 (W : World) (base : Nat) (k : Nat) : Prop := base ≤ k ∧ ∃ cs, W.heap[k]? = some (.cells cs 72 (0, 0))
theorem PS.other (p : PS W base g2 g5 g6 a0 a1 a2 a3 h xs ys v1 v2) (hf : Fr (T72 W base) W w') : PS w' base g2 g5 g6 a0 a1 a2 a3 h xs ys v1 v2 := by
  have far : ∀ {g t : Nat} {cs : Array Value}, W.heap[g]? = some (.cells cs t (0, 0)) → t ≠ 72 → ¬ T72 W base g := fun hb ht hs => by
    obtain ⟨_, cs', hc⟩ := hs
    rw [hc] at hb
    injection hb with hb
    injection hb with _ hb
    exact ht hb.symm
  refine ⟨hf.blk p.k2 (far p.k2 (by decide)), hf.blk p.k5 (far p.k5 (by decide)), hf.blk p.k6 (far p.k6 (by decide)), ?_, ?_, p.ne, p.lt, p.h5, p.h6, p.h56⟩
  · refine Kd.R_mono (hf.R (Kd.R_bound p.r1) (fun k hk => ?_)) (fun _ hk => hk.1)
    obtain ⟨_, _, _, q, hq, cells, hc⟩ := hk
    have hq' : q = 46 := by
      have : q ∈ [46] := hq
      simpa using this
    subst hq'
    exact far hc (by decide)
  · refine Kd.Q_mono (hf.Q (Kd.Q_bound p.r2) (fun k hk => ?_)) (fun _ hk => hk.1)
    obtain ⟨_, _, _, q, hq, cells, hc⟩ := hk
    have hq' : q = 46 := by
      have : q ∈ [46] := hq
      simpa using this
    subst hq'
    exact far hc (by decide)
end
end Go.Proofs.Ytioifcanipijhaa.GC
