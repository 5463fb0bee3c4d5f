/- Plain steps of a memory (new blocks, draws) found by instance: what is told of a block, a row or what lies below is told behind them, too. Short words for printed walks. -/
import Derived.Test.YtioifcanipijhaaWMore
namespace Go.Proofs.Ytioifcanipijhaa.Q
open Go.RowKit Go.Proofs.YtioifcanipijhaaW.PrintWords Go.Proofs.YtioifcanipijhaaW.PrintLast Go.Proofs.YtioifcanipijhaaW.PrintMore
/-- From W to W' there are new blocks and draws alone. -/
class Quiet (W W' : World) : Prop where
  go : Below W.heap.size W W'
instance (W : World) : Quiet W W := ⟨Below.refl _ _⟩
instance (W W' : World) (o : Obj) [h : Quiet W W'] : Quiet W (W'.alloc o) := ⟨below_alloc h.go o⟩
instance (W W' : World) (n : Nat) [h : Quiet W W'] : Quiet W (W'.drewN n) := ⟨pw_below_drewN h.go n⟩
instance (W W' : World) [h : Quiet W W'] : Quiet W W'.drew := ⟨below_drew1 h.go⟩
theorem bq {W W' : World} {g : Nat} {o : Obj} (h : W.heap[g]? = some o) [q : Quiet W W'] : W'.heap[g]? = some o := blk_below h q.go
theorem rq {α : Type} {d : Kd α} {e base : Nat} {W W' : World} {ok : Nat → Prop} {v : Value} {xs : List α} (h : d.R e W base ok v xs) [q : Quiet W W'] : d.R e W' base ok v xs := Kd.R_below h q.go
theorem lq {w W W' : World} (h : Below w.heap.size w W) [q : Quiet W W'] : Below w.heap.size w W' := below_step h q.go
theorem ne_new {W : World} {g g' : Nat} {o : Obj} (hg : g' = W.heap.size) (h : W.heap[g]? = some o) : g ≠ g' := by rw [hg]; exact Nat.ne_of_lt (blk_lt h)
theorem new_ne {W : World} {g g' : Nat} {o : Obj} (hg : g' = W.heap.size) (h : W.heap[g]? = some o) : g' ≠ g := by rw [hg]; exact Nat.ne_of_gt (blk_lt h)
theorem ge_new {w W : World} {g : Nat} (hg : g = W.heap.size) (h : Below w.heap.size w W) : w.heap.size ≤ g := by rw [hg]; exact h.size
section
variable {α : Type} {d : Kd α} {e base : Nat} {W : World} {ok ok1 : Nat → Prop} {v : Value} {xs : List α}
theorem Kd.Q_tight2 (hE : d.E = []) (h : d.Q e W base ok v xs) : d.Q e W base (fun k => some k = v.ownBlock ∧ ok k) v xs := Kd.Q_mono (Kd.Q_tight hE h) (fun k hk => ⟨hk, h.1 k hk.symm⟩)
theorem Kd.Q_reok (hE : d.E = []) (h : d.Q e W base ok1 v xs) (hok : ∀ k, v.ownBlock = some k → ok k) : d.Q e W base ok v xs := Kd.Q_mono (Kd.Q_tight hE h) (fun k hk => hok k hk.symm)
end
end Go.Proofs.Ytioifcanipijhaa.Q
