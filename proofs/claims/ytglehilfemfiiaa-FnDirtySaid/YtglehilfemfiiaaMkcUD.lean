/- Caches in memory of one's own, and the marks that a law sets in them, walked by hand. -/
import Derived.Test.YtglehilfemfiiaaGUx0D
import Derived.Test.YtglehilfemfiiaaGUyD
import Derived.Test.YtglehilfemfiiaaLstD
import Derived.Test.YtglehilfemfiiaaLst2D
import Derived.Test.YtglehilfemfiiaaHndD
namespace Go.Proofs.Ytglehilfemfiiaa.GU
open Go.RowKit Go.Proofs.YtglehilfemfiiaaW.PrintWords Go.Proofs.YtglehilfemfiiaaW.PrintLast Go.Proofs.YtglehilfemfiiaaW.PrintMore Go.Proofs.Ytglehilfemfiiaa.Q Go.Proofs.Ytglehilfemfiiaa.Hnd Go.Proofs.Ytglehilfemfiiaa.Lst
set_option linter.unusedVariables false
set_option linter.unusedSimpArgs false
/-- How many ways rows hold. -/
def tot : List (List S118) → Nat
  | [] => 0
  | x :: t => x.length + tot t
/-- Rows of a cache in memory of one's own, made within lo to hi. -/
structure Cst (w0 W : World) (lo hi : Nat) (v : Value) (rows : List (List S118)) : Prop where
  r : Kd.S (Kd.slice 118 k118) 116 W w0.heap.size (fun k => lo ≤ k ∧ k < hi) v rows
  ge : w0.heap.size ≤ lo
  le : hi ≤ W.heap.size
section
variable {w0 W W' : World} {lo hi lo' hi' : Nat} {v : Value} {rows : List (List S118)} {S : Nat → Prop}
theorem Cst.new (h : Kd.S (Kd.slice 118 k118) 116 W' W.heap.size (fun _ => True) v rows) (hB : Below w0.heap.size w0 W) : Cst w0 W' W.heap.size W'.heap.size v rows :=
  ⟨Kd.S_lower (Kd.S_mono (Kd.S_bound h) (fun k hk => ⟨hk.2.1, hk.2.2.1⟩)) hB.size, hB.size, Nat.le_refl _⟩
theorem Cst.fr (h : Cst w0 W lo hi v rows) (f : Fr S W W') (hS : ∀ k, lo ≤ k → k < hi → ¬ S k) : Cst w0 W' lo hi v rows :=
  ⟨Kd.S_step h.r (fun k hk hlt => f.block k hlt (hS k hk.1 hk.2)), h.ge, Nat.le_trans h.le f.size⟩
theorem Cst.below (h : Cst w0 W lo hi v rows) (hb : Below W.heap.size W W') : Cst w0 W' lo hi v rows := h.fr (Fr.of_below (fun _ => False) hb) (fun _ _ _ h => h)
theorem Cst.form (h : Cst w0 W lo hi v rows) : ∃ A c, v = .slice A rows.length c ∧ rows.length ≤ c ∧ Kd.C (Kd.slice 118 k118) W A rows.length rows := by
  obtain ⟨A, c, rfl⟩ := Kd.S_slice h.r
  exact ⟨A, c, rfl, (Kd.S_reads' h.r).2.1, (Kd.S_reads' h.r).2.2⟩
end
end Go.Proofs.Ytglehilfemfiiaa.GU
