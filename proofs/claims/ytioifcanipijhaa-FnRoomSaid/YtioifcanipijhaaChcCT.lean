/- What recv and RecvOn come to, walked by hand. -/
import Derived.Test.YtioifcanipijhaaGCx0T
import Derived.Test.YtioifcanipijhaaGCx3T
import Derived.Test.YtioifcanipijhaaHndT
namespace Go.Proofs.Ytioifcanipijhaa.GC
open Go.RowKit Go.Proofs.YtioifcanipijhaaW.PrintWords Go.Proofs.YtioifcanipijhaaW.PrintLast Go.Proofs.YtioifcanipijhaaW.PrintMore Go.Proofs.Ytioifcanipijhaa.Q Go.Proofs.Ytioifcanipijhaa.Hnd
set_option linter.unusedVariables false
set_option linter.unusedSimpArgs false
def RecvPost (g : Nat) (v : Value) (r : Int × Int × List Int) (base : Nat) (W : World) (e : Ending) (w' : World) : Prop :=
  e = .returned (.tuple #[.int .u32 r.1, .int .i64 r.2.1]) ∧ ∃ v' : Value, w'.heap[g]? = some (.cells #[v'] 31 (0, 0)) ∧ Kd.Q (Kd.int .u32) 46 w' base (fun k => k ≠ g) v' r.2.2 ∧ Fr (fun k => k = g) W w' ∧ (∀ k, v'.ownBlock = some k → v.ownBlock = some k)
end Go.Proofs.Ytioifcanipijhaa.GC
