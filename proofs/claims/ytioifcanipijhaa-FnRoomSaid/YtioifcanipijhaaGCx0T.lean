/- Told by a program of this session, out of the translation: each function of the group as a plain Lean function, and that Go's call comes to just its answer. Lean checks it. -/
import Derived.Test.YtioifcanipijhaaProg
import Derived.Below
import Derived.Deep.Draws
import Derived.Deep.AppendLies
import Derived.Maps.AppendAt
import Derived.OwnWalk
import Derived.Laws.BytesArg
import Derived.Laws.MakeOwn
import Derived.Laws.OwnMore
import Derived.Deep.OwnRows
import Derived.Tactics
import Derived.Lib.ConvBytes
import Derived.Laws.Slices
import Derived.WalkKit
import Derived.KernelRfl
import Derived.RowKit3
import Derived.Deep.LoopGhost
import Derived.Deep.QuietTactic
import Derived.BigQuiet
import Derived.WideLaws
import Derived.Deep.DeepCutAuto
import Derived.Deep.CutBlock
import Derived.Deep.RegionHeld3
import Derived.Laws.Rows
import Derived.Lib.AppendStr
import Derived.ArgAppend
import Derived.Laws.IdiomCopy
import Derived.OrdersHeld
import Derived.Laws.BitsLemmas
import Derived.RowKit
import Derived.Test.YtioifcanipijhaaQT
import Derived.Test.YtioifcanipijhaaWWordsT
import Derived.Test.YtioifcanipijhaaWLastT
import Derived.Test.YtioifcanipijhaaWTabT
import Derived.Test.YtioifcanipijhaaWFourT
import Derived.Test.YtioifcanipijhaaWQPutT
import Derived.Test.YtioifcanipijhaaWApartT
import Derived.Test.YtioifcanipijhaaWArrT
import Derived.Test.YtioifcanipijhaaWZerosT
import Derived.Test.YtioifcanipijhaaWFootT
import Derived.Test.YtioifcanipijhaaWKeptT
import Derived.Test.YtioifcanipijhaaWShareT
import Derived.Test.YtioifcanipijhaaWNT
import Derived.Test.YtioifcanipijhaaWFootNeT
import Derived.Test.YtioifcanipijhaaWAtT
import Derived.Test.YtioifcanipijhaaWRepsOneT
import Derived.Test.YtioifcanipijhaaWGuardT
import Derived.Test.YtioifcanipijhaaWNEvT
import Derived.Test.YtioifcanipijhaaWMoreT
namespace Go.Proofs.Ytioifcanipijhaa.GC
open Go.RowKit Go.Proofs.YtioifcanipijhaaW.PrintWords Go.Proofs.YtioifcanipijhaaW.PrintLast Go.Proofs.YtioifcanipijhaaW.PrintMore Go.Proofs.Ytioifcanipijhaa.Q
attribute [local go_sem] max2_int min2_int max_two min_two max_three min_three max_four min_four   -- for this text's walks alone
set_option linter.unusedVariables false
set_option linter.unusedSimpArgs false



def errW : Option Int → Value
 | none => .nilIface
 | some c => .iface 0 (.int .i64 c)
theorem errW_none : errW none = .nilIface := rfl
theorem errW_some (c : Int) : errW (some c) = .iface 0 (.int .i64 c) := rfl

theorem info46 : (Try.prog.info? 46).map (fun i => (i.zero, i.size, i.bytes)) = some (some (.int .u32 0), 1, 4) := by kernel_rfl
/-! #### struct type 70 -/
/-! #### struct type 72 -/
structure S72 where
 f0 : Int
 f1 : Int
def k72 : Kd S72 := Kd.iso (Kd.pair (Kd.int .i64) (Kd.int .u32)) (fun x : S72 => (x.f0, x.f1))
end Go.Proofs.Ytioifcanipijhaa.GC
