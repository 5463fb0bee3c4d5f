/- Told by a program of this session, out of the translation: each function of the group as a plain Lean function, and that Go's call comes to just its answer. Lean checks it. -/
import Derived.Test.YtioifcanipijhaaProg
import Derived.Below
import Derived.Deep.Draws
import Derived.Deep.AppendLies
import Derived.Maps.AppendAt
import Derived.OwnWalk
import Derived.Laws.BytesArg
import Derived.Laws.MakeOwn
import Derived.Laws.OwnMore
import Derived.Deep.OwnRows
import Derived.Tactics
import Derived.Lib.ConvBytes
import Derived.Laws.Slices
import Derived.WalkKit
import Derived.KernelRfl
import Derived.RowKit3
import Derived.Deep.LoopGhost
import Derived.Deep.QuietTactic
import Derived.BigQuiet
import Derived.WideLaws
import Derived.Deep.DeepCutAuto
import Derived.Deep.CutBlock
import Derived.Deep.RegionHeld3
import Derived.Laws.Rows
import Derived.Lib.AppendStr
import Derived.ArgAppend
import Derived.Laws.IdiomCopy
import Derived.OrdersHeld
import Derived.Laws.BitsLemmas
import Derived.RowKit
import Derived.Test.YtioifcanipijhaaQ
import Derived.Test.YtioifcanipijhaaWWords
import Derived.Test.YtioifcanipijhaaWLast
import Derived.Test.YtioifcanipijhaaWTab
import Derived.Test.YtioifcanipijhaaWFour
import Derived.Test.YtioifcanipijhaaWQPut
import Derived.Test.YtioifcanipijhaaWApart
import Derived.Test.YtioifcanipijhaaWArr
import Derived.Test.YtioifcanipijhaaWZeros
import Derived.Test.YtioifcanipijhaaWFoot
import Derived.Test.YtioifcanipijhaaWKept
import Derived.Test.YtioifcanipijhaaWShare
import Derived.Test.YtioifcanipijhaaWN
import Derived.Test.YtioifcanipijhaaWFootNe
import Derived.Test.YtioifcanipijhaaWAt
import Derived.Test.YtioifcanipijhaaWEqStruct
import Derived.Test.YtioifcanipijhaaWRepsOne
import Derived.Test.YtioifcanipijhaaWInv
import Derived.Test.YtioifcanipijhaaWInvWords
import Derived.Test.YtioifcanipijhaaWGuard
import Derived.Test.YtioifcanipijhaaWNEv
import Derived.Test.YtioifcanipijhaaWMore
namespace Go.Proofs.Ytioifcanipijhaa.GC1
open Go.RowKit Go.Proofs.YtioifcanipijhaaW.PrintWords Go.Proofs.YtioifcanipijhaaW.PrintLast Go.Proofs.YtioifcanipijhaaW.PrintMore Go.Proofs.Ytioifcanipijhaa.Q
attribute [local go_sem] max2_int min2_int max_two min_two max_three min_three max_four min_four   -- for this text's walks alone
set_option linter.unusedVariables false
set_option linter.unusedSimpArgs false



def errW : Option Int → Value
 | none => .nilIface
 | some c => .iface 0 (.int .i64 c)
theorem errW_none : errW none = .nilIface := rfl
theorem errW_some (c : Int) : errW (some c) = .iface 0 (.int .i64 c) := rfl

theorem info46 : (Try.prog.info? 46).map (fun i => (i.zero, i.size, i.bytes)) = some (some (.int .u32 0), 1, 4) := by kernel_rfl
-- the values' own types

end Go.Proofs.Ytioifcanipijhaa.GC1
