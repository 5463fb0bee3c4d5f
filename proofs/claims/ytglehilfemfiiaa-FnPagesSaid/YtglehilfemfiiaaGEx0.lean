/- Told by a program of this session, out of the translation: each function of the group as a plain Lean function, and that Go's call comes to just its answer. Lean checks it. -/
import Derived.Test.YtglehilfemfiiaaProg
import Derived.Below
import Derived.Deep.Draws
import Derived.Deep.AppendLies
import Derived.Maps.AppendAt
import Derived.OwnWalk
import Derived.Laws.BytesArg
import Derived.Laws.MakeOwn
import Derived.Laws.OwnMore
import Derived.Deep.OwnRows
import Derived.Tactics
import Derived.Lib.ConvBytes
import Derived.Laws.Slices
import Derived.WalkKit
import Derived.KernelRfl
import Derived.RowKit3
import Derived.Deep.LoopGhost
import Derived.Deep.QuietTactic
import Derived.BigQuiet
import Derived.WideLaws
import Derived.Deep.DeepCutAuto
import Derived.Deep.CutBlock
import Derived.Deep.RegionHeld3
import Derived.Laws.Rows
import Derived.Lib.AppendStr
import Derived.ArgAppend
import Derived.Laws.IdiomCopy
import Derived.OrdersHeld
import Derived.Laws.BitsLemmas
import Derived.RowKit
import Derived.Test.YtglehilfemfiiaaQ
import Derived.Test.YtglehilfemfiiaaWWords
import Derived.Test.YtglehilfemfiiaaWLast
import Derived.Test.YtglehilfemfiiaaWTab
import Derived.Test.YtglehilfemfiiaaWFour
import Derived.Test.YtglehilfemfiiaaWQPut
import Derived.Test.YtglehilfemfiiaaWApart
import Derived.Test.YtglehilfemfiiaaWArr
import Derived.Test.YtglehilfemfiiaaWZeros
import Derived.Test.YtglehilfemfiiaaWFoot
import Derived.Test.YtglehilfemfiiaaWKept
import Derived.Test.YtglehilfemfiiaaWShare
import Derived.Test.YtglehilfemfiiaaWN
import Derived.Test.YtglehilfemfiiaaWFootNe
import Derived.Test.YtglehilfemfiiaaWAt
import Derived.Test.YtglehilfemfiiaaWRepsOne
import Derived.Test.YtglehilfemfiiaaWGuard
import Derived.Test.YtglehilfemfiiaaWNEv
import Derived.Test.YtglehilfemfiiaaWMore
namespace Go.Proofs.Ytglehilfemfiiaa.GE
open Go.RowKit Go.Proofs.YtglehilfemfiiaaW.PrintWords Go.Proofs.YtglehilfemfiiaaW.PrintLast Go.Proofs.YtglehilfemfiiaaW.PrintMore Go.Proofs.Ytglehilfemfiiaa.Q
attribute [local go_sem] max2_int min2_int max_two min_two max_three min_three max_four min_four   -- for this text's walks alone
set_option linter.unusedVariables false
set_option linter.unusedSimpArgs false



def errW : Option Int → Value
 | none => .nilIface
 | some c => .iface 0 (.int .i64 c)
theorem errW_none : errW none = .nilIface := rfl
theorem errW_some (c : Int) : errW (some c) = .iface 0 (.int .i64 c) := rfl

theorem info3 : (Try.prog.info? 3).map (fun i => (i.zero, i.size, i.bytes)) = some (some (.int .i64 0), 1, 8) := by kernel_rfl
theorem info4 : (Try.prog.info? 4).map (fun i => (i.zero, i.size, i.bytes)) = some (some (.bool false), 1, 1) := by kernel_rfl
-- the values' own types

end Go.Proofs.Ytglehilfemfiiaa.GE
