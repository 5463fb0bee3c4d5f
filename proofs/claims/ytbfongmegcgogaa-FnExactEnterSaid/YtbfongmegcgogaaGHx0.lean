/- Told by a program of this session, out of the translation: each function of the group as a plain Lean function, and that Go's call comes to just its answer. Lean checks it. -/
import Derived.Test.YtbfongmegcgogaaProg
import Derived.Below
import Derived.Deep.Draws
import Derived.Deep.AppendLies
import Derived.Maps.AppendAt
import Derived.OwnWalk
import Derived.Laws.BytesArg
import Derived.Laws.MakeOwn
import Derived.Laws.OwnMore
import Derived.Deep.OwnRows
import Derived.Tactics
import Derived.Lib.ConvBytes
import Derived.Laws.Slices
import Derived.WalkKit
import Derived.KernelRfl
import Derived.RowKit3
import Derived.Deep.LoopGhost
import Derived.Deep.QuietTactic
import Derived.BigQuiet
import Derived.WideLaws
import Derived.Deep.DeepCutAuto
import Derived.Deep.CutBlock
import Derived.Deep.RegionHeld3
import Derived.Laws.Rows
import Derived.Lib.AppendStr
import Derived.ArgAppend
import Derived.Laws.IdiomCopy
import Derived.OrdersHeld
import Derived.Laws.BitsLemmas
import Derived.RowKit
import Derived.Test.YtbfongmegcgogaaQ
import Derived.Test.YtbfongmegcgogaaWWords
import Derived.Test.YtbfongmegcgogaaWLast
import Derived.Test.YtbfongmegcgogaaWTab
import Derived.Test.YtbfongmegcgogaaWFour
import Derived.Test.YtbfongmegcgogaaWQPut
import Derived.Test.YtbfongmegcgogaaWApart
import Derived.Test.YtbfongmegcgogaaWArr
import Derived.Test.YtbfongmegcgogaaWZeros
import Derived.Test.YtbfongmegcgogaaWFoot
import Derived.Test.YtbfongmegcgogaaWKept
import Derived.Test.YtbfongmegcgogaaWShare
import Derived.Test.YtbfongmegcgogaaWN
import Derived.Test.YtbfongmegcgogaaWFootNe
import Derived.Test.YtbfongmegcgogaaWAt
import Derived.Test.YtbfongmegcgogaaWEqStruct
import Derived.Test.YtbfongmegcgogaaWRepsOne
import Derived.Test.YtbfongmegcgogaaWInv
import Derived.Test.YtbfongmegcgogaaWInvWords
import Derived.Test.YtbfongmegcgogaaWGuard
import Derived.Test.YtbfongmegcgogaaWNEv
import Derived.Test.YtbfongmegcgogaaWMore
namespace Go.Proofs.Ytbfongmegcgogaa.GH
open Go.RowKit Go.Proofs.YtbfongmegcgogaaW.PrintWords Go.Proofs.YtbfongmegcgogaaW.PrintLast Go.Proofs.YtbfongmegcgogaaW.PrintMore Go.Proofs.Ytbfongmegcgogaa.Q
attribute [local go_sem] max2_int min2_int max_two min_two max_three min_three max_four min_four   -- for this text's walks alone
set_option linter.unusedVariables false
set_option linter.unusedSimpArgs false



def errW : Option Int → Value
 | none => .nilIface
 | some c => .iface 0 (.int .i64 c)
theorem errW_none : errW none = .nilIface := rfl
theorem errW_some (c : Int) : errW (some c) = .iface 0 (.int .i64 c) := rfl

-- the values' own types

end Go.Proofs.Ytbfongmegcgogaa.GH
