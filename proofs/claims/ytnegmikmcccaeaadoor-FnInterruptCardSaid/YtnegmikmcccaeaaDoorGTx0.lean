/- Told by a program of this session, out of the translation: each function of the group as a plain Lean function, and that Go's call comes to just its answer. Lean checks it. -/
import Derived.Test.YtnegmikmcccaeaaDoorProg
import Derived.Below
import Derived.Deep.Draws
import Derived.Deep.AppendLies
import Derived.Maps.AppendAt
import Derived.OwnWalk
import Derived.Laws.BytesArg
import Derived.Laws.MakeOwn
import Derived.Laws.OwnMore
import Derived.Deep.OwnRows
import Derived.Tactics
import Derived.Lib.ConvBytes
import Derived.Laws.Slices
import Derived.WalkKit
import Derived.KernelRfl
import Derived.RowKit3
import Derived.Deep.LoopGhost
import Derived.Deep.QuietTactic
import Derived.BigQuiet
import Derived.WideLaws
import Derived.Deep.DeepCutAuto
import Derived.Deep.CutBlock
import Derived.Deep.RegionHeld3
import Derived.Laws.Rows
import Derived.Lib.AppendStr
import Derived.ArgAppend
import Derived.Laws.IdiomCopy
import Derived.OrdersHeld
import Derived.Laws.BitsLemmas
import Derived.RowKit
import Derived.Test.YtnegmikmcccaeaaDoorQ
import Derived.Test.YtnegmikmcccaeaaDoorWWords
import Derived.Test.YtnegmikmcccaeaaDoorWLast
import Derived.Test.YtnegmikmcccaeaaDoorWTab
import Derived.Test.YtnegmikmcccaeaaDoorWFour
import Derived.Test.YtnegmikmcccaeaaDoorWQPut
import Derived.Test.YtnegmikmcccaeaaDoorWApart
import Derived.Test.YtnegmikmcccaeaaDoorWArr
import Derived.Test.YtnegmikmcccaeaaDoorWZeros
import Derived.Test.YtnegmikmcccaeaaDoorWFoot
import Derived.Test.YtnegmikmcccaeaaDoorWKept
import Derived.Test.YtnegmikmcccaeaaDoorWShare
import Derived.Test.YtnegmikmcccaeaaDoorWN
import Derived.Test.YtnegmikmcccaeaaDoorWFootNe
import Derived.Test.YtnegmikmcccaeaaDoorWAt
import Derived.Test.YtnegmikmcccaeaaDoorWEqStruct
import Derived.Test.YtnegmikmcccaeaaDoorWRepsOne
import Derived.Test.YtnegmikmcccaeaaDoorWInv
import Derived.Test.YtnegmikmcccaeaaDoorWInvWords
import Derived.Test.YtnegmikmcccaeaaDoorWGuard
import Derived.Test.YtnegmikmcccaeaaDoorWNEv
import Derived.Test.YtnegmikmcccaeaaDoorWMore
namespace Go.Proofs.YtnegmikmcccaeaaDoor.GT
open Go.RowKit Go.Proofs.YtnegmikmcccaeaaDoorW.PrintWords Go.Proofs.YtnegmikmcccaeaaDoorW.PrintLast Go.Proofs.YtnegmikmcccaeaaDoorW.PrintMore Go.Proofs.YtnegmikmcccaeaaDoor.Q
attribute [local go_sem] max2_int min2_int max_two min_two max_three min_three max_four min_four   -- for this text's walks alone
set_option linter.unusedVariables false
set_option linter.unusedSimpArgs false



def errW : Option Int → Value
 | none => .nilIface
 | some c => .iface 0 (.int .i64 c)
theorem errW_none : errW none = .nilIface := rfl
theorem errW_some (c : Int) : errW (some c) = .iface 0 (.int .i64 c) := rfl

theorem info3 : (Tryd.prog.info? 3).map (fun i => (i.zero, i.size, i.bytes)) = some (some (.int .i64 0), 1, 8) := by kernel_rfl
-- the values' own types

end Go.Proofs.YtnegmikmcccaeaaDoor.GT
