/- A copy of a text that this claim uses, without what it does not name. -/
import Derived.Test.YtglehilfemfiiaaWInvD
import Derived.Test.YtglehilfemfiiaaWFootNeD
namespace Go.Proofs.YtglehilfemfiiaaW.PrintWords
open Go.RowKit
end Go.Proofs.YtglehilfemfiiaaW.PrintWords
namespace Go.Proofs.YtglehilfemfiiaaW.PrintLast
section
variable {ops : Array Oper} {a : Act} {o og : Oper} {g : Nat} {t : Tmp} {u : Bool}
end
end Go.Proofs.YtglehilfemfiiaaW.PrintLast
