/- A copy of a text that this claim uses, without what it does not name. -/
import Derived.Test.YtbcpkigeginmnaaWTabK
/-! ### 56. Four, five, six operations that may come up next, in any order -/
namespace Go.Proofs.YtbcpkigeginmnaaW.PrintLast
section
variable {P : Program} {ops : Array Oper} {Q : Exit → Act → World → Prop} {md : Region.Mode} {S : World → Prop} {ds : List Nat} {T : Bool × List (List Nat × List Nat)}
end
end Go.Proofs.YtbcpkigeginmnaaW.PrintLast
