/- A copy of a text that this claim uses, without what it does not name. -/
import Derived.Test.YtglehilfemfiiaaWWordsD
import Derived.Laws.StructEq
/-! ### 53. '==' of structs as_ one Bool -/
namespace Go.Proofs.YtglehilfemfiiaaW.PrintWords
open Go.RowKit
section
variable {P : Program} {d : Nat} {xs ys : Array Value} {f : Field} {fs : List Field} {a b : Value} {r s : Bool} {w : World}
end
end Go.Proofs.YtglehilfemfiiaaW.PrintWords
