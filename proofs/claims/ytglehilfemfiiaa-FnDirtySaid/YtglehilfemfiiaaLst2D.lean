/- Plain laws of the loops that mark rows of structs and ask for the marks: s numbers an element. Said of any function that obeys the loop's step; no program in sight. -/
import Derived.Test.YtglehilfemfiiaaLstD
namespace Go.Proofs.Ytglehilfemfiiaa.Lst
open Go.RowKit Go.Proofs.YtglehilfemfiiaaW.PrintWords Go.Proofs.YtglehilfemfiiaaW.PrintLast
end Go.Proofs.Ytglehilfemfiiaa.Lst
