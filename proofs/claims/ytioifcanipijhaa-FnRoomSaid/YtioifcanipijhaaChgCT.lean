/- ChanPlay, walked by hand. -/
import Derived.Test.YtioifcanipijhaaGCx0T
import Derived.Test.YtioifcanipijhaaGCx1T
import Derived.Test.YtioifcanipijhaaChfCT
namespace Go.Proofs.Ytioifcanipijhaa.GC
open Go.Shelf Go.RowKit Go.Proofs.YtioifcanipijhaaW.PrintWords Go.Proofs.YtioifcanipijhaaW.PrintLast Go.Proofs.YtioifcanipijhaaW.PrintMore Go.Proofs.Ytioifcanipijhaa.Q Go.Proofs.Ytioifcanipijhaa.Hnd
set_option linter.unusedVariables false
set_option linter.unusedSimpArgs false
end Go.Proofs.Ytioifcanipijhaa.GC
