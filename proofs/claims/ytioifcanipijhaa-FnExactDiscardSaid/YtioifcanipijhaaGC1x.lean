/- Told by a program of this session, out of the translation: each function of the group as a plain Lean function, and that Go's call comes to just its answer. Lean checks it. -/
import Derived.Test.YtioifcanipijhaaGC1x0
import Derived.Test.YtioifcanipijhaaGC1x1
import Derived.Test.YtioifcanipijhaaGC1x2
import Derived.Test.YtioifcanipijhaaGC1x3
import Derived.Test.YtioifcanipijhaaGC1x4
import Derived.Test.YtioifcanipijhaaGC1x5
import Derived.Test.YtioifcanipijhaaGC1x6
import Derived.Test.YtioifcanipijhaaGC1x7
import Derived.Test.YtioifcanipijhaaGC1x8
namespace Go.Proofs.Ytioifcanipijhaa.GC1
open Go.RowKit Go.Proofs.YtioifcanipijhaaW.PrintWords Go.Proofs.YtioifcanipijhaaW.PrintLast Go.Proofs.YtioifcanipijhaaW.PrintMore
attribute [local go_sem] max2_int min2_int max_two min_two max_three min_three max_four min_four   -- for this text's walks alone
set_option linter.unusedVariables false
set_option linter.unusedSimpArgs false

end Go.Proofs.Ytioifcanipijhaa.GC1
