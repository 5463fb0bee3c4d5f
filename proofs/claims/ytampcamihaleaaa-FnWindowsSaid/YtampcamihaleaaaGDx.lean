/- Told by a program of this session, out of the translation: each function of the group as a plain Lean function, and that Go's call comes to just its answer. Lean checks it. -/
import Derived.Test.YtampcamihaleaaaGDx0
import Derived.Test.YtampcamihaleaaaGDx1
import Derived.Test.YtampcamihaleaaaGDx2
import Derived.Test.YtampcamihaleaaaGDx3
import Derived.Test.YtampcamihaleaaaGDx4
import Derived.Test.YtampcamihaleaaaGDx5
import Derived.Test.YtampcamihaleaaaGDx6
import Derived.Test.YtampcamihaleaaaGDx7
import Derived.Test.YtampcamihaleaaaGDx8
import Derived.Test.YtampcamihaleaaaGDx9
import Derived.Test.YtampcamihaleaaaGDx10
namespace Go.Proofs.Ytampcamihaleaaa.GD
open Go.RowKit Go.Proofs.YtampcamihaleaaaW.PrintWords Go.Proofs.YtampcamihaleaaaW.PrintLast Go.Proofs.YtampcamihaleaaaW.PrintMore
attribute [local go_sem] max2_int min2_int max_two min_two max_three min_three max_four min_four   -- for this text's walks alone
set_option linter.unusedVariables false
set_option linter.unusedSimpArgs false

end Go.Proofs.Ytampcamihaleaaa.GD
