-- Written by wip/tools/xprint.py out of the translation (the kit's printer with contracts of this session's own). Lean checks it.
import Derived.Test.YtkkndcfflmealaaDoorX27x0
import Derived.Test.YtkkndcfflmealaaDoorX27x1
import Derived.Test.YtkkndcfflmealaaDoorX27x2
import Derived.Test.YtkkndcfflmealaaDoorX27x3
import Derived.Test.YtkkndcfflmealaaDoorX27x4
import Derived.Test.YtkkndcfflmealaaDoorX27x5
import Derived.Test.YtkkndcfflmealaaDoorX27x6
import Derived.Test.YtkkndcfflmealaaDoorX27x7
namespace Go.Proofs.YtkkndcfflmealaaDoor.X27
open Go.RowKit Go.Proofs.YtkkndcfflmealaaDoorW.PrintWords Go.Proofs.YtkkndcfflmealaaDoorW.PrintLast Go.Proofs.YtkkndcfflmealaaDoorW.PrintMore
attribute [local go_sem] max2_int min2_int max_two min_two max_three min_three max_four min_four   -- for this text's walks alone
set_option linter.unusedVariables false
set_option linter.unusedSimpArgs false

end Go.Proofs.YtkkndcfflmealaaDoor.X27
