-- Written by a program (print.py's text, with contracts of this session's own put in). Not trusted: Lean checks it.
import Derived.Test.YtaamnpomclenpaaDoorX0
import Derived.Test.YtaamnpomclenpaaDoorX1
import Derived.Test.YtaamnpomclenpaaDoorX2
import Derived.Test.YtaamnpomclenpaaDoorX3
import Derived.Test.YtaamnpomclenpaaDoorX4
import Derived.Test.YtaamnpomclenpaaDoorX5
import Derived.Test.YtaamnpomclenpaaDoorX6
import Derived.Test.YtaamnpomclenpaaDoorX7
import Derived.Test.YtaamnpomclenpaaDoorX8
import Derived.Test.YtaamnpomclenpaaDoorX9
import Derived.Test.YtaamnpomclenpaaDoorX10
import Derived.Test.YtaamnpomclenpaaDoorX11
import Derived.Test.YtaamnpomclenpaaDoorX12
namespace Go.Proofs.YtaamnpomclenpaaDoor.X
open Go.RowKit Go.Proofs.YtaamnpomclenpaaDoorW.PrintWords Go.Proofs.YtaamnpomclenpaaDoorW.PrintLast Go.Proofs.YtaamnpomclenpaaDoorW.PrintMore
attribute [local go_sem] max2_int min2_int max_two min_two max_three min_three max_four min_four   -- for this text's walks alone
set_option linter.unusedVariables false
set_option linter.unusedSimpArgs false

end Go.Proofs.YtaamnpomclenpaaDoor.X
