-- Written by a program (print.py's text, with contracts of this session's own put in). Not trusted: Lean checks it.
import Derived.Test.YtgbkjgngpceeiaaDoorX0
import Derived.Test.YtgbkjgngpceeiaaDoorX1
import Derived.Test.YtgbkjgngpceeiaaDoorX2
import Derived.Test.YtgbkjgngpceeiaaDoorX3
import Derived.Test.YtgbkjgngpceeiaaDoorX4
import Derived.Test.YtgbkjgngpceeiaaDoorX5
import Derived.Test.YtgbkjgngpceeiaaDoorX6
import Derived.Test.YtgbkjgngpceeiaaDoorX7
import Derived.Test.YtgbkjgngpceeiaaDoorX8
import Derived.Test.YtgbkjgngpceeiaaDoorX9
import Derived.Test.YtgbkjgngpceeiaaDoorX10
import Derived.Test.YtgbkjgngpceeiaaDoorX11
import Derived.Test.YtgbkjgngpceeiaaDoorX12
import Derived.Test.YtgbkjgngpceeiaaDoorX13
import Derived.Test.YtgbkjgngpceeiaaDoorX14
import Derived.Test.YtgbkjgngpceeiaaDoorX15
import Derived.Test.YtgbkjgngpceeiaaDoorX16
import Derived.Test.YtgbkjgngpceeiaaDoorX17
namespace Go.Proofs.YtgbkjgngpceeiaaDoor.X
open Go.RowKit Go.Proofs.YtgbkjgngpceeiaaDoorW.PrintWords Go.Proofs.YtgbkjgngpceeiaaDoorW.PrintLast Go.Proofs.YtgbkjgngpceeiaaDoorW.PrintMore
attribute [local go_sem] max2_int min2_int max_two min_two max_three min_three max_four min_four   -- for this text's walks alone
set_option linter.unusedVariables false
set_option linter.unusedSimpArgs false

end Go.Proofs.YtgbkjgngpceeiaaDoor.X
