-- Written by a program (print.py's text, with contracts of this session's own put in). Not trusted: Lean checks it.
import Derived.Test.YtlkppogpoodjlaaDoorX0
import Derived.Test.YtlkppogpoodjlaaDoorX1
import Derived.Test.YtlkppogpoodjlaaDoorX2
import Derived.Test.YtlkppogpoodjlaaDoorX3
import Derived.Test.YtlkppogpoodjlaaDoorX4
import Derived.Test.YtlkppogpoodjlaaDoorX5
import Derived.Test.YtlkppogpoodjlaaDoorX6
import Derived.Test.YtlkppogpoodjlaaDoorX7
import Derived.Test.YtlkppogpoodjlaaDoorX8
import Derived.Test.YtlkppogpoodjlaaDoorX9
import Derived.Test.YtlkppogpoodjlaaDoorX10
import Derived.Test.YtlkppogpoodjlaaDoorX11
import Derived.Test.YtlkppogpoodjlaaDoorX12
import Derived.Test.YtlkppogpoodjlaaDoorX13
import Derived.Test.YtlkppogpoodjlaaDoorX14
import Derived.Test.YtlkppogpoodjlaaDoorX15
import Derived.Test.YtlkppogpoodjlaaDoorX16
import Derived.Test.YtlkppogpoodjlaaDoorX17
import Derived.Test.YtlkppogpoodjlaaDoorX18
import Derived.Test.YtlkppogpoodjlaaDoorX19
import Derived.Test.YtlkppogpoodjlaaDoorX20
namespace Go.Proofs.YtlkppogpoodjlaaDoor.X
open Go.RowKit Go.Proofs.YtlkppogpoodjlaaDoorW.PrintWords Go.Proofs.YtlkppogpoodjlaaDoorW.PrintLast Go.Proofs.YtlkppogpoodjlaaDoorW.PrintMore
attribute [local go_sem] max2_int min2_int max_two min_two max_three min_three max_four min_four   -- for this text's walks alone
set_option linter.unusedVariables false
set_option linter.unusedSimpArgs false

end Go.Proofs.YtlkppogpoodjlaaDoor.X
