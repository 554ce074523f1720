-- Written by a program (print.py's text, with contracts of this session's own put in). Not trusted: Lean checks it.
import Derived.Test.YtaflpmpffppfaaaDoorX0
import Derived.Test.YtaflpmpffppfaaaDoorX1
import Derived.Test.YtaflpmpffppfaaaDoorX2
import Derived.Test.YtaflpmpffppfaaaDoorX3
import Derived.Test.YtaflpmpffppfaaaDoorX4
import Derived.Test.YtaflpmpffppfaaaDoorX5
import Derived.Test.YtaflpmpffppfaaaDoorX6
import Derived.Test.YtaflpmpffppfaaaDoorX7
import Derived.Test.YtaflpmpffppfaaaDoorX8
import Derived.Test.YtaflpmpffppfaaaDoorX9
import Derived.Test.YtaflpmpffppfaaaDoorX10
import Derived.Test.YtaflpmpffppfaaaDoorX11
import Derived.Test.YtaflpmpffppfaaaDoorX12
import Derived.Test.YtaflpmpffppfaaaDoorX13
import Derived.Test.YtaflpmpffppfaaaDoorX14
import Derived.Test.YtaflpmpffppfaaaDoorX15
import Derived.Test.YtaflpmpffppfaaaDoorX16
import Derived.Test.YtaflpmpffppfaaaDoorX17
import Derived.Test.YtaflpmpffppfaaaDoorX18
import Derived.Test.YtaflpmpffppfaaaDoorX19
namespace Go.Proofs.YtaflpmpffppfaaaDoor.X
open Go.RowKit Go.Proofs.YtaflpmpffppfaaaDoorW.PrintWords Go.Proofs.YtaflpmpffppfaaaDoorW.PrintLast Go.Proofs.YtaflpmpffppfaaaDoorW.PrintMore
attribute [local go_sem] max2_int min2_int max_two min_two max_three min_three max_four min_four   -- for this text's walks alone
set_option linter.unusedVariables false
set_option linter.unusedSimpArgs false

end Go.Proofs.YtaflpmpffppfaaaDoor.X
