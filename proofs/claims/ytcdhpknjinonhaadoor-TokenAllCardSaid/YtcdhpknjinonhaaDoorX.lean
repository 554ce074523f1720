-- Written by a program (print.py's text, with contracts of this session's own put in). Not trusted: Lean checks it.
import Derived.Test.YtcdhpknjinonhaaDoorX0
import Derived.Test.YtcdhpknjinonhaaDoorX1
import Derived.Test.YtcdhpknjinonhaaDoorX2
import Derived.Test.YtcdhpknjinonhaaDoorX3
import Derived.Test.YtcdhpknjinonhaaDoorX4
import Derived.Test.YtcdhpknjinonhaaDoorX5
import Derived.Test.YtcdhpknjinonhaaDoorX6
import Derived.Test.YtcdhpknjinonhaaDoorX7
import Derived.Test.YtcdhpknjinonhaaDoorX8
import Derived.Test.YtcdhpknjinonhaaDoorX9
import Derived.Test.YtcdhpknjinonhaaDoorX10
import Derived.Test.YtcdhpknjinonhaaDoorX11
import Derived.Test.YtcdhpknjinonhaaDoorX12
import Derived.Test.YtcdhpknjinonhaaDoorX13
namespace Go.Proofs.YtcdhpknjinonhaaDoor.X
open Go.RowKit Go.Proofs.YtcdhpknjinonhaaDoorW.PrintWords Go.Proofs.YtcdhpknjinonhaaDoorW.PrintLast Go.Proofs.YtcdhpknjinonhaaDoorW.PrintMore
attribute [local go_sem] max2_int min2_int max_two min_two max_three min_three max_four min_four   -- for this text's walks alone
set_option linter.unusedVariables false
set_option linter.unusedSimpArgs false

end Go.Proofs.YtcdhpknjinonhaaDoor.X
