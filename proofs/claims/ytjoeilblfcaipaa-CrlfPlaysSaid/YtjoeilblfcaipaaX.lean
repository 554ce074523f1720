-- Written by a program (print.py's text, with contracts of this session's own put in). Not trusted: Lean checks it.
import Derived.Test.YtjoeilblfcaipaaX0
import Derived.Test.YtjoeilblfcaipaaX1
import Derived.Test.YtjoeilblfcaipaaX2
import Derived.Test.YtjoeilblfcaipaaX3
import Derived.Test.YtjoeilblfcaipaaX4
import Derived.Test.YtjoeilblfcaipaaX5
import Derived.Test.YtjoeilblfcaipaaX6
namespace Go.Proofs.Ytjoeilblfcaipaa.X
open Go.RowKit Go.Proofs.YtjoeilblfcaipaaW.PrintWords Go.Proofs.YtjoeilblfcaipaaW.PrintLast Go.Proofs.YtjoeilblfcaipaaW.PrintMore
attribute [local go_sem] max2_int min2_int max_two min_two max_three min_three max_four min_four   -- for this text's walks alone
set_option linter.unusedVariables false
set_option linter.unusedSimpArgs false

end Go.Proofs.Ytjoeilblfcaipaa.X
