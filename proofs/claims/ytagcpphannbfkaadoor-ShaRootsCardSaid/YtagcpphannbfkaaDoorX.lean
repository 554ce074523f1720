-- Written by a program (print.py's text, with contracts of this session's own put in). Not trusted: Lean checks it.
import Derived.Test.YtagcpphannbfkaaDoorX0
import Derived.Test.YtagcpphannbfkaaDoorX1
import Derived.Test.YtagcpphannbfkaaDoorX2
import Derived.Test.YtagcpphannbfkaaDoorX3
import Derived.Test.YtagcpphannbfkaaDoorX4
import Derived.Test.YtagcpphannbfkaaDoorX5
namespace Go.Proofs.YtagcpphannbfkaaDoor.X
open Go.RowKit Go.Proofs.YtagcpphannbfkaaDoorW.PrintWords Go.Proofs.YtagcpphannbfkaaDoorW.PrintLast Go.Proofs.YtagcpphannbfkaaDoorW.PrintMore
attribute [local go_sem] max2_int min2_int max_two min_two max_three min_three max_four min_four   -- for this text's walks alone
set_option linter.unusedVariables false
set_option linter.unusedSimpArgs false

end Go.Proofs.YtagcpphannbfkaaDoor.X
