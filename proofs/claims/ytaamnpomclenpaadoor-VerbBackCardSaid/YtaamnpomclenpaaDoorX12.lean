-- Written by a program (print.py's text, with contracts of this session's own put in). Not trusted: Lean checks it.
import Derived.Test.YtaamnpomclenpaaDoorX0
namespace Go.Proofs.YtaamnpomclenpaaDoor.X
open Go.RowKit Go.Proofs.YtaamnpomclenpaaDoorW.PrintWords Go.Proofs.YtaamnpomclenpaaDoorW.PrintLast Go.Proofs.YtaamnpomclenpaaDoorW.PrintMore
attribute [local go_sem] max2_int min2_int max_two min_two max_three min_three max_four min_four   -- for this text's walks alone
set_option linter.unusedVariables false
set_option linter.unusedSimpArgs false

-- NOT PRINTED: function 4 (bulletinlaw27_VerbBack)

end Go.Proofs.YtaamnpomclenpaaDoor.X
