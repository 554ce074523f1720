-- Written by a program (print.py's text, with contracts of this session's own put in). Not trusted: Lean checks it.
import Derived.Test.YtjmahkpmnajmfaaDoorX0
import Derived.Test.YtjmahkpmnajmfaaDoorX1
import Derived.Test.YtjmahkpmnajmfaaDoorX2
namespace Go.Proofs.YtjmahkpmnajmfaaDoor.X
open Go.RowKit Go.Proofs.YtjmahkpmnajmfaaDoorW.PrintWords Go.Proofs.YtjmahkpmnajmfaaDoorW.PrintLast Go.Proofs.YtjmahkpmnajmfaaDoorW.PrintMore
attribute [local go_sem] max2_int min2_int max_two min_two max_three min_three max_four min_four   -- for this text's walks alone
set_option linter.unusedVariables false
set_option linter.unusedSimpArgs false

end Go.Proofs.YtjmahkpmnajmfaaDoor.X
