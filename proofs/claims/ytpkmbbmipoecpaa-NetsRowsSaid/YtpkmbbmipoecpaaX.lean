-- Written by a program (print.py's text, with contracts of this session's own put in). Not trusted: Lean checks it.
import Derived.Test.YtpkmbbmipoecpaaX0
import Derived.Test.YtpkmbbmipoecpaaX1
import Derived.Test.YtpkmbbmipoecpaaX2
import Derived.Test.YtpkmbbmipoecpaaX3
import Derived.Test.YtpkmbbmipoecpaaX4
import Derived.Test.YtpkmbbmipoecpaaX5
import Derived.Test.YtpkmbbmipoecpaaX6
namespace Go.Proofs.Ytpkmbbmipoecpaa.X
open Go.RowKit Go.Proofs.YtpkmbbmipoecpaaW.PrintWords Go.Proofs.YtpkmbbmipoecpaaW.PrintLast Go.Proofs.YtpkmbbmipoecpaaW.PrintMore
attribute [local go_sem] max2_int min2_int max_two min_two max_three min_three max_four min_four   -- for this text's walks alone
set_option linter.unusedVariables false
set_option linter.unusedSimpArgs false

end Go.Proofs.Ytpkmbbmipoecpaa.X
