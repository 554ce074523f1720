-- Written by a program (print.py's text, with contracts of this session's own put in). Not trusted: Lean checks it.
import Derived.Test.YtpolfnckbfdhgaaX0
import Derived.Test.YtpolfnckbfdhgaaX1
import Derived.Test.YtpolfnckbfdhgaaX2
import Derived.Test.YtpolfnckbfdhgaaX3
import Derived.Test.YtpolfnckbfdhgaaX4
import Derived.Test.YtpolfnckbfdhgaaX5
import Derived.Test.YtpolfnckbfdhgaaX6
import Derived.Test.YtpolfnckbfdhgaaX7
import Derived.Test.YtpolfnckbfdhgaaX8
namespace Go.Proofs.Ytpolfnckbfdhgaa.X
open Go.RowKit Go.Proofs.YtpolfnckbfdhgaaW.PrintWords Go.Proofs.YtpolfnckbfdhgaaW.PrintLast Go.Proofs.YtpolfnckbfdhgaaW.PrintMore
attribute [local go_sem] max2_int min2_int max_two min_two max_three min_three max_four min_four   -- for this text's walks alone
set_option linter.unusedVariables false
set_option linter.unusedSimpArgs false

end Go.Proofs.Ytpolfnckbfdhgaa.X
