/- dot: the printed texts that its statements reach (fewer files for a claim). -/
import Derived.Test.YtpolfnckbfdhgaaX3
import Derived.Test.YtpolfnckbfdhgaaX4
import Derived.Test.YtpolfnckbfdhgaaX5
import Derived.Test.YtpolfnckbfdhgaaX7
import Derived.Test.YtpolfnckbfdhgaaX8
