/- The pure statement of law NetsBack: proved in YtpkmbbmipoecpaaNetsLaws. -/
import Derived.Test.YtpkmbbmipoecpaaNetsLaws
namespace Go.Proofs.Ytpkmbbmipoecpaa.Pure
theorem NetsBack : X.bulletinlaw01_NetsBack.Pure := Nets.NetsBack
end Go.Proofs.Ytpkmbbmipoecpaa.Pure
