/- The pure statement of law NetsTakes: proved in YtpkmbbmipoecpaaNetsLaws. -/
import Derived.Test.YtpkmbbmipoecpaaNetsLaws
namespace Go.Proofs.Ytpkmbbmipoecpaa.Pure
theorem NetsTakes : X.bulletinlaw01_NetsTakes.Pure := Nets.NetsTakes
end Go.Proofs.Ytpkmbbmipoecpaa.Pure
