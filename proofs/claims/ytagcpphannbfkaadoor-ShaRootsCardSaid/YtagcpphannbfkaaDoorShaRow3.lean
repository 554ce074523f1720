/- bulletin/bulletinlaw03.ShaRoots, as its row asks for it. -/
import Derived.Test.YtagcpphannbfkaaDoorShaR7
import Derived.Test.YtagcpphannbfkaaDoorShaRow1
namespace Go.Proofs.YtagcpphannbfkaaDoor.X
open Go.RowKit Go.Proofs.YtagcpphannbfkaaDoorW.PrintWords Go.Proofs.YtagcpphannbfkaaDoorW.PrintLast Go.Proofs.YtagcpphannbfkaaDoorW.PrintMore
set_option linter.unusedVariables false
def bulletinlaw03_ShaRoots.f (k : Nat) : Option Bool := some true
theorem bulletinlaw03_ShaRoots.calls (k : Nat) (r : Bool) (w : World) (hT0 : Aside0 (Tabs w)) (h : bulletinlaw03_ShaRoots.f k  = some r) :
    Calls Tryd.prog 4 #[] w fun e w' => e = .returned (.bool r) ∧ Below w.heap.size w w' := by
  obtain rfl : true = r := Option.some.inj h
  exact Sha.roots_calls w hT0.out
end Go.Proofs.YtagcpphannbfkaaDoor.X
namespace Go.Proofs.YtagcpphannbfkaaDoor.Row
open Go.RowKit Go.Proofs.YtagcpphannbfkaaDoorW.PrintWords Go.Proofs.YtagcpphannbfkaaDoorW.PrintLast
set_option linter.unusedVariables false
theorem roots_ev : Ev (fun k => X.bulletinlaw03_ShaRoots.f k ) true := Ev.now _
end Go.Proofs.YtagcpphannbfkaaDoor.Row
