/- bulletin/bulletinlaw03.ShaSums, as its row asks for it. -/
import Derived.Test.YtagcpphannbfkaaDoorShaR5
import Derived.Test.YtagcpphannbfkaaDoorShaRow1
namespace Go.Proofs.YtagcpphannbfkaaDoor.X
open Go.RowKit Go.Proofs.YtagcpphannbfkaaDoorW.PrintWords Go.Proofs.YtagcpphannbfkaaDoorW.PrintLast Go.Proofs.YtagcpphannbfkaaDoorW.PrintMore
set_option linter.unusedVariables false
def bulletinlaw03_ShaSums.f (k : Nat) (a0 : ByteArray) : Option Bool := some true
theorem bulletinlaw03_ShaSums.calls (k : Nat) (a0 : ByteArray) (r : Bool) (w : World) (hT0 : Aside0 (Tabs w)) (h : bulletinlaw03_ShaSums.f k a0 = some r) :
    Calls Tryd.prog 3 #[.string a0] w fun e w' => e = .returned (.bool r) ∧ Below w.heap.size w w' := by
  obtain rfl : true = r := Option.some.inj h
  exact Sha.sums_calls w hT0.out a0
end Go.Proofs.YtagcpphannbfkaaDoor.X
namespace Go.Proofs.YtagcpphannbfkaaDoor.Row
open Go.RowKit Go.Proofs.YtagcpphannbfkaaDoorW.PrintWords Go.Proofs.YtagcpphannbfkaaDoorW.PrintLast
set_option linter.unusedVariables false
theorem sums_ev (a0 : ByteArray) (h0 : a0.size ≤ 140737488351232) : Ev (fun k => X.bulletinlaw03_ShaSums.f k a0) true := Ev.now _
end Go.Proofs.YtagcpphannbfkaaDoor.Row
