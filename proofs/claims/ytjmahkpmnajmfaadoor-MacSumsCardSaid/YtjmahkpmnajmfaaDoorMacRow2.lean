/- bulletin/bulletinlaw04.MacSums, as its row asks for it. -/
import Derived.Test.YtjmahkpmnajmfaaDoorMacS
import Derived.Test.YtjmahkpmnajmfaaDoorShaTab
namespace Go.Proofs.YtjmahkpmnajmfaaDoor.X
open Go.RowKit Go.Proofs.YtjmahkpmnajmfaaDoorW.PrintWords Go.Proofs.YtjmahkpmnajmfaaDoorW.PrintLast Go.Proofs.YtjmahkpmnajmfaaDoorW.PrintMore
set_option linter.unusedVariables false
def bulletinlaw04_MacSums.f (k : Nat) (a0 : ByteArray) (a1 : ByteArray) (a2 : Int) : Option Bool := some true
theorem bulletinlaw04_MacSums.calls (k : Nat) (a0 : ByteArray) (a1 : ByteArray) (a2 : Int) (r : Bool) (w : World) (hT0 : Aside0 (Tabs w)) (h : bulletinlaw04_MacSums.f k a0 a1 a2 = some r) :
    Calls Tryd.prog 3 #[.string a0, .string a1, .int .i64 a2] w fun e w' => e = .returned (.bool r) ∧ Below w.heap.size w w' := by
  obtain rfl : true = r := Option.some.inj h
  exact Mac.sums_calls w hT0.out a0 a1 a2
end Go.Proofs.YtjmahkpmnajmfaaDoor.X
namespace Go.Proofs.YtjmahkpmnajmfaaDoor.Row
open Go.RowKit Go.Proofs.YtjmahkpmnajmfaaDoorW.PrintWords Go.Proofs.YtjmahkpmnajmfaaDoorW.PrintLast
set_option linter.unusedVariables false
theorem sums_ev (a0 : ByteArray) (a1 : ByteArray) (a2 : Int) (h0 : a0.size ≤ 140737488351232) (h1 : a1.size ≤ 140737488351232) (h2 : (Lit.int .i64 a2).wf = true) : Ev (fun k => X.bulletinlaw04_MacSums.f k a0 a1 a2) true := Ev.now _
end Go.Proofs.YtjmahkpmnajmfaaDoor.Row
