/- bulletin/bulletinlaw04.MacFits, as its row asks for it. -/
import Derived.Test.YtjmahkpmnajmfaaDoorMacS
import Derived.Test.YtjmahkpmnajmfaaDoorShaTab
namespace Go.Proofs.YtjmahkpmnajmfaaDoor.X
open Go.RowKit Go.Proofs.YtjmahkpmnajmfaaDoorW.PrintWords Go.Proofs.YtjmahkpmnajmfaaDoorW.PrintLast Go.Proofs.YtjmahkpmnajmfaaDoorW.PrintMore
set_option linter.unusedVariables false
def bulletinlaw04_MacFits.f (k : Nat) (a0 : ByteArray) (a1 : ByteArray) (a2 : ByteArray) : Option Bool := some true
theorem bulletinlaw04_MacFits.calls (k : Nat) (a0 : ByteArray) (a1 : ByteArray) (a2 : ByteArray) (r : Bool) (w : World) (hT0 : Aside0 (Tabs w)) (h : bulletinlaw04_MacFits.f k a0 a1 a2 = some r) :
    Calls Tryd.prog 4 #[.string a0, .string a1, .string a2] w fun e w' => e = .returned (.bool r) ∧ Below w.heap.size w w' := by
  obtain rfl : true = r := Option.some.inj h
  exact Mac.mfits_calls w hT0.out a0 a1 a2
end Go.Proofs.YtjmahkpmnajmfaaDoor.X
namespace Go.Proofs.YtjmahkpmnajmfaaDoor.Row
open Go.RowKit Go.Proofs.YtjmahkpmnajmfaaDoorW.PrintWords Go.Proofs.YtjmahkpmnajmfaaDoorW.PrintLast
set_option linter.unusedVariables false
theorem fits_ev (a0 : ByteArray) (a1 : ByteArray) (a2 : ByteArray) (h0 : a0.size ≤ 140737488351232) (h1 : a1.size ≤ 140737488351232) (h2 : a2.size ≤ 140737488351232) : Ev (fun k => X.bulletinlaw04_MacFits.f k a0 a1 a2) true := Ev.now _
end Go.Proofs.YtjmahkpmnajmfaaDoor.Row
