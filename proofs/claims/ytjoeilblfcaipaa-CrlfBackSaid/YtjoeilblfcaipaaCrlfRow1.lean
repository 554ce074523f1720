/- crlf: CrlfBack, as its row asks for it. -/
import Derived.Test.YtjoeilblfcaipaaCrlfBk
namespace Go.Proofs.Ytjoeilblfcaipaa.X
open Go.RowKit Go.Proofs.YtjoeilblfcaipaaW.PrintWords Go.Proofs.YtjoeilblfcaipaaW.PrintLast Go.Proofs.YtjoeilblfcaipaaW.PrintMore
set_option linter.unusedVariables false
def bulletinlaw26_CrlfBack.f (k : Nat) (l0 : List ByteArray) : Option Bool := some true
theorem bulletinlaw26_CrlfBack.calls (k : Nat) (A0 : Option Addr) (c0 : Nat) (l0 : List ByteArray) (r : Bool) (w : World) (hr0 : Kd.C Kd.string w A0 l0.length l0) (hc0 : l0.length ≤ c0) (h : bulletinlaw26_CrlfBack.f k l0 = some r) :
    Calls Try.prog 6 #[.slice A0 l0.length c0] w fun e w' => e = .returned (.bool r) ∧ Below w.heap.size w w' := by
  obtain rfl : true = r := Option.some.inj h
  exact Crlf.back_calls w A0 c0 l0 hr0 hc0
end Go.Proofs.Ytjoeilblfcaipaa.X
namespace Go.Proofs.Ytjoeilblfcaipaa.Crlf
open Go.Proofs.YtjoeilblfcaipaaW.PrintWords Go.Proofs.YtjoeilblfcaipaaW.PrintLast
set_option linter.unusedVariables false
theorem back_ev (l0 : List ByteArray) (h : l0.length ≤ 140737488351232) : Ev (fun k => X.bulletinlaw26_CrlfBack.f k l0) true := Ev.now _
end Go.Proofs.Ytjoeilblfcaipaa.Crlf
