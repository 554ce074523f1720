/- bulletin/bulletinlaw26.CrlfCuts, as its row asks for it. -/
import Derived.Test.YtjoeilblfcaipaaCrlfCu
namespace Go.Proofs.Ytjoeilblfcaipaa.X
open Go.RowKit Go.Proofs.YtjoeilblfcaipaaW.PrintWords Go.Proofs.YtjoeilblfcaipaaW.PrintLast Go.Proofs.YtjoeilblfcaipaaW.PrintMore
set_option linter.unusedVariables false
def bulletinlaw26_CrlfCuts.f (k : Nat) (l0 : List ByteArray) (a1 : Int) : Option Bool := some true
theorem bulletinlaw26_CrlfCuts.calls (k : Nat) (A0 : Option Addr) (c0 : Nat) (l0 : List ByteArray) (a1 : Int) (r : Bool) (w : World) (hr0 : Kd.C Kd.string w A0 l0.length l0) (hc0 : l0.length ≤ c0) (h : bulletinlaw26_CrlfCuts.f k l0 a1 = some r) :
    Calls Try.prog 5 #[.slice A0 l0.length c0, .int .i64 a1] w fun e w' => e = .returned (.bool r) ∧ Below w.heap.size w w' := by
  obtain rfl : true = r := Option.some.inj h
  exact Crlf.cuts_calls w A0 c0 l0 hr0 hc0 a1
end Go.Proofs.Ytjoeilblfcaipaa.X
namespace Go.Proofs.Ytjoeilblfcaipaa.Row
open Go.RowKit Go.Proofs.YtjoeilblfcaipaaW.PrintWords Go.Proofs.YtjoeilblfcaipaaW.PrintLast
set_option linter.unusedVariables false
theorem cuts_ev (l0 : List ByteArray) (a1 : Int) (h0 : l0.length ≤ 140737488351232) (h1 : (Lit.int .i64 a1).wf = true) : Ev (fun k => X.bulletinlaw26_CrlfCuts.f k l0 a1) true := Ev.now _
end Go.Proofs.Ytjoeilblfcaipaa.Row
