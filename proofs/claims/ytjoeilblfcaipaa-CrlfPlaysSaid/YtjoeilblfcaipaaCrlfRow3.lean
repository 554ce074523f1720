/- bulletin/bulletinlaw26.CrlfPlays, as its row asks for it. -/
import Derived.Test.YtjoeilblfcaipaaCrlfPl
namespace Go.Proofs.Ytjoeilblfcaipaa.X
open Go.RowKit Go.Proofs.YtjoeilblfcaipaaW.PrintWords Go.Proofs.YtjoeilblfcaipaaW.PrintLast Go.Proofs.YtjoeilblfcaipaaW.PrintMore
set_option linter.unusedVariables false
def bulletinlaw26_CrlfPlays.f (k : Nat) (l0 : List ByteArray) (l1 : List Int) : Option Bool := some true
theorem bulletinlaw26_CrlfPlays.calls (k : Nat) (A0 : Option Addr) (c0 : Nat) (l0 : List ByteArray) (A1 : Option Addr) (c1 : Nat) (l1 : List Int) (r : Bool) (w : World) (hr0 : Kd.C Kd.string w A0 l0.length l0) (hc0 : l0.length ≤ c0) (hr1 : Kd.C (Kd.int .i64) w A1 l1.length l1) (hc1 : l1.length ≤ c1) (h : bulletinlaw26_CrlfPlays.f k l0 l1 = some r) :
    Calls Try.prog 3 #[.slice A0 l0.length c0, .slice A1 l1.length c1] w fun e w' => e = .returned (.bool r) ∧ Below w.heap.size w w' := by
  obtain rfl : true = r := Option.some.inj h
  exact Crlf.plays_calls w A0 c0 l0 hr0 hc0 A1 c1 l1 hr1 hc1
end Go.Proofs.Ytjoeilblfcaipaa.X
namespace Go.Proofs.Ytjoeilblfcaipaa.Row
open Go.RowKit Go.Proofs.YtjoeilblfcaipaaW.PrintWords Go.Proofs.YtjoeilblfcaipaaW.PrintLast
set_option linter.unusedVariables false
theorem plays_ev (l0 : List ByteArray) (l1 : List Int) (h0 : l0.length ≤ 140737488351232) (h1 : l1.length ≤ 140737488351232) : Ev (fun k => X.bulletinlaw26_CrlfPlays.f k l0 l1) true := Ev.now _
end Go.Proofs.Ytjoeilblfcaipaa.Row
