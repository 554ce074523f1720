/- bulletin/bulletinlaw29.DotPlays, as its row asks for it. -/
import Derived.Test.YtpolfnckbfdhgaaDotPl
namespace Go.Proofs.Ytpolfnckbfdhgaa.X
open Go.RowKit Go.Proofs.YtpolfnckbfdhgaaW.PrintWords Go.Proofs.YtpolfnckbfdhgaaW.PrintLast Go.Proofs.YtpolfnckbfdhgaaW.PrintMore
set_option linter.unusedVariables false
def bulletinlaw29_DotPlays.f (k : Nat) (l0 : List S31) (a1 : Int) : Option Bool := some true
theorem bulletinlaw29_DotPlays.calls (k : Nat) (A0 : Option Addr) (c0 : Nat) (l0 : List S31) (a1 : Int) (r : Bool) (w : World) (hT0 : Aside0 (Tabs w)) (hr0 : Kd.C k31 w A0 l0.length l0) (hc0 : l0.length ≤ c0) (h : bulletinlaw29_DotPlays.f k l0 a1 = some r) :
    Calls Try.prog 4 #[.slice A0 l0.length c0, .int .i64 a1] w fun e w' => e = .returned (.bool r) ∧ Below w.heap.size w w' := by
  obtain rfl : true = r := Option.some.inj h
  exact Dot.plays_calls w A0 c0 l0 a1 hr0 hc0 hT0.out
end Go.Proofs.Ytpolfnckbfdhgaa.X
namespace Go.Proofs.Ytpolfnckbfdhgaa.Row
open Go.RowKit Go.Proofs.YtpolfnckbfdhgaaW.PrintWords Go.Proofs.YtpolfnckbfdhgaaW.PrintLast
set_option linter.unusedVariables false
theorem dot2_ev (l0 : List X.S31) (a1 : Int) (h0 : l0.length ≤ 9223372036854775807) (g0 : ∀ y ∈ l0, (Lit.int .i64 y.f0).wf = true) (h1 : (Lit.int .i64 a1).wf = true) : Ev (fun k => X.bulletinlaw29_DotPlays.f k l0 a1) true := Ev.now _
end Go.Proofs.Ytpolfnckbfdhgaa.Row
