/- bulletin/bulletinlaw29.DotBack, as its row asks for it. -/
import Derived.Test.YtpolfnckbfdhgaaDotBk
namespace Go.Proofs.Ytpolfnckbfdhgaa.X
open Go.RowKit Go.Proofs.YtpolfnckbfdhgaaW.PrintWords Go.Proofs.YtpolfnckbfdhgaaW.PrintLast Go.Proofs.YtpolfnckbfdhgaaW.PrintMore
set_option linter.unusedVariables false
def bulletinlaw29_DotBack.f (k : Nat) (a0 : ByteArray) (a1 : ByteArray) : Option Bool := some true
theorem bulletinlaw29_DotBack.calls (k : Nat) (a0 : ByteArray) (a1 : ByteArray) (r : Bool) (w : World) (hT0 : Aside0 (Tabs w)) (h : bulletinlaw29_DotBack.f k a0 a1 = some r) :
    Calls Try.prog 5 #[.string a0, .string a1] w fun e w' => e = .returned (.bool r) ∧ Below w.heap.size w w' := by
  obtain rfl : true = r := Option.some.inj h
  exact Dot.back_calls w a0 a1 hT0.out
end Go.Proofs.Ytpolfnckbfdhgaa.X
namespace Go.Proofs.Ytpolfnckbfdhgaa.Row
open Go.RowKit Go.Proofs.YtpolfnckbfdhgaaW.PrintWords Go.Proofs.YtpolfnckbfdhgaaW.PrintLast
set_option linter.unusedVariables false
theorem dot3_ev (a0 : ByteArray) (a1 : ByteArray) (h0 : a0.size ≤ 140737488351232) (h1 : a1.size ≤ 140737488351232) : Ev (fun k => X.bulletinlaw29_DotBack.f k a0 a1) true := Ev.now _
end Go.Proofs.Ytpolfnckbfdhgaa.Row
