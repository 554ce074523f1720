/- bulletin/bulletinlaw29.DotStuffs, as its row asks for it. -/
import Derived.Test.YtpolfnckbfdhgaaDotW
namespace Go.Proofs.Ytpolfnckbfdhgaa.X
open Go.RowKit Go.Proofs.YtpolfnckbfdhgaaW.PrintWords Go.Proofs.YtpolfnckbfdhgaaW.PrintLast Go.Proofs.YtpolfnckbfdhgaaW.PrintMore
set_option linter.unusedVariables false
def bulletinlaw29_DotStuffs.f (k : Nat) (a0 : ByteArray) : Option Bool := if a0.size ≤ 140737488351232 then some true else none
theorem bulletinlaw29_DotStuffs.calls (k : Nat) (a0 : ByteArray) (r : Bool) (w : World) (hT0 : Aside0 (Tabs w)) (h : bulletinlaw29_DotStuffs.f k a0 = some r) :
    Calls Try.prog 3 #[.string a0] w fun e w' => e = .returned (.bool r) ∧ Below w.heap.size w w' := by
  unfold bulletinlaw29_DotStuffs.f at h
  by_cases hw : a0.size ≤ 140737488351232
  · rw [if_pos hw] at h
    obtain rfl : true = r := Option.some.inj h
    exact Dot.stuffs_calls w a0 hw hT0.out
  · rw [if_neg hw] at h
    cases h
end Go.Proofs.Ytpolfnckbfdhgaa.X
namespace Go.Proofs.Ytpolfnckbfdhgaa.Row
open Go.RowKit Go.Proofs.YtpolfnckbfdhgaaW.PrintWords Go.Proofs.YtpolfnckbfdhgaaW.PrintLast
set_option linter.unusedVariables false
theorem dot1_ev (a0 : ByteArray) (h0 : a0.size ≤ 140737488351232) : Ev (fun k => X.bulletinlaw29_DotStuffs.f k a0) true := by
  unfold X.bulletinlaw29_DotStuffs.f
  rw [if_pos h0]
  exact Ev.now _
end Go.Proofs.Ytpolfnckbfdhgaa.Row
