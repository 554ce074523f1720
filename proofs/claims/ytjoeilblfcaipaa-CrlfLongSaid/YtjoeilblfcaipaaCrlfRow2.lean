/- bulletin/bulletinlaw26.CrlfLong, as its row asks for it. -/
import Derived.Test.YtjoeilblfcaipaaCrlfLg
namespace Go.Proofs.Ytjoeilblfcaipaa.X
open Go.RowKit Go.Proofs.YtjoeilblfcaipaaW.PrintWords Go.Proofs.YtjoeilblfcaipaaW.PrintLast Go.Proofs.YtjoeilblfcaipaaW.PrintMore
set_option linter.unusedVariables false
def bulletinlaw26_CrlfLong.f (k : Nat) (a0 : Int) (a1 : Int) (a2 : Int) : Option Bool := if (Lit.int .i64 a2).wf = true then some true else none
theorem bulletinlaw26_CrlfLong.calls (k : Nat) (a0 : Int) (a1 : Int) (a2 : Int) (r : Bool) (w : World) (h : bulletinlaw26_CrlfLong.f k a0 a1 a2 = some r) :
    Calls Try.prog 4 #[.int .i64 a0, .int .i64 a1, .int .i64 a2] w fun e w' => e = .returned (.bool r) ∧ Below w.heap.size w w' := by
  unfold bulletinlaw26_CrlfLong.f at h
  by_cases hw : (Lit.int .i64 a2).wf = true
  · rw [if_pos hw] at h
    obtain rfl : true = r := Option.some.inj h
    exact Crlf.long_calls w a0 a1 a2 hw
  · rw [if_neg hw] at h
    cases h
end Go.Proofs.Ytjoeilblfcaipaa.X
namespace Go.Proofs.Ytjoeilblfcaipaa.Row
open Go.RowKit Go.Proofs.YtjoeilblfcaipaaW.PrintWords Go.Proofs.YtjoeilblfcaipaaW.PrintLast
set_option linter.unusedVariables false
theorem long_ev (a0 : Int) (a1 : Int) (a2 : Int) (h0 : (Lit.int .i64 a0).wf = true) (h1 : (Lit.int .i64 a1).wf = true) (h2 : (Lit.int .i64 a2).wf = true) : Ev (fun k => X.bulletinlaw26_CrlfLong.f k a0 a1 a2) true := by
  unfold X.bulletinlaw26_CrlfLong.f
  rw [if_pos h2]
  exact Ev.now _
end Go.Proofs.Ytjoeilblfcaipaa.Row
