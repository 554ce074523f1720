/- bulletin/bulletinlaw10.BatchMany, as its row asks for it. -/
import Derived.Test.YtjcilknfhkpepaaBatN
namespace Go.Proofs.Ytjcilknfhkpepaa.X
open Go.RowKit Go.Proofs.YtjcilknfhkpepaaW.PrintWords Go.Proofs.YtjcilknfhkpepaaW.PrintLast Go.Proofs.YtjcilknfhkpepaaW.PrintMore
set_option linter.unusedVariables false
def bulletinlaw10_BatchMany.f (k : Nat) (a0 : Int) (a1 : Int) : Option Bool := some true
theorem bulletinlaw10_BatchMany.calls (k : Nat) (a0 : Int) (a1 : Int) (r : Bool) (w : World) (h : bulletinlaw10_BatchMany.f k a0 a1 = some r) :
    Calls Try.prog 4 #[.int .i64 a0, .int .i64 a1] w fun e w' => e = .returned (.bool r) ∧ Below w.heap.size w w' := by
  obtain rfl : true = r := Option.some.inj h
  exact Bat.many_calls w a0 a1
end Go.Proofs.Ytjcilknfhkpepaa.X
namespace Go.Proofs.Ytjcilknfhkpepaa.Row
open Go.RowKit Go.Proofs.YtjcilknfhkpepaaW.PrintWords Go.Proofs.YtjcilknfhkpepaaW.PrintLast
set_option linter.unusedVariables false
theorem many_ev (a0 : Int) (a1 : Int) (h0 : (Lit.int .i64 a0).wf = true) (h1 : (Lit.int .i64 a1).wf = true) : Ev (fun k => X.bulletinlaw10_BatchMany.f k a0 a1) true := Ev.now _
end Go.Proofs.Ytjcilknfhkpepaa.Row
