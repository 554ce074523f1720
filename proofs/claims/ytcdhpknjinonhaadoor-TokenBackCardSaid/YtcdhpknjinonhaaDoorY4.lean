-- Written by a program (print.py's text, with contracts of this session's own put in). Not trusted: Lean checks it.
import Derived.Test.YtcdhpknjinonhaaDoorY0
namespace Go.Proofs.YtcdhpknjinonhaaDoor.Y
open Go.Proofs.YtcdhpknjinonhaaDoor.X Go.Proofs.YtcdhpknjinonhaaDoor.Aid
open Go.RowKit Go.Proofs.YtcdhpknjinonhaaDoorW.PrintWords Go.Proofs.YtcdhpknjinonhaaDoorW.PrintLast Go.Proofs.YtcdhpknjinonhaaDoorW.PrintMore
attribute [local go_sem] max2_int min2_int max_two min_two max_three min_three max_four min_four   -- for this text's walks alone
set_option linter.unusedVariables false
set_option linter.unusedSimpArgs false

/-! ### bulletinlaw25_upper: function 14, a contract written by hand -/
def bulletinlaw25_upper.f (a0 : ByteArray) : Option ByteArray := if a0.size ≤ 100000 then some (S (Tok.upL (L a0))) else none
theorem bulletinlaw25_upper.calls (a0 : ByteArray) (r : ByteArray) (w : World) (h : bulletinlaw25_upper.f a0 = some r) :
    Calls Tryd.prog 14 #[.string a0] w fun e w' => e = .returned (.string r) ∧ Below w.heap.size w w' := by
  unfold bulletinlaw25_upper.f at h
  by_cases c : a0.size ≤ 100000
  · rw [if_pos c] at h
    obtain rfl := Option.some.inj h
    exact Tok.upper_calls w a0 c
  · rw [if_neg c] at h
    cases h

end Go.Proofs.YtcdhpknjinonhaaDoor.Y
