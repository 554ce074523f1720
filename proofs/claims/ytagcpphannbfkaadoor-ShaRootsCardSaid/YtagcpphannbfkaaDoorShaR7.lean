/- ShaRoots, walked. -/
import Derived.Test.YtagcpphannbfkaaDoorShaR6
namespace Go.Proofs.YtagcpphannbfkaaDoor.Sha
open Go.RowKit Go.Proofs.YtagcpphannbfkaaDoor.Mem Go.Proofs.YtagcpphannbfkaaDoor.X Go.Proofs.YtagcpphannbfkaaDoorW.PrintWords Go.Proofs.YtagcpphannbfkaaDoorW.PrintLast Go.Proofs.YtagcpphannbfkaaDoorW.PrintMore Go.Proofs.YtagcpphannbfkaaDoor.Aid
set_option linter.unusedVariables false
set_option linter.unusedSimpArgs false
set_option maxHeartbeats 1000000 in
set_option maxRecDepth 100000 in
theorem roots_calls (w : World) (hT : Tabs w) :
    Calls Tryd.prog 4 #[] w fun e w' => e = .returned (.bool true) ∧ Below w.heap.size w w' := by
  have HT := Lib.hid hT
  clear hT
  go_enter Tryd.func4, Tryd.ntmps4
  go_wp2_with fail
  refine (byroots_calls w).mono ?_
  rintro e w1 ⟨rfl, b1⟩
  go_wp2_with fail
  refine (rsum_calls w1 _ (by decide)).mono ?_
  rintro e w2 ⟨rfl, b2⟩
  have b2' := b1.trans (b2.mono b1.size)
  go_wp2_with fail
  refine (sum_calls w2 (HT.out.below b2') _ (by decide)).mono ?_
  rintro e w3 ⟨rfl, b3⟩
  have b3' := b2'.trans (b3.mono b2'.size)
  go_wp2_with fail
  refine (rsum_calls w3 _ (by decide)).mono ?_
  rintro e w4 ⟨rfl, b4⟩
  have b4' := b3'.trans (b4.mono b3'.size)
  go_wp2_with fail
  refine (sum_calls w4 (HT.out.below b4') _ (by decide)).mono ?_
  rintro e w5 ⟨rfl, b5⟩
  have b5' := b4'.trans (b5.mono b4'.size)
  go_wp2_with fail
  refine (works_calls w5 (HT.out.below b5')).mono ?_
  rintro e w6 ⟨rfl, b6⟩
  have b6' := b5'.trans (b6.mono b5'.size)
  go_wp2
  go_ret
  exact ⟨rfl, b6'⟩
end Go.Proofs.YtagcpphannbfkaaDoor.Sha
