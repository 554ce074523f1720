/- ShaSums, walked. -/
import Derived.Test.YtagcpphannbfkaaDoorShaR4
namespace Go.Proofs.YtagcpphannbfkaaDoor.Sha
open Go.RowKit Go.Proofs.YtagcpphannbfkaaDoor.Mem Go.Proofs.YtagcpphannbfkaaDoor.X Go.Proofs.YtagcpphannbfkaaDoorW.PrintWords Go.Proofs.YtagcpphannbfkaaDoorW.PrintLast Go.Proofs.YtagcpphannbfkaaDoorW.PrintMore Go.Proofs.YtagcpphannbfkaaDoor.Aid
set_option linter.unusedVariables false
set_option linter.unusedSimpArgs false
set_option maxHeartbeats 1000000 in
set_option maxRecDepth 100000 in
theorem sums_calls (w : World) (hT : Tabs w) (s : ByteArray) :
    Calls Tryd.prog 3 #[.string s] w fun e w' => e = .returned (.bool true) ∧ Below w.heap.size w w' := by
  by_cases h : 300 < s.size
  · have hi : (300 : Int) < s.size := by omega
    go_enter Tryd.func3, Tryd.ntmps3
    go_wp2_with fail
    refine (works_calls w hT).mono ?_
    rintro e w1 ⟨rfl, b1⟩
    go_wp2
    go_ret
    exact ⟨rfl, b1⟩
  · have hi : ¬ (300 : Int) < s.size := by omega
    have hc1 := sum_calls w hT s (by omega)
    have HT := Lib.hid hT
    go_enter Tryd.func3, Tryd.ntmps3
    go_wp2_with fail
    refine hc1.mono ?_
    rintro e w1 ⟨rfl, b1⟩
    have hc2 := rsum_calls w1 s (by omega)
    clear hc1
    go_wp2_with fail
    refine hc2.mono ?_
    rintro e w2 ⟨rfl, b2⟩
    have b2' := b1.trans (b2.mono b1.size)
    clear hc2
    go_wp2_with fail
    refine (works_calls w2 (HT.out.below b2')).mono ?_
    rintro e w3 ⟨rfl, b3⟩
    have b3' := b2'.trans (b3.mono b2'.size)
    go_wp2
    go_ret
    exact ⟨rfl, b3'⟩
end Go.Proofs.YtagcpphannbfkaaDoor.Sha
