/- bulletin/bulletinlaw03.ShaParts, as its row asks for it. -/
import Derived.Test.YtagcpphannbfkaaDoorShaF
import Derived.Lib.LaidTab
namespace Go.Proofs.YtagcpphannbfkaaDoor.Sha
open Go.RowKit
def begins : List Int := [iv vbegin.a, iv vbegin.b, iv vbegin.c, iv vbegin.d, iv vbegin.e, iv vbegin.f, iv vbegin.g, iv vbegin.h]
theorem tabs_of {w : World} (hk : Lib.TabIs Tryd.prog w "bulletin/sha.constants" .u32 (kc.map iv)) (hb : Lib.TabIs Tryd.prog w "bulletin/sha.begin" .u32 begins) : Tabs w := by
  constructor
  · intro t ht
    rw [World.var?_cell (show Tryd.prog.globalNamed "bulletin/sha.constants" = some 1 by kernel_rfl) hk t]
    have hl : t < kc.length := ht
    simp [List.getD_eq_getElem?_getD, List.getElem?_eq_getElem hl]
  · intro i hi
    rw [World.var?_cell (show Tryd.prog.globalNamed "bulletin/sha.begin" = some 0 by kernel_rfl) hb i]
    rfl
end Go.Proofs.YtagcpphannbfkaaDoor.Sha
namespace Go.Proofs.YtagcpphannbfkaaDoor.X
abbrev Tabs := Sha.Tabs
open Go.RowKit Go.Proofs.YtagcpphannbfkaaDoorW.PrintWords Go.Proofs.YtagcpphannbfkaaDoorW.PrintLast Go.Proofs.YtagcpphannbfkaaDoorW.PrintMore
set_option linter.unusedVariables false
def bulletinlaw03_ShaParts.f (k : Nat) (l0 : List ByteArray) : Option Bool := some true
theorem bulletinlaw03_ShaParts.calls (k : Nat) (A0 : Option Addr) (c0 : Nat) (l0 : List ByteArray) (r : Bool) (w : World) (hT0 : Aside0 (Tabs w)) (hr0 : Kd.C Kd.string w A0 l0.length l0) (hc0 : l0.length ≤ c0) (h : bulletinlaw03_ShaParts.f k l0 = some r) :
    Calls Tryd.prog 5 #[.slice A0 l0.length c0] w fun e w' => e = .returned (.bool r) ∧ Below w.heap.size w w' := by
  obtain rfl : true = r := Option.some.inj h
  exact Sha.parts_calls w hT0.out A0 c0 l0 hr0 hc0
end Go.Proofs.YtagcpphannbfkaaDoor.X
namespace Go.Proofs.YtagcpphannbfkaaDoor.Row
open Go.RowKit Go.Proofs.YtagcpphannbfkaaDoorW.PrintWords Go.Proofs.YtagcpphannbfkaaDoorW.PrintLast
set_option linter.unusedVariables false
theorem parts_ev (l0 : List ByteArray) (h0 : l0.length ≤ 140737488351232) : Ev (fun k => X.bulletinlaw03_ShaParts.f k l0) true := Ev.now _
end Go.Proofs.YtagcpphannbfkaaDoor.Row
