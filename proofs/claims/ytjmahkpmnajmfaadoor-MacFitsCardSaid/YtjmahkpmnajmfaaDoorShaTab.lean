/- sha: its tables, as a row's list has them. -/
import Derived.Test.YtjmahkpmnajmfaaDoorShaF
import Derived.Lib.LaidTab
namespace Go.Proofs.YtjmahkpmnajmfaaDoor.Sha
open Go.RowKit
def begins : List Int := [iv vbegin.a, iv vbegin.b, iv vbegin.c, iv vbegin.d, iv vbegin.e, iv vbegin.f, iv vbegin.g, iv vbegin.h]
theorem tabs_of {w : World} (hk : Lib.TabIs Tryd.prog w "bulletin/sha.constants" .u32 (kc.map iv)) (hb : Lib.TabIs Tryd.prog w "bulletin/sha.begin" .u32 begins) : Tabs w := by
  constructor
  · intro t ht
    rw [World.var?_cell (show Tryd.prog.globalNamed "bulletin/sha.constants" = some 1 by kernel_rfl) hk t]
    have hl : t < kc.length := ht
    simp [List.getD_eq_getElem?_getD, List.getElem?_eq_getElem hl]
  · intro i hi
    rw [World.var?_cell (show Tryd.prog.globalNamed "bulletin/sha.begin" = some 0 by kernel_rfl) hb i]
    rfl
end Go.Proofs.YtjmahkpmnajmfaaDoor.Sha
namespace Go.Proofs.YtjmahkpmnajmfaaDoor.X
abbrev Tabs := Sha.Tabs
end Go.Proofs.YtjmahkpmnajmfaaDoor.X
