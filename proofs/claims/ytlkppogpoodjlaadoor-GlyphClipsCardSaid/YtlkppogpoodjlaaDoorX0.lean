-- Written by a program (print.py's text, with contracts of this session's own put in). Not trusted: Lean checks it.
import Derived.Test.YtlkppogpoodjlaaDoorProg
import Derived.Below
import Derived.Deep.Draws
import Derived.Deep.AppendLies
import Derived.Maps.AppendAt
import Derived.OwnWalk
import Derived.Laws.BytesArg
import Derived.Laws.MakeOwn
import Derived.Laws.OwnMore
import Derived.Deep.OwnRows
import Derived.Tactics
import Derived.Lib.ConvBytes
import Derived.Laws.Slices
import Derived.WalkKit
import Derived.KernelRfl
import Derived.RowKit3
import Derived.Deep.LoopGhost
import Derived.Deep.QuietTactic
import Derived.BigQuiet
import Derived.WideLaws
import Derived.Deep.DeepCutAuto
import Derived.Deep.CutBlock
import Derived.Deep.RegionHeld3
import Derived.Laws.Rows
import Derived.Lib.AppendStr
import Derived.ArgAppend
import Derived.Laws.IdiomCopy
import Derived.OrdersHeld
import Derived.Laws.BitsLemmas
import Derived.RowKit
import Derived.Test.YtlkppogpoodjlaaDoorShelf
import Derived.Lib.OthersKept
import Derived.Shelf.Strings.BuilderRune
import Derived.Test.YtlkppogpoodjlaaDoorWWords
import Derived.Test.YtlkppogpoodjlaaDoorWLast
import Derived.Test.YtlkppogpoodjlaaDoorWTab
import Derived.Test.YtlkppogpoodjlaaDoorWFour
import Derived.Test.YtlkppogpoodjlaaDoorWQPut
import Derived.Test.YtlkppogpoodjlaaDoorWApart
import Derived.Test.YtlkppogpoodjlaaDoorWArr
import Derived.Test.YtlkppogpoodjlaaDoorWZeros
import Derived.Test.YtlkppogpoodjlaaDoorWFoot
import Derived.Test.YtlkppogpoodjlaaDoorWKept
import Derived.Test.YtlkppogpoodjlaaDoorWShare
import Derived.Test.YtlkppogpoodjlaaDoorWN
import Derived.Test.YtlkppogpoodjlaaDoorWFootNe
import Derived.Test.YtlkppogpoodjlaaDoorWAt
import Derived.Test.YtlkppogpoodjlaaDoorWEqStruct
import Derived.Test.YtlkppogpoodjlaaDoorWRepsOne
import Derived.Test.YtlkppogpoodjlaaDoorWInv
import Derived.Test.YtlkppogpoodjlaaDoorWInvWords
import Derived.Test.YtlkppogpoodjlaaDoorWGuard
import Derived.Test.YtlkppogpoodjlaaDoorWNEv
import Derived.Test.YtlkppogpoodjlaaDoorWMore
namespace Go.Proofs.YtlkppogpoodjlaaDoor.X
open Go.RowKit Go.Proofs.YtlkppogpoodjlaaDoorW.PrintWords Go.Proofs.YtlkppogpoodjlaaDoorW.PrintLast Go.Proofs.YtlkppogpoodjlaaDoorW.PrintMore
attribute [local go_sem] max2_int min2_int max_two min_two max_three min_three max_four min_four   -- for this text's walks alone
set_option linter.unusedVariables false
set_option linter.unusedSimpArgs false



def errW : Option Int → Value
  | none => .nilIface
  | some c => .iface 0 (.int .i64 c)
theorem Xsize_mk (d : Array UInt8) : (⟨d⟩ : ByteArray).size = d.size := rfl
theorem Xsz_ext (s : ByteArray) (a b : Int) (h : b ≤ (s.size : Int)) : (s.extract a.toNat b.toNat).size = b.toNat - a.toNat := by rw [ByteArray.size_extract]; omega
theorem Xsz_ext0 (s : ByteArray) (b : Int) (h : b ≤ (s.size : Int)) : (s.extract 0 b.toNat).size = b.toNat := by rw [ByteArray.size_extract]; omega
/-- what the tables of unicode/utf8 hold -/
def Tabs (w : World) : Prop := Lib.Utf8Tabs 0 1 w
theorem Tabs.below {w w' : World} (h : Tabs w) (hb : Below w.heap.size w w') : Tabs w' := Utf8Tabs_below h hb
theorem Tabs.a {w w' : World} (h : Aside0 (Tabs w)) (hb : Below w.heap.size w w') : Aside0 (Tabs w') := ⟨h.out.below hb⟩
theorem errW_none : errW none = .nilIface := rfl
theorem errW_some (c : Int) : errW (some c) = .iface 0 (.int .i64 c) := rfl

theorem info3 : (Tryd.prog.info? 3).map (fun i => (i.zero, i.size, i.bytes)) = some (some (.int .i64 0), 1, 8) := by kernel_rfl
theorem info5 : (Tryd.prog.info? 5).map (fun i => (i.zero, i.size, i.bytes)) = some (some (.int .u8 0), 1, 1) := by kernel_rfl
theorem info9 : (Tryd.prog.info? 9).map (fun i => (i.zero, i.size, i.bytes)) = some (some (.string ⟨#[]⟩), 1, 16) := by kernel_rfl
-- the values' own types

end Go.Proofs.YtlkppogpoodjlaaDoor.X
