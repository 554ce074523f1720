-- Written by a program (print.py's text, with contracts of this session's own put in). Not trusted: Lean checks it.
import Derived.Test.YtjmahkpmnajmfaaDoorProg
import Derived.Below
import Derived.Deep.Draws
import Derived.Deep.AppendLies
import Derived.Maps.AppendAt
import Derived.OwnWalk
import Derived.Laws.BytesArg
import Derived.Laws.MakeOwn
import Derived.Laws.OwnMore
import Derived.Deep.OwnRows
import Derived.Tactics
import Derived.Lib.ConvBytes
import Derived.Laws.Slices
import Derived.WalkKit
import Derived.KernelRfl
import Derived.RowKit3
import Derived.Deep.LoopGhost
import Derived.Deep.QuietTactic
import Derived.BigQuiet
import Derived.WideLaws
import Derived.Deep.DeepCutAuto
import Derived.Deep.CutBlock
import Derived.Deep.RegionHeld3
import Derived.Laws.Rows
import Derived.Lib.AppendStr
import Derived.ArgAppend
import Derived.Laws.IdiomCopy
import Derived.OrdersHeld
import Derived.Laws.BitsLemmas
import Derived.RowKit
import Derived.Test.YtjmahkpmnajmfaaDoorShelf
import Derived.Test.YtjmahkpmnajmfaaDoorWWords
import Derived.Test.YtjmahkpmnajmfaaDoorWLast
import Derived.Test.YtjmahkpmnajmfaaDoorWTab
import Derived.Test.YtjmahkpmnajmfaaDoorWFour
import Derived.Test.YtjmahkpmnajmfaaDoorWQPut
import Derived.Test.YtjmahkpmnajmfaaDoorWApart
import Derived.Test.YtjmahkpmnajmfaaDoorWArr
import Derived.Test.YtjmahkpmnajmfaaDoorWZeros
import Derived.Test.YtjmahkpmnajmfaaDoorWFoot
import Derived.Test.YtjmahkpmnajmfaaDoorWKept
import Derived.Test.YtjmahkpmnajmfaaDoorWShare
import Derived.Test.YtjmahkpmnajmfaaDoorWN
import Derived.Test.YtjmahkpmnajmfaaDoorWFootNe
import Derived.Test.YtjmahkpmnajmfaaDoorWAt
import Derived.Test.YtjmahkpmnajmfaaDoorWEqStruct
import Derived.Test.YtjmahkpmnajmfaaDoorWRepsOne
import Derived.Test.YtjmahkpmnajmfaaDoorWInv
import Derived.Test.YtjmahkpmnajmfaaDoorWInvWords
import Derived.Test.YtjmahkpmnajmfaaDoorWGuard
import Derived.Test.YtjmahkpmnajmfaaDoorWNEv
import Derived.Test.YtjmahkpmnajmfaaDoorWMore
namespace Go.Proofs.YtjmahkpmnajmfaaDoor.X
open Go.RowKit Go.Proofs.YtjmahkpmnajmfaaDoorW.PrintWords Go.Proofs.YtjmahkpmnajmfaaDoorW.PrintLast Go.Proofs.YtjmahkpmnajmfaaDoorW.PrintMore
attribute [local go_sem] max2_int min2_int max_two min_two max_three min_three max_four min_four   -- for this text's walks alone
set_option linter.unusedVariables false
set_option linter.unusedSimpArgs false



def errW : Option Int → Value
  | none => .nilIface
  | some c => .iface 0 (.int .i64 c)
theorem Xsize_mk (d : Array UInt8) : (⟨d⟩ : ByteArray).size = d.size := rfl
theorem Xsz_ext (s : ByteArray) (a b : Int) (h : b ≤ (s.size : Int)) : (s.extract a.toNat b.toNat).size = b.toNat - a.toNat := by rw [ByteArray.size_extract]; omega
theorem Xsz_ext0 (s : ByteArray) (b : Int) (h : b ≤ (s.size : Int)) : (s.extract 0 b.toNat).size = b.toNat := by rw [ByteArray.size_extract]; omega
theorem errW_none : errW none = .nilIface := rfl
theorem errW_some (c : Int) : errW (some c) = .iface 0 (.int .i64 c) := rfl

theorem info5 : (Tryd.prog.info? 5).map (fun i => (i.zero, i.size, i.bytes)) = some (some (.int .u8 0), 1, 1) := by kernel_rfl
-- the values' own types

end Go.Proofs.YtjmahkpmnajmfaaDoor.X
