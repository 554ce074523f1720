-- Written by a program (print.py's text, with contracts of this session's own put in). Not trusted: Lean checks it.
import Derived.Test.YtagcpphannbfkaaDoorProg
import Derived.Below
import Derived.Deep.Draws
import Derived.Deep.AppendLies
import Derived.Maps.AppendAt
import Derived.OwnWalk
import Derived.Laws.BytesArg
import Derived.Laws.MakeOwn
import Derived.Laws.OwnMore
import Derived.Deep.OwnRows
import Derived.Tactics
import Derived.Lib.ConvBytes
import Derived.Laws.Slices
import Derived.WalkKit
import Derived.KernelRfl
import Derived.RowKit3
import Derived.Deep.LoopGhost
import Derived.Deep.QuietTactic
import Derived.BigQuiet
import Derived.WideLaws
import Derived.Deep.DeepCutAuto
import Derived.Deep.CutBlock
import Derived.Deep.RegionHeld3
import Derived.Laws.Rows
import Derived.Lib.AppendStr
import Derived.ArgAppend
import Derived.Laws.IdiomCopy
import Derived.OrdersHeld
import Derived.Laws.BitsLemmas
import Derived.RowKit
import Derived.Test.YtagcpphannbfkaaDoorShelf
import Derived.Test.YtagcpphannbfkaaDoorWWords
import Derived.Test.YtagcpphannbfkaaDoorWLast
import Derived.Test.YtagcpphannbfkaaDoorWTab
import Derived.Test.YtagcpphannbfkaaDoorWFour
import Derived.Test.YtagcpphannbfkaaDoorWQPut
import Derived.Test.YtagcpphannbfkaaDoorWApart
import Derived.Test.YtagcpphannbfkaaDoorWArr
import Derived.Test.YtagcpphannbfkaaDoorWZeros
import Derived.Test.YtagcpphannbfkaaDoorWFoot
import Derived.Test.YtagcpphannbfkaaDoorWKept
import Derived.Test.YtagcpphannbfkaaDoorWShare
import Derived.Test.YtagcpphannbfkaaDoorWN
import Derived.Test.YtagcpphannbfkaaDoorWFootNe
import Derived.Test.YtagcpphannbfkaaDoorWAt
import Derived.Test.YtagcpphannbfkaaDoorWEqStruct
import Derived.Test.YtagcpphannbfkaaDoorWRepsOne
import Derived.Test.YtagcpphannbfkaaDoorWInv
import Derived.Test.YtagcpphannbfkaaDoorWInvWords
import Derived.Test.YtagcpphannbfkaaDoorWGuard
import Derived.Test.YtagcpphannbfkaaDoorWNEv
import Derived.Test.YtagcpphannbfkaaDoorWMore
namespace Go.Proofs.YtagcpphannbfkaaDoor.X
open Go.RowKit Go.Proofs.YtagcpphannbfkaaDoorW.PrintWords Go.Proofs.YtagcpphannbfkaaDoorW.PrintLast Go.Proofs.YtagcpphannbfkaaDoorW.PrintMore
attribute [local go_sem] max2_int min2_int max_two min_two max_three min_three max_four min_four   -- for this text's walks alone
set_option linter.unusedVariables false
set_option linter.unusedSimpArgs false



def errW : Option Int → Value
  | none => .nilIface
  | some c => .iface 0 (.int .i64 c)
theorem Xsize_mk (d : Array UInt8) : (⟨d⟩ : ByteArray).size = d.size := rfl
theorem Xsz_ext (s : ByteArray) (a b : Int) (h : b ≤ (s.size : Int)) : (s.extract a.toNat b.toNat).size = b.toNat - a.toNat := by rw [ByteArray.size_extract]; omega
theorem Xsz_ext0 (s : ByteArray) (b : Int) (h : b ≤ (s.size : Int)) : (s.extract 0 b.toNat).size = b.toNat := by rw [ByteArray.size_extract]; omega
theorem errW_none : errW none = .nilIface := rfl
theorem errW_some (c : Int) : errW (some c) = .iface 0 (.int .i64 c) := rfl

theorem info5 : (Tryd.prog.info? 5).map (fun i => (i.zero, i.size, i.bytes)) = some (some (.int .u8 0), 1, 1) := by kernel_rfl
-- the values' own types

end Go.Proofs.YtagcpphannbfkaaDoor.X
