-- Written by a program (print.py's text, with contracts of this session's own put in). Not trusted: Lean checks it.
import Derived.Test.YtpkmbbmipoecpaaProg
import Derived.Below
import Derived.Deep.Draws
import Derived.Deep.AppendLies
import Derived.Maps.AppendAt
import Derived.OwnWalk
import Derived.Laws.BytesArg
import Derived.Laws.MakeOwn
import Derived.Laws.OwnMore
import Derived.Deep.OwnRows
import Derived.Tactics
import Derived.Lib.ConvBytes
import Derived.Laws.Slices
import Derived.WalkKit
import Derived.KernelRfl
import Derived.RowKit3
import Derived.Deep.LoopGhost
import Derived.Deep.QuietTactic
import Derived.BigQuiet
import Derived.WideLaws
import Derived.Deep.DeepCutAuto
import Derived.Deep.CutBlock
import Derived.Deep.RegionHeld3
import Derived.Laws.Rows
import Derived.Lib.AppendStr
import Derived.ArgAppend
import Derived.Laws.IdiomCopy
import Derived.OrdersHeld
import Derived.Laws.BitsLemmas
import Derived.RowKit
import Derived.Test.YtpkmbbmipoecpaaShelf
import Derived.Test.YtpkmbbmipoecpaaWWords
import Derived.Test.YtpkmbbmipoecpaaWLast
import Derived.Test.YtpkmbbmipoecpaaWTab
import Derived.Test.YtpkmbbmipoecpaaWFour
import Derived.Test.YtpkmbbmipoecpaaWQPut
import Derived.Test.YtpkmbbmipoecpaaWApart
import Derived.Test.YtpkmbbmipoecpaaWArr
import Derived.Test.YtpkmbbmipoecpaaWZeros
import Derived.Test.YtpkmbbmipoecpaaWFoot
import Derived.Test.YtpkmbbmipoecpaaWKept
import Derived.Test.YtpkmbbmipoecpaaWShare
import Derived.Test.YtpkmbbmipoecpaaWN
import Derived.Test.YtpkmbbmipoecpaaWFootNe
import Derived.Test.YtpkmbbmipoecpaaWAt
import Derived.Test.YtpkmbbmipoecpaaWEqStruct
import Derived.Test.YtpkmbbmipoecpaaWRepsOne
import Derived.Test.YtpkmbbmipoecpaaWInv
import Derived.Test.YtpkmbbmipoecpaaWInvWords
import Derived.Test.YtpkmbbmipoecpaaWGuard
import Derived.Test.YtpkmbbmipoecpaaWNEv
import Derived.Test.YtpkmbbmipoecpaaWMore
namespace Go.Proofs.Ytpkmbbmipoecpaa.X
open Go.RowKit Go.Proofs.YtpkmbbmipoecpaaW.PrintWords Go.Proofs.YtpkmbbmipoecpaaW.PrintLast Go.Proofs.YtpkmbbmipoecpaaW.PrintMore
attribute [local go_sem] max2_int min2_int max_two min_two max_three min_three max_four min_four   -- for this text's walks alone
set_option linter.unusedVariables false
set_option linter.unusedSimpArgs false



def errW : Option Int → Value
  | none => .nilIface
  | some c => .iface 0 (.int .i64 c)
theorem Xsize_mk (d : Array UInt8) : (⟨d⟩ : ByteArray).size = d.size := rfl
theorem errW_none : errW none = .nilIface := rfl
theorem errW_some (c : Int) : errW (some c) = .iface 0 (.int .i64 c) := rfl

theorem info5 : (Try.prog.info? 5).map (fun i => (i.zero, i.size, i.bytes)) = some (some (.int .u8 0), 1, 1) := by kernel_rfl
theorem info9 : (Try.prog.info? 9).map (fun i => (i.zero, i.size, i.bytes)) = some (some (.string ⟨#[]⟩), 1, 16) := by kernel_rfl
-- the values' own types

end Go.Proofs.Ytpkmbbmipoecpaa.X
