-- Written by a program (print.py's text, with contracts of this session's own put in). Not trusted: Lean checks it.
import Derived.Test.YtaflpmpffppfaaaDoorProg
import Derived.Below
import Derived.Deep.Draws
import Derived.Deep.AppendLies
import Derived.Maps.AppendAt
import Derived.OwnWalk
import Derived.Laws.BytesArg
import Derived.Laws.MakeOwn
import Derived.Laws.OwnMore
import Derived.Deep.OwnRows
import Derived.Tactics
import Derived.Lib.ConvBytes
import Derived.Laws.Slices
import Derived.WalkKit
import Derived.KernelRfl
import Derived.RowKit3
import Derived.Deep.LoopGhost
import Derived.Deep.QuietTactic
import Derived.BigQuiet
import Derived.WideLaws
import Derived.Deep.DeepCutAuto
import Derived.Deep.CutBlock
import Derived.Deep.RegionHeld3
import Derived.Laws.Rows
import Derived.Lib.AppendStr
import Derived.ArgAppend
import Derived.Laws.IdiomCopy
import Derived.OrdersHeld
import Derived.Laws.BitsLemmas
import Derived.RowKit
import Derived.Test.YtaflpmpffppfaaaDoorShelf
import Derived.Test.YtaflpmpffppfaaaDoorSeqI2
import Derived.Test.YtaflpmpffppfaaaDoorBldG
import Derived.TacticsInMore
import Derived.OwnWalkIn
import Derived.Shelf.Abstract
import Derived.Test.YtaflpmpffppfaaaDoorQpP
import Derived.Shelf.Strings.SlTrimAscii
import Derived.Test.YtaflpmpffppfaaaDoorWWords
import Derived.Test.YtaflpmpffppfaaaDoorWLast
import Derived.Test.YtaflpmpffppfaaaDoorWTab
import Derived.Test.YtaflpmpffppfaaaDoorWFour
import Derived.Test.YtaflpmpffppfaaaDoorWQPut
import Derived.Test.YtaflpmpffppfaaaDoorWApart
import Derived.Test.YtaflpmpffppfaaaDoorWArr
import Derived.Test.YtaflpmpffppfaaaDoorWZeros
import Derived.Test.YtaflpmpffppfaaaDoorWFoot
import Derived.Test.YtaflpmpffppfaaaDoorWKept
import Derived.Test.YtaflpmpffppfaaaDoorWShare
import Derived.Test.YtaflpmpffppfaaaDoorWN
import Derived.Test.YtaflpmpffppfaaaDoorWFootNe
import Derived.Test.YtaflpmpffppfaaaDoorWAt
import Derived.Test.YtaflpmpffppfaaaDoorWEqStruct
import Derived.Test.YtaflpmpffppfaaaDoorWRepsOne
import Derived.Test.YtaflpmpffppfaaaDoorWInv
import Derived.Test.YtaflpmpffppfaaaDoorWInvWords
import Derived.Test.YtaflpmpffppfaaaDoorWGuard
import Derived.Test.YtaflpmpffppfaaaDoorWNEv
import Derived.Test.YtaflpmpffppfaaaDoorWMore
namespace Go.Proofs.YtaflpmpffppfaaaDoor.X
open Go.RowKit Go.Proofs.YtaflpmpffppfaaaDoorW.PrintWords Go.Proofs.YtaflpmpffppfaaaDoorW.PrintLast Go.Proofs.YtaflpmpffppfaaaDoorW.PrintMore
attribute [local go_sem] max2_int min2_int max_two min_two max_three min_three max_four min_four   -- for this text's walks alone
set_option linter.unusedVariables false
set_option linter.unusedSimpArgs false



def errW : Option Int → Value
  | none => .nilIface
  | some c => .iface 0 (.int .i64 c)
theorem Xsize_mk (d : Array UInt8) : (⟨d⟩ : ByteArray).size = d.size := rfl
theorem Xsz_ext (s : ByteArray) (a b : Int) (h : b ≤ (s.size : Int)) : (s.extract a.toNat b.toNat).size = b.toNat - a.toNat := by rw [ByteArray.size_extract]; omega
theorem Xsz_ext0 (s : ByteArray) (b : Int) (h : b ≤ (s.size : Int)) : (s.extract 0 b.toNat).size = b.toNat := by rw [ByteArray.size_extract]; omega
/-- what the laid variables hold -/
structure Tabs (w : World) : Prop where
  max : ∃ m, w.cell? ⟨0, 0, none⟩ = some (.int .i64 m)
theorem Tabs.below {w w' : World} (h : Tabs w) (hb : Below w.heap.size w w') : Tabs w' := by
  obtain ⟨m, hm⟩ := h.max
  exact ⟨⟨m, (hb.cell (World.block_lt_of_cell? w _ hm)).trans hm⟩⟩
theorem Tabs.a {w w' : World} (h : Aside0 (Tabs w)) (hb : Below w.heap.size w w') : Aside0 (Tabs w') := ⟨h.out.below hb⟩
theorem errW_none : errW none = .nilIface := rfl
theorem errW_some (c : Int) : errW (some c) = .iface 0 (.int .i64 c) := rfl

theorem info5 : (Tryd.prog.info? 5).map (fun i => (i.zero, i.size, i.bytes)) = some (some (.int .u8 0), 1, 1) := by kernel_rfl
theorem info9 : (Tryd.prog.info? 9).map (fun i => (i.zero, i.size, i.bytes)) = some (some (.string ⟨#[]⟩), 1, 16) := by kernel_rfl
-- the values' own types

end Go.Proofs.YtaflpmpffppfaaaDoor.X
