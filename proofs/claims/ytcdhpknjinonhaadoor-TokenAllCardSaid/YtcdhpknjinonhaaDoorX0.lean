-- Written by a program (print.py's text, with contracts of this session's own put in). Not trusted: Lean checks it.
import Derived.Test.YtcdhpknjinonhaaDoorProg
import Derived.Below
import Derived.Deep.Draws
import Derived.Deep.AppendLies
import Derived.Maps.AppendAt
import Derived.OwnWalk
import Derived.Laws.BytesArg
import Derived.Laws.MakeOwn
import Derived.Laws.OwnMore
import Derived.Deep.OwnRows
import Derived.Tactics
import Derived.Lib.ConvBytes
import Derived.Laws.Slices
import Derived.WalkKit
import Derived.KernelRfl
import Derived.RowKit3
import Derived.Deep.LoopGhost
import Derived.Deep.QuietTactic
import Derived.BigQuiet
import Derived.WideLaws
import Derived.Deep.DeepCutAuto
import Derived.Deep.CutBlock
import Derived.Deep.RegionHeld3
import Derived.Laws.Rows
import Derived.Lib.AppendStr
import Derived.ArgAppend
import Derived.Laws.IdiomCopy
import Derived.OrdersHeld
import Derived.Laws.BitsLemmas
import Derived.RowKit
import Derived.Test.YtcdhpknjinonhaaDoorShelf
import Derived.Lib.SmallJoins
import Derived.Lib.AppendIntMem
import Derived.Test.YtcdhpknjinonhaaDoorWWords
import Derived.Test.YtcdhpknjinonhaaDoorWLast
import Derived.Test.YtcdhpknjinonhaaDoorWTab
import Derived.Test.YtcdhpknjinonhaaDoorWFour
import Derived.Test.YtcdhpknjinonhaaDoorWQPut
import Derived.Test.YtcdhpknjinonhaaDoorWApart
import Derived.Test.YtcdhpknjinonhaaDoorWArr
import Derived.Test.YtcdhpknjinonhaaDoorWZeros
import Derived.Test.YtcdhpknjinonhaaDoorWFoot
import Derived.Test.YtcdhpknjinonhaaDoorWKept
import Derived.Test.YtcdhpknjinonhaaDoorWShare
import Derived.Test.YtcdhpknjinonhaaDoorWN
import Derived.Test.YtcdhpknjinonhaaDoorWFootNe
import Derived.Test.YtcdhpknjinonhaaDoorWAt
import Derived.Test.YtcdhpknjinonhaaDoorWEqStruct
import Derived.Test.YtcdhpknjinonhaaDoorWRepsOne
import Derived.Test.YtcdhpknjinonhaaDoorWInv
import Derived.Test.YtcdhpknjinonhaaDoorWInvWords
import Derived.Test.YtcdhpknjinonhaaDoorWGuard
import Derived.Test.YtcdhpknjinonhaaDoorWNEv
import Derived.Test.YtcdhpknjinonhaaDoorWMore
namespace Go.Proofs.YtcdhpknjinonhaaDoor.X
open Go.RowKit Go.Proofs.YtcdhpknjinonhaaDoorW.PrintWords Go.Proofs.YtcdhpknjinonhaaDoorW.PrintLast Go.Proofs.YtcdhpknjinonhaaDoorW.PrintMore
attribute [local go_sem] max2_int min2_int max_two min_two max_three min_three max_four min_four   -- for this text's walks alone
set_option linter.unusedVariables false
set_option linter.unusedSimpArgs false



def errW : Option Int → Value
  | none => .nilIface
  | some c => .iface 0 (.int .i64 c)
theorem Xsize_mk (d : Array UInt8) : (⟨d⟩ : ByteArray).size = d.size := rfl
theorem Xsz_ext (s : ByteArray) (a b : Int) (h : b ≤ (s.size : Int)) : (s.extract a.toNat b.toNat).size = b.toNat - a.toNat := by rw [ByteArray.size_extract]; omega
theorem Xsz_ext0 (s : ByteArray) (b : Int) (h : b ≤ (s.size : Int)) : (s.extract 0 b.toNat).size = b.toNat := by rw [ByteArray.size_extract]; omega
/-- what the laid variables hold -/
structure Tabs (w : World) : Prop where
  max : ∃ m, w.cell? ⟨0, 0, none⟩ = some (.int .i64 m)
  pow : Lib.TabIs Tryd.prog w "internal/strconv.uint64pow10" .u64 Lib.pow10Tab
theorem Tabs.below {w w' : World} (h : Tabs w) (hb : Below w.heap.size w w') : Tabs w' := by
  obtain ⟨m, hm⟩ := h.max
  exact ⟨⟨m, (hb.cell (World.block_lt_of_cell? w _ hm)).trans hm⟩, Joins.tab_stays (g := 1) (by kernel_rfl) h.pow hb (Nat.le_refl _)⟩
theorem Tabs.a {w w' : World} (h : Aside0 (Tabs w)) (hb : Below w.heap.size w w') : Aside0 (Tabs w') := ⟨h.out.below hb⟩
theorem errW_none : errW none = .nilIface := rfl
theorem errW_some (c : Int) : errW (some c) = .iface 0 (.int .i64 c) := rfl

theorem info5 : (Tryd.prog.info? 5).map (fun i => (i.zero, i.size, i.bytes)) = some (some (.int .u8 0), 1, 1) := by kernel_rfl
-- the values' own types

end Go.Proofs.YtcdhpknjinonhaaDoor.X
