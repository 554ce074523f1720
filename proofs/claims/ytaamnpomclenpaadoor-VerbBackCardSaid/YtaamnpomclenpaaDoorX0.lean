-- Written by a program (print.py's text, with contracts of this session's own put in). Not trusted: Lean checks it.
import Derived.Test.YtaamnpomclenpaaDoorProg
import Derived.Below
import Derived.Deep.Draws
import Derived.Deep.AppendLies
import Derived.Maps.AppendAt
import Derived.OwnWalk
import Derived.Laws.BytesArg
import Derived.Laws.MakeOwn
import Derived.Laws.OwnMore
import Derived.Deep.OwnRows
import Derived.Tactics
import Derived.Lib.ConvBytes
import Derived.Laws.Slices
import Derived.WalkKit
import Derived.KernelRfl
import Derived.RowKit3
import Derived.Deep.LoopGhost
import Derived.Deep.QuietTactic
import Derived.BigQuiet
import Derived.WideLaws
import Derived.Deep.DeepCutAuto
import Derived.Deep.CutBlock
import Derived.Deep.RegionHeld3
import Derived.Laws.Rows
import Derived.Lib.AppendStr
import Derived.ArgAppend
import Derived.Laws.IdiomCopy
import Derived.OrdersHeld
import Derived.Laws.BitsLemmas
import Derived.RowKit
import Derived.Test.YtaamnpomclenpaaDoorShelf
import Derived.Lib.OthersKept
import Derived.Deep.QuietTactic
import Derived.BigQuiet
import Derived.Test.YtaamnpomclenpaaDoorWWords
import Derived.Test.YtaamnpomclenpaaDoorWLast
import Derived.Test.YtaamnpomclenpaaDoorWTab
import Derived.Test.YtaamnpomclenpaaDoorWFour
import Derived.Test.YtaamnpomclenpaaDoorWQPut
import Derived.Test.YtaamnpomclenpaaDoorWApart
import Derived.Test.YtaamnpomclenpaaDoorWArr
import Derived.Test.YtaamnpomclenpaaDoorWZeros
import Derived.Test.YtaamnpomclenpaaDoorWFoot
import Derived.Test.YtaamnpomclenpaaDoorWKept
import Derived.Test.YtaamnpomclenpaaDoorWShare
import Derived.Test.YtaamnpomclenpaaDoorWN
import Derived.Test.YtaamnpomclenpaaDoorWFootNe
import Derived.Test.YtaamnpomclenpaaDoorWAt
import Derived.Test.YtaamnpomclenpaaDoorWEqStruct
import Derived.Test.YtaamnpomclenpaaDoorWRepsOne
import Derived.Test.YtaamnpomclenpaaDoorWInv
import Derived.Test.YtaamnpomclenpaaDoorWInvWords
import Derived.Test.YtaamnpomclenpaaDoorWGuard
import Derived.Test.YtaamnpomclenpaaDoorWNEv
import Derived.Test.YtaamnpomclenpaaDoorWMore
namespace Go.Proofs.YtaamnpomclenpaaDoor.X
open Go.RowKit Go.Proofs.YtaamnpomclenpaaDoorW.PrintWords Go.Proofs.YtaamnpomclenpaaDoorW.PrintLast Go.Proofs.YtaamnpomclenpaaDoorW.PrintMore
attribute [local go_sem] max2_int min2_int max_two min_two max_three min_three max_four min_four   -- for this text's walks alone
set_option linter.unusedVariables false
set_option linter.unusedSimpArgs false



def errW : Option Int → Value
  | none => .nilIface
  | some c => .iface 0 (.int .i64 c)
theorem Xsize_mk (d : Array UInt8) : (⟨d⟩ : ByteArray).size = d.size := rfl
theorem Xsz_ext (s : ByteArray) (a b : Int) (h : b ≤ (s.size : Int)) : (s.extract a.toNat b.toNat).size = b.toNat - a.toNat := by rw [ByteArray.size_extract]; omega
theorem Xsz_ext0 (s : ByteArray) (b : Int) (h : b ≤ (s.size : Int)) : (s.extract 0 b.toNat).size = b.toNat := by rw [ByteArray.size_extract]; omega
/-- the verbs' words -/
def wordOf : Nat → ByteArray
  | 1 => ⟨#[72, 69, 76, 79]⟩ | 2 => ⟨#[69, 72, 76, 79]⟩ | 3 => ⟨#[77, 65, 73, 76]⟩ | 4 => ⟨#[82, 67, 80, 84]⟩ | 5 => ⟨#[68, 65, 84, 65]⟩ | 6 => ⟨#[82, 83, 69, 84]⟩ | 7 => ⟨#[78, 79, 79, 80]⟩ | 8 => ⟨#[86, 82, 70, 89]⟩ | 9 => ⟨#[81, 85, 73, 84]⟩ | _ => ⟨#[]⟩
/-- what the laid variables hold -/
structure Tabs (w : World) : Prop where
  max : ∃ m, w.cell? ⟨1, 0, none⟩ = some (.int .i64 m)
  words : ∀ i, i < 10 → w.cell? ⟨0, i, none⟩ = some (.string (wordOf i))
theorem Tabs.below {w w' : World} (h : Tabs w) (hb : Below w.heap.size w w') : Tabs w' := by
  obtain ⟨m, hm⟩ := h.max
  exact ⟨⟨m, (hb.cell (World.block_lt_of_cell? w _ hm)).trans hm⟩, fun i hi => (hb.cell (World.block_lt_of_cell? w _ (h.words i hi))).trans (h.words i hi)⟩
theorem Tabs.a {w w' : World} (h : Aside0 (Tabs w)) (hb : Below w.heap.size w w') : Aside0 (Tabs w') := ⟨h.out.below hb⟩
theorem errW_none : errW none = .nilIface := rfl
theorem errW_some (c : Int) : errW (some c) = .iface 0 (.int .i64 c) := rfl

theorem info5 : (Tryd.prog.info? 5).map (fun i => (i.zero, i.size, i.bytes)) = some (some (.int .u8 0), 1, 1) := by kernel_rfl
-- the values' own types

end Go.Proofs.YtaamnpomclenpaaDoor.X
