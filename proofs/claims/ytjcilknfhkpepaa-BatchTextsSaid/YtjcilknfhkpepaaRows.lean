/-
  No cell of these rows narrows 'for every input' (looked for: loops, veiled, ifaces, maps, wideKeys, modest, calm, conditions, laid).
  DERIVED. THE GIVEN ROWS OF THIS SEAT. 5 by the template 'for every input the law returns true; each argument reads behind the call as it read before'; 0 by the template 'total and deterministic' (their statements: YtjcilknfhkpepaaTotals.lean).
  GIVEN WITH THE SEED: the statements are not yours to turn. If you find one false, say at which input.
  Laid BY PROGRAM, IN A SANDBOX (cutbox-rows.mjs): the forced cells as the released guide's own fill.sh prints them over the translation 8be177398bd6d230… (all of the seat's roots in one cut). By AI agents, Wed Nov 11 2026. No macro, syntax, notation, axiom, sorry.
-/
import Derived.Test.YtjcilknfhkpepaaChecked
import GoSem.Claim
import GoSem.ClaimJoined
import GoSem.ClaimMapViews
import Derived.JoinedTies
import Derived.KernelRfl
namespace Go.Proofs.Ytjcilknfhkpepaa
/- THE CELL 'sum', in the pinned program and in every row, IS THE sha256 OF THE DUMP (.gsa) THAT YtjcilknfhkpepaaProg.lean LOADS. Nothing in Lean hashes anything: it is a label: what it is worth is what the hold of that sum in a sandbox is worth. -/
noncomputable def Try.pinned : Pinned := { name := "ytjcilknfhkpepaa", sum := "8be177398bd6d230adcb4d63d15aef332c2a55f780f9f4273cb0a9bc405b448c", checked := Try.checked }
namespace Rows
def none {H : Type} : Left H := { results := [], args := [] }

/-- 'bulletinlaw10.BatchLast': WHATEVER THE INPUT: true; the input reads as it did. -/
def batchLastSpec : ChangeSpec := { name := "batchLast", fn := fun _ => fun
  | [d1, d2, d3] => { results := [.lit (.bool true)], args := [d1, d2, d3] }
  | _ => none }
def batchLastRow : OpenClaim := { program := "ytjcilknfhkpepaa", sum := "8be177398bd6d230adcb4d63d15aef332c2a55f780f9f4273cb0a9bc405b448c", func := "bulletin/bulletinlaw10.BatchLast", spec := "batchLast", inPlace := ["slices.overlaps[bulletin/batch.Change]", "internal/abi.NoEscape"], unfollowed := true, recurses := true, apart := false }
def BatchLastSaid : Prop := batchLastRow.holds Try.pinned (OpenSpec.ofChange batchLastSpec)

/-- ITS FALSE NEIGHBOUR: 'it returns false'. Refute it at one input. -/
def batchLastWrong : ChangeSpec := { name := "batchLast", fn := fun _ => fun
  | [d1, d2, d3] => { results := [.lit (.bool false)], args := [d1, d2, d3] }
  | _ => none }
def BatchLastWrongFalsely : Prop := batchLastRow.holds Try.pinned (OpenSpec.ofChange batchLastWrong)

/-- 'bulletinlaw10.BatchMany': WHATEVER THE INPUT: true; the input reads as it did. -/
def batchManySpec : ChangeSpec := { name := "batchMany", fn := fun _ => fun
  | [d1, d2] => { results := [.lit (.bool true)], args := [d1, d2] }
  | _ => none }
def batchManyRow : OpenClaim := { program := "ytjcilknfhkpepaa", sum := "8be177398bd6d230adcb4d63d15aef332c2a55f780f9f4273cb0a9bc405b448c", func := "bulletin/bulletinlaw10.BatchMany", spec := "batchMany", inPlace := ["slices.overlaps[bulletin/batch.Change]", "internal/abi.NoEscape"], unfollowed := true, recurses := true, apart := false }
def BatchManySaid : Prop := batchManyRow.holds Try.pinned (OpenSpec.ofChange batchManySpec)

/-- ITS FALSE NEIGHBOUR: 'it returns false'. Refute it at one input. -/
def batchManyWrong : ChangeSpec := { name := "batchMany", fn := fun _ => fun
  | [d1, d2] => { results := [.lit (.bool false)], args := [d1, d2] }
  | _ => none }
def BatchManyWrongFalsely : Prop := batchManyRow.holds Try.pinned (OpenSpec.ofChange batchManyWrong)

/-- 'bulletinlaw10.BatchPlays': WHATEVER THE INPUT: true; the input reads as it did. -/
def batchPlaysSpec : ChangeSpec := { name := "batchPlays", fn := fun _ => fun
  | [d1, d2] => { results := [.lit (.bool true)], args := [d1, d2] }
  | _ => none }
def batchPlaysRow : OpenClaim := { program := "ytjcilknfhkpepaa", sum := "8be177398bd6d230adcb4d63d15aef332c2a55f780f9f4273cb0a9bc405b448c", func := "bulletin/bulletinlaw10.BatchPlays", spec := "batchPlays", inPlace := ["slices.overlaps[bulletin/batch.Change]", "internal/abi.NoEscape"], unfollowed := true, recurses := true, apart := false }
def BatchPlaysSaid : Prop := batchPlaysRow.holds Try.pinned (OpenSpec.ofChange batchPlaysSpec)

/-- ITS FALSE NEIGHBOUR: 'it returns false'. Refute it at one input. -/
def batchPlaysWrong : ChangeSpec := { name := "batchPlays", fn := fun _ => fun
  | [d1, d2] => { results := [.lit (.bool false)], args := [d1, d2] }
  | _ => none }
def BatchPlaysWrongFalsely : Prop := batchPlaysRow.holds Try.pinned (OpenSpec.ofChange batchPlaysWrong)

/-- 'bulletinlaw10.BatchTexts': WHATEVER THE INPUT: true; the input reads as it did. -/
def batchTextsSpec : ChangeSpec := { name := "batchTexts", fn := fun _ => fun
  | [d1, d2] => { results := [.lit (.bool true)], args := [d1, d2] }
  | _ => none }
def batchTextsRow : OpenClaim := { program := "ytjcilknfhkpepaa", sum := "8be177398bd6d230adcb4d63d15aef332c2a55f780f9f4273cb0a9bc405b448c", func := "bulletin/bulletinlaw10.BatchTexts", spec := "batchTexts", inPlace := ["slices.overlaps[bulletin/batch.Change]", "internal/abi.NoEscape"], unfollowed := true, recurses := true, apart := false }
def BatchTextsSaid : Prop := batchTextsRow.holds Try.pinned (OpenSpec.ofChange batchTextsSpec)

/-- ITS FALSE NEIGHBOUR: 'it returns false'. Refute it at one input. -/
def batchTextsWrong : ChangeSpec := { name := "batchTexts", fn := fun _ => fun
  | [d1, d2] => { results := [.lit (.bool false)], args := [d1, d2] }
  | _ => none }
def BatchTextsWrongFalsely : Prop := batchTextsRow.holds Try.pinned (OpenSpec.ofChange batchTextsWrong)

/-- 'bulletinlaw10.BatchBack': WHATEVER THE INPUT: true; the input reads as it did. -/
def batchBackSpec : ChangeSpec := { name := "batchBack", fn := fun _ => fun
  | [d1, d2] => { results := [.lit (.bool true)], args := [d1, d2] }
  | _ => none }
def batchBackRow : OpenClaim := { program := "ytjcilknfhkpepaa", sum := "8be177398bd6d230adcb4d63d15aef332c2a55f780f9f4273cb0a9bc405b448c", func := "bulletin/bulletinlaw10.BatchBack", spec := "batchBack", inPlace := ["slices.overlaps[bulletin/batch.Change]", "internal/abi.NoEscape"], unfollowed := true, recurses := true, apart := false }
def BatchBackSaid : Prop := batchBackRow.holds Try.pinned (OpenSpec.ofChange batchBackSpec)

/-- ITS FALSE NEIGHBOUR: 'it returns false'. Refute it at one input. -/
def batchBackWrong : ChangeSpec := { name := "batchBack", fn := fun _ => fun
  | [d1, d2] => { results := [.lit (.bool false)], args := [d1, d2] }
  | _ => none }
def BatchBackWrongFalsely : Prop := batchBackRow.holds Try.pinned (OpenSpec.ofChange batchBackWrong)

/- THE SECOND FORM. 'bulk': how many values and letters a reading holds, each counted each time it is reached (what is shared counts as often as it is met; a slice's spare places count too). A statement '..UptoSaid' is the law's where the arguments, and the package variables that the reading takes, are together of bulk at most 1048576: NARROWER than '..Said'. Prove '..Said' where nothing that the law and all that it calls make is longer than what came in: it says more and counts as full. Else prove '..UptoSaid'. A law counts once. -/
mutual
def uptoBulk {H : Type} : DataW H → Nat
  | .lit (.string bytes) => bytes.length + 1
  | .lit _ => 1
  | .nil => 1
  | .ptr d => uptoBulk d + 1
  | .slice elems spare => uptoBulkAll elems + uptoBulkAll spare + 1
  | .agg parts => uptoBulkAll parts + 1
  | .iface _ d => uptoBulk d + 1
  | .map entries => uptoBulkEntries entries + 1
  | .held _ => 1
def uptoBulkAll {H : Type} : List (DataW H) → Nat
  | [] => 0
  | d :: r => uptoBulk d + uptoBulkAll r
def uptoBulkEntries {H : Type} : List (Lit × DataW H) → Nat
  | [] => 0
  | x :: r => uptoBulkEntry x + uptoBulkEntries r
def uptoBulkEntry {H : Type} : Lit × DataW H → Nat
  | (.string bytes, d) => bytes.length + uptoBulk d + 1
  | (_, d) => uptoBulk d + 1
 end
def uptoSmall : (H : Type) → List (DataW H) → Bool := fun _ ds => decide (uptoBulkAll ds ≤ 1048576)
def OpenSpec.upto (s : _root_.Go.ChangeSpec) : _root_.Go.OpenSpec := { _root_.Go.OpenSpec.ofChange s with cond := some uptoSmall }

/-- 'bulletinlaw10.BatchLast', WHERE WHAT IT READS IS OF BULK AT MOST 1048576: true; the input reads as it did. -/
def batchLastUptoRow : OpenClaim := { program := "ytjcilknfhkpepaa", sum := "8be177398bd6d230adcb4d63d15aef332c2a55f780f9f4273cb0a9bc405b448c", func := "bulletin/bulletinlaw10.BatchLast", spec := "batchLast", inPlace := ["slices.overlaps[bulletin/batch.Change]", "internal/abi.NoEscape"], unfollowed := true, recurses := true, apart := false, narrowed := true }
def BatchLastUptoSaid : Prop := batchLastUptoRow.holds Try.pinned (OpenSpec.upto batchLastSpec)

/-- 'bulletinlaw10.BatchMany', WHERE WHAT IT READS IS OF BULK AT MOST 1048576: true; the input reads as it did. -/
def batchManyUptoRow : OpenClaim := { program := "ytjcilknfhkpepaa", sum := "8be177398bd6d230adcb4d63d15aef332c2a55f780f9f4273cb0a9bc405b448c", func := "bulletin/bulletinlaw10.BatchMany", spec := "batchMany", inPlace := ["slices.overlaps[bulletin/batch.Change]", "internal/abi.NoEscape"], unfollowed := true, recurses := true, apart := false, narrowed := true }
def BatchManyUptoSaid : Prop := batchManyUptoRow.holds Try.pinned (OpenSpec.upto batchManySpec)

/-- 'bulletinlaw10.BatchPlays', WHERE WHAT IT READS IS OF BULK AT MOST 1048576: true; the input reads as it did. -/
def batchPlaysUptoRow : OpenClaim := { program := "ytjcilknfhkpepaa", sum := "8be177398bd6d230adcb4d63d15aef332c2a55f780f9f4273cb0a9bc405b448c", func := "bulletin/bulletinlaw10.BatchPlays", spec := "batchPlays", inPlace := ["slices.overlaps[bulletin/batch.Change]", "internal/abi.NoEscape"], unfollowed := true, recurses := true, apart := false, narrowed := true }
def BatchPlaysUptoSaid : Prop := batchPlaysUptoRow.holds Try.pinned (OpenSpec.upto batchPlaysSpec)

/-- 'bulletinlaw10.BatchTexts', WHERE WHAT IT READS IS OF BULK AT MOST 1048576: true; the input reads as it did. -/
def batchTextsUptoRow : OpenClaim := { program := "ytjcilknfhkpepaa", sum := "8be177398bd6d230adcb4d63d15aef332c2a55f780f9f4273cb0a9bc405b448c", func := "bulletin/bulletinlaw10.BatchTexts", spec := "batchTexts", inPlace := ["slices.overlaps[bulletin/batch.Change]", "internal/abi.NoEscape"], unfollowed := true, recurses := true, apart := false, narrowed := true }
def BatchTextsUptoSaid : Prop := batchTextsUptoRow.holds Try.pinned (OpenSpec.upto batchTextsSpec)

/-- 'bulletinlaw10.BatchBack', WHERE WHAT IT READS IS OF BULK AT MOST 1048576: true; the input reads as it did. -/
def batchBackUptoRow : OpenClaim := { program := "ytjcilknfhkpepaa", sum := "8be177398bd6d230adcb4d63d15aef332c2a55f780f9f4273cb0a9bc405b448c", func := "bulletin/bulletinlaw10.BatchBack", spec := "batchBack", inPlace := ["slices.overlaps[bulletin/batch.Change]", "internal/abi.NoEscape"], unfollowed := true, recurses := true, apart := false, narrowed := true }
def BatchBackUptoSaid : Prop := batchBackUptoRow.holds Try.pinned (OpenSpec.upto batchBackSpec)

end Rows
end Go.Proofs.Ytjcilknfhkpepaa
