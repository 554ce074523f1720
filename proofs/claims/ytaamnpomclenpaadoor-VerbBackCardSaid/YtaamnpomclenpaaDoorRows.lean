/-
  NARROWER THAN 'FOR EVERY INPUT', by the rows' own cells (each row's printed sentence says how): VerbReads: laid · VerbBack: laid.
  DERIVED. THE GIVEN ROWS OF THIS SEAT. 2 by the template 'for every input the law returns true; each argument reads behind the call as it read before'; 0 by the template 'total and deterministic' (their statements: YtaamnpomclenpaaDoorTotals.lean).
  GIVEN WITH THE SEED: the statements are not yours to turn. If you find one false, say at which input.
  Laid BY PROGRAM, IN A SANDBOX (cutbox-rows.mjs): the forced cells as the released guide's own fill.sh prints them over the translation a07da622835defe4… (all of the seat's roots in one cut). By AI agents, Wed Nov 11 2026. No macro, syntax, notation, axiom, sorry.
-/
import Derived.Test.YtaamnpomclenpaaDoorChecked
import GoSem.PinnedTables
import GoSem.Claim
import GoSem.ClaimJoined
import GoSem.ClaimMapViews
import Derived.JoinedTies
import Derived.KernelRfl
namespace Go.Proofs.YtaamnpomclenpaaDoor
/- THE CELL 'sum', in the pinned program and in every row, IS THE sha256 OF THE DUMP (.gsa) THAT YtaamnpomclenpaaDoorProg.lean LOADS. Nothing in Lean hashes anything: it is a label: what it is worth is what the hold of that sum in a sandbox is worth. -/
noncomputable def Tryd.pinned : Pinned := { name := "ytaamnpomclenpaadoor", sum := "a07da622835defe45bbc22b3781434d01de090089e65a488e2daf7afbcb4963b", checked := Tryd.checked }
namespace Rows
def none {H : Type} : Left H := { results := [], args := [] }

/- WHAT THE LISTED PACKAGE-LEVEL VARIABLES READ AS WHEN THE CALL BEGINS. Each datum BY PROGRAM (the guide's laid-datum.mjs) off the statement by which the dump's own 'gosem.cut.vars' lays the variable. In a bare row this is a premise. The card (YtaamnpomclenpaaDoorCards.lean) ties it to the program's text. -/
def laid_unicode_utf8_acceptRanges {H : Type} : DataW H := .agg [.agg [.lit (.int .u8 128), .lit (.int .u8 191)], .agg [.lit (.int .u8 160), .lit (.int .u8 191)], .agg [.lit (.int .u8 128), .lit (.int .u8 159)], .agg [.lit (.int .u8 144), .lit (.int .u8 191)], .agg [.lit (.int .u8 128), .lit (.int .u8 143)], .agg [.lit (.int .u8 0), .lit (.int .u8 0)], .agg [.lit (.int .u8 0), .lit (.int .u8 0)], .agg [.lit (.int .u8 0), .lit (.int .u8 0)], .agg [.lit (.int .u8 0), .lit (.int .u8 0)], .agg [.lit (.int .u8 0), .lit (.int .u8 0)], .agg [.lit (.int .u8 0), .lit (.int .u8 0)], .agg [.lit (.int .u8 0), .lit (.int .u8 0)], .agg [.lit (.int .u8 0), .lit (.int .u8 0)], .agg [.lit (.int .u8 0), .lit (.int .u8 0)], .agg [.lit (.int .u8 0), .lit (.int .u8 0)], .agg [.lit (.int .u8 0), .lit (.int .u8 0)]]
def laid_bulletin_verb_words {H : Type} : DataW H := .agg [.lit (.string []), .lit (.string [72, 69, 76, 79]), .lit (.string [69, 72, 76, 79]), .lit (.string [77, 65, 73, 76]), .lit (.string [82, 67, 80, 84]), .lit (.string [68, 65, 84, 65]), .lit (.string [82, 83, 69, 84]), .lit (.string [78, 79, 79, 80]), .lit (.string [86, 82, 70, 89]), .lit (.string [81, 85, 73, 84])]
/-- One of Go's own tables, pinned by name: the form's constant. -/
def laid_unicode_utf8_first : DataW Unit := Go.Pinned.utf8First

/-- 'bulletinlaw27.VerbReads': WHATEVER THE INPUT: true; the input reads as it did. -/
def verbReadsSpec : ChangeSpec := { name := "verbReads", fn := fun _ => fun
  | [d1, d2] => { results := [.lit (.bool true)], args := [d1, d2] }
  | _ => none }
def verbReadsRow : OpenClaim := { program := "ytaamnpomclenpaadoor", sum := "a07da622835defe45bbc22b3781434d01de090089e65a488e2daf7afbcb4963b", func := "bulletin/bulletinlaw27.VerbReads", spec := "verbReads", inPlace := ["internal/bytealg.IndexByteString", "internal/bytealg.IndexString", "internal/abi.NoEscape"], named := ["internal/bytealg.MaxLen", "bulletin/verb.words", "unicode/utf8.first", "unicode/utf8.acceptRanges"], apart := false, laid := [("unicode/utf8.acceptRanges", laid_unicode_utf8_acceptRanges), ("bulletin/verb.words", laid_bulletin_verb_words), ("unicode/utf8.first", laid_unicode_utf8_first)] }
def VerbReadsSaid : Prop := verbReadsRow.holds Tryd.pinned (OpenSpec.ofChange verbReadsSpec)

/-- ITS FALSE NEIGHBOUR: 'it returns false'. Refute it at one input. -/
def verbReadsWrong : ChangeSpec := { name := "verbReads", fn := fun _ => fun
  | [d1, d2] => { results := [.lit (.bool false)], args := [d1, d2] }
  | _ => none }
def VerbReadsWrongFalsely : Prop := verbReadsRow.holds Tryd.pinned (OpenSpec.ofChange verbReadsWrong)

/-- 'bulletinlaw27.VerbBack': WHATEVER THE INPUT: true; the input reads as it did. -/
def verbBackSpec : ChangeSpec := { name := "verbBack", fn := fun _ => fun
  | [d] => { results := [.lit (.bool true)], args := [d] }
  | _ => none }
def verbBackRow : OpenClaim := { program := "ytaamnpomclenpaadoor", sum := "a07da622835defe45bbc22b3781434d01de090089e65a488e2daf7afbcb4963b", func := "bulletin/bulletinlaw27.VerbBack", spec := "verbBack", inPlace := ["internal/bytealg.IndexByteString", "internal/bytealg.IndexString", "internal/abi.NoEscape"], named := ["internal/bytealg.MaxLen", "bulletin/verb.words", "unicode/utf8.first", "unicode/utf8.acceptRanges"], apart := false, laid := [("unicode/utf8.acceptRanges", laid_unicode_utf8_acceptRanges), ("bulletin/verb.words", laid_bulletin_verb_words), ("unicode/utf8.first", laid_unicode_utf8_first)] }
def VerbBackSaid : Prop := verbBackRow.holds Tryd.pinned (OpenSpec.ofChange verbBackSpec)

/-- ITS FALSE NEIGHBOUR: 'it returns false'. Refute it at one input. -/
def verbBackWrong : ChangeSpec := { name := "verbBack", fn := fun _ => fun
  | [d] => { results := [.lit (.bool false)], args := [d] }
  | _ => none }
def VerbBackWrongFalsely : Prop := verbBackRow.holds Tryd.pinned (OpenSpec.ofChange verbBackWrong)

/- THE SECOND FORM. 'bulk': how many values and letters a reading holds, each counted each time it is reached (what is shared counts as often as it is met; a slice's spare places count too). A statement '..UptoSaid' is the law's where the arguments, and the package variables that the reading takes, are together of bulk at most 1048576: NARROWER than '..Said'. Prove '..Said' where nothing that the law and all that it calls make is longer than what came in: it says more and counts as full. Else prove '..UptoSaid'. A law counts once. -/
mutual
def uptoBulk {H : Type} : DataW H → Nat
  | .lit (.string bytes) => bytes.length + 1
  | .lit _ => 1
  | .nil => 1
  | .ptr d => uptoBulk d + 1
  | .slice elems spare => uptoBulkAll elems + uptoBulkAll spare + 1
  | .agg parts => uptoBulkAll parts + 1
  | .iface _ d => uptoBulk d + 1
  | .map entries => uptoBulkEntries entries + 1
  | .held _ => 1
def uptoBulkAll {H : Type} : List (DataW H) → Nat
  | [] => 0
  | d :: r => uptoBulk d + uptoBulkAll r
def uptoBulkEntries {H : Type} : List (Lit × DataW H) → Nat
  | [] => 0
  | x :: r => uptoBulkEntry x + uptoBulkEntries r
def uptoBulkEntry {H : Type} : Lit × DataW H → Nat
  | (.string bytes, d) => bytes.length + uptoBulk d + 1
  | (_, d) => uptoBulk d + 1
 end
def uptoSmall : (H : Type) → List (DataW H) → Bool := fun _ ds => decide (uptoBulkAll ds ≤ 1048576)
def OpenSpec.upto (s : _root_.Go.ChangeSpec) : _root_.Go.OpenSpec := { _root_.Go.OpenSpec.ofChange s with cond := some uptoSmall }

/-- 'bulletinlaw27.VerbReads', WHERE WHAT IT READS IS OF BULK AT MOST 1048576: true; the input reads as it did. -/
def verbReadsUptoRow : OpenClaim := { program := "ytaamnpomclenpaadoor", sum := "a07da622835defe45bbc22b3781434d01de090089e65a488e2daf7afbcb4963b", func := "bulletin/bulletinlaw27.VerbReads", spec := "verbReads", inPlace := ["internal/bytealg.IndexByteString", "internal/bytealg.IndexString", "internal/abi.NoEscape"], named := ["internal/bytealg.MaxLen", "bulletin/verb.words", "unicode/utf8.first", "unicode/utf8.acceptRanges"], apart := false, laid := [("unicode/utf8.acceptRanges", laid_unicode_utf8_acceptRanges), ("bulletin/verb.words", laid_bulletin_verb_words), ("unicode/utf8.first", laid_unicode_utf8_first)], narrowed := true }
def VerbReadsUptoSaid : Prop := verbReadsUptoRow.holds Tryd.pinned (OpenSpec.upto verbReadsSpec)

/-- 'bulletinlaw27.VerbBack', WHERE WHAT IT READS IS OF BULK AT MOST 1048576: true; the input reads as it did. -/
def verbBackUptoRow : OpenClaim := { program := "ytaamnpomclenpaadoor", sum := "a07da622835defe45bbc22b3781434d01de090089e65a488e2daf7afbcb4963b", func := "bulletin/bulletinlaw27.VerbBack", spec := "verbBack", inPlace := ["internal/bytealg.IndexByteString", "internal/bytealg.IndexString", "internal/abi.NoEscape"], named := ["internal/bytealg.MaxLen", "bulletin/verb.words", "unicode/utf8.first", "unicode/utf8.acceptRanges"], apart := false, laid := [("unicode/utf8.acceptRanges", laid_unicode_utf8_acceptRanges), ("bulletin/verb.words", laid_bulletin_verb_words), ("unicode/utf8.first", laid_unicode_utf8_first)], narrowed := true }
def VerbBackUptoSaid : Prop := verbBackUptoRow.holds Tryd.pinned (OpenSpec.upto verbBackSpec)

end Rows
end Go.Proofs.YtaamnpomclenpaaDoor
