/-
  NARROWER THAN 'FOR EVERY INPUT', by the rows' own cells (each row's printed sentence says how): GlyphClean: laid · GlyphCounts: laid · GlyphTurns: laid · GlyphClips: laid.
  DERIVED. THE GIVEN ROWS OF THIS SEAT. 4 by the template 'for every input the law returns true; each argument reads behind the call as it read before'; 0 by the template 'total and deterministic' (their statements: YtlkppogpoodjlaaDoorTotals.lean).
  GIVEN WITH THE SEED: the statements are not yours to turn. If you find one false, say at which input.
  Laid BY PROGRAM, IN A SANDBOX (cutbox-rows.mjs): the forced cells as the released guide's own fill.sh prints them over the translation 8d1a8e3e2cfe7436… (all of the seat's roots in one cut). By AI agents, Wed Nov 11 2026. No macro, syntax, notation, axiom, sorry.
-/
import Derived.Test.YtlkppogpoodjlaaDoorChecked
import GoSem.PinnedTables
import GoSem.Claim
import GoSem.ClaimJoined
import GoSem.ClaimMapViews
import Derived.JoinedTies
import Derived.KernelRfl
namespace Go.Proofs.YtlkppogpoodjlaaDoor
/- THE CELL 'sum', in the pinned program and in every row, IS THE sha256 OF THE DUMP (.gsa) THAT YtlkppogpoodjlaaDoorProg.lean LOADS. Nothing in Lean hashes anything: it is a label: what it is worth is what the hold of that sum in a sandbox is worth. -/
noncomputable def Tryd.pinned : Pinned := { name := "ytlkppogpoodjlaadoor", sum := "8d1a8e3e2cfe7436bc7ee5b92d06699f26ecae52b8840a15fba8fdf81b9dda1c", checked := Tryd.checked }
namespace Rows
def none {H : Type} : Left H := { results := [], args := [] }

/- WHAT THE LISTED PACKAGE-LEVEL VARIABLES READ AS WHEN THE CALL BEGINS. Each datum BY PROGRAM (the guide's laid-datum.mjs) off the statement by which the dump's own 'gosem.cut.vars' lays the variable. In a bare row this is a premise. The card (YtlkppogpoodjlaaDoorCards.lean) ties it to the program's text. -/
def laid_unicode_utf8_acceptRanges {H : Type} : DataW H := .agg [.agg [.lit (.int .u8 128), .lit (.int .u8 191)], .agg [.lit (.int .u8 160), .lit (.int .u8 191)], .agg [.lit (.int .u8 128), .lit (.int .u8 159)], .agg [.lit (.int .u8 144), .lit (.int .u8 191)], .agg [.lit (.int .u8 128), .lit (.int .u8 143)], .agg [.lit (.int .u8 0), .lit (.int .u8 0)], .agg [.lit (.int .u8 0), .lit (.int .u8 0)], .agg [.lit (.int .u8 0), .lit (.int .u8 0)], .agg [.lit (.int .u8 0), .lit (.int .u8 0)], .agg [.lit (.int .u8 0), .lit (.int .u8 0)], .agg [.lit (.int .u8 0), .lit (.int .u8 0)], .agg [.lit (.int .u8 0), .lit (.int .u8 0)], .agg [.lit (.int .u8 0), .lit (.int .u8 0)], .agg [.lit (.int .u8 0), .lit (.int .u8 0)], .agg [.lit (.int .u8 0), .lit (.int .u8 0)], .agg [.lit (.int .u8 0), .lit (.int .u8 0)]]
/-- One of Go's own tables, pinned by name: the form's constant. -/
def laid_unicode_utf8_first : DataW Unit := Go.Pinned.utf8First

/-- 'bulletinlaw06.GlyphClean': WHATEVER THE INPUT: true; the input reads as it did. -/
def glyphCleanSpec : ChangeSpec := { name := "glyphClean", fn := fun _ => fun
  | [d] => { results := [.lit (.bool true)], args := [d] }
  | _ => none }
def glyphCleanRow : OpenClaim := { program := "ytlkppogpoodjlaadoor", sum := "8d1a8e3e2cfe7436bc7ee5b92d06699f26ecae52b8840a15fba8fdf81b9dda1c", func := "bulletin/bulletinlaw06.GlyphClean", spec := "glyphClean", inPlace := ["internal/abi.NoEscape"], named := ["unicode/utf8.first", "unicode/utf8.acceptRanges"], apart := false, laid := [("unicode/utf8.acceptRanges", laid_unicode_utf8_acceptRanges), ("unicode/utf8.first", laid_unicode_utf8_first)] }
def GlyphCleanSaid : Prop := glyphCleanRow.holds Tryd.pinned (OpenSpec.ofChange glyphCleanSpec)

/-- ITS FALSE NEIGHBOUR: 'it returns false'. Refute it at one input. -/
def glyphCleanWrong : ChangeSpec := { name := "glyphClean", fn := fun _ => fun
  | [d] => { results := [.lit (.bool false)], args := [d] }
  | _ => none }
def GlyphCleanWrongFalsely : Prop := glyphCleanRow.holds Tryd.pinned (OpenSpec.ofChange glyphCleanWrong)

/-- 'bulletinlaw06.GlyphCounts': WHATEVER THE INPUT: true; the input reads as it did. -/
def glyphCountsSpec : ChangeSpec := { name := "glyphCounts", fn := fun _ => fun
  | [d1, d2] => { results := [.lit (.bool true)], args := [d1, d2] }
  | _ => none }
def glyphCountsRow : OpenClaim := { program := "ytlkppogpoodjlaadoor", sum := "8d1a8e3e2cfe7436bc7ee5b92d06699f26ecae52b8840a15fba8fdf81b9dda1c", func := "bulletin/bulletinlaw06.GlyphCounts", spec := "glyphCounts", inPlace := ["internal/abi.NoEscape"], named := ["unicode/utf8.first", "unicode/utf8.acceptRanges"], apart := false, laid := [("unicode/utf8.acceptRanges", laid_unicode_utf8_acceptRanges), ("unicode/utf8.first", laid_unicode_utf8_first)] }
def GlyphCountsSaid : Prop := glyphCountsRow.holds Tryd.pinned (OpenSpec.ofChange glyphCountsSpec)

/-- ITS FALSE NEIGHBOUR: 'it returns false'. Refute it at one input. -/
def glyphCountsWrong : ChangeSpec := { name := "glyphCounts", fn := fun _ => fun
  | [d1, d2] => { results := [.lit (.bool false)], args := [d1, d2] }
  | _ => none }
def GlyphCountsWrongFalsely : Prop := glyphCountsRow.holds Tryd.pinned (OpenSpec.ofChange glyphCountsWrong)

/-- 'bulletinlaw06.GlyphTurns': WHATEVER THE INPUT: true; the input reads as it did. -/
def glyphTurnsSpec : ChangeSpec := { name := "glyphTurns", fn := fun _ => fun
  | [d] => { results := [.lit (.bool true)], args := [d] }
  | _ => none }
def glyphTurnsRow : OpenClaim := { program := "ytlkppogpoodjlaadoor", sum := "8d1a8e3e2cfe7436bc7ee5b92d06699f26ecae52b8840a15fba8fdf81b9dda1c", func := "bulletin/bulletinlaw06.GlyphTurns", spec := "glyphTurns", inPlace := ["internal/abi.NoEscape"], unfollowed := true, recurses := true, named := ["unicode/utf8.first", "unicode/utf8.acceptRanges"], apart := false, laid := [("unicode/utf8.acceptRanges", laid_unicode_utf8_acceptRanges), ("unicode/utf8.first", laid_unicode_utf8_first)] }
def GlyphTurnsSaid : Prop := glyphTurnsRow.holds Tryd.pinned (OpenSpec.ofChange glyphTurnsSpec)

/-- ITS FALSE NEIGHBOUR: 'it returns false'. Refute it at one input. -/
def glyphTurnsWrong : ChangeSpec := { name := "glyphTurns", fn := fun _ => fun
  | [d] => { results := [.lit (.bool false)], args := [d] }
  | _ => none }
def GlyphTurnsWrongFalsely : Prop := glyphTurnsRow.holds Tryd.pinned (OpenSpec.ofChange glyphTurnsWrong)

/-- 'bulletinlaw06.GlyphClips': WHATEVER THE INPUT: true; the input reads as it did. -/
def glyphClipsSpec : ChangeSpec := { name := "glyphClips", fn := fun _ => fun
  | [d1, d2, d3] => { results := [.lit (.bool true)], args := [d1, d2, d3] }
  | _ => none }
def glyphClipsRow : OpenClaim := { program := "ytlkppogpoodjlaadoor", sum := "8d1a8e3e2cfe7436bc7ee5b92d06699f26ecae52b8840a15fba8fdf81b9dda1c", func := "bulletin/bulletinlaw06.GlyphClips", spec := "glyphClips", inPlace := ["internal/abi.NoEscape"], unfollowed := true, recurses := true, named := ["unicode/utf8.first", "unicode/utf8.acceptRanges"], apart := false, laid := [("unicode/utf8.acceptRanges", laid_unicode_utf8_acceptRanges), ("unicode/utf8.first", laid_unicode_utf8_first)] }
def GlyphClipsSaid : Prop := glyphClipsRow.holds Tryd.pinned (OpenSpec.ofChange glyphClipsSpec)

/-- ITS FALSE NEIGHBOUR: 'it returns false'. Refute it at one input. -/
def glyphClipsWrong : ChangeSpec := { name := "glyphClips", fn := fun _ => fun
  | [d1, d2, d3] => { results := [.lit (.bool false)], args := [d1, d2, d3] }
  | _ => none }
def GlyphClipsWrongFalsely : Prop := glyphClipsRow.holds Tryd.pinned (OpenSpec.ofChange glyphClipsWrong)

/- THE SECOND FORM. 'bulk': how many values and letters a reading holds, each counted each time it is reached (what is shared counts as often as it is met; a slice's spare places count too). A statement '..UptoSaid' is the law's where the arguments, and the package variables that the reading takes, are together of bulk at most 1048576: NARROWER than '..Said'. Prove '..Said' where nothing that the law and all that it calls make is longer than what came in: it says more and counts as full. Else prove '..UptoSaid'. A law counts once. -/
mutual
def uptoBulk {H : Type} : DataW H → Nat
  | .lit (.string bytes) => bytes.length + 1
  | .lit _ => 1
  | .nil => 1
  | .ptr d => uptoBulk d + 1
  | .slice elems spare => uptoBulkAll elems + uptoBulkAll spare + 1
  | .agg parts => uptoBulkAll parts + 1
  | .iface _ d => uptoBulk d + 1
  | .map entries => uptoBulkEntries entries + 1
  | .held _ => 1
def uptoBulkAll {H : Type} : List (DataW H) → Nat
  | [] => 0
  | d :: r => uptoBulk d + uptoBulkAll r
def uptoBulkEntries {H : Type} : List (Lit × DataW H) → Nat
  | [] => 0
  | x :: r => uptoBulkEntry x + uptoBulkEntries r
def uptoBulkEntry {H : Type} : Lit × DataW H → Nat
  | (.string bytes, d) => bytes.length + uptoBulk d + 1
  | (_, d) => uptoBulk d + 1
 end
def uptoSmall : (H : Type) → List (DataW H) → Bool := fun _ ds => decide (uptoBulkAll ds ≤ 1048576)
def OpenSpec.upto (s : _root_.Go.ChangeSpec) : _root_.Go.OpenSpec := { _root_.Go.OpenSpec.ofChange s with cond := some uptoSmall }

/-- 'bulletinlaw06.GlyphClean', WHERE WHAT IT READS IS OF BULK AT MOST 1048576: true; the input reads as it did. -/
def glyphCleanUptoRow : OpenClaim := { program := "ytlkppogpoodjlaadoor", sum := "8d1a8e3e2cfe7436bc7ee5b92d06699f26ecae52b8840a15fba8fdf81b9dda1c", func := "bulletin/bulletinlaw06.GlyphClean", spec := "glyphClean", inPlace := ["internal/abi.NoEscape"], named := ["unicode/utf8.first", "unicode/utf8.acceptRanges"], apart := false, laid := [("unicode/utf8.acceptRanges", laid_unicode_utf8_acceptRanges), ("unicode/utf8.first", laid_unicode_utf8_first)], narrowed := true }
def GlyphCleanUptoSaid : Prop := glyphCleanUptoRow.holds Tryd.pinned (OpenSpec.upto glyphCleanSpec)

/-- 'bulletinlaw06.GlyphCounts', WHERE WHAT IT READS IS OF BULK AT MOST 1048576: true; the input reads as it did. -/
def glyphCountsUptoRow : OpenClaim := { program := "ytlkppogpoodjlaadoor", sum := "8d1a8e3e2cfe7436bc7ee5b92d06699f26ecae52b8840a15fba8fdf81b9dda1c", func := "bulletin/bulletinlaw06.GlyphCounts", spec := "glyphCounts", inPlace := ["internal/abi.NoEscape"], named := ["unicode/utf8.first", "unicode/utf8.acceptRanges"], apart := false, laid := [("unicode/utf8.acceptRanges", laid_unicode_utf8_acceptRanges), ("unicode/utf8.first", laid_unicode_utf8_first)], narrowed := true }
def GlyphCountsUptoSaid : Prop := glyphCountsUptoRow.holds Tryd.pinned (OpenSpec.upto glyphCountsSpec)

/-- 'bulletinlaw06.GlyphTurns', WHERE WHAT IT READS IS OF BULK AT MOST 1048576: true; the input reads as it did. -/
def glyphTurnsUptoRow : OpenClaim := { program := "ytlkppogpoodjlaadoor", sum := "8d1a8e3e2cfe7436bc7ee5b92d06699f26ecae52b8840a15fba8fdf81b9dda1c", func := "bulletin/bulletinlaw06.GlyphTurns", spec := "glyphTurns", inPlace := ["internal/abi.NoEscape"], unfollowed := true, recurses := true, named := ["unicode/utf8.first", "unicode/utf8.acceptRanges"], apart := false, laid := [("unicode/utf8.acceptRanges", laid_unicode_utf8_acceptRanges), ("unicode/utf8.first", laid_unicode_utf8_first)], narrowed := true }
def GlyphTurnsUptoSaid : Prop := glyphTurnsUptoRow.holds Tryd.pinned (OpenSpec.upto glyphTurnsSpec)

/-- 'bulletinlaw06.GlyphClips', WHERE WHAT IT READS IS OF BULK AT MOST 1048576: true; the input reads as it did. -/
def glyphClipsUptoRow : OpenClaim := { program := "ytlkppogpoodjlaadoor", sum := "8d1a8e3e2cfe7436bc7ee5b92d06699f26ecae52b8840a15fba8fdf81b9dda1c", func := "bulletin/bulletinlaw06.GlyphClips", spec := "glyphClips", inPlace := ["internal/abi.NoEscape"], unfollowed := true, recurses := true, named := ["unicode/utf8.first", "unicode/utf8.acceptRanges"], apart := false, laid := [("unicode/utf8.acceptRanges", laid_unicode_utf8_acceptRanges), ("unicode/utf8.first", laid_unicode_utf8_first)], narrowed := true }
def GlyphClipsUptoSaid : Prop := glyphClipsUptoRow.holds Tryd.pinned (OpenSpec.upto glyphClipsSpec)

end Rows
end Go.Proofs.YtlkppogpoodjlaaDoor
