/-
  NARROWER THAN 'FOR EVERY INPUT', by the rows' own cells (each row's printed sentence says how): VerpReads: laid · VerpMembers: laid · VerpBack: laid · VerpAgain: laid · VerpOne: laid.
  DERIVED. THE GIVEN ROWS OF THIS SEAT. 5 by the template 'for every input the law returns true; each argument reads behind the call as it read before'; 0 by the template 'total and deterministic' (their statements: YthckkikfldgphaaDoorTotals.lean).
  GIVEN WITH THE SEED: the statements are not yours to turn. If you find one false, say at which input.
  Laid BY PROGRAM, IN A SANDBOX (cutbox-rows.mjs): the forced cells as the released guide's own fill.sh prints them over the translation 6a5f2836f4d41b1c… (all of the seat's roots in one cut). By AI agents, Wed Nov 11 2026. No macro, syntax, notation, axiom, sorry.
-/
import Derived.Test.YthckkikfldgphaaDoorChecked
import GoSem.PinnedTables
import GoSem.Claim
import GoSem.ClaimJoined
import GoSem.ClaimMapViews
import Derived.JoinedTies
import Derived.KernelRfl
namespace Go.Proofs.YthckkikfldgphaaDoor
/- THE CELL 'sum', in the pinned program and in every row, IS THE sha256 OF THE DUMP (.gsa) THAT YthckkikfldgphaaDoorProg.lean LOADS. Nothing in Lean hashes anything: it is a label: what it is worth is what the hold of that sum in a sandbox is worth. -/
noncomputable def Tryd.pinned : Pinned := { name := "ythckkikfldgphaadoor", sum := "6a5f2836f4d41b1cd2f030aa575855847d8de45eaa8afa0558c3d92fe0e0da0e", checked := Tryd.checked }
namespace Rows
def none {H : Type} : Left H := { results := [], args := [] }

/- WHAT THE LISTED PACKAGE-LEVEL VARIABLES READ AS WHEN THE CALL BEGINS. Each datum BY PROGRAM (the guide's laid-datum.mjs) off the statement by which the dump's own 'gosem.cut.vars' lays the variable. In a bare row this is a premise. The card (YthckkikfldgphaaDoorCards.lean) ties it to the program's text. -/
def laid_unicode_utf8_acceptRanges {H : Type} : DataW H := .agg [.agg [.lit (.int .u8 128), .lit (.int .u8 191)], .agg [.lit (.int .u8 160), .lit (.int .u8 191)], .agg [.lit (.int .u8 128), .lit (.int .u8 159)], .agg [.lit (.int .u8 144), .lit (.int .u8 191)], .agg [.lit (.int .u8 128), .lit (.int .u8 143)], .agg [.lit (.int .u8 0), .lit (.int .u8 0)], .agg [.lit (.int .u8 0), .lit (.int .u8 0)], .agg [.lit (.int .u8 0), .lit (.int .u8 0)], .agg [.lit (.int .u8 0), .lit (.int .u8 0)], .agg [.lit (.int .u8 0), .lit (.int .u8 0)], .agg [.lit (.int .u8 0), .lit (.int .u8 0)], .agg [.lit (.int .u8 0), .lit (.int .u8 0)], .agg [.lit (.int .u8 0), .lit (.int .u8 0)], .agg [.lit (.int .u8 0), .lit (.int .u8 0)], .agg [.lit (.int .u8 0), .lit (.int .u8 0)], .agg [.lit (.int .u8 0), .lit (.int .u8 0)]]
/-- One of Go's own tables, pinned by name: the form's constant. -/
def laid_unicode_utf8_first : DataW Unit := Go.Pinned.utf8First

/-- 'bulletinlaw24.VerpReads': WHATEVER THE INPUT: true; the input reads as it did. -/
def verpReadsSpec : ChangeSpec := { name := "verpReads", fn := fun _ => fun
  | [d1, d2, d3, d4] => { results := [.lit (.bool true)], args := [d1, d2, d3, d4] }
  | _ => none }
def verpReadsRow : OpenClaim := { program := "ythckkikfldgphaadoor", sum := "6a5f2836f4d41b1cd2f030aa575855847d8de45eaa8afa0558c3d92fe0e0da0e", func := "bulletin/bulletinlaw24.VerpReads", spec := "verpReads", inPlace := ["internal/abi.NoEscape", "internal/bytealg.IndexByteString", "internal/bytealg.IndexString"], unfollowed := true, recurses := true, named := ["unicode/utf8.first", "unicode/utf8.acceptRanges", "internal/bytealg.MaxLen"], apart := false, laid := [("unicode/utf8.acceptRanges", laid_unicode_utf8_acceptRanges), ("unicode/utf8.first", laid_unicode_utf8_first)] }
def VerpReadsSaid : Prop := verpReadsRow.holds Tryd.pinned (OpenSpec.ofChange verpReadsSpec)

/-- ITS FALSE NEIGHBOUR: 'it returns false'. Refute it at one input. -/
def verpReadsWrong : ChangeSpec := { name := "verpReads", fn := fun _ => fun
  | [d1, d2, d3, d4] => { results := [.lit (.bool false)], args := [d1, d2, d3, d4] }
  | _ => none }
def VerpReadsWrongFalsely : Prop := verpReadsRow.holds Tryd.pinned (OpenSpec.ofChange verpReadsWrong)

/-- 'bulletinlaw24.VerpMembers': WHATEVER THE INPUT: true; the input reads as it did. -/
def verpMembersSpec : ChangeSpec := { name := "verpMembers", fn := fun _ => fun
  | [d1, d2, d3, d4] => { results := [.lit (.bool true)], args := [d1, d2, d3, d4] }
  | _ => none }
def verpMembersRow : OpenClaim := { program := "ythckkikfldgphaadoor", sum := "6a5f2836f4d41b1cd2f030aa575855847d8de45eaa8afa0558c3d92fe0e0da0e", func := "bulletin/bulletinlaw24.VerpMembers", spec := "verpMembers", inPlace := ["internal/abi.NoEscape", "internal/bytealg.IndexByteString", "internal/bytealg.IndexString"], unfollowed := true, recurses := true, named := ["unicode/utf8.first", "unicode/utf8.acceptRanges", "internal/bytealg.MaxLen"], apart := false, laid := [("unicode/utf8.acceptRanges", laid_unicode_utf8_acceptRanges), ("unicode/utf8.first", laid_unicode_utf8_first)] }
def VerpMembersSaid : Prop := verpMembersRow.holds Tryd.pinned (OpenSpec.ofChange verpMembersSpec)

/-- ITS FALSE NEIGHBOUR: 'it returns false'. Refute it at one input. -/
def verpMembersWrong : ChangeSpec := { name := "verpMembers", fn := fun _ => fun
  | [d1, d2, d3, d4] => { results := [.lit (.bool false)], args := [d1, d2, d3, d4] }
  | _ => none }
def VerpMembersWrongFalsely : Prop := verpMembersRow.holds Tryd.pinned (OpenSpec.ofChange verpMembersWrong)

/-- 'bulletinlaw24.VerpBack': WHATEVER THE INPUT: true; the input reads as it did. -/
def verpBackSpec : ChangeSpec := { name := "verpBack", fn := fun _ => fun
  | [d1, d2, d3, d4] => { results := [.lit (.bool true)], args := [d1, d2, d3, d4] }
  | _ => none }
def verpBackRow : OpenClaim := { program := "ythckkikfldgphaadoor", sum := "6a5f2836f4d41b1cd2f030aa575855847d8de45eaa8afa0558c3d92fe0e0da0e", func := "bulletin/bulletinlaw24.VerpBack", spec := "verpBack", inPlace := ["internal/abi.NoEscape", "internal/bytealg.IndexByteString", "internal/bytealg.IndexString"], unfollowed := true, recurses := true, named := ["unicode/utf8.first", "unicode/utf8.acceptRanges", "internal/bytealg.MaxLen"], apart := false, laid := [("unicode/utf8.acceptRanges", laid_unicode_utf8_acceptRanges), ("unicode/utf8.first", laid_unicode_utf8_first)] }
def VerpBackSaid : Prop := verpBackRow.holds Tryd.pinned (OpenSpec.ofChange verpBackSpec)

/-- ITS FALSE NEIGHBOUR: 'it returns false'. Refute it at one input. -/
def verpBackWrong : ChangeSpec := { name := "verpBack", fn := fun _ => fun
  | [d1, d2, d3, d4] => { results := [.lit (.bool false)], args := [d1, d2, d3, d4] }
  | _ => none }
def VerpBackWrongFalsely : Prop := verpBackRow.holds Tryd.pinned (OpenSpec.ofChange verpBackWrong)

/-- 'bulletinlaw24.VerpAgain': WHATEVER THE INPUT: true; the input reads as it did. -/
def verpAgainSpec : ChangeSpec := { name := "verpAgain", fn := fun _ => fun
  | [d1, d2, d3] => { results := [.lit (.bool true)], args := [d1, d2, d3] }
  | _ => none }
def verpAgainRow : OpenClaim := { program := "ythckkikfldgphaadoor", sum := "6a5f2836f4d41b1cd2f030aa575855847d8de45eaa8afa0558c3d92fe0e0da0e", func := "bulletin/bulletinlaw24.VerpAgain", spec := "verpAgain", inPlace := ["internal/abi.NoEscape", "internal/bytealg.IndexByteString", "internal/bytealg.IndexString"], unfollowed := true, recurses := true, named := ["unicode/utf8.first", "unicode/utf8.acceptRanges", "internal/bytealg.MaxLen"], apart := false, laid := [("unicode/utf8.acceptRanges", laid_unicode_utf8_acceptRanges), ("unicode/utf8.first", laid_unicode_utf8_first)] }
def VerpAgainSaid : Prop := verpAgainRow.holds Tryd.pinned (OpenSpec.ofChange verpAgainSpec)

/-- ITS FALSE NEIGHBOUR: 'it returns false'. Refute it at one input. -/
def verpAgainWrong : ChangeSpec := { name := "verpAgain", fn := fun _ => fun
  | [d1, d2, d3] => { results := [.lit (.bool false)], args := [d1, d2, d3] }
  | _ => none }
def VerpAgainWrongFalsely : Prop := verpAgainRow.holds Tryd.pinned (OpenSpec.ofChange verpAgainWrong)

/-- 'bulletinlaw24.VerpOne': WHATEVER THE INPUT: true; the input reads as it did. -/
def verpOneSpec : ChangeSpec := { name := "verpOne", fn := fun _ => fun
  | [d1, d2, d3] => { results := [.lit (.bool true)], args := [d1, d2, d3] }
  | _ => none }
def verpOneRow : OpenClaim := { program := "ythckkikfldgphaadoor", sum := "6a5f2836f4d41b1cd2f030aa575855847d8de45eaa8afa0558c3d92fe0e0da0e", func := "bulletin/bulletinlaw24.VerpOne", spec := "verpOne", inPlace := ["internal/abi.NoEscape", "internal/bytealg.IndexByteString", "internal/bytealg.IndexString"], unfollowed := true, recurses := true, named := ["unicode/utf8.first", "unicode/utf8.acceptRanges", "internal/bytealg.MaxLen"], apart := false, laid := [("unicode/utf8.acceptRanges", laid_unicode_utf8_acceptRanges), ("unicode/utf8.first", laid_unicode_utf8_first)] }
def VerpOneSaid : Prop := verpOneRow.holds Tryd.pinned (OpenSpec.ofChange verpOneSpec)

/-- ITS FALSE NEIGHBOUR: 'it returns false'. Refute it at one input. -/
def verpOneWrong : ChangeSpec := { name := "verpOne", fn := fun _ => fun
  | [d1, d2, d3] => { results := [.lit (.bool false)], args := [d1, d2, d3] }
  | _ => none }
def VerpOneWrongFalsely : Prop := verpOneRow.holds Tryd.pinned (OpenSpec.ofChange verpOneWrong)

/- THE SECOND FORM. 'bulk': how many values and letters a reading holds, each counted each time it is reached (what is shared counts as often as it is met; a slice's spare places count too). A statement '..UptoSaid' is the law's where the arguments, and the package variables that the reading takes, are together of bulk at most 1048576: NARROWER than '..Said'. Prove '..Said' where nothing that the law and all that it calls make is longer than what came in: it says more and counts as full. Else prove '..UptoSaid'. A law counts once. -/
mutual
def uptoBulk {H : Type} : DataW H → Nat
  | .lit (.string bytes) => bytes.length + 1
  | .lit _ => 1
  | .nil => 1
  | .ptr d => uptoBulk d + 1
  | .slice elems spare => uptoBulkAll elems + uptoBulkAll spare + 1
  | .agg parts => uptoBulkAll parts + 1
  | .iface _ d => uptoBulk d + 1
  | .map entries => uptoBulkEntries entries + 1
  | .held _ => 1
def uptoBulkAll {H : Type} : List (DataW H) → Nat
  | [] => 0
  | d :: r => uptoBulk d + uptoBulkAll r
def uptoBulkEntries {H : Type} : List (Lit × DataW H) → Nat
  | [] => 0
  | x :: r => uptoBulkEntry x + uptoBulkEntries r
def uptoBulkEntry {H : Type} : Lit × DataW H → Nat
  | (.string bytes, d) => bytes.length + uptoBulk d + 1
  | (_, d) => uptoBulk d + 1
 end
def uptoSmall : (H : Type) → List (DataW H) → Bool := fun _ ds => decide (uptoBulkAll ds ≤ 1048576)
def OpenSpec.upto (s : _root_.Go.ChangeSpec) : _root_.Go.OpenSpec := { _root_.Go.OpenSpec.ofChange s with cond := some uptoSmall }

/-- 'bulletinlaw24.VerpReads', WHERE WHAT IT READS IS OF BULK AT MOST 1048576: true; the input reads as it did. -/
def verpReadsUptoRow : OpenClaim := { program := "ythckkikfldgphaadoor", sum := "6a5f2836f4d41b1cd2f030aa575855847d8de45eaa8afa0558c3d92fe0e0da0e", func := "bulletin/bulletinlaw24.VerpReads", spec := "verpReads", inPlace := ["internal/abi.NoEscape", "internal/bytealg.IndexByteString", "internal/bytealg.IndexString"], unfollowed := true, recurses := true, named := ["unicode/utf8.first", "unicode/utf8.acceptRanges", "internal/bytealg.MaxLen"], apart := false, laid := [("unicode/utf8.acceptRanges", laid_unicode_utf8_acceptRanges), ("unicode/utf8.first", laid_unicode_utf8_first)], narrowed := true }
def VerpReadsUptoSaid : Prop := verpReadsUptoRow.holds Tryd.pinned (OpenSpec.upto verpReadsSpec)

/-- 'bulletinlaw24.VerpMembers', WHERE WHAT IT READS IS OF BULK AT MOST 1048576: true; the input reads as it did. -/
def verpMembersUptoRow : OpenClaim := { program := "ythckkikfldgphaadoor", sum := "6a5f2836f4d41b1cd2f030aa575855847d8de45eaa8afa0558c3d92fe0e0da0e", func := "bulletin/bulletinlaw24.VerpMembers", spec := "verpMembers", inPlace := ["internal/abi.NoEscape", "internal/bytealg.IndexByteString", "internal/bytealg.IndexString"], unfollowed := true, recurses := true, named := ["unicode/utf8.first", "unicode/utf8.acceptRanges", "internal/bytealg.MaxLen"], apart := false, laid := [("unicode/utf8.acceptRanges", laid_unicode_utf8_acceptRanges), ("unicode/utf8.first", laid_unicode_utf8_first)], narrowed := true }
def VerpMembersUptoSaid : Prop := verpMembersUptoRow.holds Tryd.pinned (OpenSpec.upto verpMembersSpec)

/-- 'bulletinlaw24.VerpBack', WHERE WHAT IT READS IS OF BULK AT MOST 1048576: true; the input reads as it did. -/
def verpBackUptoRow : OpenClaim := { program := "ythckkikfldgphaadoor", sum := "6a5f2836f4d41b1cd2f030aa575855847d8de45eaa8afa0558c3d92fe0e0da0e", func := "bulletin/bulletinlaw24.VerpBack", spec := "verpBack", inPlace := ["internal/abi.NoEscape", "internal/bytealg.IndexByteString", "internal/bytealg.IndexString"], unfollowed := true, recurses := true, named := ["unicode/utf8.first", "unicode/utf8.acceptRanges", "internal/bytealg.MaxLen"], apart := false, laid := [("unicode/utf8.acceptRanges", laid_unicode_utf8_acceptRanges), ("unicode/utf8.first", laid_unicode_utf8_first)], narrowed := true }
def VerpBackUptoSaid : Prop := verpBackUptoRow.holds Tryd.pinned (OpenSpec.upto verpBackSpec)

/-- 'bulletinlaw24.VerpAgain', WHERE WHAT IT READS IS OF BULK AT MOST 1048576: true; the input reads as it did. -/
def verpAgainUptoRow : OpenClaim := { program := "ythckkikfldgphaadoor", sum := "6a5f2836f4d41b1cd2f030aa575855847d8de45eaa8afa0558c3d92fe0e0da0e", func := "bulletin/bulletinlaw24.VerpAgain", spec := "verpAgain", inPlace := ["internal/abi.NoEscape", "internal/bytealg.IndexByteString", "internal/bytealg.IndexString"], unfollowed := true, recurses := true, named := ["unicode/utf8.first", "unicode/utf8.acceptRanges", "internal/bytealg.MaxLen"], apart := false, laid := [("unicode/utf8.acceptRanges", laid_unicode_utf8_acceptRanges), ("unicode/utf8.first", laid_unicode_utf8_first)], narrowed := true }
def VerpAgainUptoSaid : Prop := verpAgainUptoRow.holds Tryd.pinned (OpenSpec.upto verpAgainSpec)

/-- 'bulletinlaw24.VerpOne', WHERE WHAT IT READS IS OF BULK AT MOST 1048576: true; the input reads as it did. -/
def verpOneUptoRow : OpenClaim := { program := "ythckkikfldgphaadoor", sum := "6a5f2836f4d41b1cd2f030aa575855847d8de45eaa8afa0558c3d92fe0e0da0e", func := "bulletin/bulletinlaw24.VerpOne", spec := "verpOne", inPlace := ["internal/abi.NoEscape", "internal/bytealg.IndexByteString", "internal/bytealg.IndexString"], unfollowed := true, recurses := true, named := ["unicode/utf8.first", "unicode/utf8.acceptRanges", "internal/bytealg.MaxLen"], apart := false, laid := [("unicode/utf8.acceptRanges", laid_unicode_utf8_acceptRanges), ("unicode/utf8.first", laid_unicode_utf8_first)], narrowed := true }
def VerpOneUptoSaid : Prop := verpOneUptoRow.holds Tryd.pinned (OpenSpec.upto verpOneSpec)

end Rows
end Go.Proofs.YthckkikfldgphaaDoor
