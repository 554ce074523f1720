/-
  No cell of these rows narrows 'for every input' (looked for: loops, veiled, ifaces, maps, wideKeys, modest, calm, conditions, laid).
  DERIVED. THE GIVEN ROWS OF THIS SEAT. 4 by the template 'for every input the law returns true; each argument reads behind the call as it read before'; 0 by the template 'total and deterministic' (their statements: YtpkmbbmipoecpaaTotals.lean).
  GIVEN WITH THE SEED: the statements are not yours to turn. If you find one false, say at which input.
  Laid BY PROGRAM, IN A SANDBOX (cutbox-rows.mjs): the forced cells as the released guide's own fill.sh prints them over the translation 4dd234e699a93b00… (all of the seat's roots in one cut). By AI agents, Wed Nov 11 2026. No macro, syntax, notation, axiom, sorry.
-/
import Derived.Test.YtpkmbbmipoecpaaChecked
import GoSem.Claim
import GoSem.ClaimJoined
import GoSem.ClaimMapViews
import Derived.JoinedTies
import Derived.KernelRfl
namespace Go.Proofs.Ytpkmbbmipoecpaa
/- THE CELL 'sum', in the pinned program and in every row, IS THE sha256 OF THE DUMP (.gsa) THAT YtpkmbbmipoecpaaProg.lean LOADS. Nothing in Lean hashes anything: it is a label: what it is worth is what the hold of that sum in a sandbox is worth. -/
noncomputable def Try.pinned : Pinned := { name := "ytpkmbbmipoecpaa", sum := "4dd234e699a93b00e25e7c87c54617acd7b86158825a5d0ae308682c00c9d0c6", checked := Try.checked }
namespace Rows
def none {H : Type} : Left H := { results := [], args := [] }

/-- 'bulletinlaw01.NetsTakes': WHATEVER THE INPUT: true; the input reads as it did. -/
def netsTakesSpec : ChangeSpec := { name := "netsTakes", fn := fun _ => fun
  | [d1, d2] => { results := [.lit (.bool true)], args := [d1, d2] }
  | _ => none }
def netsTakesRow : OpenClaim := { program := "ytpkmbbmipoecpaa", sum := "4dd234e699a93b00e25e7c87c54617acd7b86158825a5d0ae308682c00c9d0c6", func := "bulletin/bulletinlaw01.NetsTakes", spec := "netsTakes", inPlace := ["internal/abi.NoEscape"], recurses := true, apart := false }
def NetsTakesSaid : Prop := netsTakesRow.holds Try.pinned (OpenSpec.ofChange netsTakesSpec)

/-- ITS FALSE NEIGHBOUR: 'it returns false'. Refute it at one input. -/
def netsTakesWrong : ChangeSpec := { name := "netsTakes", fn := fun _ => fun
  | [d1, d2] => { results := [.lit (.bool false)], args := [d1, d2] }
  | _ => none }
def NetsTakesWrongFalsely : Prop := netsTakesRow.holds Try.pinned (OpenSpec.ofChange netsTakesWrong)

/-- 'bulletinlaw01.NetsBack': WHATEVER THE INPUT: true; the input reads as it did. -/
def netsBackSpec : ChangeSpec := { name := "netsBack", fn := fun _ => fun
  | [d1, d2] => { results := [.lit (.bool true)], args := [d1, d2] }
  | _ => none }
def netsBackRow : OpenClaim := { program := "ytpkmbbmipoecpaa", sum := "4dd234e699a93b00e25e7c87c54617acd7b86158825a5d0ae308682c00c9d0c6", func := "bulletin/bulletinlaw01.NetsBack", spec := "netsBack", inPlace := ["internal/abi.NoEscape"], recurses := true, apart := false }
def NetsBackSaid : Prop := netsBackRow.holds Try.pinned (OpenSpec.ofChange netsBackSpec)

/-- ITS FALSE NEIGHBOUR: 'it returns false'. Refute it at one input. -/
def netsBackWrong : ChangeSpec := { name := "netsBack", fn := fun _ => fun
  | [d1, d2] => { results := [.lit (.bool false)], args := [d1, d2] }
  | _ => none }
def NetsBackWrongFalsely : Prop := netsBackRow.holds Try.pinned (OpenSpec.ofChange netsBackWrong)

/-- 'bulletinlaw01.NetsApart': WHATEVER THE INPUT: true; the input reads as it did. -/
def netsApartSpec : ChangeSpec := { name := "netsApart", fn := fun _ => fun
  | [d1, d2, d3] => { results := [.lit (.bool true)], args := [d1, d2, d3] }
  | _ => none }
def netsApartRow : OpenClaim := { program := "ytpkmbbmipoecpaa", sum := "4dd234e699a93b00e25e7c87c54617acd7b86158825a5d0ae308682c00c9d0c6", func := "bulletin/bulletinlaw01.NetsApart", spec := "netsApart", inPlace := ["internal/abi.NoEscape"], recurses := true, apart := false }
def NetsApartSaid : Prop := netsApartRow.holds Try.pinned (OpenSpec.ofChange netsApartSpec)

/-- ITS FALSE NEIGHBOUR: 'it returns false'. Refute it at one input. -/
def netsApartWrong : ChangeSpec := { name := "netsApart", fn := fun _ => fun
  | [d1, d2, d3] => { results := [.lit (.bool false)], args := [d1, d2, d3] }
  | _ => none }
def NetsApartWrongFalsely : Prop := netsApartRow.holds Try.pinned (OpenSpec.ofChange netsApartWrong)

/-- 'bulletinlaw01.NetsRows': WHATEVER THE INPUT: true; the input reads as it did. -/
def netsRowsSpec : ChangeSpec := { name := "netsRows", fn := fun _ => fun
  | [d1, d2, d3] => { results := [.lit (.bool true)], args := [d1, d2, d3] }
  | _ => none }
def netsRowsRow : OpenClaim := { program := "ytpkmbbmipoecpaa", sum := "4dd234e699a93b00e25e7c87c54617acd7b86158825a5d0ae308682c00c9d0c6", func := "bulletin/bulletinlaw01.NetsRows", spec := "netsRows", inPlace := ["internal/abi.NoEscape"], recurses := true, apart := false }
def NetsRowsSaid : Prop := netsRowsRow.holds Try.pinned (OpenSpec.ofChange netsRowsSpec)

/-- ITS FALSE NEIGHBOUR: 'it returns false'. Refute it at one input. -/
def netsRowsWrong : ChangeSpec := { name := "netsRows", fn := fun _ => fun
  | [d1, d2, d3] => { results := [.lit (.bool false)], args := [d1, d2, d3] }
  | _ => none }
def NetsRowsWrongFalsely : Prop := netsRowsRow.holds Try.pinned (OpenSpec.ofChange netsRowsWrong)

/- THE SECOND FORM. 'bulk': how many values and letters a reading holds, each counted each time it is reached (what is shared counts as often as it is met; a slice's spare places count too). A statement '..UptoSaid' is the law's where the arguments, and the package variables that the reading takes, are together of bulk at most 1048576: NARROWER than '..Said'. Prove '..Said' where nothing that the law and all that it calls make is longer than what came in: it says more and counts as full. Else prove '..UptoSaid'. A law counts once. -/
mutual
def uptoBulk {H : Type} : DataW H → Nat
  | .lit (.string bytes) => bytes.length + 1
  | .lit _ => 1
  | .nil => 1
  | .ptr d => uptoBulk d + 1
  | .slice elems spare => uptoBulkAll elems + uptoBulkAll spare + 1
  | .agg parts => uptoBulkAll parts + 1
  | .iface _ d => uptoBulk d + 1
  | .map entries => uptoBulkEntries entries + 1
  | .held _ => 1
def uptoBulkAll {H : Type} : List (DataW H) → Nat
  | [] => 0
  | d :: r => uptoBulk d + uptoBulkAll r
def uptoBulkEntries {H : Type} : List (Lit × DataW H) → Nat
  | [] => 0
  | x :: r => uptoBulkEntry x + uptoBulkEntries r
def uptoBulkEntry {H : Type} : Lit × DataW H → Nat
  | (.string bytes, d) => bytes.length + uptoBulk d + 1
  | (_, d) => uptoBulk d + 1
 end
def uptoSmall : (H : Type) → List (DataW H) → Bool := fun _ ds => decide (uptoBulkAll ds ≤ 1048576)
def OpenSpec.upto (s : _root_.Go.ChangeSpec) : _root_.Go.OpenSpec := { _root_.Go.OpenSpec.ofChange s with cond := some uptoSmall }

/-- 'bulletinlaw01.NetsTakes', WHERE WHAT IT READS IS OF BULK AT MOST 1048576: true; the input reads as it did. -/
def netsTakesUptoRow : OpenClaim := { program := "ytpkmbbmipoecpaa", sum := "4dd234e699a93b00e25e7c87c54617acd7b86158825a5d0ae308682c00c9d0c6", func := "bulletin/bulletinlaw01.NetsTakes", spec := "netsTakes", inPlace := ["internal/abi.NoEscape"], recurses := true, apart := false, narrowed := true }
def NetsTakesUptoSaid : Prop := netsTakesUptoRow.holds Try.pinned (OpenSpec.upto netsTakesSpec)

/-- 'bulletinlaw01.NetsBack', WHERE WHAT IT READS IS OF BULK AT MOST 1048576: true; the input reads as it did. -/
def netsBackUptoRow : OpenClaim := { program := "ytpkmbbmipoecpaa", sum := "4dd234e699a93b00e25e7c87c54617acd7b86158825a5d0ae308682c00c9d0c6", func := "bulletin/bulletinlaw01.NetsBack", spec := "netsBack", inPlace := ["internal/abi.NoEscape"], recurses := true, apart := false, narrowed := true }
def NetsBackUptoSaid : Prop := netsBackUptoRow.holds Try.pinned (OpenSpec.upto netsBackSpec)

/-- 'bulletinlaw01.NetsApart', WHERE WHAT IT READS IS OF BULK AT MOST 1048576: true; the input reads as it did. -/
def netsApartUptoRow : OpenClaim := { program := "ytpkmbbmipoecpaa", sum := "4dd234e699a93b00e25e7c87c54617acd7b86158825a5d0ae308682c00c9d0c6", func := "bulletin/bulletinlaw01.NetsApart", spec := "netsApart", inPlace := ["internal/abi.NoEscape"], recurses := true, apart := false, narrowed := true }
def NetsApartUptoSaid : Prop := netsApartUptoRow.holds Try.pinned (OpenSpec.upto netsApartSpec)

/-- 'bulletinlaw01.NetsRows', WHERE WHAT IT READS IS OF BULK AT MOST 1048576: true; the input reads as it did. -/
def netsRowsUptoRow : OpenClaim := { program := "ytpkmbbmipoecpaa", sum := "4dd234e699a93b00e25e7c87c54617acd7b86158825a5d0ae308682c00c9d0c6", func := "bulletin/bulletinlaw01.NetsRows", spec := "netsRows", inPlace := ["internal/abi.NoEscape"], recurses := true, apart := false, narrowed := true }
def NetsRowsUptoSaid : Prop := netsRowsUptoRow.holds Try.pinned (OpenSpec.upto netsRowsSpec)

end Rows
end Go.Proofs.Ytpkmbbmipoecpaa
