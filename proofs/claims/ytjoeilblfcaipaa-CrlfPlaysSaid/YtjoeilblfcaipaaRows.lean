/-
  No cell of these rows narrows 'for every input' (looked for: loops, veiled, ifaces, maps, wideKeys, modest, calm, conditions, laid).
  DERIVED. THE GIVEN ROWS OF THIS SEAT. 4 by the template 'for every input the law returns true; each argument reads behind the call as it read before'; 0 by the template 'total and deterministic' (their statements: YtjoeilblfcaipaaTotals.lean).
  GIVEN WITH THE SEED: the statements are not yours to turn. If you find one false, say at which input.
  Laid BY PROGRAM, IN A SANDBOX (cutbox-rows.mjs): the forced cells as the released guide's own fill.sh prints them over the translation 7bf1f2aa4fb8297f… (all of the seat's roots in one cut). By AI agents, Wed Nov 11 2026. No macro, syntax, notation, axiom, sorry.
-/
import Derived.Test.YtjoeilblfcaipaaChecked
import GoSem.Claim
import GoSem.ClaimJoined
import GoSem.ClaimMapViews
import Derived.JoinedTies
import Derived.KernelRfl
namespace Go.Proofs.Ytjoeilblfcaipaa
/- THE CELL 'sum', in the pinned program and in every row, IS THE sha256 OF THE DUMP (.gsa) THAT YtjoeilblfcaipaaProg.lean LOADS. Nothing in Lean hashes anything: it is a label: what it is worth is what the hold of that sum in a sandbox is worth. -/
noncomputable def Try.pinned : Pinned := { name := "ytjoeilblfcaipaa", sum := "7bf1f2aa4fb8297fe443dcbd96f418388928b863202f3e7070f5a8be58ade4e8", checked := Try.checked }
namespace Rows
def none {H : Type} : Left H := { results := [], args := [] }

/-- 'bulletinlaw26.CrlfPlays': WHATEVER THE INPUT: true; the input reads as it did. -/
def crlfPlaysSpec : ChangeSpec := { name := "crlfPlays", fn := fun _ => fun
  | [d1, d2] => { results := [.lit (.bool true)], args := [d1, d2] }
  | _ => none }
def crlfPlaysRow : OpenClaim := { program := "ytjoeilblfcaipaa", sum := "7bf1f2aa4fb8297fe443dcbd96f418388928b863202f3e7070f5a8be58ade4e8", func := "bulletin/bulletinlaw26.CrlfPlays", spec := "crlfPlays", apart := false }
def CrlfPlaysSaid : Prop := crlfPlaysRow.holds Try.pinned (OpenSpec.ofChange crlfPlaysSpec)

/-- ITS FALSE NEIGHBOUR: 'it returns false'. Refute it at one input. -/
def crlfPlaysWrong : ChangeSpec := { name := "crlfPlays", fn := fun _ => fun
  | [d1, d2] => { results := [.lit (.bool false)], args := [d1, d2] }
  | _ => none }
def CrlfPlaysWrongFalsely : Prop := crlfPlaysRow.holds Try.pinned (OpenSpec.ofChange crlfPlaysWrong)

/-- 'bulletinlaw26.CrlfLong': WHATEVER THE INPUT: true; the input reads as it did. -/
def crlfLongSpec : ChangeSpec := { name := "crlfLong", fn := fun _ => fun
  | [d1, d2, d3] => { results := [.lit (.bool true)], args := [d1, d2, d3] }
  | _ => none }
def crlfLongRow : OpenClaim := { program := "ytjoeilblfcaipaa", sum := "7bf1f2aa4fb8297fe443dcbd96f418388928b863202f3e7070f5a8be58ade4e8", func := "bulletin/bulletinlaw26.CrlfLong", spec := "crlfLong", apart := false }
def CrlfLongSaid : Prop := crlfLongRow.holds Try.pinned (OpenSpec.ofChange crlfLongSpec)

/-- ITS FALSE NEIGHBOUR: 'it returns false'. Refute it at one input. -/
def crlfLongWrong : ChangeSpec := { name := "crlfLong", fn := fun _ => fun
  | [d1, d2, d3] => { results := [.lit (.bool false)], args := [d1, d2, d3] }
  | _ => none }
def CrlfLongWrongFalsely : Prop := crlfLongRow.holds Try.pinned (OpenSpec.ofChange crlfLongWrong)

/-- 'bulletinlaw26.CrlfCuts': WHATEVER THE INPUT: true; the input reads as it did. -/
def crlfCutsSpec : ChangeSpec := { name := "crlfCuts", fn := fun _ => fun
  | [d1, d2] => { results := [.lit (.bool true)], args := [d1, d2] }
  | _ => none }
def crlfCutsRow : OpenClaim := { program := "ytjoeilblfcaipaa", sum := "7bf1f2aa4fb8297fe443dcbd96f418388928b863202f3e7070f5a8be58ade4e8", func := "bulletin/bulletinlaw26.CrlfCuts", spec := "crlfCuts", apart := false }
def CrlfCutsSaid : Prop := crlfCutsRow.holds Try.pinned (OpenSpec.ofChange crlfCutsSpec)

/-- ITS FALSE NEIGHBOUR: 'it returns false'. Refute it at one input. -/
def crlfCutsWrong : ChangeSpec := { name := "crlfCuts", fn := fun _ => fun
  | [d1, d2] => { results := [.lit (.bool false)], args := [d1, d2] }
  | _ => none }
def CrlfCutsWrongFalsely : Prop := crlfCutsRow.holds Try.pinned (OpenSpec.ofChange crlfCutsWrong)

/-- 'bulletinlaw26.CrlfBack': WHATEVER THE INPUT: true; the input reads as it did. -/
def crlfBackSpec : ChangeSpec := { name := "crlfBack", fn := fun _ => fun
  | [d] => { results := [.lit (.bool true)], args := [d] }
  | _ => none }
def crlfBackRow : OpenClaim := { program := "ytjoeilblfcaipaa", sum := "7bf1f2aa4fb8297fe443dcbd96f418388928b863202f3e7070f5a8be58ade4e8", func := "bulletin/bulletinlaw26.CrlfBack", spec := "crlfBack", apart := false }
def CrlfBackSaid : Prop := crlfBackRow.holds Try.pinned (OpenSpec.ofChange crlfBackSpec)

/-- ITS FALSE NEIGHBOUR: 'it returns false'. Refute it at one input. -/
def crlfBackWrong : ChangeSpec := { name := "crlfBack", fn := fun _ => fun
  | [d] => { results := [.lit (.bool false)], args := [d] }
  | _ => none }
def CrlfBackWrongFalsely : Prop := crlfBackRow.holds Try.pinned (OpenSpec.ofChange crlfBackWrong)

/- THE SECOND FORM. 'bulk': how many values and letters a reading holds, each counted each time it is reached (what is shared counts as often as it is met; a slice's spare places count too). A statement '..UptoSaid' is the law's where the arguments, and the package variables that the reading takes, are together of bulk at most 1048576: NARROWER than '..Said'. Prove '..Said' where nothing that the law and all that it calls make is longer than what came in: it says more and counts as full. Else prove '..UptoSaid'. A law counts once. -/
mutual
def uptoBulk {H : Type} : DataW H → Nat
  | .lit (.string bytes) => bytes.length + 1
  | .lit _ => 1
  | .nil => 1
  | .ptr d => uptoBulk d + 1
  | .slice elems spare => uptoBulkAll elems + uptoBulkAll spare + 1
  | .agg parts => uptoBulkAll parts + 1
  | .iface _ d => uptoBulk d + 1
  | .map entries => uptoBulkEntries entries + 1
  | .held _ => 1
def uptoBulkAll {H : Type} : List (DataW H) → Nat
  | [] => 0
  | d :: r => uptoBulk d + uptoBulkAll r
def uptoBulkEntries {H : Type} : List (Lit × DataW H) → Nat
  | [] => 0
  | x :: r => uptoBulkEntry x + uptoBulkEntries r
def uptoBulkEntry {H : Type} : Lit × DataW H → Nat
  | (.string bytes, d) => bytes.length + uptoBulk d + 1
  | (_, d) => uptoBulk d + 1
 end
def uptoSmall : (H : Type) → List (DataW H) → Bool := fun _ ds => decide (uptoBulkAll ds ≤ 1048576)
def OpenSpec.upto (s : _root_.Go.ChangeSpec) : _root_.Go.OpenSpec := { _root_.Go.OpenSpec.ofChange s with cond := some uptoSmall }

/-- 'bulletinlaw26.CrlfPlays', WHERE WHAT IT READS IS OF BULK AT MOST 1048576: true; the input reads as it did. -/
def crlfPlaysUptoRow : OpenClaim := { program := "ytjoeilblfcaipaa", sum := "7bf1f2aa4fb8297fe443dcbd96f418388928b863202f3e7070f5a8be58ade4e8", func := "bulletin/bulletinlaw26.CrlfPlays", spec := "crlfPlays", apart := false, narrowed := true }
def CrlfPlaysUptoSaid : Prop := crlfPlaysUptoRow.holds Try.pinned (OpenSpec.upto crlfPlaysSpec)

/-- 'bulletinlaw26.CrlfLong', WHERE WHAT IT READS IS OF BULK AT MOST 1048576: true; the input reads as it did. -/
def crlfLongUptoRow : OpenClaim := { program := "ytjoeilblfcaipaa", sum := "7bf1f2aa4fb8297fe443dcbd96f418388928b863202f3e7070f5a8be58ade4e8", func := "bulletin/bulletinlaw26.CrlfLong", spec := "crlfLong", apart := false, narrowed := true }
def CrlfLongUptoSaid : Prop := crlfLongUptoRow.holds Try.pinned (OpenSpec.upto crlfLongSpec)

/-- 'bulletinlaw26.CrlfCuts', WHERE WHAT IT READS IS OF BULK AT MOST 1048576: true; the input reads as it did. -/
def crlfCutsUptoRow : OpenClaim := { program := "ytjoeilblfcaipaa", sum := "7bf1f2aa4fb8297fe443dcbd96f418388928b863202f3e7070f5a8be58ade4e8", func := "bulletin/bulletinlaw26.CrlfCuts", spec := "crlfCuts", apart := false, narrowed := true }
def CrlfCutsUptoSaid : Prop := crlfCutsUptoRow.holds Try.pinned (OpenSpec.upto crlfCutsSpec)

/-- 'bulletinlaw26.CrlfBack', WHERE WHAT IT READS IS OF BULK AT MOST 1048576: true; the input reads as it did. -/
def crlfBackUptoRow : OpenClaim := { program := "ytjoeilblfcaipaa", sum := "7bf1f2aa4fb8297fe443dcbd96f418388928b863202f3e7070f5a8be58ade4e8", func := "bulletin/bulletinlaw26.CrlfBack", spec := "crlfBack", apart := false, narrowed := true }
def CrlfBackUptoSaid : Prop := crlfBackUptoRow.holds Try.pinned (OpenSpec.upto crlfBackSpec)

end Rows
end Go.Proofs.Ytjoeilblfcaipaa
