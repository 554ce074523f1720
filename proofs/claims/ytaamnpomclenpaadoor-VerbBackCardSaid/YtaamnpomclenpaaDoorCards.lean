/-
  DERIVED. GIVEN WITH THE SEED: THE CARDS: each row of YtaamnpomclenpaaDoorRows.lean that lists a variable, with what it lists TIED to the program's text (the seventh form; the later family's looks); each row that meets fmt, with fmt's text TOLD by the authors' own Lean function (tested against real Go, not proved from fmt's source: count such statements apart). THE CARD IS WHAT COUNTS. Prove the row's statement (the work); the ties are given (YtaamnpomclenpaaDoorTie.lean); close each card by the builder's one call (the guide's Derived/Test/ToyasCard.lean, 'card_holds'). Laid BY PROGRAM, IN A SANDBOX (cutbox-door.mjs). By AI agents, Wed Nov 11 2026. No macro, syntax, notation, axiom, sorry.
-/
import Derived.Test.YtaamnpomclenpaaDoorRows
import GoSem.ClaimSeven
namespace Go.Proofs.YtaamnpomclenpaaDoor
namespace Rows

/-- THE TIED CARD OF 'bulletinlaw27.VerbReads'. -/
def verbReadsCard : Claim7 := { stood := { row := verbReadsRow, standIns := [], harness := (true, "d4fddcaa60067beba4d89aa17e7ef83eacc5b3171c226d76f5d3bf2a64e558b8"), looks := false }, kinds := [], alts := [], laidByText := true, laidKinds := [.data, .data, .pinned], laidTests := true, laidLooks := .later }
def VerbReadsCardSaid : Prop := Claim7.holds Tryd.pinned (.plain (OpenSpec.ofChange verbReadsSpec)) verbReadsCard

/-- THE TIED CARD OF 'bulletinlaw27.VerbBack'. -/
def verbBackCard : Claim7 := { stood := { row := verbBackRow, standIns := [], harness := (true, "d4fddcaa60067beba4d89aa17e7ef83eacc5b3171c226d76f5d3bf2a64e558b8"), looks := false }, kinds := [], alts := [], laidByText := true, laidKinds := [.data, .data, .pinned], laidTests := true, laidLooks := .later }
def VerbBackCardSaid : Prop := Claim7.holds Tryd.pinned (.plain (OpenSpec.ofChange verbBackSpec)) verbBackCard

/-- THE SECOND FORM's CARD OF 'bulletinlaw27.VerbReads'. -/
def verbReadsUptoCard : Claim7 := { stood := { row := verbReadsUptoRow, standIns := [], harness := (true, "d4fddcaa60067beba4d89aa17e7ef83eacc5b3171c226d76f5d3bf2a64e558b8"), looks := false }, kinds := [], alts := [], laidByText := true, laidKinds := [.data, .data, .pinned], laidTests := true, laidLooks := .later }
def VerbReadsUptoCardSaid : Prop := Claim7.holds Tryd.pinned (.plain (OpenSpec.upto verbReadsSpec)) verbReadsUptoCard

/-- THE SECOND FORM's CARD OF 'bulletinlaw27.VerbBack'. -/
def verbBackUptoCard : Claim7 := { stood := { row := verbBackUptoRow, standIns := [], harness := (true, "d4fddcaa60067beba4d89aa17e7ef83eacc5b3171c226d76f5d3bf2a64e558b8"), looks := false }, kinds := [], alts := [], laidByText := true, laidKinds := [.data, .data, .pinned], laidTests := true, laidLooks := .later }
def VerbBackUptoCardSaid : Prop := Claim7.holds Tryd.pinned (.plain (OpenSpec.upto verbBackSpec)) verbBackUptoCard
end Rows
end Go.Proofs.YtaamnpomclenpaaDoor
