/-
  DERIVED. GIVEN WITH THE SEED: THE CARDS: each row of YtcdhpknjinonhaaDoorRows.lean that lists a variable, with what it lists TIED to the program's text (the seventh form; the later family's looks); each row that meets fmt, with fmt's text TOLD by the authors' own Lean function (tested against real Go, not proved from fmt's source: count such statements apart). THE CARD IS WHAT COUNTS. Prove the row's statement (the work); the ties are given (YtcdhpknjinonhaaDoorTie.lean); close each card by the builder's one call (the guide's Derived/Test/ToyasCard.lean, 'card_holds'). Laid BY PROGRAM, IN A SANDBOX (cutbox-door.mjs). By AI agents, Wed Nov 11 2026. No macro, syntax, notation, axiom, sorry.
-/
import Derived.Test.YtcdhpknjinonhaaDoorRows
import GoSem.ClaimSeven
namespace Go.Proofs.YtcdhpknjinonhaaDoor
namespace Rows

/-- THE TIED CARD OF 'bulletinlaw25.TokenMakes'. -/
def tokenMakesCard : Claim7 := { stood := { row := tokenMakesRow, standIns := [], harness := (true, "09446ceff1bc8adfff861d3bd22c63f7aefd25fe45e9b9435c1c500697967294"), looks := false }, kinds := [], alts := [], laidByText := true, laidKinds := [.data, .data, .data, .data, .data], laidTests := true, laidLooks := .later }
def TokenMakesCardSaid : Prop := Claim7.holds Tryd.pinned (.plain (OpenSpec.ofChange tokenMakesSpec)) tokenMakesCard

/-- THE TIED CARD OF 'bulletinlaw25.TokenBack'. -/
def tokenBackCard : Claim7 := { stood := { row := tokenBackRow, standIns := [], harness := (true, "09446ceff1bc8adfff861d3bd22c63f7aefd25fe45e9b9435c1c500697967294"), looks := false }, kinds := [], alts := [], laidByText := true, laidKinds := [.data, .data, .data, .data, .data], laidTests := true, laidLooks := .later }
def TokenBackCardSaid : Prop := Claim7.holds Tryd.pinned (.plain (OpenSpec.ofChange tokenBackSpec)) tokenBackCard

/-- THE TIED CARD OF 'bulletinlaw25.TokenAll'. -/
def tokenAllCard : Claim7 := { stood := { row := tokenAllRow, standIns := [], harness := (true, "09446ceff1bc8adfff861d3bd22c63f7aefd25fe45e9b9435c1c500697967294"), looks := false }, kinds := [], alts := [], laidByText := true, laidKinds := [.data, .data, .data, .data, .data], laidTests := true, laidLooks := .later }
def TokenAllCardSaid : Prop := Claim7.holds Tryd.pinned (.plain (OpenSpec.ofChange tokenAllSpec)) tokenAllCard

/-- THE SECOND FORM's CARD OF 'bulletinlaw25.TokenMakes'. -/
def tokenMakesUptoCard : Claim7 := { stood := { row := tokenMakesUptoRow, standIns := [], harness := (true, "09446ceff1bc8adfff861d3bd22c63f7aefd25fe45e9b9435c1c500697967294"), looks := false }, kinds := [], alts := [], laidByText := true, laidKinds := [.data, .data, .data, .data, .data], laidTests := true, laidLooks := .later }
def TokenMakesUptoCardSaid : Prop := Claim7.holds Tryd.pinned (.plain (OpenSpec.upto tokenMakesSpec)) tokenMakesUptoCard

/-- THE SECOND FORM's CARD OF 'bulletinlaw25.TokenBack'. -/
def tokenBackUptoCard : Claim7 := { stood := { row := tokenBackUptoRow, standIns := [], harness := (true, "09446ceff1bc8adfff861d3bd22c63f7aefd25fe45e9b9435c1c500697967294"), looks := false }, kinds := [], alts := [], laidByText := true, laidKinds := [.data, .data, .data, .data, .data], laidTests := true, laidLooks := .later }
def TokenBackUptoCardSaid : Prop := Claim7.holds Tryd.pinned (.plain (OpenSpec.upto tokenBackSpec)) tokenBackUptoCard

/-- THE SECOND FORM's CARD OF 'bulletinlaw25.TokenAll'. -/
def tokenAllUptoCard : Claim7 := { stood := { row := tokenAllUptoRow, standIns := [], harness := (true, "09446ceff1bc8adfff861d3bd22c63f7aefd25fe45e9b9435c1c500697967294"), looks := false }, kinds := [], alts := [], laidByText := true, laidKinds := [.data, .data, .data, .data, .data], laidTests := true, laidLooks := .later }
def TokenAllUptoCardSaid : Prop := Claim7.holds Tryd.pinned (.plain (OpenSpec.upto tokenAllSpec)) tokenAllUptoCard
end Rows
end Go.Proofs.YtcdhpknjinonhaaDoor
