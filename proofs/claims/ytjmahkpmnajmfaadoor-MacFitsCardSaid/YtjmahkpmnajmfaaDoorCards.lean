/-
  DERIVED. GIVEN WITH THE SEED: THE CARDS: each row of YtjmahkpmnajmfaaDoorRows.lean that lists a variable, with what it lists TIED to the program's text (the seventh form; the later family's looks); each row that meets fmt, with fmt's text TOLD by the authors' own Lean function (tested against real Go, not proved from fmt's source: count such statements apart). THE CARD IS WHAT COUNTS. Prove the row's statement (the work); the ties are given (YtjmahkpmnajmfaaDoorTie.lean); close each card by the builder's one call (the guide's Derived/Test/ToyasCard.lean, 'card_holds'). Laid BY PROGRAM, IN A SANDBOX (cutbox-door.mjs). By AI agents, Wed Nov 11 2026. No macro, syntax, notation, axiom, sorry.
-/
import Derived.Test.YtjmahkpmnajmfaaDoorRows
import GoSem.ClaimSeven
namespace Go.Proofs.YtjmahkpmnajmfaaDoor
namespace Rows

/-- THE TIED CARD OF 'bulletinlaw04.MacSums'. -/
def macSumsCard : Claim7 := { stood := { row := macSumsRow, standIns := [], harness := (true, "82b513038fa4ab7567cd89f1c46c3967de7fceb3d18b97ade84f8755573e421d"), looks := false }, kinds := [], alts := [], laidByText := true, laidKinds := [.data, .data], laidTests := true, laidLooks := .later }
def MacSumsCardSaid : Prop := Claim7.holds Tryd.pinned (.plain (OpenSpec.ofChange macSumsSpec)) macSumsCard

/-- THE TIED CARD OF 'bulletinlaw04.MacFits'. -/
def macFitsCard : Claim7 := { stood := { row := macFitsRow, standIns := [], harness := (true, "82b513038fa4ab7567cd89f1c46c3967de7fceb3d18b97ade84f8755573e421d"), looks := false }, kinds := [], alts := [], laidByText := true, laidKinds := [.data, .data], laidTests := true, laidLooks := .later }
def MacFitsCardSaid : Prop := Claim7.holds Tryd.pinned (.plain (OpenSpec.ofChange macFitsSpec)) macFitsCard

/-- THE TIED CARD OF 'bulletinlaw04.MacKeys'. -/
def macKeysCard : Claim7 := { stood := { row := macKeysRow, standIns := [], harness := (true, "82b513038fa4ab7567cd89f1c46c3967de7fceb3d18b97ade84f8755573e421d"), looks := false }, kinds := [], alts := [], laidByText := true, laidKinds := [.data, .data], laidTests := true, laidLooks := .later }
def MacKeysCardSaid : Prop := Claim7.holds Tryd.pinned (.plain (OpenSpec.ofChange macKeysSpec)) macKeysCard

/-- THE SECOND FORM's CARD OF 'bulletinlaw04.MacSums'. -/
def macSumsUptoCard : Claim7 := { stood := { row := macSumsUptoRow, standIns := [], harness := (true, "82b513038fa4ab7567cd89f1c46c3967de7fceb3d18b97ade84f8755573e421d"), looks := false }, kinds := [], alts := [], laidByText := true, laidKinds := [.data, .data], laidTests := true, laidLooks := .later }
def MacSumsUptoCardSaid : Prop := Claim7.holds Tryd.pinned (.plain (OpenSpec.upto macSumsSpec)) macSumsUptoCard

/-- THE SECOND FORM's CARD OF 'bulletinlaw04.MacFits'. -/
def macFitsUptoCard : Claim7 := { stood := { row := macFitsUptoRow, standIns := [], harness := (true, "82b513038fa4ab7567cd89f1c46c3967de7fceb3d18b97ade84f8755573e421d"), looks := false }, kinds := [], alts := [], laidByText := true, laidKinds := [.data, .data], laidTests := true, laidLooks := .later }
def MacFitsUptoCardSaid : Prop := Claim7.holds Tryd.pinned (.plain (OpenSpec.upto macFitsSpec)) macFitsUptoCard

/-- THE SECOND FORM's CARD OF 'bulletinlaw04.MacKeys'. -/
def macKeysUptoCard : Claim7 := { stood := { row := macKeysUptoRow, standIns := [], harness := (true, "82b513038fa4ab7567cd89f1c46c3967de7fceb3d18b97ade84f8755573e421d"), looks := false }, kinds := [], alts := [], laidByText := true, laidKinds := [.data, .data], laidTests := true, laidLooks := .later }
def MacKeysUptoCardSaid : Prop := Claim7.holds Tryd.pinned (.plain (OpenSpec.upto macKeysSpec)) macKeysUptoCard
end Rows
end Go.Proofs.YtjmahkpmnajmfaaDoor
