/-
  DERIVED. GIVEN WITH THE SEED: THE CARDS: each row of YthckkikfldgphaaDoorRows.lean that lists a variable, with what it lists TIED to the program's text (the seventh form; the later family's looks); each row that meets fmt, with fmt's text TOLD by the authors' own Lean function (tested against real Go, not proved from fmt's source: count such statements apart). THE CARD IS WHAT COUNTS. Prove the row's statement (the work); the ties are given (YthckkikfldgphaaDoorTie.lean); close each card by the builder's one call (the guide's Derived/Test/ToyasCard.lean, 'card_holds'). Laid BY PROGRAM, IN A SANDBOX (cutbox-door.mjs). By AI agents, Wed Nov 11 2026. No macro, syntax, notation, axiom, sorry.
-/
import Derived.Test.YthckkikfldgphaaDoorRows
import GoSem.ClaimSeven
namespace Go.Proofs.YthckkikfldgphaaDoor
namespace Rows

/-- THE TIED CARD OF 'bulletinlaw24.VerpReads'. -/
def verpReadsCard : Claim7 := { stood := { row := verpReadsRow, standIns := [], harness := (true, "ed5c82957b56abf846b8d2526a3927c052a84a4e1c457e762eedb7929a264f7c"), looks := false }, kinds := [], alts := [], laidByText := true, laidKinds := [.data, .pinned], laidTests := true, laidLooks := .later }
def VerpReadsCardSaid : Prop := Claim7.holds Tryd.pinned (.plain (OpenSpec.ofChange verpReadsSpec)) verpReadsCard

/-- THE TIED CARD OF 'bulletinlaw24.VerpMembers'. -/
def verpMembersCard : Claim7 := { stood := { row := verpMembersRow, standIns := [], harness := (true, "ed5c82957b56abf846b8d2526a3927c052a84a4e1c457e762eedb7929a264f7c"), looks := false }, kinds := [], alts := [], laidByText := true, laidKinds := [.data, .pinned], laidTests := true, laidLooks := .later }
def VerpMembersCardSaid : Prop := Claim7.holds Tryd.pinned (.plain (OpenSpec.ofChange verpMembersSpec)) verpMembersCard

/-- THE TIED CARD OF 'bulletinlaw24.VerpBack'. -/
def verpBackCard : Claim7 := { stood := { row := verpBackRow, standIns := [], harness := (true, "ed5c82957b56abf846b8d2526a3927c052a84a4e1c457e762eedb7929a264f7c"), looks := false }, kinds := [], alts := [], laidByText := true, laidKinds := [.data, .pinned], laidTests := true, laidLooks := .later }
def VerpBackCardSaid : Prop := Claim7.holds Tryd.pinned (.plain (OpenSpec.ofChange verpBackSpec)) verpBackCard

/-- THE TIED CARD OF 'bulletinlaw24.VerpAgain'. -/
def verpAgainCard : Claim7 := { stood := { row := verpAgainRow, standIns := [], harness := (true, "ed5c82957b56abf846b8d2526a3927c052a84a4e1c457e762eedb7929a264f7c"), looks := false }, kinds := [], alts := [], laidByText := true, laidKinds := [.data, .pinned], laidTests := true, laidLooks := .later }
def VerpAgainCardSaid : Prop := Claim7.holds Tryd.pinned (.plain (OpenSpec.ofChange verpAgainSpec)) verpAgainCard

/-- THE TIED CARD OF 'bulletinlaw24.VerpOne'. -/
def verpOneCard : Claim7 := { stood := { row := verpOneRow, standIns := [], harness := (true, "ed5c82957b56abf846b8d2526a3927c052a84a4e1c457e762eedb7929a264f7c"), looks := false }, kinds := [], alts := [], laidByText := true, laidKinds := [.data, .pinned], laidTests := true, laidLooks := .later }
def VerpOneCardSaid : Prop := Claim7.holds Tryd.pinned (.plain (OpenSpec.ofChange verpOneSpec)) verpOneCard

/-- THE SECOND FORM's CARD OF 'bulletinlaw24.VerpReads'. -/
def verpReadsUptoCard : Claim7 := { stood := { row := verpReadsUptoRow, standIns := [], harness := (true, "ed5c82957b56abf846b8d2526a3927c052a84a4e1c457e762eedb7929a264f7c"), looks := false }, kinds := [], alts := [], laidByText := true, laidKinds := [.data, .pinned], laidTests := true, laidLooks := .later }
def VerpReadsUptoCardSaid : Prop := Claim7.holds Tryd.pinned (.plain (OpenSpec.upto verpReadsSpec)) verpReadsUptoCard

/-- THE SECOND FORM's CARD OF 'bulletinlaw24.VerpMembers'. -/
def verpMembersUptoCard : Claim7 := { stood := { row := verpMembersUptoRow, standIns := [], harness := (true, "ed5c82957b56abf846b8d2526a3927c052a84a4e1c457e762eedb7929a264f7c"), looks := false }, kinds := [], alts := [], laidByText := true, laidKinds := [.data, .pinned], laidTests := true, laidLooks := .later }
def VerpMembersUptoCardSaid : Prop := Claim7.holds Tryd.pinned (.plain (OpenSpec.upto verpMembersSpec)) verpMembersUptoCard

/-- THE SECOND FORM's CARD OF 'bulletinlaw24.VerpBack'. -/
def verpBackUptoCard : Claim7 := { stood := { row := verpBackUptoRow, standIns := [], harness := (true, "ed5c82957b56abf846b8d2526a3927c052a84a4e1c457e762eedb7929a264f7c"), looks := false }, kinds := [], alts := [], laidByText := true, laidKinds := [.data, .pinned], laidTests := true, laidLooks := .later }
def VerpBackUptoCardSaid : Prop := Claim7.holds Tryd.pinned (.plain (OpenSpec.upto verpBackSpec)) verpBackUptoCard

/-- THE SECOND FORM's CARD OF 'bulletinlaw24.VerpAgain'. -/
def verpAgainUptoCard : Claim7 := { stood := { row := verpAgainUptoRow, standIns := [], harness := (true, "ed5c82957b56abf846b8d2526a3927c052a84a4e1c457e762eedb7929a264f7c"), looks := false }, kinds := [], alts := [], laidByText := true, laidKinds := [.data, .pinned], laidTests := true, laidLooks := .later }
def VerpAgainUptoCardSaid : Prop := Claim7.holds Tryd.pinned (.plain (OpenSpec.upto verpAgainSpec)) verpAgainUptoCard

/-- THE SECOND FORM's CARD OF 'bulletinlaw24.VerpOne'. -/
def verpOneUptoCard : Claim7 := { stood := { row := verpOneUptoRow, standIns := [], harness := (true, "ed5c82957b56abf846b8d2526a3927c052a84a4e1c457e762eedb7929a264f7c"), looks := false }, kinds := [], alts := [], laidByText := true, laidKinds := [.data, .pinned], laidTests := true, laidLooks := .later }
def VerpOneUptoCardSaid : Prop := Claim7.holds Tryd.pinned (.plain (OpenSpec.upto verpOneSpec)) verpOneUptoCard
end Rows
end Go.Proofs.YthckkikfldgphaaDoor
