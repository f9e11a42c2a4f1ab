/-
  DERIVED. GIVEN WITH THE SEED: THE CARDS: each row of YtamhoilkpppdbaaGreatDoorRows.lean that lists a variable, with what it lists TIED to the program's text (the seventh form; the later family's looks); each row that meets fmt, with fmt's text TOLD by the authors' own Lean function (tested against real Go, not proved from fmt's source: count such statements apart). THE CARD IS WHAT COUNTS. Prove the row's statement (the work); the ties are given (YtamhoilkpppdbaaGreatDoorTie.lean); close each card by the builder's one call (the guide's Derived/Test/ToyasCard.lean, 'card_holds'). Laid BY PROGRAM, IN A SANDBOX (cutbox-door.mjs). By AI agents, Wed Nov 11 2026. No macro, syntax, notation, axiom, sorry.
-/
import Derived.Test.YtamhoilkpppdbaaGreatDoorRows
import GoSem.ClaimSeven
namespace Go.Proofs.YtamhoilkpppdbaaGreatDoor
namespace Rows

/-- THE TIED CARD OF 'testamurlaw19.CopiesShown'. -/
def copiesShownCard : Claim7 := { stood := { row := copiesShownRow, standIns := [], harness := (true, "f9b1dd87849b23e02f5b196829606fc344565681d6f0f44e1125e251f28f28aa"), looks := true }, kinds := [], alts := [], laidByText := true, laidKinds := [.data], laidTests := true, laidLooks := .later }
def CopiesShownCardSaid : Prop := Claim7.holds Tryz.pinned (.plain (OpenSpec.ofChange copiesShownSpec)) copiesShownCard

/-- THE TIED CARD OF 'testamurlaw19.CopiesHidden'. -/
def copiesHiddenCard : Claim7 := { stood := { row := copiesHiddenRow, standIns := [], harness := (true, "f9b1dd87849b23e02f5b196829606fc344565681d6f0f44e1125e251f28f28aa"), looks := true }, kinds := [], alts := [], laidByText := true, laidKinds := [.data], laidTests := true, laidLooks := .later }
def CopiesHiddenCardSaid : Prop := Claim7.holds Tryz.pinned (.plain (OpenSpec.ofChange copiesHiddenSpec)) copiesHiddenCard

/-- THE TIED CARD OF 'testamurlaw19.CopiesOther'. -/
def copiesOtherCard : Claim7 := { stood := { row := copiesOtherRow, standIns := [], harness := (true, "f9b1dd87849b23e02f5b196829606fc344565681d6f0f44e1125e251f28f28aa"), looks := true }, kinds := [], alts := [], laidByText := true, laidKinds := [.data], laidTests := true, laidLooks := .later }
def CopiesOtherCardSaid : Prop := Claim7.holds Tryz.pinned (.plain (OpenSpec.ofChange copiesOtherSpec)) copiesOtherCard

/-- THE TIED CARD OF 'testamurlaw19.CopiesTrue'. -/
def copiesTrueCard : Claim7 := { stood := { row := copiesTrueRow, standIns := [], harness := (true, "f9b1dd87849b23e02f5b196829606fc344565681d6f0f44e1125e251f28f28aa"), looks := true }, kinds := [], alts := [], laidByText := true, laidKinds := [.data], laidTests := true, laidLooks := .later }
def CopiesTrueCardSaid : Prop := Claim7.holds Tryz.pinned (.plain (OpenSpec.ofChange copiesTrueSpec)) copiesTrueCard

/-- THE SECOND FORM's CARD OF 'testamurlaw19.CopiesShown'. -/
def copiesShownUptoCard : Claim7 := { stood := { row := copiesShownUptoRow, standIns := [], harness := (true, "f9b1dd87849b23e02f5b196829606fc344565681d6f0f44e1125e251f28f28aa"), looks := true }, kinds := [], alts := [], laidByText := true, laidKinds := [.data], laidTests := true, laidLooks := .later }
def CopiesShownUptoCardSaid : Prop := Claim7.holds Tryz.pinned (.plain (OpenSpec.upto copiesShownSpec)) copiesShownUptoCard

/-- THE SECOND FORM's CARD OF 'testamurlaw19.CopiesHidden'. -/
def copiesHiddenUptoCard : Claim7 := { stood := { row := copiesHiddenUptoRow, standIns := [], harness := (true, "f9b1dd87849b23e02f5b196829606fc344565681d6f0f44e1125e251f28f28aa"), looks := true }, kinds := [], alts := [], laidByText := true, laidKinds := [.data], laidTests := true, laidLooks := .later }
def CopiesHiddenUptoCardSaid : Prop := Claim7.holds Tryz.pinned (.plain (OpenSpec.upto copiesHiddenSpec)) copiesHiddenUptoCard

/-- THE SECOND FORM's CARD OF 'testamurlaw19.CopiesOther'. -/
def copiesOtherUptoCard : Claim7 := { stood := { row := copiesOtherUptoRow, standIns := [], harness := (true, "f9b1dd87849b23e02f5b196829606fc344565681d6f0f44e1125e251f28f28aa"), looks := true }, kinds := [], alts := [], laidByText := true, laidKinds := [.data], laidTests := true, laidLooks := .later }
def CopiesOtherUptoCardSaid : Prop := Claim7.holds Tryz.pinned (.plain (OpenSpec.upto copiesOtherSpec)) copiesOtherUptoCard

/-- THE SECOND FORM's CARD OF 'testamurlaw19.CopiesTrue'. -/
def copiesTrueUptoCard : Claim7 := { stood := { row := copiesTrueUptoRow, standIns := [], harness := (true, "f9b1dd87849b23e02f5b196829606fc344565681d6f0f44e1125e251f28f28aa"), looks := true }, kinds := [], alts := [], laidByText := true, laidKinds := [.data], laidTests := true, laidLooks := .later }
def CopiesTrueUptoCardSaid : Prop := Claim7.holds Tryz.pinned (.plain (OpenSpec.upto copiesTrueSpec)) copiesTrueUptoCard
end Rows
end Go.Proofs.YtamhoilkpppdbaaGreatDoor
