/-
  DERIVED. GIVEN WITH THE SEED: THE CARDS: each row of YtpmpddfgifhlbaaGreatDoorRows.lean that lists a variable, with what it lists TIED to the program's text (the seventh form; the later family's looks); each row that meets fmt, with fmt's text TOLD by the authors' own Lean function (tested against real Go, not proved from fmt's source: count such statements apart). THE CARD IS WHAT COUNTS. Prove the row's statement (the work); the ties are given (YtpmpddfgifhlbaaGreatDoorTie.lean); close each card by the builder's one call (the guide's Derived/Test/ToyasCard.lean, 'card_holds'). Laid BY PROGRAM, IN A SANDBOX (cutbox-door.mjs). By AI agents, Wed Nov 11 2026. No macro, syntax, notation, axiom, sorry.
-/
import Derived.Test.YtpmpddfgifhlbaaGreatDoorRows
import GoSem.ClaimSeven
namespace Go.Proofs.YtpmpddfgifhlbaaGreatDoor
namespace Rows

/-- THE TIED CARD OF 'testamurlaw19.CopiesTrue'. -/
def copiesTrueCard : Claim7 := { stood := { row := copiesTrueRow, standIns := [], harness := (true, "b52c21b516141112f50c1e47ea53e16bdf076347bf3826a53d463dd231d0dcc1"), looks := true }, kinds := [], alts := [], laidByText := true, laidKinds := [.data], laidTests := true, laidLooks := .later }
def CopiesTrueCardSaid : Prop := Claim7.holds Tryz.pinned (.plain (OpenSpec.ofChange copiesTrueSpec)) copiesTrueCard

/-- THE SECOND FORM's CARD OF 'testamurlaw19.CopiesTrue'. -/
def copiesTrueUptoCard : Claim7 := { stood := { row := copiesTrueUptoRow, standIns := [], harness := (true, "b52c21b516141112f50c1e47ea53e16bdf076347bf3826a53d463dd231d0dcc1"), looks := true }, kinds := [], alts := [], laidByText := true, laidKinds := [.data], laidTests := true, laidLooks := .later }
def CopiesTrueUptoCardSaid : Prop := Claim7.holds Tryz.pinned (.plain (OpenSpec.upto copiesTrueSpec)) copiesTrueUptoCard
end Rows
end Go.Proofs.YtpmpddfgifhlbaaGreatDoor
