/-
  DERIVED. GIVEN WITH THE SEED: THE CARDS: each row of YtebnelfdimiifaaGreatDoorRows.lean that lists a variable, with what it lists TIED to the program's text (the seventh form; the later family's looks); each row that meets fmt, with fmt's text TOLD by the authors' own Lean function (tested against real Go, not proved from fmt's source: count such statements apart). THE CARD IS WHAT COUNTS. Prove the row's statement (the work); the ties are given (YtebnelfdimiifaaGreatDoorTie.lean); close each card by the builder's one call (the guide's Derived/Test/ToyasCard.lean, 'card_holds'). Laid BY PROGRAM, IN A SANDBOX (cutbox-door.mjs). By AI agents, Wed Nov 11 2026. No macro, syntax, notation, axiom, sorry.
-/
import Derived.Test.YtebnelfdimiifaaGreatDoorRows
import GoSem.ClaimSeven
namespace Go.Proofs.YtebnelfdimiifaaGreatDoor
namespace Rows

/-- THE TIED CARD OF 'linchpinlaw20.ImageSame'. -/
def imageSameCard : Claim7 := { stood := { row := imageSameRow, standIns := [], harness := (true, "40a7e17f9e8eaf1d307789c9701385d49725f1862aa01adde040fb2e34d06595"), looks := true }, kinds := [], alts := [], laidByText := true, laidKinds := [.data, .data], laidTests := true, laidLooks := .later }
def ImageSameCardSaid : Prop := Claim7.holds Tryz.pinned (.plain (OpenSpec.ofChange imageSameSpec)) imageSameCard

/-- THE SECOND FORM's CARD OF 'linchpinlaw20.ImageSame'. -/
def imageSameUptoCard : Claim7 := { stood := { row := imageSameUptoRow, standIns := [], harness := (true, "40a7e17f9e8eaf1d307789c9701385d49725f1862aa01adde040fb2e34d06595"), looks := true }, kinds := [], alts := [], laidByText := true, laidKinds := [.data, .data], laidTests := true, laidLooks := .later }
def ImageSameUptoCardSaid : Prop := Claim7.holds Tryz.pinned (.plain (OpenSpec.upto imageSameSpec)) imageSameUptoCard
end Rows
end Go.Proofs.YtebnelfdimiifaaGreatDoor
