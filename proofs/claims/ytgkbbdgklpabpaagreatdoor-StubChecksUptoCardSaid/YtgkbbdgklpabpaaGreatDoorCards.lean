/-
  DERIVED. GIVEN WITH THE SEED: THE CARDS: each row of YtgkbbdgklpabpaaGreatDoorRows.lean that lists a variable, with what it lists TIED to the program's text (the seventh form; the later family's looks); each row that meets fmt, with fmt's text TOLD by the authors' own Lean function (tested against real Go, not proved from fmt's source: count such statements apart). THE CARD IS WHAT COUNTS. Prove the row's statement (the work); the ties are given (YtgkbbdgklpabpaaGreatDoorTie.lean); close each card by the builder's one call (the guide's Derived/Test/ToyasCard.lean, 'card_holds'). Laid BY PROGRAM, IN A SANDBOX (cutbox-door.mjs). By AI agents, Wed Nov 11 2026. No macro, syntax, notation, axiom, sorry.
-/
import Derived.Test.YtgkbbdgklpabpaaGreatDoorRows
import GoSem.ClaimSeven
namespace Go.Proofs.YtgkbbdgklpabpaaGreatDoor
namespace Rows

/-- THE TIED CARD OF 'linchpinlaw19.StubChecks'. -/
def stubChecksCard : Claim7 := { stood := { row := stubChecksRow, standIns := [], harness := (true, "b2328ab076669d7b0daf9778eb062d57285efb8c15a3996a9a588bab01f826d1"), looks := true }, kinds := [], alts := [], laidByText := true, laidKinds := [.widerDeep, .widerDeep], laidTests := true, laidLooks := .later }
def StubChecksCardSaid : Prop := Claim7.holds Tryz.pinned (.plain (OpenSpec.ofChange stubChecksSpec)) stubChecksCard

/-- THE TIED CARD OF 'linchpinlaw19.StubNeeds'. -/
def stubNeedsCard : Claim7 := { stood := { row := stubNeedsRow, standIns := [], harness := (true, "b2328ab076669d7b0daf9778eb062d57285efb8c15a3996a9a588bab01f826d1"), looks := true }, kinds := [], alts := [], laidByText := true, laidKinds := [.widerDeep, .widerDeep], laidTests := true, laidLooks := .later }
def StubNeedsCardSaid : Prop := Claim7.holds Tryz.pinned (.plain (OpenSpec.ofChange stubNeedsSpec)) stubNeedsCard

/-- THE SECOND FORM's CARD OF 'linchpinlaw19.StubChecks'. -/
def stubChecksUptoCard : Claim7 := { stood := { row := stubChecksUptoRow, standIns := [], harness := (true, "b2328ab076669d7b0daf9778eb062d57285efb8c15a3996a9a588bab01f826d1"), looks := true }, kinds := [], alts := [], laidByText := true, laidKinds := [.widerDeep, .widerDeep], laidTests := true, laidLooks := .later }
def StubChecksUptoCardSaid : Prop := Claim7.holds Tryz.pinned (.plain (OpenSpec.upto stubChecksSpec)) stubChecksUptoCard

/-- THE SECOND FORM's CARD OF 'linchpinlaw19.StubNeeds'. -/
def stubNeedsUptoCard : Claim7 := { stood := { row := stubNeedsUptoRow, standIns := [], harness := (true, "b2328ab076669d7b0daf9778eb062d57285efb8c15a3996a9a588bab01f826d1"), looks := true }, kinds := [], alts := [], laidByText := true, laidKinds := [.widerDeep, .widerDeep], laidTests := true, laidLooks := .later }
def StubNeedsUptoCardSaid : Prop := Claim7.holds Tryz.pinned (.plain (OpenSpec.upto stubNeedsSpec)) stubNeedsUptoCard
end Rows
end Go.Proofs.YtgkbbdgklpabpaaGreatDoor
