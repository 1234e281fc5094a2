/-
  DERIVED. GIVEN WITH THE SEED: THE CARDS: each row of YtpgcoceggacplaaGreatDoorRows.lean that lists a variable, with what it lists TIED to the program's text (the seventh form; the later family's looks); each row that meets fmt, with fmt's text TOLD by the authors' own Lean function (tested against real Go, not proved from fmt's source: count such statements apart). THE CARD IS WHAT COUNTS. Prove the row's statement (the work); the ties are given (YtpgcoceggacplaaGreatDoorTie.lean); close each card by the builder's one call (the guide's Derived/Test/ToyasCard.lean, 'card_holds'). Laid BY PROGRAM, IN A SANDBOX (cutbox-door.mjs). By AI agents, Wed Nov 11 2026. No macro, syntax, notation, axiom, sorry.
-/
import Derived.Test.YtpgcoceggacplaaGreatDoorRows
import GoSem.ClaimSeven
namespace Go.Proofs.YtpgcoceggacplaaGreatDoor
namespace Rows

/-- THE TIED CARD OF 'linchpinlaw29.MachineTells'. -/
def machineTellsCard : Claim7 := { stood := { row := machineTellsRow, standIns := [], harness := (true, "af1a644c10b500e90cf198e836c946d2b2a9ac7ad7f1dce992f3fbc7631ac5e4"), looks := false }, kinds := [], alts := [], laidByText := true, laidKinds := [.widerDeep], laidTests := true, laidLooks := .later }
def MachineTellsCardSaid : Prop := Claim7.holds Tryz.pinned (.plain (OpenSpec.ofChange machineTellsSpec)) machineTellsCard

/-- THE TIED CARD OF 'linchpinlaw29.MachineUses'. -/
def machineUsesCard : Claim7 := { stood := { row := machineUsesRow, standIns := [], harness := (true, "af1a644c10b500e90cf198e836c946d2b2a9ac7ad7f1dce992f3fbc7631ac5e4"), looks := false }, kinds := [], alts := [], laidByText := true, laidKinds := [.widerDeep, .data], laidTests := true, laidLooks := .later }
def MachineUsesCardSaid : Prop := Claim7.holds Tryz.pinned (.plain (OpenSpec.ofChange machineUsesSpec)) machineUsesCard

/-- THE SECOND FORM's CARD OF 'linchpinlaw29.MachineTells'. -/
def machineTellsUptoCard : Claim7 := { stood := { row := machineTellsUptoRow, standIns := [], harness := (true, "af1a644c10b500e90cf198e836c946d2b2a9ac7ad7f1dce992f3fbc7631ac5e4"), looks := false }, kinds := [], alts := [], laidByText := true, laidKinds := [.widerDeep], laidTests := true, laidLooks := .later }
def MachineTellsUptoCardSaid : Prop := Claim7.holds Tryz.pinned (.plain (OpenSpec.upto machineTellsSpec)) machineTellsUptoCard

/-- THE SECOND FORM's CARD OF 'linchpinlaw29.MachineUses'. -/
def machineUsesUptoCard : Claim7 := { stood := { row := machineUsesUptoRow, standIns := [], harness := (true, "af1a644c10b500e90cf198e836c946d2b2a9ac7ad7f1dce992f3fbc7631ac5e4"), looks := false }, kinds := [], alts := [], laidByText := true, laidKinds := [.widerDeep, .data], laidTests := true, laidLooks := .later }
def MachineUsesUptoCardSaid : Prop := Claim7.holds Tryz.pinned (.plain (OpenSpec.upto machineUsesSpec)) machineUsesUptoCard
end Rows
end Go.Proofs.YtpgcoceggacplaaGreatDoor
