/-
  DERIVED. GIVEN WITH THE SEED: THE CARDS: each row of YtpgcoceggacplaaDoorRows.lean that lists a variable, with what it lists TIED to the program's text (the seventh form; the later family's looks); each row that meets fmt, with fmt's text TOLD by the authors' own Lean function (tested against real Go, not proved from fmt's source: count such statements apart). THE CARD IS WHAT COUNTS. Prove the row's statement (the work); the ties are given (YtpgcoceggacplaaDoorTie.lean); close each card by the builder's one call (the guide's Derived/Test/ToyasCard.lean, 'card_holds'). Laid BY PROGRAM, IN A SANDBOX (cutbox-door.mjs). By AI agents, Wed Nov 11 2026. No macro, syntax, notation, axiom, sorry.
-/
import Derived.Test.YtpgcoceggacplaaDoorRows
import GoSem.ClaimSeven
namespace Go.Proofs.YtpgcoceggacplaaDoor
namespace Rows

/-- THE TIED CARD OF 'linchpinlaw29.MachineStops'. -/
def machineStopsCard : Claim7 := { stood := { row := machineStopsRow, standIns := [], harness := (true, "c6b270e5028592ae663afbac7fdc502ca385de157cccdfb5bc023efe8fefb043"), looks := false }, kinds := [], alts := [], laidByText := true, laidKinds := [.widerDeep], laidTests := true, laidLooks := .later }
def MachineStopsCardSaid : Prop := Claim7.holds Tryd.pinned (.plain (OpenSpec.ofChange machineStopsSpec)) machineStopsCard

/-- THE TIED CARD OF 'linchpinlaw29.MachineCalls'. -/
def machineCallsCard : Claim7 := { stood := { row := machineCallsRow, standIns := [], harness := (true, "c6b270e5028592ae663afbac7fdc502ca385de157cccdfb5bc023efe8fefb043"), looks := false }, kinds := [], alts := [], laidByText := true, laidKinds := [.widerDeep], laidTests := true, laidLooks := .later }
def MachineCallsCardSaid : Prop := Claim7.holds Tryd.pinned (.plain (OpenSpec.ofChange machineCallsSpec)) machineCallsCard

/-- THE TIED CARD OF 'linchpinlaw29.MachineStack'. -/
def machineStackCard : Claim7 := { stood := { row := machineStackRow, standIns := [], harness := (true, "c6b270e5028592ae663afbac7fdc502ca385de157cccdfb5bc023efe8fefb043"), looks := false }, kinds := [], alts := [], laidByText := true, laidKinds := [.widerDeep], laidTests := true, laidLooks := .later }
def MachineStackCardSaid : Prop := Claim7.holds Tryd.pinned (.plain (OpenSpec.ofChange machineStackSpec)) machineStackCard

/-- THE SECOND FORM's CARD OF 'linchpinlaw29.MachineStops'. -/
def machineStopsUptoCard : Claim7 := { stood := { row := machineStopsUptoRow, standIns := [], harness := (true, "c6b270e5028592ae663afbac7fdc502ca385de157cccdfb5bc023efe8fefb043"), looks := false }, kinds := [], alts := [], laidByText := true, laidKinds := [.widerDeep], laidTests := true, laidLooks := .later }
def MachineStopsUptoCardSaid : Prop := Claim7.holds Tryd.pinned (.plain (OpenSpec.upto machineStopsSpec)) machineStopsUptoCard

/-- THE SECOND FORM's CARD OF 'linchpinlaw29.MachineCalls'. -/
def machineCallsUptoCard : Claim7 := { stood := { row := machineCallsUptoRow, standIns := [], harness := (true, "c6b270e5028592ae663afbac7fdc502ca385de157cccdfb5bc023efe8fefb043"), looks := false }, kinds := [], alts := [], laidByText := true, laidKinds := [.widerDeep], laidTests := true, laidLooks := .later }
def MachineCallsUptoCardSaid : Prop := Claim7.holds Tryd.pinned (.plain (OpenSpec.upto machineCallsSpec)) machineCallsUptoCard

/-- THE SECOND FORM's CARD OF 'linchpinlaw29.MachineStack'. -/
def machineStackUptoCard : Claim7 := { stood := { row := machineStackUptoRow, standIns := [], harness := (true, "c6b270e5028592ae663afbac7fdc502ca385de157cccdfb5bc023efe8fefb043"), looks := false }, kinds := [], alts := [], laidByText := true, laidKinds := [.widerDeep], laidTests := true, laidLooks := .later }
def MachineStackUptoCardSaid : Prop := Claim7.holds Tryd.pinned (.plain (OpenSpec.upto machineStackSpec)) machineStackUptoCard
end Rows
end Go.Proofs.YtpgcoceggacplaaDoor
