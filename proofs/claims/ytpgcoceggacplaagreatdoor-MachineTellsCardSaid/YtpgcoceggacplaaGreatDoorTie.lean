/-
  DERIVED. GIVEN WITH THE SEED: THE PROGRAM's TIES (one call each: nine closed facts by the kernel) AND EACH ROW's TIE, after the 31st guide's Derived/Test/Toyas{Tie, Card}.lean. No idea stands in it: it is a product of the set-up. Laid BY PROGRAM, IN A SANDBOX (cutbox-door.mjs). By AI agents, Wed Nov 11 2026. No macro, syntax, notation, axiom, sorry.
-/
import Derived.Test.YtpgcoceggacplaaGreatDoorRows
import Derived.LaidByTextLater
import Derived.SevenTiedAt
import Derived.LaidSub
import Derived.LaidOnce
namespace Go.Proofs.YtpgcoceggacplaaGreatDoor
open Go
set_option maxRecDepth 100000
theorem seatTie1 : Tryz.prog.laidByTextLater [("linchpin/isa.forms", Rows.laid_linchpin_isa_forms), ("linchpin/isa.calls", Rows.laid_linchpin_isa_calls)] [.widerDeep, .data] true :=
  Program.laidByTextLater_by_one 57 8 125 (by kernel_rfl) (by kernel_rfl) (by kernel_rfl) (by kernel_rfl) (by kernel_rfl) (by kernel_rfl) (fun _ _ => by kernel_rfl)
theorem noOwnUnsafe : Tryz.pinned.checked.prog.headLifts.contains "ownunsafe" = false := by kernel_rfl
theorem tie : Tryz.prog.laidByTextLater [("linchpin/isa.forms", Rows.laid_linchpin_isa_forms)] [.widerDeep] true :=
  Program.laidByTextLater.sub seatTie1 ["linchpin/isa.forms"] (by kernel_rfl) (by kernel_rfl)
theorem machineTells_row_tie : Rows.machineTellsRow.laidByTextAt .later Tryz.pinned [.widerDeep] true :=
  OpenClaim.laidByTextAt_later rfl rfl tie noOwnUnsafe
theorem tie2 : Tryz.prog.laidByTextLater [("linchpin/isa.forms", Rows.laid_linchpin_isa_forms), ("linchpin/isa.calls", Rows.laid_linchpin_isa_calls)] [.widerDeep, .data] true :=
  Program.laidByTextLater.sub seatTie1 ["linchpin/isa.forms", "linchpin/isa.calls"] (by kernel_rfl) (by kernel_rfl)
theorem machineUses_row_tie : Rows.machineUsesRow.laidByTextAt .later Tryz.pinned [.widerDeep, .data] true :=
  OpenClaim.laidByTextAt_later rfl rfl tie2 noOwnUnsafe
theorem machineTellsUpto_row_tie : Rows.machineTellsUptoRow.laidByTextAt .later Tryz.pinned [.widerDeep] true :=
  OpenClaim.laidByTextAt_later rfl rfl tie noOwnUnsafe
theorem machineUsesUpto_row_tie : Rows.machineUsesUptoRow.laidByTextAt .later Tryz.pinned [.widerDeep, .data] true :=
  OpenClaim.laidByTextAt_later rfl rfl tie2 noOwnUnsafe
end Go.Proofs.YtpgcoceggacplaaGreatDoor
