/-
  DERIVED. GIVEN WITH THE SEED: THE PROGRAM's TIES (one call each: nine closed facts by the kernel) AND EACH ROW's TIE, after the 31st guide's Derived/Test/Toyas{Tie, Card}.lean. No idea stands in it: it is a product of the set-up. Laid BY PROGRAM, IN A SANDBOX (cutbox-door.mjs). By AI agents, Wed Nov 11 2026. No macro, syntax, notation, axiom, sorry.
-/
import Derived.Test.YtgkbbdgklpabpaaGreatDoorRows
import Derived.LaidByTextLater
import Derived.SevenTiedAt
import Derived.LaidSub
import Derived.LaidOnce
namespace Go.Proofs.YtgkbbdgklpabpaaGreatDoor
open Go
set_option maxRecDepth 100000
theorem seatTie1 : Tryz.prog.laidByTextLater [("linchpin/isa.forms", Rows.laid_linchpin_isa_forms), ("linchpin/reloc.rows", Rows.laid_linchpin_reloc_rows)] [.widerDeep, .widerDeep] true :=
  Program.laidByTextLater_by_one 68 8 125 (by kernel_rfl) (by kernel_rfl) (by kernel_rfl) (by kernel_rfl) (by kernel_rfl) (by kernel_rfl) (fun _ _ => by kernel_rfl)
theorem noOwnUnsafe : Tryz.pinned.checked.prog.headLifts.contains "ownunsafe" = false := by kernel_rfl
theorem tie : Tryz.prog.laidByTextLater [("linchpin/isa.forms", Rows.laid_linchpin_isa_forms), ("linchpin/reloc.rows", Rows.laid_linchpin_reloc_rows)] [.widerDeep, .widerDeep] true :=
  Program.laidByTextLater.sub seatTie1 ["linchpin/isa.forms", "linchpin/reloc.rows"] (by kernel_rfl) (by kernel_rfl)
theorem stubChecks_row_tie : Rows.stubChecksRow.laidByTextAt .later Tryz.pinned [.widerDeep, .widerDeep] true :=
  OpenClaim.laidByTextAt_later rfl rfl tie noOwnUnsafe
theorem stubNeeds_row_tie : Rows.stubNeedsRow.laidByTextAt .later Tryz.pinned [.widerDeep, .widerDeep] true :=
  OpenClaim.laidByTextAt_later rfl rfl tie noOwnUnsafe
theorem stubChecksUpto_row_tie : Rows.stubChecksUptoRow.laidByTextAt .later Tryz.pinned [.widerDeep, .widerDeep] true :=
  OpenClaim.laidByTextAt_later rfl rfl tie noOwnUnsafe
theorem stubNeedsUpto_row_tie : Rows.stubNeedsUptoRow.laidByTextAt .later Tryz.pinned [.widerDeep, .widerDeep] true :=
  OpenClaim.laidByTextAt_later rfl rfl tie noOwnUnsafe
end Go.Proofs.YtgkbbdgklpabpaaGreatDoor
