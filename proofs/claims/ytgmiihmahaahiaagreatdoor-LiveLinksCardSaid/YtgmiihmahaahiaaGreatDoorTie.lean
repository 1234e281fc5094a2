/-
  DERIVED. GIVEN WITH THE SEED: THE PROGRAM's TIES (one call each: nine closed facts by the kernel) AND EACH ROW's TIE, after the 31st guide's Derived/Test/Toyas{Tie, Card}.lean. No idea stands in it: it is a product of the set-up. Laid BY PROGRAM, IN A SANDBOX (cutbox-door.mjs). By AI agents, Wed Nov 11 2026. No macro, syntax, notation, axiom, sorry.
-/
import Derived.Test.YtgmiihmahaahiaaGreatDoorRows
import Derived.LaidByTextLater
import Derived.SevenTiedAt
import Derived.LaidSub
import Derived.LaidOnce
namespace Go.Proofs.YtgmiihmahaahiaaGreatDoor
open Go
set_option maxRecDepth 100000
theorem seatTie1 : Tryz.prog.laidByTextLater [("linchpin/digest.turns", Rows.laid_linchpin_digest_turns), ("linchpin/digest.constants", Rows.laid_linchpin_digest_constants), ("linchpin/isa.forms", Rows.laid_linchpin_isa_forms)] [.data, .data, .widerDeep] true :=
  Program.laidByTextLater_by_one 54 8 125 (by kernel_rfl) (by kernel_rfl) (by kernel_rfl) (by kernel_rfl) (by kernel_rfl) (by kernel_rfl) (fun _ _ => by kernel_rfl)
theorem noOwnUnsafe : Tryz.pinned.checked.prog.headLifts.contains "ownunsafe" = false := by kernel_rfl
theorem tie : Tryz.prog.laidByTextLater [("linchpin/digest.turns", Rows.laid_linchpin_digest_turns), ("linchpin/digest.constants", Rows.laid_linchpin_digest_constants), ("linchpin/isa.forms", Rows.laid_linchpin_isa_forms)] [.data, .data, .widerDeep] true :=
  Program.laidByTextLater.sub seatTie1 ["linchpin/digest.turns", "linchpin/digest.constants", "linchpin/isa.forms"] (by kernel_rfl) (by kernel_rfl)
theorem resolveTells_row_tie : Rows.resolveTellsRow.laidByTextAt .later Tryz.pinned [.data, .data, .widerDeep] true :=
  OpenClaim.laidByTextAt_later rfl rfl tie noOwnUnsafe
theorem resolveAgrees_row_tie : Rows.resolveAgreesRow.laidByTextAt .later Tryz.pinned [.data, .data, .widerDeep] true :=
  OpenClaim.laidByTextAt_later rfl rfl tie noOwnUnsafe
theorem resolveStrong_row_tie : Rows.resolveStrongRow.laidByTextAt .later Tryz.pinned [.data, .data, .widerDeep] true :=
  OpenClaim.laidByTextAt_later rfl rfl tie noOwnUnsafe
theorem resolveLibraries_row_tie : Rows.resolveLibrariesRow.laidByTextAt .later Tryz.pinned [.data, .data, .widerDeep] true :=
  OpenClaim.laidByTextAt_later rfl rfl tie noOwnUnsafe
theorem resolveWeak_row_tie : Rows.resolveWeakRow.laidByTextAt .later Tryz.pinned [.data, .data, .widerDeep] true :=
  OpenClaim.laidByTextAt_later rfl rfl tie noOwnUnsafe
theorem resolveExports_row_tie : Rows.resolveExportsRow.laidByTextAt .later Tryz.pinned [.data, .data, .widerDeep] true :=
  OpenClaim.laidByTextAt_later rfl rfl tie noOwnUnsafe
theorem tie2 : Tryz.prog.laidByTextLater [("linchpin/digest.turns", Rows.laid_linchpin_digest_turns), ("linchpin/digest.constants", Rows.laid_linchpin_digest_constants)] [.data, .data] true :=
  Program.laidByTextLater.sub seatTie1 ["linchpin/digest.turns", "linchpin/digest.constants"] (by kernel_rfl) (by kernel_rfl)
theorem liveLinks_row_tie : Rows.liveLinksRow.laidByTextAt .later Tryz.pinned [.data, .data] true :=
  OpenClaim.laidByTextAt_later rfl rfl tie2 noOwnUnsafe
theorem resolveTellsUpto_row_tie : Rows.resolveTellsUptoRow.laidByTextAt .later Tryz.pinned [.data, .data, .widerDeep] true :=
  OpenClaim.laidByTextAt_later rfl rfl tie noOwnUnsafe
theorem resolveAgreesUpto_row_tie : Rows.resolveAgreesUptoRow.laidByTextAt .later Tryz.pinned [.data, .data, .widerDeep] true :=
  OpenClaim.laidByTextAt_later rfl rfl tie noOwnUnsafe
theorem resolveStrongUpto_row_tie : Rows.resolveStrongUptoRow.laidByTextAt .later Tryz.pinned [.data, .data, .widerDeep] true :=
  OpenClaim.laidByTextAt_later rfl rfl tie noOwnUnsafe
theorem resolveLibrariesUpto_row_tie : Rows.resolveLibrariesUptoRow.laidByTextAt .later Tryz.pinned [.data, .data, .widerDeep] true :=
  OpenClaim.laidByTextAt_later rfl rfl tie noOwnUnsafe
theorem resolveWeakUpto_row_tie : Rows.resolveWeakUptoRow.laidByTextAt .later Tryz.pinned [.data, .data, .widerDeep] true :=
  OpenClaim.laidByTextAt_later rfl rfl tie noOwnUnsafe
theorem resolveExportsUpto_row_tie : Rows.resolveExportsUptoRow.laidByTextAt .later Tryz.pinned [.data, .data, .widerDeep] true :=
  OpenClaim.laidByTextAt_later rfl rfl tie noOwnUnsafe
theorem liveLinksUpto_row_tie : Rows.liveLinksUptoRow.laidByTextAt .later Tryz.pinned [.data, .data] true :=
  OpenClaim.laidByTextAt_later rfl rfl tie2 noOwnUnsafe
end Go.Proofs.YtgmiihmahaahiaaGreatDoor
