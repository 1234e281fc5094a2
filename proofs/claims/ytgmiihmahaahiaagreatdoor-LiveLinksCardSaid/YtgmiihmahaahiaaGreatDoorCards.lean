/-
  DERIVED. GIVEN WITH THE SEED: THE CARDS: each row of YtgmiihmahaahiaaGreatDoorRows.lean that lists a variable, with what it lists TIED to the program's text (the seventh form; the later family's looks); each row that meets fmt, with fmt's text TOLD by the authors' own Lean function (tested against real Go, not proved from fmt's source: count such statements apart). THE CARD IS WHAT COUNTS. Prove the row's statement (the work); the ties are given (YtgmiihmahaahiaaGreatDoorTie.lean); close each card by the builder's one call (the guide's Derived/Test/ToyasCard.lean, 'card_holds'). Laid BY PROGRAM, IN A SANDBOX (cutbox-door.mjs). By AI agents, Wed Nov 11 2026. No macro, syntax, notation, axiom, sorry.
-/
import Derived.Test.YtgmiihmahaahiaaGreatDoorRows
import GoSem.ClaimSeven
namespace Go.Proofs.YtgmiihmahaahiaaGreatDoor
namespace Rows

/-- THE TIED CARD OF 'linchpinlaw13.ResolveTells'. -/
def resolveTellsCard : Claim7 := { stood := { row := resolveTellsRow, standIns := [], harness := (true, "69935a85d33db4cbe00912c7917cdb8543cb74650dcac34d762aa2624b79f471"), looks := false }, kinds := [], alts := [], laidByText := true, laidKinds := [.data, .data, .widerDeep], laidTests := true, laidLooks := .later }
def ResolveTellsCardSaid : Prop := Claim7.holds Tryz.pinned (.plain (OpenSpec.ofChange resolveTellsSpec)) resolveTellsCard

/-- THE TIED CARD OF 'linchpinlaw13.ResolveAgrees'. -/
def resolveAgreesCard : Claim7 := { stood := { row := resolveAgreesRow, standIns := [], harness := (true, "69935a85d33db4cbe00912c7917cdb8543cb74650dcac34d762aa2624b79f471"), looks := false }, kinds := [], alts := [], laidByText := true, laidKinds := [.data, .data, .widerDeep], laidTests := true, laidLooks := .later }
def ResolveAgreesCardSaid : Prop := Claim7.holds Tryz.pinned (.plain (OpenSpec.ofChange resolveAgreesSpec)) resolveAgreesCard

/-- THE TIED CARD OF 'linchpinlaw13.ResolveStrong'. -/
def resolveStrongCard : Claim7 := { stood := { row := resolveStrongRow, standIns := [], harness := (true, "69935a85d33db4cbe00912c7917cdb8543cb74650dcac34d762aa2624b79f471"), looks := false }, kinds := [], alts := [], laidByText := true, laidKinds := [.data, .data, .widerDeep], laidTests := true, laidLooks := .later }
def ResolveStrongCardSaid : Prop := Claim7.holds Tryz.pinned (.plain (OpenSpec.ofChange resolveStrongSpec)) resolveStrongCard

/-- THE TIED CARD OF 'linchpinlaw13.ResolveLibraries'. -/
def resolveLibrariesCard : Claim7 := { stood := { row := resolveLibrariesRow, standIns := [], harness := (true, "69935a85d33db4cbe00912c7917cdb8543cb74650dcac34d762aa2624b79f471"), looks := false }, kinds := [], alts := [], laidByText := true, laidKinds := [.data, .data, .widerDeep], laidTests := true, laidLooks := .later }
def ResolveLibrariesCardSaid : Prop := Claim7.holds Tryz.pinned (.plain (OpenSpec.ofChange resolveLibrariesSpec)) resolveLibrariesCard

/-- THE TIED CARD OF 'linchpinlaw13.ResolveWeak'. -/
def resolveWeakCard : Claim7 := { stood := { row := resolveWeakRow, standIns := [], harness := (true, "69935a85d33db4cbe00912c7917cdb8543cb74650dcac34d762aa2624b79f471"), looks := false }, kinds := [], alts := [], laidByText := true, laidKinds := [.data, .data, .widerDeep], laidTests := true, laidLooks := .later }
def ResolveWeakCardSaid : Prop := Claim7.holds Tryz.pinned (.plain (OpenSpec.ofChange resolveWeakSpec)) resolveWeakCard

/-- THE TIED CARD OF 'linchpinlaw13.ResolveExports'. -/
def resolveExportsCard : Claim7 := { stood := { row := resolveExportsRow, standIns := [], harness := (true, "69935a85d33db4cbe00912c7917cdb8543cb74650dcac34d762aa2624b79f471"), looks := false }, kinds := [], alts := [], laidByText := true, laidKinds := [.data, .data, .widerDeep], laidTests := true, laidLooks := .later }
def ResolveExportsCardSaid : Prop := Claim7.holds Tryz.pinned (.plain (OpenSpec.ofChange resolveExportsSpec)) resolveExportsCard

/-- THE TIED CARD OF 'linchpinlaw14.LiveLinks'. -/
def liveLinksCard : Claim7 := { stood := { row := liveLinksRow, standIns := [], harness := (true, "69935a85d33db4cbe00912c7917cdb8543cb74650dcac34d762aa2624b79f471"), looks := false }, kinds := [], alts := [], laidByText := true, laidKinds := [.data, .data], laidTests := true, laidLooks := .later }
def LiveLinksCardSaid : Prop := Claim7.holds Tryz.pinned (.plain (OpenSpec.ofChange liveLinksSpec)) liveLinksCard

/-- THE SECOND FORM's CARD OF 'linchpinlaw13.ResolveTells'. -/
def resolveTellsUptoCard : Claim7 := { stood := { row := resolveTellsUptoRow, standIns := [], harness := (true, "69935a85d33db4cbe00912c7917cdb8543cb74650dcac34d762aa2624b79f471"), looks := false }, kinds := [], alts := [], laidByText := true, laidKinds := [.data, .data, .widerDeep], laidTests := true, laidLooks := .later }
def ResolveTellsUptoCardSaid : Prop := Claim7.holds Tryz.pinned (.plain (OpenSpec.upto resolveTellsSpec)) resolveTellsUptoCard

/-- THE SECOND FORM's CARD OF 'linchpinlaw13.ResolveAgrees'. -/
def resolveAgreesUptoCard : Claim7 := { stood := { row := resolveAgreesUptoRow, standIns := [], harness := (true, "69935a85d33db4cbe00912c7917cdb8543cb74650dcac34d762aa2624b79f471"), looks := false }, kinds := [], alts := [], laidByText := true, laidKinds := [.data, .data, .widerDeep], laidTests := true, laidLooks := .later }
def ResolveAgreesUptoCardSaid : Prop := Claim7.holds Tryz.pinned (.plain (OpenSpec.upto resolveAgreesSpec)) resolveAgreesUptoCard

/-- THE SECOND FORM's CARD OF 'linchpinlaw13.ResolveStrong'. -/
def resolveStrongUptoCard : Claim7 := { stood := { row := resolveStrongUptoRow, standIns := [], harness := (true, "69935a85d33db4cbe00912c7917cdb8543cb74650dcac34d762aa2624b79f471"), looks := false }, kinds := [], alts := [], laidByText := true, laidKinds := [.data, .data, .widerDeep], laidTests := true, laidLooks := .later }
def ResolveStrongUptoCardSaid : Prop := Claim7.holds Tryz.pinned (.plain (OpenSpec.upto resolveStrongSpec)) resolveStrongUptoCard

/-- THE SECOND FORM's CARD OF 'linchpinlaw13.ResolveLibraries'. -/
def resolveLibrariesUptoCard : Claim7 := { stood := { row := resolveLibrariesUptoRow, standIns := [], harness := (true, "69935a85d33db4cbe00912c7917cdb8543cb74650dcac34d762aa2624b79f471"), looks := false }, kinds := [], alts := [], laidByText := true, laidKinds := [.data, .data, .widerDeep], laidTests := true, laidLooks := .later }
def ResolveLibrariesUptoCardSaid : Prop := Claim7.holds Tryz.pinned (.plain (OpenSpec.upto resolveLibrariesSpec)) resolveLibrariesUptoCard

/-- THE SECOND FORM's CARD OF 'linchpinlaw13.ResolveWeak'. -/
def resolveWeakUptoCard : Claim7 := { stood := { row := resolveWeakUptoRow, standIns := [], harness := (true, "69935a85d33db4cbe00912c7917cdb8543cb74650dcac34d762aa2624b79f471"), looks := false }, kinds := [], alts := [], laidByText := true, laidKinds := [.data, .data, .widerDeep], laidTests := true, laidLooks := .later }
def ResolveWeakUptoCardSaid : Prop := Claim7.holds Tryz.pinned (.plain (OpenSpec.upto resolveWeakSpec)) resolveWeakUptoCard

/-- THE SECOND FORM's CARD OF 'linchpinlaw13.ResolveExports'. -/
def resolveExportsUptoCard : Claim7 := { stood := { row := resolveExportsUptoRow, standIns := [], harness := (true, "69935a85d33db4cbe00912c7917cdb8543cb74650dcac34d762aa2624b79f471"), looks := false }, kinds := [], alts := [], laidByText := true, laidKinds := [.data, .data, .widerDeep], laidTests := true, laidLooks := .later }
def ResolveExportsUptoCardSaid : Prop := Claim7.holds Tryz.pinned (.plain (OpenSpec.upto resolveExportsSpec)) resolveExportsUptoCard

/-- THE SECOND FORM's CARD OF 'linchpinlaw14.LiveLinks'. -/
def liveLinksUptoCard : Claim7 := { stood := { row := liveLinksUptoRow, standIns := [], harness := (true, "69935a85d33db4cbe00912c7917cdb8543cb74650dcac34d762aa2624b79f471"), looks := false }, kinds := [], alts := [], laidByText := true, laidKinds := [.data, .data], laidTests := true, laidLooks := .later }
def LiveLinksUptoCardSaid : Prop := Claim7.holds Tryz.pinned (.plain (OpenSpec.upto liveLinksSpec)) liveLinksUptoCard
end Rows
end Go.Proofs.YtgmiihmahaahiaaGreatDoor
