/-
  NARROWER THAN 'FOR EVERY INPUT', by the rows' own cells (each row's printed sentence says how): MachineTells: laid · MachineUses: laid.
  DERIVED. THE GIVEN ROWS OF THIS SEAT. 2 by the template 'for every input the law returns true; each argument reads behind the call as it read before'; 0 by the template 'total and deterministic' (their statements: YtpgcoceggacplaaGreatDoorTotals.lean).
  GIVEN WITH THE SEED: the statements are not yours to turn. If you find one false, say at which input.
  Laid BY PROGRAM, IN A SANDBOX (cutbox-rows.mjs): the forced cells as the released guide's own fill.sh prints them over the translation e5e31ff2b3b111c5… (all of the seat's roots in one cut). By AI agents, Wed Nov 11 2026. No macro, syntax, notation, axiom, sorry.
-/
import Derived.Test.YtpgcoceggacplaaGreatDoorChecked
import GoSem.Claim
import GoSem.ClaimJoined
import GoSem.ClaimMapViews
import Derived.JoinedTies
import Derived.KernelRfl
namespace Go.Proofs.YtpgcoceggacplaaGreatDoor
/- THE CELL 'sum', in the pinned program and in every row, IS THE sha256 OF THE DUMP (.gsa) THAT YtpgcoceggacplaaGreatDoorProg.lean LOADS. Nothing in Lean hashes anything: it is a label: what it is worth is what the hold of that sum in a sandbox is worth. -/
noncomputable def Tryz.pinned : Pinned := { name := "ytpgcoceggacplaagreatdoor", sum := "e5e31ff2b3b111c502099b67203898fa7ef5f4ae9a466e66bfff5c5df4f166f4", checked := Tryz.checked }
namespace Rows
def none {H : Type} : Left H := { results := [], args := [] }

/- WHAT THE LISTED PACKAGE-LEVEL VARIABLES READ AS WHEN THE CALL BEGINS. Each datum BY PROGRAM (the guide's laid-datum.mjs) off the statement by which the dump's own 'gosem.cut.vars' lays the variable. In a bare row this is a premise. The card (YtpgcoceggacplaaGreatDoorCards.lean) ties it to the program's text. -/
def laid_linchpin_isa_forms {H : Type} : DataW H := .agg [.agg [.lit (.string []), .lit (.string []), .lit (.string []), .lit (.string [])], .agg [.lit (.string [110, 111, 112]), .lit (.string []), .lit (.string []), .lit (.string [])], .agg [.lit (.string [115, 97, 102, 101]), .lit (.string []), .lit (.string []), .lit (.string [])], .agg [.lit (.string [115, 101, 116]), .lit (.string [65, 73]), .lit (.string []), .lit (.string [65])], .agg [.lit (.string [104, 105, 103, 104]), .lit (.string [65, 73]), .lit (.string [65]), .lit (.string [65])], .agg [.lit (.string [109, 111, 118, 101]), .lit (.string [65, 66]), .lit (.string [66]), .lit (.string [65])], .agg [.lit (.string [97, 100, 100]), .lit (.string [65, 66, 67]), .lit (.string [66, 67]), .lit (.string [65])], .agg [.lit (.string [115, 117, 98]), .lit (.string [65, 66, 67]), .lit (.string [66, 67]), .lit (.string [65])], .agg [.lit (.string [109, 117, 108]), .lit (.string [65, 66, 67]), .lit (.string [66, 67]), .lit (.string [65])], .agg [.lit (.string [97, 110, 100]), .lit (.string [65, 66, 67]), .lit (.string [66, 67]), .lit (.string [65])], .agg [.lit (.string [111, 114]), .lit (.string [65, 66, 67]), .lit (.string [66, 67]), .lit (.string [65])], .agg [.lit (.string [108, 101, 115, 115]), .lit (.string [65, 66, 67]), .lit (.string [66, 67]), .lit (.string [65])], .agg [.lit (.string [115, 97, 109, 101]), .lit (.string [65, 66, 67]), .lit (.string [66, 67]), .lit (.string [65])], .agg [.lit (.string [97, 100, 100, 105]), .lit (.string [65, 66, 73]), .lit (.string [66]), .lit (.string [65])], .agg [.lit (.string [97, 100, 100, 114]), .lit (.string [65, 73]), .lit (.string []), .lit (.string [65])], .agg [.lit (.string [108, 111, 97, 100]), .lit (.string [65, 66, 73]), .lit (.string [66]), .lit (.string [65])], .agg [.lit (.string [98, 121, 116, 101]), .lit (.string [65, 66, 73]), .lit (.string [66]), .lit (.string [65])], .agg [.lit (.string [115, 116, 111, 114, 101]), .lit (.string [65, 66, 73]), .lit (.string [65, 66]), .lit (.string [])], .agg [.lit (.string [112, 117, 116]), .lit (.string [65, 66, 73]), .lit (.string [65, 66]), .lit (.string [])], .agg [.lit (.string [106, 117, 109, 112]), .lit (.string [73]), .lit (.string []), .lit (.string [])], .agg [.lit (.string [122, 101, 114, 111]), .lit (.string [65, 73]), .lit (.string [65]), .lit (.string [])], .agg [.lit (.string [110, 111, 110, 122, 101, 114, 111]), .lit (.string [65, 73]), .lit (.string [65]), .lit (.string [])], .agg [.lit (.string [99, 97, 108, 108]), .lit (.string [73]), .lit (.string [83]), .lit (.string [83])], .agg [.lit (.string [99, 97, 108, 108, 114]), .lit (.string [65]), .lit (.string [65, 83]), .lit (.string [83])], .agg [.lit (.string [99, 97, 108, 108, 115]), .lit (.string [73]), .lit (.string [83]), .lit (.string [83])], .agg [.lit (.string [106, 117, 109, 112, 115]), .lit (.string [73]), .lit (.string []), .lit (.string [])], .agg [.lit (.string [114, 101, 116, 117, 114, 110]), .lit (.string []), .lit (.string [83]), .lit (.string [83])], .agg [.lit (.string [112, 117, 115, 104]), .lit (.string [65]), .lit (.string [65, 83]), .lit (.string [83])], .agg [.lit (.string [112, 111, 112]), .lit (.string [65]), .lit (.string [83]), .lit (.string [65, 83])], .agg [.lit (.string [116, 108, 115]), .lit (.string [65, 66]), .lit (.string [66]), .lit (.string [65])], .agg [.lit (.string [115, 121, 115]), .lit (.string [73]), .lit (.string []), .lit (.string [])]]
def laid_linchpin_isa_calls {H : Type} : DataW H := .agg [.agg [.lit (.int .i64 0), .lit (.int .i64 0)], .agg [.lit (.int .i64 1), .lit (.int .i64 0)], .agg [.lit (.int .i64 1), .lit (.int .i64 1)], .agg [.lit (.int .i64 2), .lit (.int .i64 1)], .agg [.lit (.int .i64 0), .lit (.int .i64 0)], .agg [.lit (.int .i64 3), .lit (.int .i64 1)], .agg [.lit (.int .i64 1), .lit (.int .i64 1)], .agg [.lit (.int .i64 3), .lit (.int .i64 1)]]

/-- 'linchpinlaw29.MachineTells': WHATEVER THE INPUT: true; the input reads as it did. -/
def machineTellsSpec : ChangeSpec := { name := "machineTells", fn := fun _ => fun
  | [d1, d2] => { results := [.lit (.bool true)], args := [d1, d2] }
  | _ => none }
def machineTellsRow : OpenClaim := { program := "ytpgcoceggacplaagreatdoor", sum := "e5e31ff2b3b111c502099b67203898fa7ef5f4ae9a466e66bfff5c5df4f166f4", func := "linchpin/linchpinlaw29.MachineTells", spec := "machineTells", inPlace := ["slices.overlaps[linchpin/space.part]", "internal/bytealg.IndexByteString"], unfollowed := true, recurses := true, named := ["linchpin/isa.forms"], apart := false, laid := [("linchpin/isa.forms", laid_linchpin_isa_forms)] }
def MachineTellsSaid : Prop := machineTellsRow.holds Tryz.pinned (OpenSpec.ofChange machineTellsSpec)

/-- ITS FALSE NEIGHBOUR: 'it returns false'. Refute it at one input. -/
def machineTellsWrong : ChangeSpec := { name := "machineTells", fn := fun _ => fun
  | [d1, d2] => { results := [.lit (.bool false)], args := [d1, d2] }
  | _ => none }
def MachineTellsWrongFalsely : Prop := machineTellsRow.holds Tryz.pinned (OpenSpec.ofChange machineTellsWrong)

/-- 'linchpinlaw29.MachineUses': WHATEVER THE INPUT: true; the input reads as it did. -/
def machineUsesSpec : ChangeSpec := { name := "machineUses", fn := fun _ => fun
  | [d1, d2, d3] => { results := [.lit (.bool true)], args := [d1, d2, d3] }
  | _ => none }
def machineUsesRow : OpenClaim := { program := "ytpgcoceggacplaagreatdoor", sum := "e5e31ff2b3b111c502099b67203898fa7ef5f4ae9a466e66bfff5c5df4f166f4", func := "linchpin/linchpinlaw29.MachineUses", spec := "machineUses", inPlace := ["slices.overlaps[linchpin/space.part]", "internal/bytealg.IndexByteString"], unfollowed := true, recurses := true, named := ["linchpin/isa.forms", "linchpin/isa.calls"], apart := false, laid := [("linchpin/isa.forms", laid_linchpin_isa_forms), ("linchpin/isa.calls", laid_linchpin_isa_calls)] }
def MachineUsesSaid : Prop := machineUsesRow.holds Tryz.pinned (OpenSpec.ofChange machineUsesSpec)

/-- ITS FALSE NEIGHBOUR: 'it returns false'. Refute it at one input. -/
def machineUsesWrong : ChangeSpec := { name := "machineUses", fn := fun _ => fun
  | [d1, d2, d3] => { results := [.lit (.bool false)], args := [d1, d2, d3] }
  | _ => none }
def MachineUsesWrongFalsely : Prop := machineUsesRow.holds Tryz.pinned (OpenSpec.ofChange machineUsesWrong)

/- THE SECOND FORM. 'bulk': how many values and letters a reading holds, each counted each time it is reached (what is shared counts as often as it is met; a slice's spare places count too). A statement '..UptoSaid' is the law's where the arguments, and the package variables that the reading takes, are together of bulk at most 1048576: NARROWER than '..Said'. Prove '..Said' where nothing that the law and all that it calls make is longer than what came in: it says more and counts as full. Else prove '..UptoSaid'. A law counts once. -/
mutual
def uptoBulk {H : Type} : DataW H → Nat
  | .lit (.string bytes) => bytes.length + 1
  | .lit _ => 1
  | .nil => 1
  | .ptr d => uptoBulk d + 1
  | .slice elems spare => uptoBulkAll elems + uptoBulkAll spare + 1
  | .agg parts => uptoBulkAll parts + 1
  | .iface _ d => uptoBulk d + 1
  | .map entries => uptoBulkEntries entries + 1
  | .held _ => 1
def uptoBulkAll {H : Type} : List (DataW H) → Nat
  | [] => 0
  | d :: r => uptoBulk d + uptoBulkAll r
def uptoBulkEntries {H : Type} : List (Lit × DataW H) → Nat
  | [] => 0
  | x :: r => uptoBulkEntry x + uptoBulkEntries r
def uptoBulkEntry {H : Type} : Lit × DataW H → Nat
  | (.string bytes, d) => bytes.length + uptoBulk d + 1
  | (_, d) => uptoBulk d + 1
 end
def uptoSmall : (H : Type) → List (DataW H) → Bool := fun _ ds => decide (uptoBulkAll ds ≤ 1048576)
def OpenSpec.upto (s : _root_.Go.ChangeSpec) : _root_.Go.OpenSpec := { _root_.Go.OpenSpec.ofChange s with cond := some uptoSmall }

/-- 'linchpinlaw29.MachineTells', WHERE WHAT IT READS IS OF BULK AT MOST 1048576: true; the input reads as it did. -/
def machineTellsUptoRow : OpenClaim := { program := "ytpgcoceggacplaagreatdoor", sum := "e5e31ff2b3b111c502099b67203898fa7ef5f4ae9a466e66bfff5c5df4f166f4", func := "linchpin/linchpinlaw29.MachineTells", spec := "machineTells", inPlace := ["slices.overlaps[linchpin/space.part]", "internal/bytealg.IndexByteString"], unfollowed := true, recurses := true, named := ["linchpin/isa.forms"], apart := false, laid := [("linchpin/isa.forms", laid_linchpin_isa_forms)], narrowed := true }
def MachineTellsUptoSaid : Prop := machineTellsUptoRow.holds Tryz.pinned (OpenSpec.upto machineTellsSpec)

/-- 'linchpinlaw29.MachineUses', WHERE WHAT IT READS IS OF BULK AT MOST 1048576: true; the input reads as it did. -/
def machineUsesUptoRow : OpenClaim := { program := "ytpgcoceggacplaagreatdoor", sum := "e5e31ff2b3b111c502099b67203898fa7ef5f4ae9a466e66bfff5c5df4f166f4", func := "linchpin/linchpinlaw29.MachineUses", spec := "machineUses", inPlace := ["slices.overlaps[linchpin/space.part]", "internal/bytealg.IndexByteString"], unfollowed := true, recurses := true, named := ["linchpin/isa.forms", "linchpin/isa.calls"], apart := false, laid := [("linchpin/isa.forms", laid_linchpin_isa_forms), ("linchpin/isa.calls", laid_linchpin_isa_calls)], narrowed := true }
def MachineUsesUptoSaid : Prop := machineUsesUptoRow.holds Tryz.pinned (OpenSpec.upto machineUsesSpec)

end Rows
end Go.Proofs.YtpgcoceggacplaaGreatDoor
