/-
  NARROWER THAN 'FOR EVERY INPUT', by the rows' own cells (each row's printed sentence says how): StubChecks: laid · StubNeeds: laid.
  DERIVED. THE GIVEN ROWS OF THIS SEAT. 2 by the template 'for every input the law returns true; each argument reads behind the call as it read before'; 0 by the template 'total and deterministic' (their statements: YtgkbbdgklpabpaaGreatDoorTotals.lean).
  GIVEN WITH THE SEED: the statements are not yours to turn. If you find one false, say at which input.
  Laid BY PROGRAM, IN A SANDBOX (cutbox-rows.mjs): the forced cells as the released guide's own fill.sh prints them over the translation 7dd83015da1c8741… (all of the seat's roots in one cut). By AI agents, Wed Nov 11 2026. No macro, syntax, notation, axiom, sorry.
-/
import Derived.Test.YtgkbbdgklpabpaaGreatDoorChecked
import GoSem.Claim
import GoSem.ClaimJoined
import GoSem.ClaimMapViews
import Derived.JoinedTies
import Derived.KernelRfl
namespace Go.Proofs.YtgkbbdgklpabpaaGreatDoor
/- THE CELL 'sum', in the pinned program and in every row, IS THE sha256 OF THE DUMP (.gsa) THAT YtgkbbdgklpabpaaGreatDoorProg.lean LOADS. Nothing in Lean hashes anything: it is a label: what it is worth is what the hold of that sum in a sandbox is worth. -/
noncomputable def Tryz.pinned : Pinned := { name := "ytgkbbdgklpabpaagreatdoor", sum := "7dd83015da1c87411f194dfdfdca25f934a3421e978a763fcd7c5ed715d56462", checked := Tryz.checked }
namespace Rows
def none {H : Type} : Left H := { results := [], args := [] }

/- WHAT THE LISTED PACKAGE-LEVEL VARIABLES READ AS WHEN THE CALL BEGINS. Each datum BY PROGRAM (the guide's laid-datum.mjs) off the statement by which the dump's own 'gosem.cut.vars' lays the variable. In a bare row this is a premise. The card (YtgkbbdgklpabpaaGreatDoorCards.lean) ties it to the program's text. -/
def laid_linchpin_isa_forms {H : Type} : DataW H := .agg [.agg [.lit (.string []), .lit (.string []), .lit (.string []), .lit (.string [])], .agg [.lit (.string [110, 111, 112]), .lit (.string []), .lit (.string []), .lit (.string [])], .agg [.lit (.string [115, 97, 102, 101]), .lit (.string []), .lit (.string []), .lit (.string [])], .agg [.lit (.string [115, 101, 116]), .lit (.string [65, 73]), .lit (.string []), .lit (.string [65])], .agg [.lit (.string [104, 105, 103, 104]), .lit (.string [65, 73]), .lit (.string [65]), .lit (.string [65])], .agg [.lit (.string [109, 111, 118, 101]), .lit (.string [65, 66]), .lit (.string [66]), .lit (.string [65])], .agg [.lit (.string [97, 100, 100]), .lit (.string [65, 66, 67]), .lit (.string [66, 67]), .lit (.string [65])], .agg [.lit (.string [115, 117, 98]), .lit (.string [65, 66, 67]), .lit (.string [66, 67]), .lit (.string [65])], .agg [.lit (.string [109, 117, 108]), .lit (.string [65, 66, 67]), .lit (.string [66, 67]), .lit (.string [65])], .agg [.lit (.string [97, 110, 100]), .lit (.string [65, 66, 67]), .lit (.string [66, 67]), .lit (.string [65])], .agg [.lit (.string [111, 114]), .lit (.string [65, 66, 67]), .lit (.string [66, 67]), .lit (.string [65])], .agg [.lit (.string [108, 101, 115, 115]), .lit (.string [65, 66, 67]), .lit (.string [66, 67]), .lit (.string [65])], .agg [.lit (.string [115, 97, 109, 101]), .lit (.string [65, 66, 67]), .lit (.string [66, 67]), .lit (.string [65])], .agg [.lit (.string [97, 100, 100, 105]), .lit (.string [65, 66, 73]), .lit (.string [66]), .lit (.string [65])], .agg [.lit (.string [97, 100, 100, 114]), .lit (.string [65, 73]), .lit (.string []), .lit (.string [65])], .agg [.lit (.string [108, 111, 97, 100]), .lit (.string [65, 66, 73]), .lit (.string [66]), .lit (.string [65])], .agg [.lit (.string [98, 121, 116, 101]), .lit (.string [65, 66, 73]), .lit (.string [66]), .lit (.string [65])], .agg [.lit (.string [115, 116, 111, 114, 101]), .lit (.string [65, 66, 73]), .lit (.string [65, 66]), .lit (.string [])], .agg [.lit (.string [112, 117, 116]), .lit (.string [65, 66, 73]), .lit (.string [65, 66]), .lit (.string [])], .agg [.lit (.string [106, 117, 109, 112]), .lit (.string [73]), .lit (.string []), .lit (.string [])], .agg [.lit (.string [122, 101, 114, 111]), .lit (.string [65, 73]), .lit (.string [65]), .lit (.string [])], .agg [.lit (.string [110, 111, 110, 122, 101, 114, 111]), .lit (.string [65, 73]), .lit (.string [65]), .lit (.string [])], .agg [.lit (.string [99, 97, 108, 108]), .lit (.string [73]), .lit (.string [83]), .lit (.string [83])], .agg [.lit (.string [99, 97, 108, 108, 114]), .lit (.string [65]), .lit (.string [65, 83]), .lit (.string [83])], .agg [.lit (.string [99, 97, 108, 108, 115]), .lit (.string [73]), .lit (.string [83]), .lit (.string [83])], .agg [.lit (.string [106, 117, 109, 112, 115]), .lit (.string [73]), .lit (.string []), .lit (.string [])], .agg [.lit (.string [114, 101, 116, 117, 114, 110]), .lit (.string []), .lit (.string [83]), .lit (.string [83])], .agg [.lit (.string [112, 117, 115, 104]), .lit (.string [65]), .lit (.string [65, 83]), .lit (.string [83])], .agg [.lit (.string [112, 111, 112]), .lit (.string [65]), .lit (.string [83]), .lit (.string [65, 83])], .agg [.lit (.string [116, 108, 115]), .lit (.string [65, 66]), .lit (.string [66]), .lit (.string [65])], .agg [.lit (.string [115, 121, 115]), .lit (.string [73]), .lit (.string []), .lit (.string [])]]
def laid_linchpin_reloc_rows {H : Type} : DataW H := .agg [.agg [.lit (.int .i64 0), .lit (.int .i64 8), .nil], .agg [.lit (.int .i64 0), .lit (.int .i64 8), .nil], .agg [.lit (.int .i64 0), .lit (.int .i64 4), .nil], .agg [.lit (.int .i64 0), .lit (.int .i64 2), .nil], .agg [.lit (.int .i64 0), .lit (.int .i64 8), .nil], .agg [.lit (.int .i64 4), .lit (.int .i64 4), .slice [.lit (.int .i64 14), .lit (.int .i64 19), .lit (.int .i64 20), .lit (.int .i64 21)] []], .agg [.lit (.int .i64 4), .lit (.int .i64 4), .slice [.lit (.int .i64 22)] []], .agg [.lit (.int .i64 4), .lit (.int .i64 4), .slice [.lit (.int .i64 24), .lit (.int .i64 25)] []], .agg [.lit (.int .i64 4), .lit (.int .i64 4), .slice [.lit (.int .i64 3)] []], .agg [.lit (.int .i64 4), .lit (.int .i64 4), .slice [.lit (.int .i64 4)] []], .agg [.lit (.int .i64 4), .lit (.int .i64 4), .slice [.lit (.int .i64 13), .lit (.int .i64 3)] []], .agg [.lit (.int .i64 0), .lit (.int .i64 8), .nil], .agg [.lit (.int .i64 0), .lit (.int .i64 8), .nil]]

/-- 'linchpinlaw19.StubChecks': WHATEVER THE INPUT: true; the input reads as it did. -/
def stubChecksSpec : ChangeSpec := { name := "stubChecks", fn := fun _ => fun
  | [d1, d2] => { results := [.lit (.bool true)], args := [d1, d2] }
  | _ => none }
def stubChecksRow : OpenClaim := { program := "ytgkbbdgklpabpaagreatdoor", sum := "7dd83015da1c87411f194dfdfdca25f934a3421e978a763fcd7c5ed715d56462", func := "linchpin/linchpinlaw19.StubChecks", spec := "stubChecks", inPlace := ["internal/bytealg.IndexByteString"], unfollowed := true, recurses := true, named := ["linchpin/reloc.rows", "linchpin/isa.forms"], plainKeys := false, apart := false, laid := [("linchpin/isa.forms", laid_linchpin_isa_forms), ("linchpin/reloc.rows", laid_linchpin_reloc_rows)] }
def StubChecksSaid : Prop := stubChecksRow.holds Tryz.pinned (OpenSpec.ofChange stubChecksSpec)

/-- ITS FALSE NEIGHBOUR: 'it returns false'. Refute it at one input. -/
def stubChecksWrong : ChangeSpec := { name := "stubChecks", fn := fun _ => fun
  | [d1, d2] => { results := [.lit (.bool false)], args := [d1, d2] }
  | _ => none }
def StubChecksWrongFalsely : Prop := stubChecksRow.holds Tryz.pinned (OpenSpec.ofChange stubChecksWrong)

/-- 'linchpinlaw19.StubNeeds': WHATEVER THE INPUT: true; the input reads as it did. -/
def stubNeedsSpec : ChangeSpec := { name := "stubNeeds", fn := fun _ => fun
  | [d1, d2] => { results := [.lit (.bool true)], args := [d1, d2] }
  | _ => none }
def stubNeedsRow : OpenClaim := { program := "ytgkbbdgklpabpaagreatdoor", sum := "7dd83015da1c87411f194dfdfdca25f934a3421e978a763fcd7c5ed715d56462", func := "linchpin/linchpinlaw19.StubNeeds", spec := "stubNeeds", inPlace := ["internal/bytealg.IndexByteString"], unfollowed := true, recurses := true, named := ["linchpin/reloc.rows", "linchpin/isa.forms"], plainKeys := false, apart := false, laid := [("linchpin/isa.forms", laid_linchpin_isa_forms), ("linchpin/reloc.rows", laid_linchpin_reloc_rows)] }
def StubNeedsSaid : Prop := stubNeedsRow.holds Tryz.pinned (OpenSpec.ofChange stubNeedsSpec)

/-- ITS FALSE NEIGHBOUR: 'it returns false'. Refute it at one input. -/
def stubNeedsWrong : ChangeSpec := { name := "stubNeeds", fn := fun _ => fun
  | [d1, d2] => { results := [.lit (.bool false)], args := [d1, d2] }
  | _ => none }
def StubNeedsWrongFalsely : Prop := stubNeedsRow.holds Tryz.pinned (OpenSpec.ofChange stubNeedsWrong)

/- THE SECOND FORM. 'bulk': how many values and letters a reading holds, each counted each time it is reached (what is shared counts as often as it is met; a slice's spare places count too). A statement '..UptoSaid' is the law's where the arguments, and the package variables that the reading takes, are together of bulk at most 1048576: NARROWER than '..Said'. Prove '..Said' where nothing that the law and all that it calls make is longer than what came in: it says more and counts as full. Else prove '..UptoSaid'. A law counts once. -/
mutual
def uptoBulk {H : Type} : DataW H → Nat
  | .lit (.string bytes) => bytes.length + 1
  | .lit _ => 1
  | .nil => 1
  | .ptr d => uptoBulk d + 1
  | .slice elems spare => uptoBulkAll elems + uptoBulkAll spare + 1
  | .agg parts => uptoBulkAll parts + 1
  | .iface _ d => uptoBulk d + 1
  | .map entries => uptoBulkEntries entries + 1
  | .held _ => 1
def uptoBulkAll {H : Type} : List (DataW H) → Nat
  | [] => 0
  | d :: r => uptoBulk d + uptoBulkAll r
def uptoBulkEntries {H : Type} : List (Lit × DataW H) → Nat
  | [] => 0
  | x :: r => uptoBulkEntry x + uptoBulkEntries r
def uptoBulkEntry {H : Type} : Lit × DataW H → Nat
  | (.string bytes, d) => bytes.length + uptoBulk d + 1
  | (_, d) => uptoBulk d + 1
 end
def uptoSmall : (H : Type) → List (DataW H) → Bool := fun _ ds => decide (uptoBulkAll ds ≤ 1048576)
def OpenSpec.upto (s : _root_.Go.ChangeSpec) : _root_.Go.OpenSpec := { _root_.Go.OpenSpec.ofChange s with cond := some uptoSmall }

/-- 'linchpinlaw19.StubChecks', WHERE WHAT IT READS IS OF BULK AT MOST 1048576: true; the input reads as it did. -/
def stubChecksUptoRow : OpenClaim := { program := "ytgkbbdgklpabpaagreatdoor", sum := "7dd83015da1c87411f194dfdfdca25f934a3421e978a763fcd7c5ed715d56462", func := "linchpin/linchpinlaw19.StubChecks", spec := "stubChecks", inPlace := ["internal/bytealg.IndexByteString"], unfollowed := true, recurses := true, named := ["linchpin/reloc.rows", "linchpin/isa.forms"], plainKeys := false, apart := false, laid := [("linchpin/isa.forms", laid_linchpin_isa_forms), ("linchpin/reloc.rows", laid_linchpin_reloc_rows)], narrowed := true }
def StubChecksUptoSaid : Prop := stubChecksUptoRow.holds Tryz.pinned (OpenSpec.upto stubChecksSpec)

/-- 'linchpinlaw19.StubNeeds', WHERE WHAT IT READS IS OF BULK AT MOST 1048576: true; the input reads as it did. -/
def stubNeedsUptoRow : OpenClaim := { program := "ytgkbbdgklpabpaagreatdoor", sum := "7dd83015da1c87411f194dfdfdca25f934a3421e978a763fcd7c5ed715d56462", func := "linchpin/linchpinlaw19.StubNeeds", spec := "stubNeeds", inPlace := ["internal/bytealg.IndexByteString"], unfollowed := true, recurses := true, named := ["linchpin/reloc.rows", "linchpin/isa.forms"], plainKeys := false, apart := false, laid := [("linchpin/isa.forms", laid_linchpin_isa_forms), ("linchpin/reloc.rows", laid_linchpin_reloc_rows)], narrowed := true }
def StubNeedsUptoSaid : Prop := stubNeedsUptoRow.holds Tryz.pinned (OpenSpec.upto stubNeedsSpec)

end Rows
end Go.Proofs.YtgkbbdgklpabpaaGreatDoor
