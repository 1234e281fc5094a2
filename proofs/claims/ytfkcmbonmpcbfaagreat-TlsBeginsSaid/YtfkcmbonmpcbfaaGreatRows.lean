/-
  No cell of these rows narrows 'for every input' (looked for: loops, veiled, ifaces, maps, wideKeys, modest, calm, conditions, laid).
  DERIVED. THE GIVEN ROWS OF THIS SEAT. 5 by the template 'for every input the law returns true; each argument reads behind the call as it read before'; 0 by the template 'total and deterministic' (their statements: YtfkcmbonmpcbfaaGreatTotals.lean).
  GIVEN WITH THE SEED: the statements are not yours to turn. If you find one false, say at which input.
  Laid BY PROGRAM, IN A SANDBOX (cutbox-rows.mjs): the forced cells as the released guide's own fill.sh prints them over the translation 9975021db8ac4775… (all of the seat's roots in one cut). By AI agents, Wed Nov 11 2026. No macro, syntax, notation, axiom, sorry.
-/
import Derived.Test.YtfkcmbonmpcbfaaGreatChecked
import GoSem.Claim
import GoSem.ClaimJoined
import GoSem.ClaimMapViews
import Derived.JoinedTies
import Derived.KernelRfl
namespace Go.Proofs.YtfkcmbonmpcbfaaGreat
/- THE CELL 'sum', in the pinned program and in every row, IS THE sha256 OF THE DUMP (.gsa) THAT YtfkcmbonmpcbfaaGreatProg.lean LOADS. Nothing in Lean hashes anything: it is a label: what it is worth is what the hold of that sum in a sandbox is worth. -/
noncomputable def Tryz.pinned : Pinned := { name := "ytfkcmbonmpcbfaagreat", sum := "9975021db8ac477544f9e5f595fcde4660b126720f13e77634527d861ee8cf25", checked := Tryz.checked }
namespace Rows
def none {H : Type} : Left H := { results := [], args := [] }

/-- 'linchpinlaw20.ImageReads': WHATEVER THE INPUT: true; the input reads as it did. -/
def imageReadsSpec : ChangeSpec := { name := "imageReads", fn := fun _ => fun
  | [d] => { results := [.lit (.bool true)], args := [d] }
  | _ => none }
def imageReadsRow : OpenClaim := { program := "ytfkcmbonmpcbfaagreat", sum := "9975021db8ac477544f9e5f595fcde4660b126720f13e77634527d861ee8cf25", func := "linchpin/linchpinlaw20.ImageReads", spec := "imageReads", inPlace := ["internal/abi.NoEscape", "internal/bytealg.MakeNoZero"], unfollowed := true, recurses := true, plainKeys := false, apart := false }
def ImageReadsSaid : Prop := imageReadsRow.holds Tryz.pinned (OpenSpec.ofChange imageReadsSpec)

/-- ITS FALSE NEIGHBOUR: 'it returns false'. Refute it at one input. -/
def imageReadsWrong : ChangeSpec := { name := "imageReads", fn := fun _ => fun
  | [d] => { results := [.lit (.bool false)], args := [d] }
  | _ => none }
def ImageReadsWrongFalsely : Prop := imageReadsRow.holds Tryz.pinned (OpenSpec.ofChange imageReadsWrong)

/-- 'linchpinlaw30.TlsBegins': WHATEVER THE INPUT: true; the input reads as it did. -/
def tlsBeginsSpec : ChangeSpec := { name := "tlsBegins", fn := fun _ => fun
  | [d1, d2, d3] => { results := [.lit (.bool true)], args := [d1, d2, d3] }
  | _ => none }
def tlsBeginsRow : OpenClaim := { program := "ytfkcmbonmpcbfaagreat", sum := "9975021db8ac477544f9e5f595fcde4660b126720f13e77634527d861ee8cf25", func := "linchpin/linchpinlaw30.TlsBegins", spec := "tlsBegins", inPlace := ["slices.overlaps[linchpin/space.part]"], unfollowed := true, recurses := true, plainKeys := false, apart := false }
def TlsBeginsSaid : Prop := tlsBeginsRow.holds Tryz.pinned (OpenSpec.ofChange tlsBeginsSpec)

/-- ITS FALSE NEIGHBOUR: 'it returns false'. Refute it at one input. -/
def tlsBeginsWrong : ChangeSpec := { name := "tlsBegins", fn := fun _ => fun
  | [d1, d2, d3] => { results := [.lit (.bool false)], args := [d1, d2, d3] }
  | _ => none }
def TlsBeginsWrongFalsely : Prop := tlsBeginsRow.holds Tryz.pinned (OpenSpec.ofChange tlsBeginsWrong)

/-- 'linchpinlaw30.TlsBlocks': WHATEVER THE INPUT: true; the input reads as it did. -/
def tlsBlocksSpec : ChangeSpec := { name := "tlsBlocks", fn := fun _ => fun
  | [d1, d2] => { results := [.lit (.bool true)], args := [d1, d2] }
  | _ => none }
def tlsBlocksRow : OpenClaim := { program := "ytfkcmbonmpcbfaagreat", sum := "9975021db8ac477544f9e5f595fcde4660b126720f13e77634527d861ee8cf25", func := "linchpin/linchpinlaw30.TlsBlocks", spec := "tlsBlocks", inPlace := ["slices.overlaps[linchpin/space.part]"], unfollowed := true, recurses := true, plainKeys := false, apart := false }
def TlsBlocksSaid : Prop := tlsBlocksRow.holds Tryz.pinned (OpenSpec.ofChange tlsBlocksSpec)

/-- ITS FALSE NEIGHBOUR: 'it returns false'. Refute it at one input. -/
def tlsBlocksWrong : ChangeSpec := { name := "tlsBlocks", fn := fun _ => fun
  | [d1, d2] => { results := [.lit (.bool false)], args := [d1, d2] }
  | _ => none }
def TlsBlocksWrongFalsely : Prop := tlsBlocksRow.holds Tryz.pinned (OpenSpec.ofChange tlsBlocksWrong)

/-- 'linchpinlaw30.TlsTells': WHATEVER THE INPUT: true; the input reads as it did. -/
def tlsTellsSpec : ChangeSpec := { name := "tlsTells", fn := fun _ => fun
  | [d1, d2, d3] => { results := [.lit (.bool true)], args := [d1, d2, d3] }
  | _ => none }
def tlsTellsRow : OpenClaim := { program := "ytfkcmbonmpcbfaagreat", sum := "9975021db8ac477544f9e5f595fcde4660b126720f13e77634527d861ee8cf25", func := "linchpin/linchpinlaw30.TlsTells", spec := "tlsTells", inPlace := ["slices.overlaps[linchpin/space.part]", "maps.clone"], unfollowed := true, recurses := true, plainKeys := false, apart := false }
def TlsTellsSaid : Prop := tlsTellsRow.holds Tryz.pinned (OpenSpec.ofChange tlsTellsSpec)

/-- ITS FALSE NEIGHBOUR: 'it returns false'. Refute it at one input. -/
def tlsTellsWrong : ChangeSpec := { name := "tlsTells", fn := fun _ => fun
  | [d1, d2, d3] => { results := [.lit (.bool false)], args := [d1, d2, d3] }
  | _ => none }
def TlsTellsWrongFalsely : Prop := tlsTellsRow.holds Tryz.pinned (OpenSpec.ofChange tlsTellsWrong)

/-- 'linchpinlaw30.TlsFails': WHATEVER THE INPUT: true; the input reads as it did. -/
def tlsFailsSpec : ChangeSpec := { name := "tlsFails", fn := fun _ => fun
  | [d1, d2, d3] => { results := [.lit (.bool true)], args := [d1, d2, d3] }
  | _ => none }
def tlsFailsRow : OpenClaim := { program := "ytfkcmbonmpcbfaagreat", sum := "9975021db8ac477544f9e5f595fcde4660b126720f13e77634527d861ee8cf25", func := "linchpin/linchpinlaw30.TlsFails", spec := "tlsFails", inPlace := ["slices.overlaps[linchpin/space.part]", "maps.clone"], unfollowed := true, recurses := true, plainKeys := false, apart := false }
def TlsFailsSaid : Prop := tlsFailsRow.holds Tryz.pinned (OpenSpec.ofChange tlsFailsSpec)

/-- ITS FALSE NEIGHBOUR: 'it returns false'. Refute it at one input. -/
def tlsFailsWrong : ChangeSpec := { name := "tlsFails", fn := fun _ => fun
  | [d1, d2, d3] => { results := [.lit (.bool false)], args := [d1, d2, d3] }
  | _ => none }
def TlsFailsWrongFalsely : Prop := tlsFailsRow.holds Tryz.pinned (OpenSpec.ofChange tlsFailsWrong)

/- THE SECOND FORM. 'bulk': how many values and letters a reading holds, each counted each time it is reached (what is shared counts as often as it is met; a slice's spare places count too). A statement '..UptoSaid' is the law's where the arguments, and the package variables that the reading takes, are together of bulk at most 1048576: NARROWER than '..Said'. Prove '..Said' where nothing that the law and all that it calls make is longer than what came in: it says more and counts as full. Else prove '..UptoSaid'. A law counts once. -/
mutual
def uptoBulk {H : Type} : DataW H → Nat
  | .lit (.string bytes) => bytes.length + 1
  | .lit _ => 1
  | .nil => 1
  | .ptr d => uptoBulk d + 1
  | .slice elems spare => uptoBulkAll elems + uptoBulkAll spare + 1
  | .agg parts => uptoBulkAll parts + 1
  | .iface _ d => uptoBulk d + 1
  | .map entries => uptoBulkEntries entries + 1
  | .held _ => 1
def uptoBulkAll {H : Type} : List (DataW H) → Nat
  | [] => 0
  | d :: r => uptoBulk d + uptoBulkAll r
def uptoBulkEntries {H : Type} : List (Lit × DataW H) → Nat
  | [] => 0
  | x :: r => uptoBulkEntry x + uptoBulkEntries r
def uptoBulkEntry {H : Type} : Lit × DataW H → Nat
  | (.string bytes, d) => bytes.length + uptoBulk d + 1
  | (_, d) => uptoBulk d + 1
 end
def uptoSmall : (H : Type) → List (DataW H) → Bool := fun _ ds => decide (uptoBulkAll ds ≤ 1048576)
def OpenSpec.upto (s : _root_.Go.ChangeSpec) : _root_.Go.OpenSpec := { _root_.Go.OpenSpec.ofChange s with cond := some uptoSmall }

/-- 'linchpinlaw20.ImageReads', WHERE WHAT IT READS IS OF BULK AT MOST 1048576: true; the input reads as it did. -/
def imageReadsUptoRow : OpenClaim := { program := "ytfkcmbonmpcbfaagreat", sum := "9975021db8ac477544f9e5f595fcde4660b126720f13e77634527d861ee8cf25", func := "linchpin/linchpinlaw20.ImageReads", spec := "imageReads", inPlace := ["internal/abi.NoEscape", "internal/bytealg.MakeNoZero"], unfollowed := true, recurses := true, plainKeys := false, apart := false, narrowed := true }
def ImageReadsUptoSaid : Prop := imageReadsUptoRow.holds Tryz.pinned (OpenSpec.upto imageReadsSpec)

/-- 'linchpinlaw30.TlsBegins', WHERE WHAT IT READS IS OF BULK AT MOST 1048576: true; the input reads as it did. -/
def tlsBeginsUptoRow : OpenClaim := { program := "ytfkcmbonmpcbfaagreat", sum := "9975021db8ac477544f9e5f595fcde4660b126720f13e77634527d861ee8cf25", func := "linchpin/linchpinlaw30.TlsBegins", spec := "tlsBegins", inPlace := ["slices.overlaps[linchpin/space.part]"], unfollowed := true, recurses := true, plainKeys := false, apart := false, narrowed := true }
def TlsBeginsUptoSaid : Prop := tlsBeginsUptoRow.holds Tryz.pinned (OpenSpec.upto tlsBeginsSpec)

/-- 'linchpinlaw30.TlsBlocks', WHERE WHAT IT READS IS OF BULK AT MOST 1048576: true; the input reads as it did. -/
def tlsBlocksUptoRow : OpenClaim := { program := "ytfkcmbonmpcbfaagreat", sum := "9975021db8ac477544f9e5f595fcde4660b126720f13e77634527d861ee8cf25", func := "linchpin/linchpinlaw30.TlsBlocks", spec := "tlsBlocks", inPlace := ["slices.overlaps[linchpin/space.part]"], unfollowed := true, recurses := true, plainKeys := false, apart := false, narrowed := true }
def TlsBlocksUptoSaid : Prop := tlsBlocksUptoRow.holds Tryz.pinned (OpenSpec.upto tlsBlocksSpec)

/-- 'linchpinlaw30.TlsTells', WHERE WHAT IT READS IS OF BULK AT MOST 1048576: true; the input reads as it did. -/
def tlsTellsUptoRow : OpenClaim := { program := "ytfkcmbonmpcbfaagreat", sum := "9975021db8ac477544f9e5f595fcde4660b126720f13e77634527d861ee8cf25", func := "linchpin/linchpinlaw30.TlsTells", spec := "tlsTells", inPlace := ["slices.overlaps[linchpin/space.part]", "maps.clone"], unfollowed := true, recurses := true, plainKeys := false, apart := false, narrowed := true }
def TlsTellsUptoSaid : Prop := tlsTellsUptoRow.holds Tryz.pinned (OpenSpec.upto tlsTellsSpec)

/-- 'linchpinlaw30.TlsFails', WHERE WHAT IT READS IS OF BULK AT MOST 1048576: true; the input reads as it did. -/
def tlsFailsUptoRow : OpenClaim := { program := "ytfkcmbonmpcbfaagreat", sum := "9975021db8ac477544f9e5f595fcde4660b126720f13e77634527d861ee8cf25", func := "linchpin/linchpinlaw30.TlsFails", spec := "tlsFails", inPlace := ["slices.overlaps[linchpin/space.part]", "maps.clone"], unfollowed := true, recurses := true, plainKeys := false, apart := false, narrowed := true }
def TlsFailsUptoSaid : Prop := tlsFailsUptoRow.holds Tryz.pinned (OpenSpec.upto tlsFailsSpec)

end Rows
end Go.Proofs.YtfkcmbonmpcbfaaGreat
