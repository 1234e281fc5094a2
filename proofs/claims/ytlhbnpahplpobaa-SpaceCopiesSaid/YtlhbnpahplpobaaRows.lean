/-
  No cell of these rows narrows 'for every input' (looked for: loops, veiled, ifaces, maps, wideKeys, modest, calm, conditions, laid).
  DERIVED. THE GIVEN ROWS OF THIS SEAT. 5 by the template 'for every input the law returns true; each argument reads behind the call as it read before'; 0 by the template 'total and deterministic' (their statements: YtlhbnpahplpobaaTotals.lean).
  GIVEN WITH THE SEED: the statements are not yours to turn. If you find one false, say at which input.
  Laid BY PROGRAM, IN A SANDBOX (cutbox-rows.mjs): the forced cells as the released guide's own fill.sh prints them over the translation 171b0d1bcd89d472… (all of the seat's roots in one cut). By AI agents, Wed Nov 11 2026. No macro, syntax, notation, axiom, sorry.
-/
import Derived.Test.YtlhbnpahplpobaaChecked
import GoSem.Claim
import GoSem.ClaimJoined
import GoSem.ClaimMapViews
import Derived.JoinedTies
import Derived.KernelRfl
namespace Go.Proofs.Ytlhbnpahplpobaa
/- THE CELL 'sum', in the pinned program and in every row, IS THE sha256 OF THE DUMP (.gsa) THAT YtlhbnpahplpobaaProg.lean LOADS. Nothing in Lean hashes anything: it is a label: what it is worth is what the hold of that sum in a sandbox is worth. -/
noncomputable def Try.pinned : Pinned := { name := "ytlhbnpahplpobaa", sum := "171b0d1bcd89d4723366e9a9e0ce78347b3da385cd1a8202da28ae6e28d7e542", checked := Try.checked }
namespace Rows
def none {H : Type} : Left H := { results := [], args := [] }

/-- 'linchpinlaw28.SpaceHolds': WHATEVER THE INPUT: true; the input reads as it did. -/
def spaceHoldsSpec : ChangeSpec := { name := "spaceHolds", fn := fun _ => fun
  | [d1, d2, d3, d4] => { results := [.lit (.bool true)], args := [d1, d2, d3, d4] }
  | _ => none }
def spaceHoldsRow : OpenClaim := { program := "ytlhbnpahplpobaa", sum := "171b0d1bcd89d4723366e9a9e0ce78347b3da385cd1a8202da28ae6e28d7e542", func := "linchpin/linchpinlaw28.SpaceHolds", spec := "spaceHolds", inPlace := ["slices.overlaps[linchpin/space.part]"], unfollowed := true, recurses := true, apart := false }
def SpaceHoldsSaid : Prop := spaceHoldsRow.holds Try.pinned (OpenSpec.ofChange spaceHoldsSpec)

/-- ITS FALSE NEIGHBOUR: 'it returns false'. Refute it at one input. -/
def spaceHoldsWrong : ChangeSpec := { name := "spaceHolds", fn := fun _ => fun
  | [d1, d2, d3, d4] => { results := [.lit (.bool false)], args := [d1, d2, d3, d4] }
  | _ => none }
def SpaceHoldsWrongFalsely : Prop := spaceHoldsRow.holds Try.pinned (OpenSpec.ofChange spaceHoldsWrong)

/-- 'linchpinlaw28.SpaceBytes': WHATEVER THE INPUT: true; the input reads as it did. -/
def spaceBytesSpec : ChangeSpec := { name := "spaceBytes", fn := fun _ => fun
  | [d1, d2] => { results := [.lit (.bool true)], args := [d1, d2] }
  | _ => none }
def spaceBytesRow : OpenClaim := { program := "ytlhbnpahplpobaa", sum := "171b0d1bcd89d4723366e9a9e0ce78347b3da385cd1a8202da28ae6e28d7e542", func := "linchpin/linchpinlaw28.SpaceBytes", spec := "spaceBytes", inPlace := ["slices.overlaps[linchpin/space.part]"], unfollowed := true, recurses := true, apart := false }
def SpaceBytesSaid : Prop := spaceBytesRow.holds Try.pinned (OpenSpec.ofChange spaceBytesSpec)

/-- ITS FALSE NEIGHBOUR: 'it returns false'. Refute it at one input. -/
def spaceBytesWrong : ChangeSpec := { name := "spaceBytes", fn := fun _ => fun
  | [d1, d2] => { results := [.lit (.bool false)], args := [d1, d2] }
  | _ => none }
def SpaceBytesWrongFalsely : Prop := spaceBytesRow.holds Try.pinned (OpenSpec.ofChange spaceBytesWrong)

/-- 'linchpinlaw28.SpaceFree': WHATEVER THE INPUT: true; the input reads as it did. -/
def spaceFreeSpec : ChangeSpec := { name := "spaceFree", fn := fun _ => fun
  | [d1, d2] => { results := [.lit (.bool true)], args := [d1, d2] }
  | _ => none }
def spaceFreeRow : OpenClaim := { program := "ytlhbnpahplpobaa", sum := "171b0d1bcd89d4723366e9a9e0ce78347b3da385cd1a8202da28ae6e28d7e542", func := "linchpin/linchpinlaw28.SpaceFree", spec := "spaceFree", inPlace := ["slices.overlaps[linchpin/space.part]"], unfollowed := true, recurses := true, apart := false }
def SpaceFreeSaid : Prop := spaceFreeRow.holds Try.pinned (OpenSpec.ofChange spaceFreeSpec)

/-- ITS FALSE NEIGHBOUR: 'it returns false'. Refute it at one input. -/
def spaceFreeWrong : ChangeSpec := { name := "spaceFree", fn := fun _ => fun
  | [d1, d2] => { results := [.lit (.bool false)], args := [d1, d2] }
  | _ => none }
def SpaceFreeWrongFalsely : Prop := spaceFreeRow.holds Try.pinned (OpenSpec.ofChange spaceFreeWrong)

/-- 'linchpinlaw28.SpaceApart': WHATEVER THE INPUT: true; the input reads as it did. -/
def spaceApartSpec : ChangeSpec := { name := "spaceApart", fn := fun _ => fun
  | [d1, d2] => { results := [.lit (.bool true)], args := [d1, d2] }
  | _ => none }
def spaceApartRow : OpenClaim := { program := "ytlhbnpahplpobaa", sum := "171b0d1bcd89d4723366e9a9e0ce78347b3da385cd1a8202da28ae6e28d7e542", func := "linchpin/linchpinlaw28.SpaceApart", spec := "spaceApart", inPlace := ["slices.overlaps[linchpin/space.part]"], unfollowed := true, recurses := true, apart := false }
def SpaceApartSaid : Prop := spaceApartRow.holds Try.pinned (OpenSpec.ofChange spaceApartSpec)

/-- ITS FALSE NEIGHBOUR: 'it returns false'. Refute it at one input. -/
def spaceApartWrong : ChangeSpec := { name := "spaceApart", fn := fun _ => fun
  | [d1, d2] => { results := [.lit (.bool false)], args := [d1, d2] }
  | _ => none }
def SpaceApartWrongFalsely : Prop := spaceApartRow.holds Try.pinned (OpenSpec.ofChange spaceApartWrong)

/-- 'linchpinlaw28.SpaceCopies': WHATEVER THE INPUT: true; the input reads as it did. -/
def spaceCopiesSpec : ChangeSpec := { name := "spaceCopies", fn := fun _ => fun
  | [d1, d2, d3, d4] => { results := [.lit (.bool true)], args := [d1, d2, d3, d4] }
  | _ => none }
def spaceCopiesRow : OpenClaim := { program := "ytlhbnpahplpobaa", sum := "171b0d1bcd89d4723366e9a9e0ce78347b3da385cd1a8202da28ae6e28d7e542", func := "linchpin/linchpinlaw28.SpaceCopies", spec := "spaceCopies", inPlace := ["slices.overlaps[linchpin/space.part]"], unfollowed := true, recurses := true, apart := false }
def SpaceCopiesSaid : Prop := spaceCopiesRow.holds Try.pinned (OpenSpec.ofChange spaceCopiesSpec)

/-- ITS FALSE NEIGHBOUR: 'it returns false'. Refute it at one input. -/
def spaceCopiesWrong : ChangeSpec := { name := "spaceCopies", fn := fun _ => fun
  | [d1, d2, d3, d4] => { results := [.lit (.bool false)], args := [d1, d2, d3, d4] }
  | _ => none }
def SpaceCopiesWrongFalsely : Prop := spaceCopiesRow.holds Try.pinned (OpenSpec.ofChange spaceCopiesWrong)

/- THE SECOND FORM. 'bulk': how many values and letters a reading holds, each counted each time it is reached (what is shared counts as often as it is met; a slice's spare places count too). A statement '..UptoSaid' is the law's where the arguments, and the package variables that the reading takes, are together of bulk at most 1048576: NARROWER than '..Said'. Prove '..Said' where nothing that the law and all that it calls make is longer than what came in: it says more and counts as full. Else prove '..UptoSaid'. A law counts once. -/
mutual
def uptoBulk {H : Type} : DataW H → Nat
  | .lit (.string bytes) => bytes.length + 1
  | .lit _ => 1
  | .nil => 1
  | .ptr d => uptoBulk d + 1
  | .slice elems spare => uptoBulkAll elems + uptoBulkAll spare + 1
  | .agg parts => uptoBulkAll parts + 1
  | .iface _ d => uptoBulk d + 1
  | .map entries => uptoBulkEntries entries + 1
  | .held _ => 1
def uptoBulkAll {H : Type} : List (DataW H) → Nat
  | [] => 0
  | d :: r => uptoBulk d + uptoBulkAll r
def uptoBulkEntries {H : Type} : List (Lit × DataW H) → Nat
  | [] => 0
  | x :: r => uptoBulkEntry x + uptoBulkEntries r
def uptoBulkEntry {H : Type} : Lit × DataW H → Nat
  | (.string bytes, d) => bytes.length + uptoBulk d + 1
  | (_, d) => uptoBulk d + 1
 end
def uptoSmall : (H : Type) → List (DataW H) → Bool := fun _ ds => decide (uptoBulkAll ds ≤ 1048576)
def OpenSpec.upto (s : _root_.Go.ChangeSpec) : _root_.Go.OpenSpec := { _root_.Go.OpenSpec.ofChange s with cond := some uptoSmall }

/-- 'linchpinlaw28.SpaceHolds', WHERE WHAT IT READS IS OF BULK AT MOST 1048576: true; the input reads as it did. -/
def spaceHoldsUptoRow : OpenClaim := { program := "ytlhbnpahplpobaa", sum := "171b0d1bcd89d4723366e9a9e0ce78347b3da385cd1a8202da28ae6e28d7e542", func := "linchpin/linchpinlaw28.SpaceHolds", spec := "spaceHolds", inPlace := ["slices.overlaps[linchpin/space.part]"], unfollowed := true, recurses := true, apart := false, narrowed := true }
def SpaceHoldsUptoSaid : Prop := spaceHoldsUptoRow.holds Try.pinned (OpenSpec.upto spaceHoldsSpec)

/-- 'linchpinlaw28.SpaceBytes', WHERE WHAT IT READS IS OF BULK AT MOST 1048576: true; the input reads as it did. -/
def spaceBytesUptoRow : OpenClaim := { program := "ytlhbnpahplpobaa", sum := "171b0d1bcd89d4723366e9a9e0ce78347b3da385cd1a8202da28ae6e28d7e542", func := "linchpin/linchpinlaw28.SpaceBytes", spec := "spaceBytes", inPlace := ["slices.overlaps[linchpin/space.part]"], unfollowed := true, recurses := true, apart := false, narrowed := true }
def SpaceBytesUptoSaid : Prop := spaceBytesUptoRow.holds Try.pinned (OpenSpec.upto spaceBytesSpec)

/-- 'linchpinlaw28.SpaceFree', WHERE WHAT IT READS IS OF BULK AT MOST 1048576: true; the input reads as it did. -/
def spaceFreeUptoRow : OpenClaim := { program := "ytlhbnpahplpobaa", sum := "171b0d1bcd89d4723366e9a9e0ce78347b3da385cd1a8202da28ae6e28d7e542", func := "linchpin/linchpinlaw28.SpaceFree", spec := "spaceFree", inPlace := ["slices.overlaps[linchpin/space.part]"], unfollowed := true, recurses := true, apart := false, narrowed := true }
def SpaceFreeUptoSaid : Prop := spaceFreeUptoRow.holds Try.pinned (OpenSpec.upto spaceFreeSpec)

/-- 'linchpinlaw28.SpaceApart', WHERE WHAT IT READS IS OF BULK AT MOST 1048576: true; the input reads as it did. -/
def spaceApartUptoRow : OpenClaim := { program := "ytlhbnpahplpobaa", sum := "171b0d1bcd89d4723366e9a9e0ce78347b3da385cd1a8202da28ae6e28d7e542", func := "linchpin/linchpinlaw28.SpaceApart", spec := "spaceApart", inPlace := ["slices.overlaps[linchpin/space.part]"], unfollowed := true, recurses := true, apart := false, narrowed := true }
def SpaceApartUptoSaid : Prop := spaceApartUptoRow.holds Try.pinned (OpenSpec.upto spaceApartSpec)

/-- 'linchpinlaw28.SpaceCopies', WHERE WHAT IT READS IS OF BULK AT MOST 1048576: true; the input reads as it did. -/
def spaceCopiesUptoRow : OpenClaim := { program := "ytlhbnpahplpobaa", sum := "171b0d1bcd89d4723366e9a9e0ce78347b3da385cd1a8202da28ae6e28d7e542", func := "linchpin/linchpinlaw28.SpaceCopies", spec := "spaceCopies", inPlace := ["slices.overlaps[linchpin/space.part]"], unfollowed := true, recurses := true, apart := false, narrowed := true }
def SpaceCopiesUptoSaid : Prop := spaceCopiesUptoRow.holds Try.pinned (OpenSpec.upto spaceCopiesSpec)

end Rows
end Go.Proofs.Ytlhbnpahplpobaa
