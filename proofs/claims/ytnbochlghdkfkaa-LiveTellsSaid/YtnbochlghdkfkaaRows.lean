/-
  No cell of these rows narrows 'for every input' (looked for: loops, veiled, ifaces, maps, wideKeys, modest, calm, conditions, laid).
  DERIVED. THE GIVEN ROWS OF THIS SEAT. 4 by the template 'for every input the law returns true; each argument reads behind the call as it read before'; 0 by the template 'total and deterministic' (their statements: YtnbochlghdkfkaaTotals.lean).
  GIVEN WITH THE SEED: the statements are not yours to turn. If you find one false, say at which input.
  Laid BY PROGRAM, IN A SANDBOX (cutbox-rows.mjs): the forced cells as the released guide's own fill.sh prints them over the translation c3846ad3f659c240… (all of the seat's roots in one cut). By AI agents, Wed Nov 11 2026. No macro, syntax, notation, axiom, sorry.
-/
import Derived.Test.YtnbochlghdkfkaaChecked
import GoSem.Claim
import GoSem.ClaimJoined
import GoSem.ClaimMapViews
import Derived.JoinedTies
import Derived.KernelRfl
namespace Go.Proofs.Ytnbochlghdkfkaa
/- THE CELL 'sum', in the pinned program and in every row, IS THE sha256 OF THE DUMP (.gsa) THAT YtnbochlghdkfkaaProg.lean LOADS. Nothing in Lean hashes anything: it is a label: what it is worth is what the hold of that sum in a sandbox is worth. -/
noncomputable def Try.pinned : Pinned := { name := "ytnbochlghdkfkaa", sum := "c3846ad3f659c2408c4ce37bc74b30fa54c312a93e5bfd43eaa5520a04b8f87e", checked := Try.checked }
namespace Rows
def none {H : Type} : Left H := { results := [], args := [] }

/-- 'linchpinlaw14.LiveTells': WHATEVER THE INPUT: true; the input reads as it did. -/
def liveTellsSpec : ChangeSpec := { name := "liveTells", fn := fun _ => fun
  | [d1, d2, d3, d4, d5, d6] => { results := [.lit (.bool true)], args := [d1, d2, d3, d4, d5, d6] }
  | _ => none }
def liveTellsRow : OpenClaim := { program := "ytnbochlghdkfkaa", sum := "c3846ad3f659c2408c4ce37bc74b30fa54c312a93e5bfd43eaa5520a04b8f87e", func := "linchpin/linchpinlaw14.LiveTells", spec := "liveTells", unfollowed := true, recurses := true, apart := false }
def LiveTellsSaid : Prop := liveTellsRow.holds Try.pinned (OpenSpec.ofChange liveTellsSpec)

/-- ITS FALSE NEIGHBOUR: 'it returns false'. Refute it at one input. -/
def liveTellsWrong : ChangeSpec := { name := "liveTells", fn := fun _ => fun
  | [d1, d2, d3, d4, d5, d6] => { results := [.lit (.bool false)], args := [d1, d2, d3, d4, d5, d6] }
  | _ => none }
def LiveTellsWrongFalsely : Prop := liveTellsRow.holds Try.pinned (OpenSpec.ofChange liveTellsWrong)

/-- 'linchpinlaw14.LiveLeast': WHATEVER THE INPUT: true; the input reads as it did. -/
def liveLeastSpec : ChangeSpec := { name := "liveLeast", fn := fun _ => fun
  | [d1, d2, d3, d4] => { results := [.lit (.bool true)], args := [d1, d2, d3, d4] }
  | _ => none }
def liveLeastRow : OpenClaim := { program := "ytnbochlghdkfkaa", sum := "c3846ad3f659c2408c4ce37bc74b30fa54c312a93e5bfd43eaa5520a04b8f87e", func := "linchpin/linchpinlaw14.LiveLeast", spec := "liveLeast", unfollowed := true, recurses := true, apart := false }
def LiveLeastSaid : Prop := liveLeastRow.holds Try.pinned (OpenSpec.ofChange liveLeastSpec)

/-- ITS FALSE NEIGHBOUR: 'it returns false'. Refute it at one input. -/
def liveLeastWrong : ChangeSpec := { name := "liveLeast", fn := fun _ => fun
  | [d1, d2, d3, d4] => { results := [.lit (.bool false)], args := [d1, d2, d3, d4] }
  | _ => none }
def LiveLeastWrongFalsely : Prop := liveLeastRow.holds Try.pinned (OpenSpec.ofChange liveLeastWrong)

/-- 'linchpinlaw14.LiveGrows': WHATEVER THE INPUT: true; the input reads as it did. -/
def liveGrowsSpec : ChangeSpec := { name := "liveGrows", fn := fun _ => fun
  | [d1, d2, d3, d4, d5, d6] => { results := [.lit (.bool true)], args := [d1, d2, d3, d4, d5, d6] }
  | _ => none }
def liveGrowsRow : OpenClaim := { program := "ytnbochlghdkfkaa", sum := "c3846ad3f659c2408c4ce37bc74b30fa54c312a93e5bfd43eaa5520a04b8f87e", func := "linchpin/linchpinlaw14.LiveGrows", spec := "liveGrows", unfollowed := true, recurses := true, apart := false }
def LiveGrowsSaid : Prop := liveGrowsRow.holds Try.pinned (OpenSpec.ofChange liveGrowsSpec)

/-- ITS FALSE NEIGHBOUR: 'it returns false'. Refute it at one input. -/
def liveGrowsWrong : ChangeSpec := { name := "liveGrows", fn := fun _ => fun
  | [d1, d2, d3, d4, d5, d6] => { results := [.lit (.bool false)], args := [d1, d2, d3, d4, d5, d6] }
  | _ => none }
def LiveGrowsWrongFalsely : Prop := liveGrowsRow.holds Try.pinned (OpenSpec.ofChange liveGrowsWrong)

/-- 'linchpinlaw14.LiveDead': WHATEVER THE INPUT: true; the input reads as it did. -/
def liveDeadSpec : ChangeSpec := { name := "liveDead", fn := fun _ => fun
  | [d1, d2, d3, d4] => { results := [.lit (.bool true)], args := [d1, d2, d3, d4] }
  | _ => none }
def liveDeadRow : OpenClaim := { program := "ytnbochlghdkfkaa", sum := "c3846ad3f659c2408c4ce37bc74b30fa54c312a93e5bfd43eaa5520a04b8f87e", func := "linchpin/linchpinlaw14.LiveDead", spec := "liveDead", unfollowed := true, recurses := true, apart := false }
def LiveDeadSaid : Prop := liveDeadRow.holds Try.pinned (OpenSpec.ofChange liveDeadSpec)

/-- ITS FALSE NEIGHBOUR: 'it returns false'. Refute it at one input. -/
def liveDeadWrong : ChangeSpec := { name := "liveDead", fn := fun _ => fun
  | [d1, d2, d3, d4] => { results := [.lit (.bool false)], args := [d1, d2, d3, d4] }
  | _ => none }
def LiveDeadWrongFalsely : Prop := liveDeadRow.holds Try.pinned (OpenSpec.ofChange liveDeadWrong)

/- THE SECOND FORM. 'bulk': how many values and letters a reading holds, each counted each time it is reached (what is shared counts as often as it is met; a slice's spare places count too). A statement '..UptoSaid' is the law's where the arguments, and the package variables that the reading takes, are together of bulk at most 1048576: NARROWER than '..Said'. Prove '..Said' where nothing that the law and all that it calls make is longer than what came in: it says more and counts as full. Else prove '..UptoSaid'. A law counts once. -/
mutual
def uptoBulk {H : Type} : DataW H → Nat
  | .lit (.string bytes) => bytes.length + 1
  | .lit _ => 1
  | .nil => 1
  | .ptr d => uptoBulk d + 1
  | .slice elems spare => uptoBulkAll elems + uptoBulkAll spare + 1
  | .agg parts => uptoBulkAll parts + 1
  | .iface _ d => uptoBulk d + 1
  | .map entries => uptoBulkEntries entries + 1
  | .held _ => 1
def uptoBulkAll {H : Type} : List (DataW H) → Nat
  | [] => 0
  | d :: r => uptoBulk d + uptoBulkAll r
def uptoBulkEntries {H : Type} : List (Lit × DataW H) → Nat
  | [] => 0
  | x :: r => uptoBulkEntry x + uptoBulkEntries r
def uptoBulkEntry {H : Type} : Lit × DataW H → Nat
  | (.string bytes, d) => bytes.length + uptoBulk d + 1
  | (_, d) => uptoBulk d + 1
 end
def uptoSmall : (H : Type) → List (DataW H) → Bool := fun _ ds => decide (uptoBulkAll ds ≤ 1048576)
def OpenSpec.upto (s : _root_.Go.ChangeSpec) : _root_.Go.OpenSpec := { _root_.Go.OpenSpec.ofChange s with cond := some uptoSmall }

/-- 'linchpinlaw14.LiveTells', WHERE WHAT IT READS IS OF BULK AT MOST 1048576: true; the input reads as it did. -/
def liveTellsUptoRow : OpenClaim := { program := "ytnbochlghdkfkaa", sum := "c3846ad3f659c2408c4ce37bc74b30fa54c312a93e5bfd43eaa5520a04b8f87e", func := "linchpin/linchpinlaw14.LiveTells", spec := "liveTells", unfollowed := true, recurses := true, apart := false, narrowed := true }
def LiveTellsUptoSaid : Prop := liveTellsUptoRow.holds Try.pinned (OpenSpec.upto liveTellsSpec)

/-- 'linchpinlaw14.LiveLeast', WHERE WHAT IT READS IS OF BULK AT MOST 1048576: true; the input reads as it did. -/
def liveLeastUptoRow : OpenClaim := { program := "ytnbochlghdkfkaa", sum := "c3846ad3f659c2408c4ce37bc74b30fa54c312a93e5bfd43eaa5520a04b8f87e", func := "linchpin/linchpinlaw14.LiveLeast", spec := "liveLeast", unfollowed := true, recurses := true, apart := false, narrowed := true }
def LiveLeastUptoSaid : Prop := liveLeastUptoRow.holds Try.pinned (OpenSpec.upto liveLeastSpec)

/-- 'linchpinlaw14.LiveGrows', WHERE WHAT IT READS IS OF BULK AT MOST 1048576: true; the input reads as it did. -/
def liveGrowsUptoRow : OpenClaim := { program := "ytnbochlghdkfkaa", sum := "c3846ad3f659c2408c4ce37bc74b30fa54c312a93e5bfd43eaa5520a04b8f87e", func := "linchpin/linchpinlaw14.LiveGrows", spec := "liveGrows", unfollowed := true, recurses := true, apart := false, narrowed := true }
def LiveGrowsUptoSaid : Prop := liveGrowsUptoRow.holds Try.pinned (OpenSpec.upto liveGrowsSpec)

/-- 'linchpinlaw14.LiveDead', WHERE WHAT IT READS IS OF BULK AT MOST 1048576: true; the input reads as it did. -/
def liveDeadUptoRow : OpenClaim := { program := "ytnbochlghdkfkaa", sum := "c3846ad3f659c2408c4ce37bc74b30fa54c312a93e5bfd43eaa5520a04b8f87e", func := "linchpin/linchpinlaw14.LiveDead", spec := "liveDead", unfollowed := true, recurses := true, apart := false, narrowed := true }
def LiveDeadUptoSaid : Prop := liveDeadUptoRow.holds Try.pinned (OpenSpec.upto liveDeadSpec)

end Rows
end Go.Proofs.Ytnbochlghdkfkaa
