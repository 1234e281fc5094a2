/- The arguments of the laws of layer 14. No condition. -/
import Derived.Test.YtnbochlghdkfkaaBlK
import Derived.Test.YtnbochlghdkfkaaBlE
set_option linter.unusedVariables false
set_option linter.unusedSimpArgs false
set_option maxRecDepth 20000
namespace Go.Proofs.Ytnbochlghdkfkaa
open Go.RowKit Go.Lp Go.Sy
theorem rd_sl_str {k : Nat} {w : World} {S : Blks} {us : List Value} {ds : List D} (h : okD Try.prog (k + 2) 22 ds) (hr : RdsU w S us ds) : ∃ y : Sl ByteArray, [D.v (.slice y.ad y.l.length y.cap)] = us.map D.v ∧ (ShF (fun s => [.v (.string s)]) y).holds w S := by
  obtain ⟨y, h1, h2⟩ := rd_sl (row := fun s : ByteArray => [.v (.string s)]) (ok := fun _ => Fa True) Try.underlying22 h hr fun r h us hu => rd_str Try.underlying9 h hu
  exact ⟨y, h1, h2.1⟩
theorem rd_GVersionDef {k : Nat} {w : World} {S : Blks} {us : List Value} {ds : List D} (h : okD Try.prog (k + 3) 162 ds) (hr : RdsU w S us ds) : ∃ y : GVersionDef, y.row = us.map D.v ∧ (y.ok).holds w S := by
  have h := okD_struct Try.underlying162 h
  obtain ⟨d0, _, rfl, h0, d1, _, rfl, h1, rfl⟩ := h
  obtain ⟨n0, rfl, _⟩ := okD_string Try.underlying9 h0
  obtain ⟨q1, rfl, m1, o1⟩ := okD_slice Try.underlying22 h1
  obtain ⟨u0, _, rfl, r0, hr⟩ := hr.cons
  obtain ⟨u1, _, rfl, r1, hr⟩ := hr.cons
  obtain rfl := hr.nil
  obtain rfl := repD_v r0
  obtain ⟨s1, rfl, a1, b1⟩ := flat_sl (row := fun s : ByteArray => [.v (.string s)]) (ok := fun _ => Fa True) r1 fun r hr us hu => rd_str Try.underlying9 (o1 r hr) hu
  exact ⟨⟨n0, s1⟩, rfl, a1⟩
theorem rd_sl_GVersionDef {k : Nat} {w : World} {S : Blks} {us : List Value} {ds : List D} (h : okD Try.prog (k + 4) 23 ds) (hr : RdsU w S us ds) : ∃ y : Sl GVersionDef, [D.v (.slice y.ad y.l.length y.cap)] = us.map D.v ∧ (AndP (ShF (GVersionDef.row) y) (AllF (fun y => GVersionDef.ok y) y.l)).holds w S := by
  obtain ⟨y, h1, h2⟩ := rd_sl (row := GVersionDef.row) (ok := fun y : GVersionDef => GVersionDef.ok y) Try.underlying23 h hr fun r h us hu => rd_GVersionDef h hu
  exact ⟨y, h1, h2⟩
theorem rd_GRecipe {k : Nat} {w : World} {S : Blks} {us : List Value} {ds : List D} (h : okD Try.prog (k + 5) 25 ds) (hr : RdsU w S us ds) : ∃ y : GRecipe, y.row = us.map D.v ∧ (y.ok).holds w S := by
  have h := okD_struct Try.underlying25 h
  obtain ⟨d0, _, rfl, h0, d1, _, rfl, h1, d2, _, rfl, h2, d3, _, rfl, h3, d4, _, rfl, h4, d5, _, rfl, h5, d6, _, rfl, h6, rfl⟩ := h
  obtain ⟨n0, rfl, _⟩ := okD_string Try.underlying9 h0
  obtain ⟨n1, rfl⟩ := okD_bool Try.underlying4 h1
  obtain ⟨q2, rfl, m2, o2⟩ := okD_slice Try.underlying22 h2
  obtain ⟨q3, rfl, m3, o3⟩ := okD_slice Try.underlying22 h3
  obtain ⟨n4, rfl, _⟩ := okD_string Try.underlying9 h4
  obtain ⟨n5, rfl, _⟩ := okD_int (i := .i64) Try.underlying3 h5
  obtain ⟨q6, rfl, m6, o6⟩ := okD_slice Try.underlying23 h6
  obtain ⟨u0, _, rfl, r0, hr⟩ := hr.cons
  obtain ⟨u1, _, rfl, r1, hr⟩ := hr.cons
  obtain ⟨u2, _, rfl, r2, hr⟩ := hr.cons
  obtain ⟨u3, _, rfl, r3, hr⟩ := hr.cons
  obtain ⟨u4, _, rfl, r4, hr⟩ := hr.cons
  obtain ⟨u5, _, rfl, r5, hr⟩ := hr.cons
  obtain ⟨u6, _, rfl, r6, hr⟩ := hr.cons
  obtain rfl := hr.nil
  obtain rfl := repD_v r0
  obtain rfl := repD_v r1
  obtain ⟨s2, rfl, a2, b2⟩ := flat_sl (row := fun s : ByteArray => [.v (.string s)]) (ok := fun _ => Fa True) r2 fun r hr us hu => rd_str Try.underlying9 (o2 r hr) hu
  obtain ⟨s3, rfl, a3, b3⟩ := flat_sl (row := fun s : ByteArray => [.v (.string s)]) (ok := fun _ => Fa True) r3 fun r hr us hu => rd_str Try.underlying9 (o3 r hr) hu
  obtain rfl := repD_v r4
  obtain rfl := repD_v r5
  obtain ⟨s6, rfl, a6, b6⟩ := flat_sl (row := GVersionDef.row) (ok := fun y : GVersionDef => GVersionDef.ok y) r6 fun r hr us hu => rd_GVersionDef (o6 r hr) hu
  exact ⟨⟨n0, n1, s2, s3, n4, n5, s6⟩, rfl, ⟨a2, a3, a6, b6⟩⟩
theorem rd_GSection {k : Nat} {w : World} {S : Blks} {us : List Value} {ds : List D} (h : okD Try.prog (k + 2) 60 ds) (hr : RdsU w S us ds) : ∃ y : GSection, y.row = us.map D.v ∧ (Fa True).holds w S := by
  have h := okD_struct Try.underlying60 h
  obtain ⟨d0, _, rfl, h0, d1, _, rfl, h1, d2, _, rfl, h2, d3, _, rfl, h3, d4, _, rfl, h4, d5, _, rfl, h5, rfl⟩ := h
  obtain ⟨n0, rfl, _⟩ := okD_string Try.underlying9 h0
  obtain ⟨n1, rfl, _⟩ := okD_int (i := .i64) Try.underlying3 h1
  obtain ⟨n2, rfl, _⟩ := okD_int (i := .i64) Try.underlying3 h2
  obtain ⟨n3, rfl, _⟩ := okD_int (i := .i64) Try.underlying3 h3
  obtain ⟨n4, rfl, _⟩ := okD_string Try.underlying9 h4
  obtain ⟨n5, rfl⟩ := okD_bool Try.underlying4 h5
  obtain ⟨u0, _, rfl, r0, hr⟩ := hr.cons
  obtain ⟨u1, _, rfl, r1, hr⟩ := hr.cons
  obtain ⟨u2, _, rfl, r2, hr⟩ := hr.cons
  obtain ⟨u3, _, rfl, r3, hr⟩ := hr.cons
  obtain ⟨u4, _, rfl, r4, hr⟩ := hr.cons
  obtain ⟨u5, _, rfl, r5, hr⟩ := hr.cons
  obtain rfl := hr.nil
  obtain rfl := repD_v r0
  obtain rfl := repD_v r1
  obtain rfl := repD_v r2
  obtain rfl := repD_v r3
  obtain rfl := repD_v r4
  obtain rfl := repD_v r5
  exact ⟨⟨n0, n1, n2, n3, n4, n5⟩, rfl, trivial⟩
theorem rd_sl_GSection {k : Nat} {w : World} {S : Blks} {us : List Value} {ds : List D} (h : okD Try.prog (k + 3) 42 ds) (hr : RdsU w S us ds) : ∃ y : Sl GSection, [D.v (.slice y.ad y.l.length y.cap)] = us.map D.v ∧ (ShF (GSection.row) y).holds w S := by
  obtain ⟨y, h1, h2⟩ := rd_sl (row := GSection.row) (ok := fun _ => Fa True) Try.underlying42 h hr fun r h us hu => rd_GSection h hu
  exact ⟨y, h1, h2.1⟩
theorem rd_GSymbol {k : Nat} {w : World} {S : Blks} {us : List Value} {ds : List D} (h : okD Try.prog (k + 2) 88 ds) (hr : RdsU w S us ds) : ∃ y : GSymbol, y.row = us.map D.v ∧ (Fa True).holds w S := by
  have h := okD_struct Try.underlying88 h
  obtain ⟨d0, _, rfl, h0, d1, _, rfl, h1, d2, _, rfl, h2, d3, _, rfl, h3, d4, _, rfl, h4, d5, _, rfl, h5, d6, _, rfl, h6, d7, _, rfl, h7, d8, _, rfl, h8, d9, _, rfl, h9, rfl⟩ := h
  obtain ⟨n0, rfl, _⟩ := okD_string Try.underlying9 h0
  obtain ⟨n1, rfl, _⟩ := okD_string Try.underlying9 h1
  obtain ⟨n2, rfl⟩ := okD_bool Try.underlying4 h2
  obtain ⟨n3, rfl, _⟩ := okD_int (i := .i64) Try.underlying3 h3
  obtain ⟨n4, rfl, _⟩ := okD_int (i := .i64) Try.underlying3 h4
  obtain ⟨n5, rfl, _⟩ := okD_int (i := .i64) Try.underlying3 h5
  obtain ⟨n6, rfl, _⟩ := okD_int (i := .i64) Try.underlying3 h6
  obtain ⟨n7, rfl, _⟩ := okD_int (i := .i64) Try.underlying3 h7
  obtain ⟨n8, rfl, _⟩ := okD_int (i := .i64) Try.underlying3 h8
  obtain ⟨n9, rfl, _⟩ := okD_int (i := .i64) Try.underlying3 h9
  obtain ⟨u0, _, rfl, r0, hr⟩ := hr.cons
  obtain ⟨u1, _, rfl, r1, hr⟩ := hr.cons
  obtain ⟨u2, _, rfl, r2, hr⟩ := hr.cons
  obtain ⟨u3, _, rfl, r3, hr⟩ := hr.cons
  obtain ⟨u4, _, rfl, r4, hr⟩ := hr.cons
  obtain ⟨u5, _, rfl, r5, hr⟩ := hr.cons
  obtain ⟨u6, _, rfl, r6, hr⟩ := hr.cons
  obtain ⟨u7, _, rfl, r7, hr⟩ := hr.cons
  obtain ⟨u8, _, rfl, r8, hr⟩ := hr.cons
  obtain ⟨u9, _, rfl, r9, hr⟩ := hr.cons
  obtain rfl := hr.nil
  obtain rfl := repD_v r0
  obtain rfl := repD_v r1
  obtain rfl := repD_v r2
  obtain rfl := repD_v r3
  obtain rfl := repD_v r4
  obtain rfl := repD_v r5
  obtain rfl := repD_v r6
  obtain rfl := repD_v r7
  obtain rfl := repD_v r8
  obtain rfl := repD_v r9
  exact ⟨⟨n0, n1, n2, n3, n4, n5, n6, n7, n8, n9⟩, rfl, trivial⟩
theorem rd_sl_GSymbol {k : Nat} {w : World} {S : Blks} {us : List Value} {ds : List D} (h : okD Try.prog (k + 3) 43 ds) (hr : RdsU w S us ds) : ∃ y : Sl GSymbol, [D.v (.slice y.ad y.l.length y.cap)] = us.map D.v ∧ (ShF (GSymbol.row) y).holds w S := by
  obtain ⟨y, h1, h2⟩ := rd_sl (row := GSymbol.row) (ok := fun _ => Fa True) Try.underlying43 h hr fun r h us hu => rd_GSymbol h hu
  exact ⟨y, h1, h2.1⟩
theorem rd_GRel {k : Nat} {w : World} {S : Blks} {us : List Value} {ds : List D} (h : okD Try.prog (k + 2) 62 ds) (hr : RdsU w S us ds) : ∃ y : GRel, y.row = us.map D.v ∧ (Fa True).holds w S := by
  have h := okD_struct Try.underlying62 h
  obtain ⟨d0, _, rfl, h0, d1, _, rfl, h1, d2, _, rfl, h2, d3, _, rfl, h3, d4, _, rfl, h4, rfl⟩ := h
  obtain ⟨n0, rfl, _⟩ := okD_int (i := .i64) Try.underlying3 h0
  obtain ⟨n1, rfl, _⟩ := okD_int (i := .i64) Try.underlying3 h1
  obtain ⟨n2, rfl, _⟩ := okD_int (i := .i64) Try.underlying3 h2
  obtain ⟨n3, rfl, _⟩ := okD_int (i := .i64) Try.underlying3 h3
  obtain ⟨n4, rfl, _⟩ := okD_int (i := .i64) Try.underlying3 h4
  obtain ⟨u0, _, rfl, r0, hr⟩ := hr.cons
  obtain ⟨u1, _, rfl, r1, hr⟩ := hr.cons
  obtain ⟨u2, _, rfl, r2, hr⟩ := hr.cons
  obtain ⟨u3, _, rfl, r3, hr⟩ := hr.cons
  obtain ⟨u4, _, rfl, r4, hr⟩ := hr.cons
  obtain rfl := hr.nil
  obtain rfl := repD_v r0
  obtain rfl := repD_v r1
  obtain rfl := repD_v r2
  obtain rfl := repD_v r3
  obtain rfl := repD_v r4
  exact ⟨⟨n0, n1, n2, n3, n4⟩, rfl, trivial⟩
theorem rd_sl_GRel {k : Nat} {w : World} {S : Blks} {us : List Value} {ds : List D} (h : okD Try.prog (k + 3) 44 ds) (hr : RdsU w S us ds) : ∃ y : Sl GRel, [D.v (.slice y.ad y.l.length y.cap)] = us.map D.v ∧ (ShF (GRel.row) y).holds w S := by
  obtain ⟨y, h1, h2⟩ := rd_sl (row := GRel.row) (ok := fun _ => Fa True) Try.underlying44 h hr fun r h us hu => rd_GRel h hu
  exact ⟨y, h1, h2.1⟩
theorem rd_sl_int {k : Nat} {w : World} {S : Blks} {us : List Value} {ds : List D} (h : okD Try.prog (k + 2) 37 ds) (hr : RdsU w S us ds) : ∃ y : Sl Int, [D.v (.slice y.ad y.l.length y.cap)] = us.map D.v ∧ (ShF (fun z => [.v (.int .i64 z)]) y).holds w S := by
  obtain ⟨y, h1, h2⟩ := rd_sl (row := fun z : Int => [.v (.int .i64 z)]) (ok := fun _ => Fa True) Try.underlying37 h hr fun r h us hu => rd_int Try.underlying3 h hu
  exact ⟨y, h1, h2.1⟩
theorem rd_GGroup {k : Nat} {w : World} {S : Blks} {us : List Value} {ds : List D} (h : okD Try.prog (k + 3) 164 ds) (hr : RdsU w S us ds) : ∃ y : GGroup, y.row = us.map D.v ∧ (y.ok).holds w S := by
  have h := okD_struct Try.underlying164 h
  obtain ⟨d0, _, rfl, h0, d1, _, rfl, h1, rfl⟩ := h
  obtain ⟨n0, rfl, _⟩ := okD_string Try.underlying9 h0
  obtain ⟨q1, rfl, m1, o1⟩ := okD_slice Try.underlying37 h1
  obtain ⟨u0, _, rfl, r0, hr⟩ := hr.cons
  obtain ⟨u1, _, rfl, r1, hr⟩ := hr.cons
  obtain rfl := hr.nil
  obtain rfl := repD_v r0
  obtain ⟨s1, rfl, a1, b1⟩ := flat_sl (row := fun z : Int => [.v (.int .i64 z)]) (ok := fun _ => Fa True) r1 fun r hr us hu => rd_int Try.underlying3 (o1 r hr) hu
  exact ⟨⟨n0, s1⟩, rfl, a1⟩
theorem rd_sl_GGroup {k : Nat} {w : World} {S : Blks} {us : List Value} {ds : List D} (h : okD Try.prog (k + 4) 45 ds) (hr : RdsU w S us ds) : ∃ y : Sl GGroup, [D.v (.slice y.ad y.l.length y.cap)] = us.map D.v ∧ (AndP (ShF (GGroup.row) y) (AllF (fun y => GGroup.ok y) y.l)).holds w S := by
  obtain ⟨y, h1, h2⟩ := rd_sl (row := GGroup.row) (ok := fun y : GGroup => GGroup.ok y) Try.underlying45 h hr fun r h us hu => rd_GGroup h hu
  exact ⟨y, h1, h2⟩
theorem rd_GInit {k : Nat} {w : World} {S : Blks} {us : List Value} {ds : List D} (h : okD Try.prog (k + 2) 92 ds) (hr : RdsU w S us ds) : ∃ y : GInit, y.row = us.map D.v ∧ (Fa True).holds w S := by
  have h := okD_struct Try.underlying92 h
  obtain ⟨d0, _, rfl, h0, d1, _, rfl, h1, d2, _, rfl, h2, rfl⟩ := h
  obtain ⟨n0, rfl, _⟩ := okD_int (i := .i64) Try.underlying3 h0
  obtain ⟨n1, rfl, _⟩ := okD_int (i := .i64) Try.underlying3 h1
  obtain ⟨n2, rfl⟩ := okD_bool Try.underlying4 h2
  obtain ⟨u0, _, rfl, r0, hr⟩ := hr.cons
  obtain ⟨u1, _, rfl, r1, hr⟩ := hr.cons
  obtain ⟨u2, _, rfl, r2, hr⟩ := hr.cons
  obtain rfl := hr.nil
  obtain rfl := repD_v r0
  obtain rfl := repD_v r1
  obtain rfl := repD_v r2
  exact ⟨⟨n0, n1, n2⟩, rfl, trivial⟩
theorem rd_sl_GInit {k : Nat} {w : World} {S : Blks} {us : List Value} {ds : List D} (h : okD Try.prog (k + 3) 46 ds) (hr : RdsU w S us ds) : ∃ y : Sl GInit, [D.v (.slice y.ad y.l.length y.cap)] = us.map D.v ∧ (ShF (GInit.row) y).holds w S := by
  obtain ⟨y, h1, h2⟩ := rd_sl (row := GInit.row) (ok := fun _ => Fa True) Try.underlying46 h hr fun r h us hu => rd_GInit h hu
  exact ⟨y, h1, h2.1⟩
theorem rd_GLine {k : Nat} {w : World} {S : Blks} {us : List Value} {ds : List D} (h : okD Try.prog (k + 2) 166 ds) (hr : RdsU w S us ds) : ∃ y : GLine, y.row = us.map D.v ∧ (Fa True).holds w S := by
  have h := okD_struct Try.underlying166 h
  obtain ⟨d0, _, rfl, h0, d1, _, rfl, h1, d2, _, rfl, h2, d3, _, rfl, h3, rfl⟩ := h
  obtain ⟨n0, rfl, _⟩ := okD_int (i := .i64) Try.underlying3 h0
  obtain ⟨n1, rfl, _⟩ := okD_int (i := .i64) Try.underlying3 h1
  obtain ⟨n2, rfl, _⟩ := okD_string Try.underlying9 h2
  obtain ⟨n3, rfl, _⟩ := okD_int (i := .i64) Try.underlying3 h3
  obtain ⟨u0, _, rfl, r0, hr⟩ := hr.cons
  obtain ⟨u1, _, rfl, r1, hr⟩ := hr.cons
  obtain ⟨u2, _, rfl, r2, hr⟩ := hr.cons
  obtain ⟨u3, _, rfl, r3, hr⟩ := hr.cons
  obtain rfl := hr.nil
  obtain rfl := repD_v r0
  obtain rfl := repD_v r1
  obtain rfl := repD_v r2
  obtain rfl := repD_v r3
  exact ⟨⟨n0, n1, n2, n3⟩, rfl, trivial⟩
theorem rd_sl_GLine {k : Nat} {w : World} {S : Blks} {us : List Value} {ds : List D} (h : okD Try.prog (k + 3) 47 ds) (hr : RdsU w S us ds) : ∃ y : Sl GLine, [D.v (.slice y.ad y.l.length y.cap)] = us.map D.v ∧ (ShF (GLine.row) y).holds w S := by
  obtain ⟨y, h1, h2⟩ := rd_sl (row := GLine.row) (ok := fun _ => Fa True) Try.underlying47 h hr fun r h us hu => rd_GLine h hu
  exact ⟨y, h1, h2.1⟩
theorem rd_GInline {k : Nat} {w : World} {S : Blks} {us : List Value} {ds : List D} (h : okD Try.prog (k + 2) 168 ds) (hr : RdsU w S us ds) : ∃ y : GInline, y.row = us.map D.v ∧ (Fa True).holds w S := by
  have h := okD_struct Try.underlying168 h
  obtain ⟨d0, _, rfl, h0, d1, _, rfl, h1, d2, _, rfl, h2, d3, _, rfl, h3, d4, _, rfl, h4, d5, _, rfl, h5, rfl⟩ := h
  obtain ⟨n0, rfl, _⟩ := okD_int (i := .i64) Try.underlying3 h0
  obtain ⟨n1, rfl, _⟩ := okD_int (i := .i64) Try.underlying3 h1
  obtain ⟨n2, rfl, _⟩ := okD_int (i := .i64) Try.underlying3 h2
  obtain ⟨n3, rfl, _⟩ := okD_string Try.underlying9 h3
  obtain ⟨n4, rfl, _⟩ := okD_string Try.underlying9 h4
  obtain ⟨n5, rfl, _⟩ := okD_int (i := .i64) Try.underlying3 h5
  obtain ⟨u0, _, rfl, r0, hr⟩ := hr.cons
  obtain ⟨u1, _, rfl, r1, hr⟩ := hr.cons
  obtain ⟨u2, _, rfl, r2, hr⟩ := hr.cons
  obtain ⟨u3, _, rfl, r3, hr⟩ := hr.cons
  obtain ⟨u4, _, rfl, r4, hr⟩ := hr.cons
  obtain ⟨u5, _, rfl, r5, hr⟩ := hr.cons
  obtain rfl := hr.nil
  obtain rfl := repD_v r0
  obtain rfl := repD_v r1
  obtain rfl := repD_v r2
  obtain rfl := repD_v r3
  obtain rfl := repD_v r4
  obtain rfl := repD_v r5
  exact ⟨⟨n0, n1, n2, n3, n4, n5⟩, rfl, trivial⟩
theorem rd_sl_GInline {k : Nat} {w : World} {S : Blks} {us : List Value} {ds : List D} (h : okD Try.prog (k + 3) 48 ds) (hr : RdsU w S us ds) : ∃ y : Sl GInline, [D.v (.slice y.ad y.l.length y.cap)] = us.map D.v ∧ (ShF (GInline.row) y).holds w S := by
  obtain ⟨y, h1, h2⟩ := rd_sl (row := GInline.row) (ok := fun _ => Fa True) Try.underlying48 h hr fun r h us hu => rd_GInline h hu
  exact ⟨y, h1, h2.1⟩
theorem rd_GVar {k : Nat} {w : World} {S : Blks} {us : List Value} {ds : List D} (h : okD Try.prog (k + 2) 170 ds) (hr : RdsU w S us ds) : ∃ y : GVar, y.row = us.map D.v ∧ (Fa True).holds w S := by
  have h := okD_struct Try.underlying170 h
  obtain ⟨d0, _, rfl, h0, d1, _, rfl, h1, d2, _, rfl, h2, d3, _, rfl, h3, d4, _, rfl, h4, d5, _, rfl, h5, rfl⟩ := h
  obtain ⟨n0, rfl, _⟩ := okD_int (i := .i64) Try.underlying3 h0
  obtain ⟨n1, rfl, _⟩ := okD_int (i := .i64) Try.underlying3 h1
  obtain ⟨n2, rfl, _⟩ := okD_int (i := .i64) Try.underlying3 h2
  obtain ⟨n3, rfl, _⟩ := okD_string Try.underlying9 h3
  obtain ⟨n4, rfl, _⟩ := okD_int (i := .i64) Try.underlying3 h4
  obtain ⟨n5, rfl, _⟩ := okD_int (i := .i64) Try.underlying3 h5
  obtain ⟨u0, _, rfl, r0, hr⟩ := hr.cons
  obtain ⟨u1, _, rfl, r1, hr⟩ := hr.cons
  obtain ⟨u2, _, rfl, r2, hr⟩ := hr.cons
  obtain ⟨u3, _, rfl, r3, hr⟩ := hr.cons
  obtain ⟨u4, _, rfl, r4, hr⟩ := hr.cons
  obtain ⟨u5, _, rfl, r5, hr⟩ := hr.cons
  obtain rfl := hr.nil
  obtain rfl := repD_v r0
  obtain rfl := repD_v r1
  obtain rfl := repD_v r2
  obtain rfl := repD_v r3
  obtain rfl := repD_v r4
  obtain rfl := repD_v r5
  exact ⟨⟨n0, n1, n2, n3, n4, n5⟩, rfl, trivial⟩
theorem rd_sl_GVar {k : Nat} {w : World} {S : Blks} {us : List Value} {ds : List D} (h : okD Try.prog (k + 3) 49 ds) (hr : RdsU w S us ds) : ∃ y : Sl GVar, [D.v (.slice y.ad y.l.length y.cap)] = us.map D.v ∧ (ShF (GVar.row) y).holds w S := by
  obtain ⟨y, h1, h2⟩ := rd_sl (row := GVar.row) (ok := fun _ => Fa True) Try.underlying49 h hr fun r h us hu => rd_GVar h hu
  exact ⟨y, h1, h2.1⟩
theorem rd_GDepth {k : Nat} {w : World} {S : Blks} {us : List Value} {ds : List D} (h : okD Try.prog (k + 2) 172 ds) (hr : RdsU w S us ds) : ∃ y : GDepth, y.row = us.map D.v ∧ (Fa True).holds w S := by
  have h := okD_struct Try.underlying172 h
  obtain ⟨d0, _, rfl, h0, d1, _, rfl, h1, d2, _, rfl, h2, d3, _, rfl, h3, rfl⟩ := h
  obtain ⟨n0, rfl, _⟩ := okD_int (i := .i64) Try.underlying3 h0
  obtain ⟨n1, rfl, _⟩ := okD_int (i := .i64) Try.underlying3 h1
  obtain ⟨n2, rfl, _⟩ := okD_int (i := .i64) Try.underlying3 h2
  obtain ⟨n3, rfl, _⟩ := okD_int (i := .i64) Try.underlying3 h3
  obtain ⟨u0, _, rfl, r0, hr⟩ := hr.cons
  obtain ⟨u1, _, rfl, r1, hr⟩ := hr.cons
  obtain ⟨u2, _, rfl, r2, hr⟩ := hr.cons
  obtain ⟨u3, _, rfl, r3, hr⟩ := hr.cons
  obtain rfl := hr.nil
  obtain rfl := repD_v r0
  obtain rfl := repD_v r1
  obtain rfl := repD_v r2
  obtain rfl := repD_v r3
  exact ⟨⟨n0, n1, n2, n3⟩, rfl, trivial⟩
theorem rd_sl_GDepth {k : Nat} {w : World} {S : Blks} {us : List Value} {ds : List D} (h : okD Try.prog (k + 3) 50 ds) (hr : RdsU w S us ds) : ∃ y : Sl GDepth, [D.v (.slice y.ad y.l.length y.cap)] = us.map D.v ∧ (ShF (GDepth.row) y).holds w S := by
  obtain ⟨y, h1, h2⟩ := rd_sl (row := GDepth.row) (ok := fun _ => Fa True) Try.underlying50 h hr fun r h us hu => rd_GDepth h hu
  exact ⟨y, h1, h2.1⟩
theorem rd_GPiece {k : Nat} {w : World} {S : Blks} {us : List Value} {ds : List D} (h : okD Try.prog (k + 2) 174 ds) (hr : RdsU w S us ds) : ∃ y : GPiece, y.row = us.map D.v ∧ (Fa True).holds w S := by
  have h := okD_struct Try.underlying174 h
  obtain ⟨d0, _, rfl, h0, d1, _, rfl, h1, d2, _, rfl, h2, rfl⟩ := h
  obtain ⟨n0, rfl, _⟩ := okD_int (i := .i64) Try.underlying3 h0
  obtain ⟨n1, rfl, _⟩ := okD_int (i := .i64) Try.underlying3 h1
  obtain ⟨n2, rfl, _⟩ := okD_int (i := .i64) Try.underlying3 h2
  obtain ⟨u0, _, rfl, r0, hr⟩ := hr.cons
  obtain ⟨u1, _, rfl, r1, hr⟩ := hr.cons
  obtain ⟨u2, _, rfl, r2, hr⟩ := hr.cons
  obtain rfl := hr.nil
  obtain rfl := repD_v r0
  obtain rfl := repD_v r1
  obtain rfl := repD_v r2
  exact ⟨⟨n0, n1, n2⟩, rfl, trivial⟩
theorem rd_sl_GPiece {k : Nat} {w : World} {S : Blks} {us : List Value} {ds : List D} (h : okD Try.prog (k + 3) 63 ds) (hr : RdsU w S us ds) : ∃ y : Sl GPiece, [D.v (.slice y.ad y.l.length y.cap)] = us.map D.v ∧ (ShF (GPiece.row) y).holds w S := by
  obtain ⟨y, h1, h2⟩ := rd_sl (row := GPiece.row) (ok := fun _ => Fa True) Try.underlying63 h hr fun r h us hu => rd_GPiece h hu
  exact ⟨y, h1, h2.1⟩
theorem rd_GConvert {k : Nat} {w : World} {S : Blks} {us : List Value} {ds : List D} (h : okD Try.prog (k + 4) 65 ds) (hr : RdsU w S us ds) : ∃ y : GConvert, y.row = us.map D.v ∧ (y.ok).holds w S := by
  have h := okD_struct Try.underlying65 h
  obtain ⟨d0, _, rfl, h0, d1, _, rfl, h1, d2, _, rfl, h2, d3, _, rfl, h3, rfl⟩ := h
  obtain ⟨n0, rfl, _⟩ := okD_int (i := .i64) Try.underlying3 h0
  obtain ⟨n1, rfl, _⟩ := okD_string Try.underlying9 h1
  obtain ⟨q2, rfl, m2, o2⟩ := okD_slice Try.underlying63 h2
  obtain ⟨n3, rfl, _⟩ := okD_int (i := .i64) Try.underlying3 h3
  obtain ⟨u0, _, rfl, r0, hr⟩ := hr.cons
  obtain ⟨u1, _, rfl, r1, hr⟩ := hr.cons
  obtain ⟨u2, _, rfl, r2, hr⟩ := hr.cons
  obtain ⟨u3, _, rfl, r3, hr⟩ := hr.cons
  obtain rfl := hr.nil
  obtain rfl := repD_v r0
  obtain rfl := repD_v r1
  obtain ⟨s2, rfl, a2, b2⟩ := flat_sl (row := GPiece.row) (ok := fun _ => Fa True) r2 fun r hr us hu => rd_GPiece (o2 r hr) hu
  obtain rfl := repD_v r3
  exact ⟨⟨n0, n1, s2, n3⟩, rfl, a2⟩
theorem rd_sl_GConvert {k : Nat} {w : World} {S : Blks} {us : List Value} {ds : List D} (h : okD Try.prog (k + 5) 51 ds) (hr : RdsU w S us ds) : ∃ y : Sl GConvert, [D.v (.slice y.ad y.l.length y.cap)] = us.map D.v ∧ (AndP (ShF (GConvert.row) y) (AllF (fun y => GConvert.ok y) y.l)).holds w S := by
  obtain ⟨y, h1, h2⟩ := rd_sl (row := GConvert.row) (ok := fun y : GConvert => GConvert.ok y) Try.underlying51 h hr fun r h us hu => rd_GConvert h hu
  exact ⟨y, h1, h2⟩
theorem rd_GObject {k : Nat} {w : World} {S : Blks} {us : List Value} {ds : List D} (h : okD Try.prog (k + 6) 53 ds) (hr : RdsU w S us ds) : ∃ y : GObject, y.row = us.map D.v ∧ (y.ok).holds w S := by
  have h := okD_struct Try.underlying53 h
  obtain ⟨d0, _, rfl, h0, d1, _, rfl, h1, d2, _, rfl, h2, d3, _, rfl, h3, d4, _, rfl, h4, d5, _, rfl, h5, d6, _, rfl, h6, d7, _, rfl, h7, d8, _, rfl, h8, d9, _, rfl, h9, d10, _, rfl, h10, rfl⟩ := h
  obtain ⟨n0, rfl, _⟩ := okD_string Try.underlying9 h0
  obtain ⟨q1, rfl, m1, o1⟩ := okD_slice Try.underlying42 h1
  obtain ⟨q2, rfl, m2, o2⟩ := okD_slice Try.underlying43 h2
  obtain ⟨q3, rfl, m3, o3⟩ := okD_slice Try.underlying44 h3
  obtain ⟨q4, rfl, m4, o4⟩ := okD_slice Try.underlying45 h4
  obtain ⟨q5, rfl, m5, o5⟩ := okD_slice Try.underlying46 h5
  obtain ⟨q6, rfl, m6, o6⟩ := okD_slice Try.underlying47 h6
  obtain ⟨q7, rfl, m7, o7⟩ := okD_slice Try.underlying48 h7
  obtain ⟨q8, rfl, m8, o8⟩ := okD_slice Try.underlying49 h8
  obtain ⟨q9, rfl, m9, o9⟩ := okD_slice Try.underlying50 h9
  obtain ⟨q10, rfl, m10, o10⟩ := okD_slice Try.underlying51 h10
  obtain ⟨u0, _, rfl, r0, hr⟩ := hr.cons
  obtain ⟨u1, _, rfl, r1, hr⟩ := hr.cons
  obtain ⟨u2, _, rfl, r2, hr⟩ := hr.cons
  obtain ⟨u3, _, rfl, r3, hr⟩ := hr.cons
  obtain ⟨u4, _, rfl, r4, hr⟩ := hr.cons
  obtain ⟨u5, _, rfl, r5, hr⟩ := hr.cons
  obtain ⟨u6, _, rfl, r6, hr⟩ := hr.cons
  obtain ⟨u7, _, rfl, r7, hr⟩ := hr.cons
  obtain ⟨u8, _, rfl, r8, hr⟩ := hr.cons
  obtain ⟨u9, _, rfl, r9, hr⟩ := hr.cons
  obtain ⟨u10, _, rfl, r10, hr⟩ := hr.cons
  obtain rfl := hr.nil
  obtain rfl := repD_v r0
  obtain ⟨s1, rfl, a1, b1⟩ := flat_sl (row := GSection.row) (ok := fun _ => Fa True) r1 fun r hr us hu => rd_GSection (o1 r hr) hu
  obtain ⟨s2, rfl, a2, b2⟩ := flat_sl (row := GSymbol.row) (ok := fun _ => Fa True) r2 fun r hr us hu => rd_GSymbol (o2 r hr) hu
  obtain ⟨s3, rfl, a3, b3⟩ := flat_sl (row := GRel.row) (ok := fun _ => Fa True) r3 fun r hr us hu => rd_GRel (o3 r hr) hu
  obtain ⟨s4, rfl, a4, b4⟩ := flat_sl (row := GGroup.row) (ok := fun y : GGroup => GGroup.ok y) r4 fun r hr us hu => rd_GGroup (o4 r hr) hu
  obtain ⟨s5, rfl, a5, b5⟩ := flat_sl (row := GInit.row) (ok := fun _ => Fa True) r5 fun r hr us hu => rd_GInit (o5 r hr) hu
  obtain ⟨s6, rfl, a6, b6⟩ := flat_sl (row := GLine.row) (ok := fun _ => Fa True) r6 fun r hr us hu => rd_GLine (o6 r hr) hu
  obtain ⟨s7, rfl, a7, b7⟩ := flat_sl (row := GInline.row) (ok := fun _ => Fa True) r7 fun r hr us hu => rd_GInline (o7 r hr) hu
  obtain ⟨s8, rfl, a8, b8⟩ := flat_sl (row := GVar.row) (ok := fun _ => Fa True) r8 fun r hr us hu => rd_GVar (o8 r hr) hu
  obtain ⟨s9, rfl, a9, b9⟩ := flat_sl (row := GDepth.row) (ok := fun _ => Fa True) r9 fun r hr us hu => rd_GDepth (o9 r hr) hu
  obtain ⟨s10, rfl, a10, b10⟩ := flat_sl (row := GConvert.row) (ok := fun y : GConvert => GConvert.ok y) r10 fun r hr us hu => rd_GConvert (o10 r hr) hu
  exact ⟨⟨n0, s1, s2, s3, s4, s5, s6, s7, s8, s9, s10⟩, rfl, ⟨a1, a2, a3, a4, b4, a5, a6, a7, a8, a9, a10, b10⟩⟩
theorem rd_sl_GObject {k : Nat} {w : World} {S : Blks} {us : List Value} {ds : List D} (h : okD Try.prog (k + 7) 26 ds) (hr : RdsU w S us ds) : ∃ y : Sl GObject, [D.v (.slice y.ad y.l.length y.cap)] = us.map D.v ∧ (AndP (ShF (GObject.row) y) (AllF (fun y => GObject.ok y) y.l)).holds w S := by
  obtain ⟨y, h1, h2⟩ := rd_sl (row := GObject.row) (ok := fun y : GObject => GObject.ok y) Try.underlying26 h hr fun r h us hu => rd_GObject h hu
  exact ⟨y, h1, h2⟩
theorem rd_sl_bool {k : Nat} {w : World} {S : Blks} {us : List Value} {ds : List D} (h : okD Try.prog (k + 2) 54 ds) (hr : RdsU w S us ds) : ∃ y : Sl Bool, [D.v (.slice y.ad y.l.length y.cap)] = us.map D.v ∧ (ShF (fun b => [.v (.bool b)]) y).holds w S := by
  obtain ⟨y, h1, h2⟩ := rd_sl (row := fun b : Bool => [.v (.bool b)]) (ok := fun _ => Fa True) Try.underlying54 h hr fun r h us hu => rd_bool Try.underlying4 h hu
  exact ⟨y, h1, h2.1⟩
theorem rd_sl_Sbool {k : Nat} {w : World} {S : Blks} {us : List Value} {ds : List D} (h : okD Try.prog (k + 3) 27 ds) (hr : RdsU w S us ds) : ∃ y : Sl (Sl Bool), [D.v (.slice y.ad y.l.length y.cap)] = us.map D.v ∧ (AndP (ShF (fun s => [.v (.slice s.ad s.l.length s.cap)]) y) (AllF (fun y => ShF (fun b => [.v (.bool b)]) y) y.l)).holds w S := by
  obtain ⟨y, h1, h2⟩ := rd_sl (row := fun s : Sl Bool => [.v (.slice s.ad s.l.length s.cap)]) (ok := fun y : Sl Bool => ShF (fun b => [.v (.bool b)]) y) Try.underlying27 h hr fun r h us hu => rd_sl_bool h hu
  exact ⟨y, h1, h2⟩
theorem rd_GChoice {k : Nat} {w : World} {S : Blks} {us : List Value} {ds : List D} (h : okD Try.prog (k + 2) 68 ds) (hr : RdsU w S us ds) : ∃ y : GChoice, y.row = us.map D.v ∧ (Fa True).holds w S := by
  have h := okD_struct Try.underlying68 h
  obtain ⟨d0, _, rfl, h0, d1, _, rfl, h1, d2, _, rfl, h2, d3, _, rfl, h3, d4, _, rfl, h4, d5, _, rfl, h5, rfl⟩ := h
  obtain ⟨n0, rfl, _⟩ := okD_int (i := .i64) Try.underlying3 h0
  obtain ⟨n1, rfl, _⟩ := okD_int (i := .i64) Try.underlying3 h1
  obtain ⟨n2, rfl, _⟩ := okD_int (i := .i64) Try.underlying3 h2
  obtain ⟨n3, rfl, _⟩ := okD_int (i := .i64) Try.underlying3 h3
  obtain ⟨n4, rfl, _⟩ := okD_int (i := .i64) Try.underlying3 h4
  obtain ⟨n5, rfl⟩ := okD_bool Try.underlying4 h5
  obtain ⟨u0, _, rfl, r0, hr⟩ := hr.cons
  obtain ⟨u1, _, rfl, r1, hr⟩ := hr.cons
  obtain ⟨u2, _, rfl, r2, hr⟩ := hr.cons
  obtain ⟨u3, _, rfl, r3, hr⟩ := hr.cons
  obtain ⟨u4, _, rfl, r4, hr⟩ := hr.cons
  obtain ⟨u5, _, rfl, r5, hr⟩ := hr.cons
  obtain rfl := hr.nil
  obtain rfl := repD_v r0
  obtain rfl := repD_v r1
  obtain rfl := repD_v r2
  obtain rfl := repD_v r3
  obtain rfl := repD_v r4
  obtain rfl := repD_v r5
  exact ⟨⟨n0, n1, n2, n3, n4, n5⟩, rfl, trivial⟩
theorem rd_sl_GChoice {k : Nat} {w : World} {S : Blks} {us : List Value} {ds : List D} (h : okD Try.prog (k + 3) 69 ds) (hr : RdsU w S us ds) : ∃ y : Sl GChoice, [D.v (.slice y.ad y.l.length y.cap)] = us.map D.v ∧ (ShF (GChoice.row) y).holds w S := by
  obtain ⟨y, h1, h2⟩ := rd_sl (row := GChoice.row) (ok := fun _ => Fa True) Try.underlying69 h hr fun r h us hu => rd_GChoice h hu
  exact ⟨y, h1, h2.1⟩
theorem rd_sl_SGChoice {k : Nat} {w : World} {S : Blks} {us : List Value} {ds : List D} (h : okD Try.prog (k + 4) 28 ds) (hr : RdsU w S us ds) : ∃ y : Sl (Sl GChoice), [D.v (.slice y.ad y.l.length y.cap)] = us.map D.v ∧ (AndP (ShF (fun s => [.v (.slice s.ad s.l.length s.cap)]) y) (AllF (fun y => ShF (GChoice.row) y) y.l)).holds w S := by
  obtain ⟨y, h1, h2⟩ := rd_sl (row := fun s : Sl GChoice => [.v (.slice s.ad s.l.length s.cap)]) (ok := fun y : Sl GChoice => ShF (GChoice.row) y) Try.underlying28 h hr fun r h us hu => rd_sl_GChoice h hu
  exact ⟨y, h1, h2⟩
end Go.Proofs.Ytnbochlghdkfkaa
namespace Go.Proofs.Ytnbochlghdkfkaa
open Go.RowKit Go.Lp Go.Sy
section
variable {H : Type} {enc : TypeId × Value → H} {w : World} {base : Nat} {spare : Nat → Bool} {held : Bool}
theorem recipe_in {fuel : Nat} {cs : Array Value} {y : DataW H × List MemPlace} (h : DataW.trod enc Try.prog w base spare held fuel 25 cs.toList = some y) : ∃ r : GRecipe, Value.agg cs = r.val ∧ r.ok.holds w (fun b => b < w.heap.size) := by
  obtain ⟨ds, hlen, ho, hR⟩ := trod_rep 12 fuel 25 _ _ (by kernel_rfl) h
  obtain ⟨r, h1, h2⟩ := rd_GRecipe ho (rds_of hlen hR)
  refine ⟨r, ?_, h2⟩
  have e : r.vs = cs.toList := vs_inj h1
  have : cs = r.vs.toArray := by rw [e]
  rw [this]
theorem objs_in {fuel len cap : Nat} {a : Option Addr} {y : DataW H × List MemPlace} (h : DataW.trod enc Try.prog w base spare held fuel 26 [.slice a len cap] = some y) : ∃ s : Sl GObject, Value.slice a len cap = s.val ∧ (ShF GObject.row s).holds w (fun b => b < w.heap.size) ∧ (AllF (fun y => GObject.ok y) s.l).holds w (fun b => b < w.heap.size) := by
  obtain ⟨ds, hlen, ho, hR⟩ := trod_rep 12 fuel 26 _ _ (by kernel_rfl) h
  obtain ⟨s, h1, h2⟩ := rd_sl_GObject ho (rds_of hlen hR)
  exact ⟨s, (List.cons.inj (vs_inj (a := [s.val]) h1)).1.symm, h2.1, h2.2⟩
theorem keep_in {fuel len cap : Nat} {a : Option Addr} {y : DataW H × List MemPlace} (h : DataW.trod enc Try.prog w base spare held fuel 27 [.slice a len cap] = some y) : ∃ s : Sl (Sl Bool), Value.slice a len cap = s.val ∧ (ShF (fun s : Sl Bool => [.v (.slice s.ad s.l.length s.cap)]) s).holds w (fun b => b < w.heap.size) ∧ (AllF (fun y : Sl Bool => ShF (fun b => [.v (.bool b)]) y) s.l).holds w (fun b => b < w.heap.size) := by
  obtain ⟨ds, hlen, ho, hR⟩ := trod_rep 12 fuel 27 _ _ (by kernel_rfl) h
  obtain ⟨s, h1, h2⟩ := rd_sl_Sbool ho (rds_of hlen hR)
  exact ⟨s, (List.cons.inj (vs_inj (a := [s.val]) h1)).1.symm, h2.1, h2.2⟩
theorem choices_in {fuel len cap : Nat} {a : Option Addr} {y : DataW H × List MemPlace} (h : DataW.trod enc Try.prog w base spare held fuel 28 [.slice a len cap] = some y) : ∃ s : Sl (Sl GChoice), Value.slice a len cap = s.val ∧ (ShF (fun s : Sl GChoice => [.v (.slice s.ad s.l.length s.cap)]) s).holds w (fun b => b < w.heap.size) ∧ (AllF (fun y : Sl GChoice => ShF GChoice.row y) s.l).holds w (fun b => b < w.heap.size) := by
  obtain ⟨ds, hlen, ho, hR⟩ := trod_rep 12 fuel 28 _ _ (by kernel_rfl) h
  obtain ⟨s, h1, h2⟩ := rd_sl_SGChoice ho (rds_of hlen hR)
  exact ⟨s, (List.cons.inj (vs_inj (a := [s.val]) h1)).1.symm, h2.1, h2.2⟩
theorem link_in {f0 f1 f2 f3 l1 l2 l3 c1 c2 c3 : Nat} {a1 a2 a3 : Option Addr} {cs : Array Value} {y0 y1 y2 y3 : DataW H × List MemPlace} (h0 : DataW.trod enc Try.prog w base spare held f0 25 cs.toList = some y0) (h1 : DataW.trod enc Try.prog w base spare held f1 26 [.slice a1 l1 c1] = some y1)
    (h2 : DataW.trod enc Try.prog w base spare held f2 27 [.slice a2 l2 c2] = some y2) (h3 : DataW.trod enc Try.prog w base spare held f3 28 [.slice a3 l3 c3] = some y3) :
    ∃ x : GLink, Value.agg cs = x.r.val ∧ Value.slice a1 l1 c1 = x.objs.val ∧ Value.slice a2 l2 c2 = x.keep.val ∧ Value.slice a3 l3 c3 = x.choices.val ∧ x.ok.holds w (fun b => b < w.heap.size) := by
  obtain ⟨r, e0, k0⟩ := recipe_in h0
  obtain ⟨o, e1, k1, m1⟩ := objs_in h1
  obtain ⟨kp, e2, k2, m2⟩ := keep_in h2
  obtain ⟨ch, e3, k3, m3⟩ := choices_in h3
  exact ⟨⟨r, o, kp, ch, default, 0⟩, e0, e1, e2, e3, k0, k1, m1, k2, m2, k3, m3, .e none 0 (by unfold maxLen; omega)⟩
end
end Go.Proofs.Ytnbochlghdkfkaa
