/- What the laws' arguments are, off their reading. -/
import Derived.Test.YtlhbnpahplpobaaSyLaw3
import Derived.Test.YtlhbnpahplpobaaSyRead
set_option linter.unusedVariables false
set_option linter.unusedSimpArgs false
namespace Go.Proofs.Ytlhbnpahplpobaa
open Go.RowKit Go.Lp Go.Sy
structure ArOk (a : Ar) : Prop where
  at_ : I64 a.at_
  size : I64 a.size
  kind : I64 a.kind
  owner : I64 a.owner
  mod : I64 a.mod
theorem area_of {r : List D} (h : okD Try.prog 2 24 r) : ∃ a : Ar, r = arRow a ∧ ArOk a := by
  have h := okD_struct Try.underlying24 h
  obtain ⟨d1, _, rfl, h1, d2, _, rfl, h2, d3, _, rfl, h3, d4, _, rfl, h4, d5, _, rfl, h5, rfl⟩ := h
  obtain ⟨n1, rfl, w1⟩ := okD_int (i := .i64) (by kernel_rfl) h1
  obtain ⟨n2, rfl, w2⟩ := okD_int (i := .i64) (by kernel_rfl) h2
  obtain ⟨n3, rfl, w3⟩ := okD_int (i := .i64) (by kernel_rfl) h3
  obtain ⟨n4, rfl, w4⟩ := okD_int (i := .i64) (by kernel_rfl) h4
  obtain ⟨n5, rfl, w5⟩ := okD_int (i := .i64) (by kernel_rfl) h5
  exact ⟨⟨n1, n2, n3, n4, n5⟩, rfl, ⟨wf64 w1, wf64 w2, wf64 w3, wf64 w4, wf64 w5⟩⟩
theorem deed_of {r : List D} (h : okD Try.prog 3 26 r) : ∃ d, r = deedRow d ∧ DeedOk d := by
  have h := okD_struct Try.underlying26 h
  obtain ⟨d1, _, rfl, h1, d2, _, rfl, h2, d3, _, rfl, h3, d4, _, rfl, h4, d5, _, rfl, h5, d6, _, rfl, h6, rfl⟩ := h
  obtain ⟨n1, rfl, w1⟩ := okD_int (i := .i64) (by kernel_rfl) h1
  obtain ⟨a, rfl, wa⟩ := area_of h2
  obtain ⟨n3, rfl, w3⟩ := okD_int (i := .i64) (by kernel_rfl) h3
  obtain ⟨n4, rfl, w4⟩ := okD_int (i := .i64) (by kernel_rfl) h4
  obtain ⟨n5, rfl, w5⟩ := okD_int (i := .i64) (by kernel_rfl) h5
  obtain ⟨s, rfl, w6⟩ := okD_string (by kernel_rfl) h6
  exact ⟨⟨n1, a, n3, n4, n5, s⟩, rfl, ⟨wf64 w1, wf64 w3, w6⟩⟩
end Go.Proofs.Ytlhbnpahplpobaa
