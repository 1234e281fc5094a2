/- Worlds with further blocks behind: Ext, its laws. No condition. -/
import Derived.WalkKit
import Derived.WalkSpells
import Derived.WalkLawsBesides
import Derived.Deep.QuietTactic
import Derived.BigQuiet
set_option linter.unusedVariables false
set_option linter.unusedSimpArgs false
set_option maxRecDepth 20000
namespace Go.Lp
open Go.RowKit

/-- the world with further blocks behind, and a count of draws. -/
def _root_.Go.World.ext (w : World) (objs : Array Obj) (d : Nat) : World := { w with heap := w.heap ++ objs, drawn := d }
section
variable (w : World) (objs : Array Obj) (d : Nat)
@[simp, go_sem] theorem size_ext : (w.ext objs d).heap.size = w.heap.size + objs.size := by simp [World.ext]
theorem heap_ext {k : Nat} (h : k < w.heap.size) : (w.ext objs d).heap[k]? = w.heap[k]? := by
  simp only [World.ext]
  rw [Array.getElem?_append, if_pos h]
@[go_sem] theorem cell_ext {a : Addr} (h : a.block < w.heap.size) : (w.ext objs d).cell? a = w.cell? a := by
  unfold World.cell?; rw [heap_ext w objs d h]
@[go_sem] theorem frozen_ext {a : Addr} (h : a.block < w.heap.size) : (w.ext objs d).frozen? a = w.frozen? a := by
  unfold World.frozen?; rw [heap_ext w objs d h]
@[simp, go_sem] theorem drew_ext : (w.ext objs d).drew = w.ext objs (d + 1) := rfl
@[simp, go_sem] theorem ext_ext (objs' : Array Obj) (d' : Nat) : (w.ext objs d).ext objs' d' = w.ext (objs ++ objs') d' := by
  simp [World.ext, Array.append_assoc]
theorem below_ext : Below w.heap.size w (w.ext objs d) := ⟨rfl, rfl, rfl, by simp, fun _ h => heap_ext w objs d h⟩
end
/-- a cell of the blocks behind -/
def extCell (objs : Array Obj) (k o : Nat) (s : Option Nat) : Option Value :=
  match objs[k]? with
  | some (.cells c _ _) => if s.isSome then none else c[o]?
  | _ => none
def extFrozen (objs : Array Obj) (k o : Nat) : Bool :=
  match objs[k]? with
  | some (.cells _ _ (lo, hi)) => lo ≤ o && o < hi
  | _ => false
def extSet (objs : Array Obj) (k : Nat) (a : Addr) (v : Value) : Array Obj :=
  objs.modify k fun
    | .cells c elem frozen => .cells (if a.spot.isSome then c else c.setIfInBounds a.off v) elem frozen
    | o => o
theorem heap_ext_ge (w : World) (objs : Array Obj) (d : Nat) {k : Nat} (h : ¬ k < w.heap.size) : (w.ext objs d).heap[k]? = objs[k - w.heap.size]? := by
  simp only [World.ext]
  rw [Array.getElem?_append, if_neg h]
theorem cell_ext_if (w : World) (objs : Array Obj) (d b o : Nat) (s : Option Nat) :
    (w.ext objs d).cell? ⟨b, o, s⟩ = if b < w.heap.size then w.cell? ⟨b, o, s⟩ else extCell objs (b - w.heap.size) o s := by
  split
  · rename_i h; exact cell_ext w objs d h
  · rename_i h; unfold World.cell? extCell; rw [heap_ext_ge w objs d h]; rfl
theorem frozen_ext_if (w : World) (objs : Array Obj) (d b o : Nat) (s : Option Nat) :
    (w.ext objs d).frozen? ⟨b, o, s⟩ = if b < w.heap.size then w.frozen? ⟨b, o, s⟩ else extFrozen objs (b - w.heap.size) o := by
  split
  · rename_i h; exact frozen_ext w objs d h
  · rename_i h; unfold World.frozen? extFrozen; rw [heap_ext_ge w objs d h]; rfl
theorem setCell_ext_if (w : World) (objs : Array Obj) (d b o : Nat) (s : Option Nat) (v : Value) :
    (w.ext objs d).setCell ⟨b, o, s⟩ v = if b < w.heap.size then (w.setCell ⟨b, o, s⟩ v).ext objs d else w.ext (extSet objs (b - w.heap.size) ⟨b, o, s⟩ v) d := by
  by_cases h : b < w.heap.size
  · rw [if_pos h]
    unfold World.setCell World.ext
    simp only [World.mk.injEq, and_true]
    apply Array.ext_getElem?
    intro i
    simp only [Array.getElem?_modify, Array.getElem?_append, Array.size_modify]
    by_cases hi : b = i
    · subst hi; simp [h]
    · simp [hi]
  · rw [if_neg h]
    unfold World.setCell World.ext extSet
    simp only [World.mk.injEq, and_true]
    apply Array.ext_getElem?
    intro i
    simp only [Array.getElem?_modify, Array.getElem?_append]
    by_cases hi : b = i
    · subst hi; simp [h]; rfl
    · by_cases hlt : i < w.heap.size
      · simp [hi, hlt]
      · have : ¬ b - w.heap.size = i - w.heap.size := by omega
        simp [hi, hlt, this]
theorem cell_alloc_if (w : World) (c : Array Value) (t : TypeId) (fz : Nat × Nat) (b o : Nat) :
    (w.alloc (.cells c t fz)).cell? ⟨b, o, none⟩ = if b = w.heap.size then c[o]? else w.cell? ⟨b, o, none⟩ := by
  unfold World.cell? World.alloc
  simp only [Array.getElem?_push]
  by_cases h : b = w.heap.size
  · simp [h]
  · simp [h]
theorem frozen_alloc_if (w : World) (c : Array Value) (t : TypeId) (fz : Nat × Nat) (b o : Nat) :
    (w.alloc (.cells c t fz)).frozen? ⟨b, o, none⟩ = if b = w.heap.size then (decide (fz.1 ≤ o) && decide (o < fz.2)) else w.frozen? ⟨b, o, none⟩ := by
  unfold World.frozen? World.alloc
  simp only [Array.getElem?_push]
  by_cases h : b = w.heap.size
  · simp [h]
  · simp [h]
theorem setCell_alloc_if (w : World) (c : Array Value) (t : TypeId) (fz : Nat × Nat) (b o : Nat) (v : Value) :
    (w.alloc (.cells c t fz)).setCell ⟨b, o, none⟩ v = if b = w.heap.size then w.alloc (.cells (c.setIfInBounds o v) t fz) else (w.setCell ⟨b, o, none⟩ v).alloc (.cells c t fz) := by
  by_cases h : b = w.heap.size
  · rw [if_pos h]
    unfold World.setCell World.alloc
    simp only [World.mk.injEq, and_true]
    apply Array.ext_getElem?
    intro i
    simp only [Array.getElem?_modify, Array.getElem?_push]
    subst h
    by_cases hi : w.heap.size = i
    · subst hi; simp
    · have : ¬ i = w.heap.size := fun h => hi h.symm
      simp [hi, this]
  · rw [if_neg h]
    unfold World.setCell World.alloc
    simp only [World.mk.injEq, and_true]
    apply Array.ext_getElem?
    intro i
    simp only [Array.getElem?_modify, Array.getElem?_push, Array.size_modify]
    by_cases hi : b = i
    · subst hi; simp [h]
    · simp [hi]
@[go_sem] theorem setCell_ext (w : World) (objs : Array Obj) (d : Nat) {a : Addr} (v : Value) (h : a.block < w.heap.size) : (w.ext objs d).setCell a v = (w.setCell a v).ext objs d := by
  obtain ⟨b, o, s⟩ := a
  rw [setCell_ext_if, if_pos h]
@[go_sem] theorem lt_h1 {p n a1 : Nat} (h : p < n) : (p < n + a1) = True := eq_true (by omega)
@[go_sem] theorem le_h1 {p n a1 : Nat} (h : p < n) : (p ≤ n + a1) = True := eq_true (by omega)
@[go_sem] theorem le_u2 (n a1 a2 : Nat) : (n ≤ n + a1 + a2) = True := eq_true (by omega)
@[go_sem] theorem lt_h2 {p n a1 a2 : Nat} (h : p < n) : (p < n + a1 + a2) = True := eq_true (by omega)
@[go_sem] theorem le_h2 {p n a1 a2 : Nat} (h : p < n) : (p ≤ n + a1 + a2) = True := eq_true (by omega)
@[go_sem] theorem le_u3 (n a1 a2 a3 : Nat) : (n ≤ n + a1 + a2 + a3) = True := eq_true (by omega)
@[go_sem] theorem lt_h3 {p n a1 a2 a3 : Nat} (h : p < n) : (p < n + a1 + a2 + a3) = True := eq_true (by omega)
@[go_sem] theorem le_h3 {p n a1 a2 a3 : Nat} (h : p < n) : (p ≤ n + a1 + a2 + a3) = True := eq_true (by omega)
@[go_sem] theorem le_u4 (n a1 a2 a3 a4 : Nat) : (n ≤ n + a1 + a2 + a3 + a4) = True := eq_true (by omega)
@[go_sem] theorem lt_h4 {p n a1 a2 a3 a4 : Nat} (h : p < n) : (p < n + a1 + a2 + a3 + a4) = True := eq_true (by omega)
@[go_sem] theorem le_h4 {p n a1 a2 a3 a4 : Nat} (h : p < n) : (p ≤ n + a1 + a2 + a3 + a4) = True := eq_true (by omega)
@[go_sem] theorem le_u5 (n a1 a2 a3 a4 a5 : Nat) : (n ≤ n + a1 + a2 + a3 + a4 + a5) = True := eq_true (by omega)
@[go_sem] theorem lt_h5 {p n a1 a2 a3 a4 a5 : Nat} (h : p < n) : (p < n + a1 + a2 + a3 + a4 + a5) = True := eq_true (by omega)
@[go_sem] theorem le_h5 {p n a1 a2 a3 a4 a5 : Nat} (h : p < n) : (p ≤ n + a1 + a2 + a3 + a4 + a5) = True := eq_true (by omega)
@[go_sem] theorem le_u6 (n a1 a2 a3 a4 a5 a6 : Nat) : (n ≤ n + a1 + a2 + a3 + a4 + a5 + a6) = True := eq_true (by omega)
@[go_sem] theorem lt_h6 {p n a1 a2 a3 a4 a5 a6 : Nat} (h : p < n) : (p < n + a1 + a2 + a3 + a4 + a5 + a6) = True := eq_true (by omega)
@[go_sem] theorem le_h6 {p n a1 a2 a3 a4 a5 a6 : Nat} (h : p < n) : (p ≤ n + a1 + a2 + a3 + a4 + a5 + a6) = True := eq_true (by omega)
@[go_sem] theorem le_u7 (n a1 a2 a3 a4 a5 a6 a7 : Nat) : (n ≤ n + a1 + a2 + a3 + a4 + a5 + a6 + a7) = True := eq_true (by omega)
@[go_sem] theorem lt_h7 {p n a1 a2 a3 a4 a5 a6 a7 : Nat} (h : p < n) : (p < n + a1 + a2 + a3 + a4 + a5 + a6 + a7) = True := eq_true (by omega)
@[go_sem] theorem le_h7 {p n a1 a2 a3 a4 a5 a6 a7 : Nat} (h : p < n) : (p ≤ n + a1 + a2 + a3 + a4 + a5 + a6 + a7) = True := eq_true (by omega)
@[go_sem] theorem le_u8 (n a1 a2 a3 a4 a5 a6 a7 a8 : Nat) : (n ≤ n + a1 + a2 + a3 + a4 + a5 + a6 + a7 + a8) = True := eq_true (by omega)
@[go_sem] theorem lt_h8 {p n a1 a2 a3 a4 a5 a6 a7 a8 : Nat} (h : p < n) : (p < n + a1 + a2 + a3 + a4 + a5 + a6 + a7 + a8) = True := eq_true (by omega)
@[go_sem] theorem le_h8 {p n a1 a2 a3 a4 a5 a6 a7 a8 : Nat} (h : p < n) : (p ≤ n + a1 + a2 + a3 + a4 + a5 + a6 + a7 + a8) = True := eq_true (by omega)
@[go_sem] theorem le_h0 {p n : Nat} (h : p < n) : (p ≤ n) = True := eq_true (by omega)
@[go_sem] theorem lt_o1 (n a1 : Nat) : (n < n + 1 + a1) = True := eq_true (by omega)
@[go_sem] theorem lt_o2 (n a1 a2 : Nat) : (n < n + 1 + a1 + a2) = True := eq_true (by omega)
@[go_sem] theorem lt_o3 (n a1 a2 a3 : Nat) : (n < n + 1 + a1 + a2 + a3) = True := eq_true (by omega)
@[go_sem] theorem lt_o4 (n a1 a2 a3 a4 : Nat) : (n < n + 1 + a1 + a2 + a3 + a4) = True := eq_true (by omega)
@[go_sem] theorem lt_o5 (n a1 a2 a3 a4 a5 : Nat) : (n < n + 1 + a1 + a2 + a3 + a4 + a5) = True := eq_true (by omega)
@[go_sem] theorem lt_o6 (n a1 a2 a3 a4 a5 a6 : Nat) : (n < n + 1 + a1 + a2 + a3 + a4 + a5 + a6) = True := eq_true (by omega)
theorem ret_int {k : IntKind} {a b : Int} (h : a = b) : Ending.returned (.int k a) = .returned (.int k b) := by rw [h]
theorem ret_bool {a b : Bool} (h : a = b) : Ending.returned (.bool a) = .returned (.bool b) := by rw [h]
theorem ret_int_bool {k : IntKind} {a b : Int} {t u : Bool} (h : a = b) (h' : t = u) : Ending.returned (.tuple #[.int k a, .bool t]) = .returned (.tuple #[.int k b, .bool u]) := by rw [h, h']
theorem w64_in {n : Int} (h : -9223372036854775808 ≤ n) (h' : n ≤ 9223372036854775807) : wrap64 n = n := by unfold wrap64; omega
theorem i64_in {n : Int} (h : -9223372036854775808 ≤ n) (h' : n ≤ 9223372036854775807) : IntKind.i64.wrap n = n := by rw [IntKind.wrap_i64]; omega
theorem tmod_neg {n t : Int} (ht : 0 < t) (h : n.tmod t < 0) : n.tmod t = n % t - t := by
  rw [Int.tmod_eq_emod] at *
  split at h
  · have := Int.emod_nonneg n (show t ≠ 0 by omega); omega
  · rename_i hc; rw [if_neg hc]; omega
theorem tmod_pos {n t : Int} (ht : 0 < t) (h : 0 ≤ n.tmod t) : n.tmod t = n % t := by
  rw [Int.tmod_eq_emod] at *
  have := Int.emod_lt_of_pos n ht
  split at h
  · rename_i hc; rw [if_pos hc]; omega
  · omega
theorem ext_zero (w : World) : w.ext #[] w.drawn = w := by simp [World.ext]
theorem ext_of_below {w w' : World} (h : Below w.heap.size w w') : ∃ objs d, w' = w.ext objs d := by
  refine ⟨w'.heap.extract w.heap.size w'.heap.size, w'.drawn, ?_⟩
  obtain ⟨hos, htape, hout, hsize, hblock⟩ := h
  cases w with | mk heap tape drawn os output =>
  cases w' with | mk heap' tape' drawn' os' output' =>
  simp only at hos htape hout hsize hblock
  subst hos htape hout
  simp only [World.ext, World.mk.injEq, and_true]
  apply Array.ext_getElem?
  intro i
  rw [Array.getElem?_append]
  split
  · rename_i hi; exact hblock i hi
  · rename_i hi
    rw [Array.getElem?_extract]
    split
    · congr 1; omega
    · rename_i h2
      rw [Array.getElem?_eq_none]; omega
theorem below_ext' {B : Nat} {a w : World} (h : Below B a w) (hB : B ≤ w.heap.size) (objs : Array Obj) (d : Nat) : Below B a (w.ext objs d) := h.trans ((below_ext w objs d).mono hB)
end Go.Lp
