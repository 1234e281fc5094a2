/- Regions that draw their order: the classes of worlds in use. No condition. -/
import Derived.Test.YtpgcoceggacplaaGreatDoorLpReg2
import Derived.Deep.Cut
import Derived.Deep.CutRange
import Derived.Deep.DeepCutAuto
set_option linter.unusedVariables false
set_option linter.unusedSimpArgs false
set_option maxRecDepth 20000
namespace Go.Lp
open Go.RowKit

structure PD where
  b : Bool
  d : Nat
structure PX where
  b : Bool
  o : Array Obj
  d : Nat
structure XD where
  o : Array Obj
  d : Nat
instance : Nonempty PD := ⟨⟨true, 0⟩⟩
instance : Nonempty PX := ⟨⟨true, #[], 0⟩⟩
instance : Nonempty XD := ⟨⟨#[], 0⟩⟩
/-- one world or the other -/
def wif (b : Bool) (x y : World) : World := bif b then x else y
@[simp, go_sem] theorem wif_true (x y : World) : wif true x y = x := rfl
@[simp, go_sem] theorem wif_false (x y : World) : wif false x y = y := rfl
@[simp, go_sem] theorem wif_cell (b : Bool) (x y : World) (a : Addr) : (wif b x y).cell? a = bif b then x.cell? a else y.cell? a := by cases b <;> rfl
@[simp, go_sem] theorem wif_frozen (b : Bool) (x y : World) (a : Addr) : (wif b x y).frozen? a = bif b then x.frozen? a else y.frozen? a := by cases b <;> rfl
@[simp, go_sem] theorem wif_size (b : Bool) (x y : World) : (wif b x y).heap.size = bif b then x.heap.size else y.heap.size := by cases b <;> rfl
/-- some draws later -/
@[go_sem] def Dr (W w' : World) : Prop := ∃ d, w' = W.ext #[] d
/-- some blocks and draws later -/
@[go_sem] def Ex (W w' : World) : Prop := ∃ x : XD, w' = W.ext x.o x.d

theorem Dr.drew (W : World) : Dr W W.drew := ⟨W.drawn + 1, by unfold World.ext World.drew; rw [Array.append_empty]⟩
theorem Ex.drew (W : World) : Ex W W.drew := ⟨⟨#[], W.drawn + 1⟩, by unfold World.ext World.drew; rw [Array.append_empty]⟩
theorem Ex.refl (W : World) : Ex W W := ⟨⟨#[], W.drawn⟩, by simp [World.ext]⟩
theorem Ex.of_below {W w : World} (h : Below W.heap.size W w) : Ex W w := by obtain ⟨o, d, h⟩ := ext_of_below h; exact ⟨⟨o, d⟩, h⟩
theorem Ex.below {W w : World} (h : Ex W w) : Below W.heap.size W w := by obtain ⟨x, rfl⟩ := h; exact below_ext _ _ _
/-- a callee's contract, met in a world of the class -/
theorem Calls.ex {P : Program} {f : FuncId} {args : Array Value} {W : World} {objs : Array Obj} {d : Nat} {v u : Value}
    (h : Calls P f args (W.ext objs d) fun e w' => e = .returned u ∧ Below (W.ext objs d).heap.size (W.ext objs d) w') (hv : u = v) : Calls P f args (W.ext objs d) fun e w'' => e = .returned v ∧ Ex W w'' :=
  h.mono fun _ _ ⟨he, hb⟩ => ⟨hv ▸ he, by obtain ⟨o', d', rfl⟩ := ext_of_below hb; exact ⟨⟨_, _⟩, ext_ext _ _ _ _ _⟩⟩

theorem Calls.ex_same {P : Program} {f : FuncId} {args : Array Value} {W : World} {objs : Array Obj} {d : Nat} {v u : Value}
    (h : Calls P f args (W.ext objs d) fun e w' => e = .returned u ∧ W.ext objs d = w') (hv : u = v) : Calls P f args (W.ext objs d) fun e w'' => e = .returned v ∧ Ex W w'' :=
  h.mono fun _ _ ⟨he, hb⟩ => ⟨hv ▸ he, ⟨⟨objs, d⟩, hb.symm⟩⟩

section
variable {P : Program} {id : Nat} {Q : Exit → Act → World → Prop} {a : Act} {w : World} {l : List Oper}
theorem wp_region_rd (hm : P.follows .mixedOrders = true) (hB : Region.lexB .any l.toArray = true)
    (h : wpT P l.toArray 100000 (fun _ => Dr w) (Dr w) (fun a' => ∀ d, Q .normal a' (w.ext #[] d)) 0 l a) : (Code.region id l.toArray true).wp P Q a w :=
  wp_region_T 100000 (fun _ => Dr w) (Dr w) hm hB (fun _ _ h => h) (Dr.drew w) fun hU => wpPh_mono (fun a' ha w' ⟨d, hd⟩ => hd ▸ ha d) l 0 a (h hU)
theorem wp_region_rd0 (h : wpT P l.toArray 100000 (fun _ w' => w' = w) (fun w' => w' = w) (fun a' => Q .normal a' w) 0 l a) : (Code.region id l.toArray false).wp P Q a w :=
  wp_region_T0 100000 (fun _ w' => w' = w) (fun w' => w' = w) (fun _ _ h => h) rfl fun hU => wpPh_mono (fun a' ha w' hw => hw ▸ ha) l 0 a (h hU)
theorem wp_region_ex (hm : P.follows .mixedOrders = true) (hB : Region.lexB .any l.toArray = true)
    (h : wpT P l.toArray 100000 (fun _ => Ex w) (Ex w) (fun a' => ∀ objs d, Q .normal a' (w.ext objs d)) 0 l a) : (Code.region id l.toArray true).wp P Q a w :=
  wp_region_T 100000 (fun _ => Ex w) (Ex w) hm hB (fun _ _ h => h) (Ex.drew w) fun hU => wpPh_mono (fun a' ha w' ⟨x, hd⟩ => hd ▸ ha x.o x.d) l 0 a (h hU)
theorem wp_region_ex0 (h : wpT P l.toArray 100000 (fun _ => Ex w) (Ex w) (fun a' => ∀ objs d, Q .normal a' (w.ext objs d)) 0 l a) : (Code.region id l.toArray false).wp P Q a w :=
  wp_region_T0 100000 (fun _ => Ex w) (Ex w) (fun _ _ h => h) (Ex.refl w) fun hU => wpPh_mono (fun a' ha w' ⟨x, hd⟩ => hd ▸ ha x.o x.d) l 0 a (h hU)
/-- a store among reads: number s turns W into W1 -/
theorem wp_region_st (s : Nat) (W1 : World) (hs : (decide (l.length ≤ s)) = false) (hm : P.follows .mixedOrders = true) (hB : Region.lexB .any l.toArray = true)
    (h : wpT P l.toArray s (fun b => Dr (wif b W1 w)) (fun w' => ∃ φ : PD, w' = (wif φ.b W1 w).ext #[] φ.d) (fun a' => ∀ d, Q .normal a' (W1.ext #[] d)) 0 l a) : (Code.region id l.toArray true).wp P Q a w :=
  wp_region_T s (fun b => Dr (wif b W1 w)) (fun w' => ∃ φ : PD, w' = (wif φ.b W1 w).ext #[] φ.d) hm hB (fun b w' ⟨d, h⟩ => ⟨⟨b, d⟩, h⟩) (by rw [hs]; exact Dr.drew w)
    fun hU => wpPh_mono (fun a' ha w' ⟨d, hd⟩ => hd ▸ ha d) l 0 a (h hU)
/-- a store among reads and calls -/
theorem wp_region_stx (s : Nat) (W1 : World) (hs : (decide (l.length ≤ s)) = false) (hm : P.follows .mixedOrders = true) (hB : Region.lexB .any l.toArray = true)
    (h : wpT P l.toArray s (fun b => Ex (wif b W1 w)) (fun w' => ∃ φ : PX, w' = (wif φ.b W1 w).ext φ.o φ.d) (fun a' => ∀ objs d, Q .normal a' (W1.ext objs d)) 0 l a) : (Code.region id l.toArray true).wp P Q a w :=
  wp_region_T s (fun b => Ex (wif b W1 w)) (fun w' => ∃ φ : PX, w' = (wif φ.b W1 w).ext φ.o φ.d) hm hB (fun b w' ⟨x, h⟩ => ⟨⟨b, x.o, x.d⟩, h⟩) (by rw [hs]; exact Ex.drew w)
    fun hU => wpPh_mono (fun a' ha w' ⟨x, hd⟩ => hd ▸ ha x.o x.d) l 0 a (h hU)
end

end Go.Lp
