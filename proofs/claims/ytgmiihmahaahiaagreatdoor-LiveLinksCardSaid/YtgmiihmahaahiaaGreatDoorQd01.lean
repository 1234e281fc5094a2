/- Parts of the proof, in build order. No condition. -/
import Derived.WalkKit
import Derived.Below
import Derived.Still
import Derived.Deep.Quiet
import Derived.OrdersIn
import Derived.RangeFuncLeaves
import Derived.RangeFuncRecord
import Derived.WalkSpells
import Derived.WalkLawsBesides
import Derived.Deep.QuietTactic
import Derived.BigQuiet
import Derived.Deep.Cut
import Derived.Deep.CutRange
import Derived.Deep.DeepCutAuto
import Derived.Laws.CopyRow
import Derived.Laws.CopyOwn
import Derived.Deep.AppendSrc
import Derived.Lib.AppendZerosOnto
import Derived.Lib.Overlaps
import Derived.Lib.Hide
set_option linter.unusedSimpArgs false
set_option linter.unusedVariables false
set_option maxHeartbeats 1000000
set_option maxRecDepth 20000
namespace Go.Sy
open Go.RowKit
theorem ns {P : Program} {w w' : World} {a : Addr} {v : Value} {at_ : Bool} {l : List Addr} (h : w.farStore P a v at_ = .ok (w', l)) : w'.drawn = w.drawn := by
 unfold World.farStore at h
 split at h
 · split at h
   · rename_i r hr
     cases h
     unfold World.viewStore at hr
     simp only [bind, Except.bind, pure, Except.pure, throw, throwThe, MonadExceptOf.throw] at hr
     repeat' split at hr
     all_goals first
       | cases hr; done
       | (cases hr; rfl)
   · cases h
 · cases h
theorem l6 {α : Type} : ∀ (x : Ask α) (w : World), w.drawn ≤ (w.ask x).2.drawn
 | .done a, w => Nat.le_refl _
 | .ask what range k, w => by
   unfold World.ask
   dsimp only
   split
   · exact l6 (k 0) w
   · exact Nat.le_trans (Nat.le_succ _) (l6 (k _) { w with drawn := w.drawn + 1 })
theorem xI (w : World) (c : Sys) : w.drawn ≤ (w.sys c).2.drawn := by
 unfold World.sys
 have := l6 (Kernel.perform c w.os) w
 split
 · exact Nat.le_refl _
 · rename_i r os w1 hne heq
   rw [heq] at this; exact this
theorem pS {α : Type} {P : Program} : ∀ (x : Sem α) (w w' : World) (v : α), x.run P w = .ok v w' → w.drawn ≤ w'.drawn := by
 intro x
 induction x with
 | pure a => intro w w' v h; simp [Sem.run] at h; rw [h.2]; exact Nat.le_refl _
 | load m a k ih =>
   intro w w' v h
   simp only [Sem.run] at h
   split at h
   · exact ih _ _ _ _ h
   · split at h
     · exact ih _ _ _ _ h
     · cases h
 | store m a u k ih =>
   intro w w' v h
   have key : (match w.cell? a with
       | some _ => if w.frozen? a then Result.halt (.unsupported (.unsafePointer "a write to bytes that a string shares")) w else k.run P (w.setCell a u)
       | none => match w.farStore P a u (m == Mode.atomic) with
         | .ok (w, _) => k.run P w
         | .error h => .halt h w) = .ok v w' → w.drawn ≤ w'.drawn := fun h => by
     split at h
     · split at h
       · cases h
       · have h1 := ih _ _ _ h
         have h2 : (w.setCell a u).drawn = w.drawn := by unfold World.setCell; (repeat' split) <;> rfl
         omega
     · split at h
       · rename_i w1 l hf
         have h1 := ih _ _ _ h
         rw [ns hf] at h1; exact h1
       · cases h
   cases u with
   | agg cs => simp [Sem.run] at h
   | tuple cs => simp [Sem.run] at h
   | _ => exact key h
 | new o k ih =>
   intro w w' v h
   simp only [Sem.run] at h
   exact ih _ { w with heap := w.heap.push o } _ _ h
 | shape r k ih => intro w w' v h; simp only [Sem.run] at h; exact ih _ _ _ _ h
 | freeze a n k ih =>
   intro w w' v h
   simp only [Sem.run] at h
   have h1 := ih _ _ _ h
   have h2 : (w.freeze a n).drawn = w.drawn := by unfold World.freeze; (repeat' split) <;> rfl
   omega
 | frozen a k ih => intro w w' v h; simp only [Sem.run] at h; exact ih _ _ _ _ h
 | getObj r k ih =>
   intro w w' v h
   simp only [Sem.run] at h
   split at h
   · cases h
   · exact ih _ _ _ _ h
   · cases h
 | setObj r o k ih =>
   intro w w' v h
   simp only [Sem.run] at h
   split at h
   · cases h
   · exact ih { w with heap := w.heap.setIfInBounds r o } _ _ h
   · cases h
 | choose q k ih =>
   intro w w' v h
   simp only [Sem.run] at h
   split at h
   · exact ih _ _ _ _ h
   · exact Nat.le_trans (Nat.le_succ _) (ih _ _ _ _ h)
 | sys c k ih =>
   intro w w' v h
   simp only [Sem.run] at h
   exact Nat.le_trans (xI w c) (ih _ _ _ _ h)
 | program k ih => intro w w' v h; simp only [Sem.run] at h; exact ih _ _ _ _ h
 | mark m k ih => intro w w' v h; simp only [Sem.run] at h; exact ih _ _ _ h
 | halt h => intro w w' v h; simp [Sem.run] at h
end Go.Sy

namespace Go.Sy
open Go.RowKit

structure Below (B : Nat) (w w' : World) : Prop where
 os : w'.os = w.os
 tape : w'.tape = w.tape
 output : w'.output = w.output
 size : w.heap.size ≤ w'.heap.size
 drawn : w.drawn ≤ w'.drawn
 block : ∀ k, k < B → w'.heap[k]? = w.heap[k]?
theorem Below.kit {B : Nat} {w w' : World} (h : Below B w w') : Go.RowKit.Below B w w' := ⟨h.os, h.tape, h.output, h.size, h.block⟩
theorem Below.of_kit {B : Nat} {w w' : World} (h : Go.RowKit.Below B w w') (hd : w.drawn ≤ w'.drawn) : Below B w w' := ⟨h.os, h.tape, h.output, h.size, hd, h.block⟩
theorem Below.refl (B : Nat) (w : World) : Below B w w := ⟨rfl, rfl, rfl, Nat.le_refl _, Nat.le_refl _, fun _ _ => rfl⟩
theorem Below.trans {B : Nat} {a b c : World} (h : Below B a b) (k : Below B b c) : Below B a c :=
 ⟨k.os.trans h.os, k.tape.trans h.tape, k.output.trans h.output, Nat.le_trans h.size k.size, Nat.le_trans h.drawn k.drawn, fun i hi => (k.block i hi).trans (h.block i hi)⟩
theorem Below.mono {B B' : Nat} {w w' : World} (h : Below B w w') (hB : B' ≤ B) : Below B' w w' := ⟨h.os, h.tape, h.output, h.size, h.drawn, fun k hk => h.block k (Nat.lt_of_lt_of_le hk hB)⟩
theorem Below.drew {B : Nat} {w w' : World} (h : Below B w w') : Below B w w'.drew := .of_kit h.kit.drew (Nat.le_trans h.drawn (Nat.le_succ _))
theorem Below.alloc {B : Nat} {w w' : World} (h : Below B w w') (hB : B ≤ w'.heap.size) (o : Obj) : Below B w (w'.alloc o) := .of_kit (h.kit.alloc hB o) h.drawn
abbrev bz := Nat → Prop

inductive D where
 | v (x : Value)
 | sl (rows : List (List D))

inductive eU (w : World) (S : bz) : Value → D → Prop where
 | v (x : Value) : eU w S x (.v x)
 | e (a : Option Addr) (c : Nat) (hc : c ≤ maxLen) : eU w S (.slice a 0 c) (.sl [])
 | sl (b o c sz : Nat) (rows : List (List D)) (us : Nat → Nat → Value) (hb : S b) (hn : rows.length ≤ c) (hc : c ≤ maxLen)
     (hr : ∀ (i : Nat) (r : List D), rows[i]? = some r → r.length = sz)
     (hcell : ∀ (i j : Nat) (r : List D) (d : D), rows[i]? = some r → r[j]? = some d → w.cell? ⟨b, o + i * sz + j, none⟩ = some (us i j) ∧ (us i j).oneCell' = true)
     (hd : ∀ (i j : Nat) (r : List D) (d : D), rows[i]? = some r → r[j]? = some d → eU w S (us i j) d) : eU w S (.slice (some ⟨b, o, none⟩) rows.length c) (.sl rows)

theorem eU.mono {w w' : World} {S S' : bz} {u : Value} {d : D} (h : eU w S u d) (hw : ∀ b, S b → w'.heap[b]? = w.heap[b]?) (hS : ∀ b, S b → S' b) : eU w' S' u d := by
 induction h with
 | v x => exact .v x
 | e a c hc => exact .e a c hc
 | sl b o c sz rows us hb hn hc hr hcell hd ih =>
   refine .sl b o c sz rows us (hS b hb) hn hc hr (fun i j r d h1 h2 => ⟨?_, (hcell i j r d h1 h2).2⟩) ih
   rw [← (hcell i j r d h1 h2).1]
   exact World.cell?_of_block (w := w) (w' := w') (hw b hb)

structure Per where
 holds : World → bz → Prop
 mono : ∀ {w w' : World} {S S' : bz}, holds w S → (∀ b, S b → w'.heap[b]? = w.heap[b]?) → (∀ b, S b → S' b) → holds w' S'

structure Res where
 holds : World → bz → bz → Prop
 mono : ∀ {w w' : World} {S S' F : bz}, holds w S F → (∀ b, F b → w'.heap[b]? = w.heap[b]?) → (∀ b, S b → w'.heap[b]? = w.heap[b]?) → (∀ b, S b → S' b) → holds w' S' F

def Sh (u : Value) (d : D) : Per := ⟨fun w S => eU w S u d, fun h h1 h2 => h.mono h1 h2⟩
def Fa (φ : Prop) : Per := ⟨fun _ _ => φ, fun h _ _ => h⟩

def emp : Res := ⟨fun _ _ F => ∀ b, ¬ F b, fun h _ _ _ => h⟩
def Box (b : Nat) (T : TypeId) (cs : List Value) : Res :=
 ⟨fun w _ F => w.heap[b]? = some (.cells cs.toArray T (0, 0)) ∧ ∀ k, F k ↔ k = b, fun h h1 _ _ => ⟨(h1 b ((h.2 b).2 rfl)).trans h.1, h.2⟩⟩
structure ew (w : World) (S : bz) (sz : Nat) (cs : List Value) (rows : List (List D)) : Prop where
 len : cs.length = rows.length * sz
 row : ∀ (i : Nat) (r : List D), rows[i]? = some r → r.length = sz
 one : ∀ v ∈ cs, v.oneCell' = true
 rep : ∀ (i j : Nat) (r : List D) (d : D), rows[i]? = some r → r[j]? = some d → ∃ u, cs[i * sz + j]? = some u ∧ eU w S u d
theorem ew.mono {w w' : World} {S S' : bz} {sz : Nat} {cs : List Value} {rows : List (List D)} (h : ew w S sz cs rows) (hw : ∀ b, S b → w'.heap[b]? = w.heap[b]?) (hS : ∀ b, S b → S' b) : ew w' S' sz cs rows :=
 ⟨h.len, h.row, h.one, fun i j r d h1 h2 => let ⟨u, hu, hr⟩ := h.rep i j r d h1 h2; ⟨u, hu, hr.mono hw hS⟩⟩
def Own (b : Nat) (T : TypeId) (sz cap : Nat) (rows : List (List D)) : Res :=
 ⟨fun w S F => (∃ cs sp : List Value, w.heap[b]? = some (.cells (cs ++ sp).toArray T (0, 0)) ∧ ew w S sz cs rows ∧ (cs ++ sp).length = cap * sz ∧ rows.length ≤ cap ∧ cap ≤ maxLen) ∧ ∀ k, F k ↔ k = b,
  fun h h1 h2 h3 => let ⟨⟨cs, sp, e, hr, hl⟩, hF⟩ := h; ⟨⟨cs, sp, (h1 b ((hF b).2 rfl)).trans e, hr.mono h2 h3, hl⟩, hF⟩⟩

structure St (w : World) (S : bz) (fp : Nat → bz) (ps : List Per) (hp : List Res) : Prop where
 per : ∀ p ∈ ps, p.holds w S
 res : ∀ (i : Nat) (R : Res), hp[i]? = some R → R.holds w S (fp i)
 lt : ∀ i, i < hp.length → ∀ b, fp i b → b < w.heap.size ∧ ¬ S b
 dj : ∀ i j, i < hp.length → j < hp.length → i ≠ j → ∀ b, fp i b → ¬ fp j b
 slt : ∀ b, S b → b < w.heap.size

theorem St.keep {w w' : World} {S : bz} {fp : Nat → bz} {ps : List Per} {hp : List Res} (h : St w S fp ps hp) (hs : w.heap.size ≤ w'.heap.size)
   (hw : ∀ b, b < w.heap.size → w'.heap[b]? = w.heap[b]?) : St w' S fp ps hp where
 per p hp := p.mono (h.per p hp) (fun b hb => hw b (h.slt b hb)) (fun _ h => h)
 res i R hR := R.mono (h.res i R hR) (fun b hb => hw b (h.lt i (List.getElem?_eq_some_iff.1 hR).1 b hb).1) (fun b hb => hw b (h.slt b hb)) (fun _ h => h)
 lt i hi b hb := ⟨Nat.lt_of_lt_of_le (h.lt i hi b hb).1 hs, (h.lt i hi b hb).2⟩
 dj := h.dj
 slt b hb := Nat.lt_of_lt_of_le (h.slt b hb) hs
theorem St.below {w w' : World} {S : bz} {fp : Nat → bz} {ps : List Per} {hp : List Res} (h : St w S fp ps hp) (hb : Below w.heap.size w w') : St w' S fp ps hp :=
 h.keep hb.size hb.block

def tot (fp : Nat → bz) (n : Nat) : bz := fun b => ∃ i, i < n ∧ fp i b

structure Evo (w : World) (S X : bz) (w' : World) (S' : bz) : Prop where
 os : w'.os = w.os
 tape : w'.tape = w.tape
 output : w'.output = w.output
 size : w.heap.size ≤ w'.heap.size
 drawn : w.drawn ≤ w'.drawn
 block : ∀ b, b < w.heap.size → ¬ X b → w'.heap[b]? = w.heap[b]?
 more : ∀ b, S b → S' b
 new : ∀ b, S' b → S b ∨ X b ∨ w.heap.size ≤ b
theorem Evo.refl (w : World) (S X : bz) : Evo w S X w S := ⟨rfl, rfl, rfl, Nat.le_refl _, Nat.le_refl _, fun _ _ _ => rfl, fun _ h => h, fun _ h => .inl h⟩
theorem Evo.trans {w w1 w2 : World} {S S1 S2 X X1 : bz} (h : Evo w S X w1 S1) (k : Evo w1 S1 X1 w2 S2) (hX : ∀ b, X1 b → X b ∨ w.heap.size ≤ b) : Evo w S X w2 S2 where
 os := k.os.trans h.os
 tape := k.tape.trans h.tape
 output := k.output.trans h.output
 size := Nat.le_trans h.size k.size
 drawn := Nat.le_trans h.drawn k.drawn
 block b hb hx := (k.block b (Nat.lt_of_lt_of_le hb h.size) fun hx1 => (hX b hx1).elim hx (fun hle => by omega)).trans (h.block b hb hx)
 more b hb := k.more b (h.more b hb)
 new b hb := by
   rcases k.new b hb with h1 | h1 | h1
   · exact h.new b h1
   · exact (hX b h1).elim (fun h => .inr (.inl h)) (fun h => .inr (.inr h))
   · exact .inr (.inr (Nat.le_trans h.size h1))
theorem Evo.of_below {w w' : World} (S X : bz) (h : Below w.heap.size w w') : Evo w S X w' S := ⟨h.os, h.tape, h.output, h.size, h.drawn, fun b hb _ => h.block b hb, fun _ h => h, fun _ h => .inl h⟩
theorem Evo.wider {w w' : World} {S X X' S' : bz} (h : Evo w S X w' S') (hX : ∀ b, X b → X' b) : Evo w S X' w' S' :=
 ⟨h.os, h.tape, h.output, h.size, h.drawn, fun b hb hx => h.block b hb fun k => hx (hX b k), h.more, fun b hb => (h.new b hb).imp id (Or.imp (hX b) id)⟩
theorem Evo.toBelow {w w' : World} {S X S' : bz} (h : Evo w S X w' S') (hX : ∀ b, b < w.heap.size → ¬ X b) : Below w.heap.size w w' :=
 ⟨h.os, h.tape, h.output, h.size, h.drawn, fun b hb => h.block b hb (hX b hb)⟩

abbrev Env := List (Nat × Bool × Value)
def look : Env → Nat → Option (Bool × Value)
 | [], _ => none
 | (t, g, v) :: e, k => if t == k then some (g, v) else look e k
def cW (a : Act) (env : Env) : Prop := ∀ t g v, look env t = some (g, v) → a.tmps.getD t undef = bif g then v else undef
theorem cW.put {a : Act} {env : Env} (h : cW a env) {d : Nat} (hd : d < a.tmps.size) (g : Bool) (v : Value) : cW (a.put (some d) (bif g then v else undef)) ((d, g, v) :: env) := by
 intro t g' v' ht
 unfold look at ht
 simp only [Act.put]
 by_cases hdt : d = t
 · subst hdt
   simp only [beq_self_eq_true, if_true, Option.some.injEq, Prod.mk.injEq] at ht
   obtain ⟨rfl, rfl⟩ := ht
   simp [hd]
 · have : (d == t) = false := by simpa using hdt
   rw [this] at ht
   simp only [Bool.false_eq_true, if_false] at ht
   rw [← h t g' v' ht, Array.getD_eq_getD_getElem?, Array.getD_eq_getD_getElem?, Array.getElem?_setIfInBounds_ne hdt]
theorem cW.sub {a : Act} {env env' : Env} (h : cW a env) (hs : ∀ t g v, look env' t = some (g, v) → look env t = some (g, v)) : cW a env' := fun t g v ht => h t g v (hs t g v ht)
def ev (env : Env) : Operand → Option (Bool × Value)
 | .tmp t => look env t
 | .const v => some (true, v)
 | .global g => some (true, .pointer (some ⟨g, 0, none⟩))
 | .func f => some (true, .func (.func f) #[] #[])
theorem cW.eval {a : Act} {env : Env} (h : cW a env) {x : Operand} {g : Bool} {v : Value} (hx : ev env x = some (g, v)) : a.eval x = bif g then v else undef := by
 cases x with
 | tmp t => exact h t g v hx
 | const c => simp only [ev, Option.some.injEq, Prod.mk.injEq] at hx; obtain ⟨rfl, rfl⟩ := hx; rfl
 | global c => simp only [ev, Option.some.injEq, Prod.mk.injEq] at hx; obtain ⟨rfl, rfl⟩ := hx; rfl
 | func c => simp only [ev, Option.some.injEq, Prod.mk.injEq] at hx; obtain ⟨rfl, rfl⟩ := hx; rfl
theorem cW.val {a : Act} {env : Env} (h : cW a env) {x : Operand} {g : Bool} {v : Value} (hx : ev env x = some (g, v)) (hg : g = true) : a.eval x = v := by
 rw [h.eval hx, hg]; rfl

structure Sta where
 env : Env
 ps : List Per
 hp : List Res

structure Fr where
 size : Nat
 ro : Option Nat := none
 dfr : List Deferred := []
instance (k : Nat) : OfNat Fr k := ⟨⟨k, none, []⟩⟩
instance : Coe Fr Nat := ⟨Fr.size⟩
def fnc (r : Option Nat) : Fence := { fn := fun _ => True, depth := none, alive := false, round := r }
theorem dq {F : Fence} {m : Nat} {P : Program} {c : Code} {Q Q' : Exit → Act → World → Prop} {a : Act} {w : World} (hq : ∀ e a w, Q e a w → Q' e a w) (h : c.wpIn F m P Q a w) : c.wpIn F m P Q' a w := wpIn_mono h hq

def e9 (Q : Exit → Sta → Prop) (n : Fr) (w : World) (S X : bz) (e : Exit) (a' : Act) (w' : World) : Prop :=
 ∃ s S' fp', Q e s ∧ St w' S' fp' s.ps s.hp ∧ cW a' s.env ∧ a'.tmps.size = n.size ∧ a'.defers = n.dfr ∧ Evo w S X w' S' ∧ ∀ b, tot fp' s.hp.length b → X b ∨ w.heap.size ≤ b

theorem e9.trans {Q : Exit → Sta → Prop} {n : Fr} {w w1 : World} {S X S1 X1 : bz} (hE : Evo w S X w1 S1) (hX : ∀ b, X1 b → X b ∨ w.heap.size ≤ b) {e : Exit} {a : Act} {w2 : World} (h : e9 Q n w1 S1 X1 e a w2) : e9 Q n w S X e a w2 := by
 obtain ⟨s, S', fp', hq, hst, henv, hn, hd, hE', hg⟩ := h
 exact ⟨s, S', fp', hq, hst, henv, hn, hd, hE.trans hE' hX, fun b hb => (hg b hb).elim (hX b) (fun h => .inr (Nat.le_trans hE.size h))⟩
def awp (P : Program) (n : Fr) (c : Code) (Q : Exit → Sta → Prop) (s : Sta) : Prop :=
 ∀ (w : World) (S : bz) (fp : Nat → bz) (a : Act), St w S fp s.ps s.hp → cW a s.env → a.tmps.size = n.size → a.defers = n.dfr →
   c.wpIn (fnc n.ro) 0 P (e9 Q n w S (tot fp s.hp.length)) a w

section rules
variable {P : Program} {n : Fr} {Q : Exit → Sta → Prop} {s : Sta}

theorem iT {w : World} {S : bz} {fp : Nat → bz} {a : Act} (hst : St w S fp s.ps s.hp) (he : cW a s.env) (hn : a.tmps.size = n.size) (hd : a.defers = n.dfr) {e : Exit} (h : Q e s) : e9 Q n w S (tot fp s.hp.length) e a w :=
 ⟨s, S, fp, h, hst, he, hn, hd, Evo.refl _ _ _, fun _ h => .inl h⟩
theorem aq (h : Q .normal s) : awp P n .skip Q s := fun w S fp a hst he hn hd => wpIn_skip (iT hst he hn hd h)
theorem aJ (h : Q .ret s) : awp P n .ret Q s := fun w S fp a hst he hn hd => wpIn_ret (iT hst he hn hd h)
theorem aX {id : Nat} (h : Q (.exit id) s) : awp P n (.exit id) Q s := fun w S fp a hst he hn hd => wpIn_exit (iT hst he hn hd h)
def thn (K : Sta → Prop) (Q : Exit → Sta → Prop) : Exit → Sta → Prop
 | .normal, s => K s
 | e, s => Q e s
theorem aH {x y : Code} (h : awp P n x (thn (awp P n y Q) Q) s) : awp P n (.seq x y) Q s := fun w S fp a hst he hn hd =>
 wpIn_seq (dq (fun e a' w' hq => by
   cases e with
   | normal =>
     obtain ⟨s1, S1, fp1, h1, hst1, he1, hn1, hd1, hE, hg⟩ := hq
     exact dq (fun e a2 w2 h2 => h2.trans hE hg) (h1 w' S1 fp1 a' hst1 he1 hn1 hd1)
   | _ => exact hq) (h w S fp a hst he hn hd))
theorem al {c : Operand} {x y : Code} (t : Bool) (hc : ev s.env c = some (true, .bool t)) (h1 : t = true → awp P n x Q s) (h2 : t = false → awp P n y Q s) : awp P n (.cond c x y) Q s := fun w S fp a hst he hn hd =>
 wpIn_cond_split (t := t) (he.val hc rfl) (fun ht => h1 ht w S fp a hst he hn hd) (fun ht => h2 ht w S fp a hst he hn hd)
def blk (id : Nat) (Q : Exit → Sta → Prop) : Exit → Sta → Prop
 | .exit id', s => if id' = id then Q .normal s else Q (.exit id') s
 | e, s => Q e s
theorem aI {id : Nat} {c : Code} (h : awp P n c (blk id Q) s) : awp P n (.block id c) Q s := fun w S fp a hst he hn hd =>
 wpIn_block (dq (fun e a' w' hq => by
   obtain ⟨s', S', fp', h1, h⟩ := hq
   cases e with
   | exit id' =>
     unfold Exit.inBlock
     unfold blk at h1
     dsimp only at h1 ⊢
     split
     · rename_i hid; rw [if_pos hid] at h1; exact ⟨s', S', fp', h1, h⟩
     · rename_i hid; rw [if_neg hid] at h1; exact ⟨s', S', fp', h1, h⟩
   | _ => exact ⟨s', S', fp', h1, h⟩) (h w S fp a hst he hn hd))
def wH (env : Env) (l : List Nat) : Env := l.filterMap fun t => (look env t).map fun x => (t, x.1, x.2)
def fH (ps : List Per) (l : List Nat) : List Per := l.filterMap (ps.reverse[·]?)
def bK (hp : List Res) (l : List Nat) : List Res := l.map fun i => hp.getD i emp
def pk (s : Sta) (le lp lh : List Nat) : Sta := ⟨wH s.env le, fH s.ps lp, bK s.hp lh⟩
def okH (hp : List Res) (l : List Nat) : Bool := l.all (· < hp.length) && decide l.Nodup
theorem aae {X : Type} {c : Code} (I : X → Sta → Prop) (μ : X → Nat) (x : X) (h0 : I x s)
   (round : ∀ x s, I x s → awp P n c (thn (fun s' => ∃ x', I x' s' ∧ μ x' < μ x) Q) s) : awp P n (.loop c) Q s := fun w S fp a hst he hn hd => by
 intro b k cs hro hb hr
 have key : ∀ (m : Nat) (x : X) (s1 : Sta) (w1 : World) (S1 : bz) (fp1 : Nat → bz) (a1 : Act), μ x = m → I x s1 → St w1 S1 fp1 s1.ps s1.hp → cW a1 s1.env → a1.tmps.size = n.size → a1.defers = n.dfr →
     ∃ e a' w', e9 Q n w1 S1 (tot fp1 s1.hp.length) e a' w' ∧ ArrivesIn (Machine.fenced P (fnc n.ro)) P (lone (b.atR a1 (.code c :: .inLoop c :: k)) cs w1) b k cs e a' w' := by
   intro m
   induction m using Nat.strongRecOn with
   | _ m ih =>
     intro x s1 w1 S1 fp1 a1 hm hI hst1 he1 hn1 hd1
     obtain ⟨e, a2, w2, hq, harr⟩ := round x s1 hI w1 S1 fp1 a1 hst1 he1 hn1 hd1 b (.inLoop c :: k) cs hro hb hr
     cases e with
     | normal =>
       obtain ⟨s2, S2, fp2, ⟨x2, hI2, hlt⟩, hst2, he2, hn2, hd2, hE, hg⟩ := hq
       obtain ⟨e3, a3, w3, hq3, harr3⟩ := ih (μ x2) (hm ▸ hlt) x2 s2 w2 S2 fp2 a2 rfl hI2 hst2 he2 hn2 hd2
       exact ⟨e3, a3, w3, hq3.trans hE hg, .of_steps (StepsIn.trans harr (.one (fenced_calm hb hr rfl) stepR_inLoop)) harr3⟩
     | exit id => exact ⟨_, a2, w2, hq, .pass (x := .inLoop c) rfl (fun _ _ => .inl (by simp)) harr⟩
     | goto l => exact ⟨_, a2, w2, hq, .pass (x := .inLoop c) rfl (fun _ _ => .inl (by simp)) harr⟩
     | ret => exact ⟨_, a2, w2, hq, .pass (x := .inLoop c) rfl (fun _ _ => .inl (by simp)) harr⟩
     | panic ch => exact ⟨_, a2, w2, hq, .pass (x := .inLoop c) rfl (fun _ _ => .inl (by simp)) harr⟩
     | outgrown => exact ⟨_, a2, w2, hq, .pass (x := .inLoop c) rfl (fun _ _ => .inl (by simp)) harr⟩
 obtain ⟨e, a', w', hq, harr⟩ := key _ x s w S fp a rfl h0 hst he hn hd
 exact ⟨e, a', w', hq, .of_steps (.one (fenced_calm hb hr rfl) stepR_loop) harr⟩
end rules
section
variable {α β : Type} {f : α → β} {a b x : α} {l m : List α} {n k : Nat}
theorem nA : (false = true) = False := Bool.false_eq_true
theorem nB : Option.map f none = none := rfl
theorem nC : Option.map f (some a) = some (f a) := rfl
theorem nD : (a :: l).getD 0 x = a := rfl
theorem nE : (a :: l).getD (n + 1) x = l.getD n x := rfl
theorem nF : (a :: l).drop (n + 1) = l.drop n := rfl
theorem nG : l.drop 0 = l := rfl
theorem nH : (a :: l).length = l.length + 1 := rfl
theorem nI : ([] : List α).length = 0 := rfl
theorem nJ : ([] : List α).drop n = [] := by cases n <;> rfl
theorem nK : (a :: l).set (n + 1) b = a :: l.set n b := rfl
theorem nL : (a :: l).set 0 b = b :: l := rfl
theorem nM : (a :: l) ++ m = a :: (l ++ m) := rfl
theorem nN : [] ++ l = l := rfl
theorem nO : l.toArray.setIfInBounds n a = (l.set n a).toArray := List.setIfInBounds_toArray _ _ _
theorem nP {c : Bool} : (c == c) = true := beq_self_eq_true c
theorem nQ {f : α → β} : (a :: l).map f = f a :: l.map f := rfl
theorem nR {f : α → β} : ([] : List α).map f = [] := rfl
end
end Go.Sy

namespace Go.Sy
open Go.RowKit
section
variable {P : Program} {ops : Array Oper} {md : Region.Mode}

def gB (P : Program) (Φ : Value → World → Prop) : Result Next → Prop
 | .ok (.value u) w' => Φ u w'
 | .ok .skip w' => Φ undef w'
 | .ok (.enter f args) w' => Calls P f args w' (fun e w'' => ∃ v, e = .returned v ∧ Φ v w'')
 | .ok (.round l f tmps assign body) w' => RoundIn (fnc none) 0 P l f tmps assign body w' (fun e w'' => ∃ v, e = .returned v ∧ Φ v w'')
 | _ => False
theorem ct {Φ Ψ : Value → World → Prop} (h : ∀ v w, Φ v w → Ψ v w) {r : Result Next} (hr : gB P Φ r) : gB P Ψ r := by
 cases r with
 | halt x w' => simp only [gB] at hr
 | ok n w' =>
   cases n with
   | value u => exact h _ _ hr
   | skip => exact h _ _ hr
   | enter f args => exact Calls.mono hr fun e w'' ⟨v, he, hv⟩ => ⟨v, he, h _ _ hv⟩
   | round l f tmps assign body => exact RoundIn.mono hr fun e w'' ⟨v, he, hv⟩ => ⟨v, he, h _ _ hv⟩
   | _ => simp only [gB] at hr
def mq (P : Program) (v : Value) (w : World) (r : Result Next) : Prop := gB P (fun u w' => u = v ∧ Below w.heap.size w w') r

theorem rN {o : Oper} {r : Option Nat} {ρ : Operand → Value} {w : World} {Φ : Value → World → Prop} (h : gB P Φ ((execOp ρ o).run P w)) : o.semAt r ρ = execOp ρ o := by
 cases r with
 | none => rfl
 | some l =>
   refine Oper.semAt_eq _ _ _ fun c hc => ?_
   unfold execOp at h
   rw [hc] at h
   dsimp only at h
   rw [Sem.run_bind] at h
   cases hr : (resolve ρ c o.type).run P w with
   | ok d w' => rw [hr] at h; exact h
   | halt x w' => rw [hr] at h; exact h
theorem sO {r : Option Nat} {o : Oper} {a : Act} {w : World} {K : Act → World → Prop} {Q : Exit → Act → World → Prop} (h : gB P (fun v w' => K (a.put o.dst v) w') ((execOp a.eval o).run P w)) : o.wpIn (fnc r) 0 P a w K Q := by
 unfold Oper.wpIn
 refine ⟨fun _ _ => trivial, ?_⟩
 rw [show (o.semAt (fnc r).round a.eval) = execOp a.eval o from rN h]
 generalize (execOp a.eval o).run P w = r at *
 cases r with
 | halt x w' => simp only [gB] at h
 | ok n w' =>
   cases n with
   | value u => exact h
   | skip => exact h
   | enter f args => exact ⟨fun h => (by cases h), (callsIn_wide (n := 0)).2 (Calls.mono h fun e w'' ⟨v, he, hv⟩ => by subst he; exact hv)⟩
   | round l f tmps assign body => exact ⟨fun h => (by cases h), RoundIn.mono h fun e w'' ⟨v, he, hv⟩ => by subst he; exact hv⟩
   | _ => simp only [gB] at h

def opB (P : Program) (ops : Array Oper) (i : Nat) (K : Act → World → Prop) (a : Act) (w : World) : Prop :=
 ∃ o, ops[i]? = some o ∧ if Region.wanted o (yielded ops a.tmps) then gB P (fun v w' => K (a.put o.dst v) w') ((execOp a.eval o).run P w) else K (a.put o.dst undef) w
theorem uq {i : Nat} {K K' : Act → World → Prop} {a : Act} {w : World} (h : ∀ a w, K a w → K' a w) (hh : opB P ops i K a w) : opB P ops i K' a w := by
 obtain ⟨o, ho, hr⟩ := hh
 refine ⟨o, ho, ?_⟩
 split
 · rename_i hw; rw [if_pos hw] at hr; exact ct (fun _ _ => h _ _) hr
 · rename_i hw; rw [if_neg hw] at hr; exact h _ _ hr
theorem jE {r : Option Nat} {Q : Exit → Act → World → Prop} {i : Nat} {K : Act → World → Prop} {a : Act} {w : World} (h : opB P ops i K a w) : wpOpIn (fnc r) 0 P ops Q i K a w := by
 obtain ⟨o, ho, hr⟩ := h
 unfold wpOpIn
 simp only [ho]
 split
 · rename_i hw; rw [if_pos hw] at hr; exact sO hr
 · rename_i hw; rw [if_neg hw] at hr; exact ⟨fun _ _ => trivial, hr⟩

def wpB (P : Program) (md : Region.Mode) (ops : Array Oper) (V : Nat → Bool) (Q : Act → World → Prop) : Nat → Array Bool → Act → World → Prop
 | 0, L, a, w => ∀ w1, Below w.heap.size w w1 → Region.ready md ops L = [] ∧ Q a w1
 | k + 1, L, a, w => ∀ w1, Below w.heap.size w w1 → (Region.ready md ops L = [] → Q a w1) ∧
     ∀ i ∈ Region.ready md ops L, opB P ops i (fun a' w' => (V i = false → Below w1.heap.size w1 w') ∧ wpB P md ops V Q k (L.setIfInBounds i true) a' w') a w1
variable {V : Nat → Bool} {Q : Act → World → Prop}
theorem ec {a b c : World} (h : Below a.heap.size a b) (k : Below b.heap.size b c) : Below a.heap.size a c := h.trans (k.mono h.size)
theorem rp {k : Nat} {L : Array Bool} {a : Act} {w w1 : World} (h : wpB P md ops V Q k L a w) (hb : Below w.heap.size w w1) : wpB P md ops V Q k L a w1 := by
 cases k with
 | zero => exact fun w2 h2 => h w2 (ec hb h2)
 | succ k => exact fun w2 h2 => h w2 (ec hb h2)
theorem kO {r : Option Nat} {Q' : Exit → Act → World → Prop} (hQ : ∀ a w, Q a w → Q' .normal a w) : ∀ (k : Nat) (L : Array Bool) (a : Act) (w : World), wpB P md ops V Q k L a w → wpAnyIn (fnc r) 0 P md ops Q' k L a w
 | 0, _, _, w, h => ⟨(h w (Below.refl _ _)).1, hQ _ _ (h w (Below.refl _ _)).2⟩
 | k + 1, _, _, w, h => ⟨fun h0 => hQ _ _ ((h w (Below.refl _ _)).1 h0), fun i hi => wpOpIn_mono (fun _ _ h => kO hQ k _ _ _ h.2) (jE ((h w (Below.refl _ _)).2 i hi))⟩

def closed (md : Region.Mode) (ops : Array Oper) (L : Array Bool) : Prop := ∀ j o, ops[j]? = some o → L.getD j true = true → ∀ e ∈ o.after, Region.binds md e = true → L.getD e.on false = true
theorem jU {L : Array Bool} {j : Nat} (h : L.getD j false = true) : L.getD j true = true := by
 rcases Nat.lt_or_ge j L.size with h' | h'
 · simpa [h'] using h
 · simp [Array.getElem?_eq_none h'] at h
theorem ji {L : Array Bool} {i : Nat} (h : closed md ops L) (hi : i ∈ Region.ready md ops L) : closed md ops (L.setIfInBounds i true) := by
 intro j o ho hj e he hb
 by_cases hji : j = i
 · subst hji
   obtain ⟨_, o', ho', hall⟩ := mem_ready.1 hi
   obtain rfl : o = o' := Option.some.inj (ho.symm.trans ho')
   exact Go.getD_set_true (hall e he hb)
 · rw [getD_set_ne true (Ne.symm hji)] at hj
   exact Go.getD_set_true (h j o ho hj e he hb)
def mY (md : Region.Mode) (ops : Array Oper) (L : Array Bool) : Bool :=
 (List.range ops.size).all fun j => match ops[j]? with
   | none => true
   | some o => !L.getD j true || o.after.all fun e => !Region.binds md e || L.getD e.on false
theorem j1 {L : Array Bool} (h : mY md ops L = true) : closed md ops L := by
 intro j o ho hj e he hb
 unfold mY at h
 have h1 := List.all_eq_true.1 h j (List.mem_range.2 (Array.getElem?_eq_some_iff.1 ho).1)
 simp only [ho, hj, Bool.not_true, Bool.false_or] at h1
 have h2 := Array.all_eq_true_iff_forall_mem.1 h1 e he
 simpa [hb] using h2
def oO (md : Region.Mode) (ops : Array Oper) : Nat → Nat → Nat → Bool
 | 0, _, _ => false
 | n + 1, j, i => match ops[j]? with
   | none => false
   | some o => o.after.any fun e => Region.binds md e && (e.on == i || oO md ops n e.on i)
theorem uL {L : Array Bool} (hc : closed md ops L) {i : Nat} : ∀ (n j : Nat), oO md ops n j i = true → L.getD j true = true → L.getD i false = true
 | 0, _, h, _ => by cases h
 | n + 1, j, h, hj => by
   unfold oO at h
   cases ho : ops[j]? with
   | none => rw [ho] at h; cases h
   | some o =>
     rw [ho] at h
     obtain ⟨e, he, hb⟩ := Array.any_eq_true'.1 h
     simp only [Bool.and_eq_true, Bool.or_eq_true, beq_iff_eq] at hb
     have h1 := hc j o ho hj e he hb.1
     rcases hb.2 with rfl | h2
     · exact h1
     · exact uL hc n _ h2 (jU h1)

def jb (P : Program) (ops : Array Oper) (o : Oper) (v : Value) (a : Act) (w : World) : Prop :=
 (Region.wanted o (yielded ops a.tmps) = true ∧ ∀ w1, Below w.heap.size w w1 → mq P v w1 ((execOp a.eval o).run P w1)) ∨ (Region.wanted o (yielded ops a.tmps) = false ∧ v = undef)
theorem jb.of_same {o : Oper} {v : Value} {a a' : Act} {w w' : World} (hy : jb P ops o v a w) (he : execOp a'.eval o = execOp a.eval o)
   (hw : Region.wanted o (yielded ops a'.tmps) = Region.wanted o (yielded ops a.tmps)) (hb : Below w.heap.size w w') : jb P ops o v a' w' := by
 unfold jb at *
 rw [he, hw]
 exact hy.imp (fun ⟨h1, h2⟩ => ⟨h1, fun w1 h => h2 w1 (ec hb h)⟩) id
theorem jb.op {o : Oper} {i : Nat} {v : Value} {a : Act} {w : World} (hi : ops[i]? = some o) (hy : jb P ops o v a w) {K : Act → World → Prop} (h : ∀ w', Below w.heap.size w w' → K (a.put o.dst v) w') : opB P ops i K a w := by
 refine ⟨o, hi, ?_⟩
 rcases hy with ⟨h1, h2⟩ | ⟨h1, rfl⟩
 · rw [if_pos h1]
   exact ct (fun u w' ⟨hu, hb⟩ => by subst hu; exact h w' hb) (h2 w (Below.refl _ _))
 · rw [if_neg (by rw [h1]; exact Bool.false_ne_true)]
   exact h w (Below.refl _ _)

theorem qD {i : Nat} {oi : Oper} {v : Value} (hi : ops[i]? = some oi) (hsel : ∀ (j : Nat) (o : Oper) cs b, ops[j]? = some o → o.op ≠ .select cs b) (m : Nat) (hVi : V i = false) :
   ∀ (n : Nat) (L : Array Bool) (a : Act) (w : World), closed md ops L → (∀ c, V c = true → L.getD c true = false → oO md ops m c i = true) →
     (∀ j oj, ops[j]? = some oj → j ≠ i → L.getD j true = false → (∀ e ∈ oj.after, Region.binds md e = true → e.on ≠ i) → oi.apart ops oj = true) →
     i ∈ Region.ready md ops L → jb P ops oi v a w →
     wpB P md ops V Q n (L.setIfInBounds i true) (a.put oi.dst v) w → wpB P md ops V Q (n + 1) L a w := by
 intro n
 induction n with
 | zero =>
   intro L a w hcl hV _ hr hy H w1 hb
   refine ⟨fun h => (by rw [h] at hr; cases hr), fun j hj => ?_⟩
   by_cases hji : j = i
   · subst hji
     exact (hy.of_same rfl rfl hb).op hi fun w' hb' => ⟨fun _ => hb', rp H (ec hb hb')⟩
   · have := ready_mono hj hji
     rw [(H w1 hb).1] at this
     cases this
 | succ n ih =>
   intro L a w hcl hV hfree hr hy H w1 hb
   refine ⟨fun h => (by rw [h] at hr; cases hr), fun j hj => ?_⟩
   by_cases hji : j = i
   · subst hji
     exact (hy.of_same rfl rfl hb).op hi fun w' hb' => ⟨fun _ => hb', rp H (ec hb hb')⟩
   · obtain ⟨oj, hoj, hrun⟩ := (H w1 hb).2 j (ready_mono hj hji)
     obtain ⟨hjun, oj', hoj', hall⟩ := mem_ready.1 hj
     obtain rfl : oj = oj' := Option.some.inj (hoj.symm.trans hoj')
     have hnot : ∀ e ∈ oj.after, Region.binds md e = true → e.on ≠ i := fun e he hb heq => by
       have h1 := hall e he hb
       have h0 := (mem_ready.1 hr).1
       rw [heq] at h1
       rw [jU h1] at h0; cases h0
     have hVj : V j = false := by
       cases hVj : V j with
       | false => rfl
       | true =>
         have h1 := hV j hVj hjun
         have hcl' := ji hcl hj
         have hjs : (L.setIfInBounds j true).getD j true = true := by
           rcases Nat.lt_or_ge j L.size with h' | h'
           · simp [h']
           · simp
         have h2 := jU (uL hcl' m j h1 hjs)
         rw [getD_set_ne true hji, (mem_ready.1 hr).1] at h2
         cases h2
     obtain ⟨p1, p2, p3⟩ := Oper.apart_spec (hfree j oj hoj hji hjun hnot)
     rw [execOp_put oj (fun cs b => hsel j oj cs b hoj) a oi.dst v p1, wanted_put oj a oi.dst v p1] at hrun
     have hfree' : ∀ k ok, ops[k]? = some ok → k ≠ i → (L.setIfInBounds j true).getD k true = false →
         (∀ e ∈ ok.after, Region.binds md e = true → e.on ≠ i) → oi.apart ops ok = true := fun k ok hk hki hun hno => by
       refine hfree k ok hk hki ?_ hno
       by_cases hjk : j = k
       · subst hjk; exact hjun
       · rw [getD_set_ne true hjk] at hun; exact hun
     have hV' : ∀ c, V c = true → (L.setIfInBounds j true).getD c true = false → oO md ops m c i = true := fun c hc hun => by
       refine hV c hc ?_
       by_cases hjc : j = c
       · subst hjc; exact hjun
       · rw [getD_set_ne true hjc] at hun; exact hun
     have step : ∀ u w', Below w1.heap.size w1 w' → wpB P md ops V Q n ((L.setIfInBounds i true).setIfInBounds j true) ((a.put oi.dst v).put oj.dst u) w' → wpB P md ops V Q (n + 1) (L.setIfInBounds j true) (a.put oj.dst u) w' := fun u w' hb' h => by
       refine ih (L.setIfInBounds j true) (a.put oj.dst u) w' (ji hcl hj) hV' hfree' (ready_mono hr (Ne.symm hji)) ?_ ?_
       · exact hy.of_same (execOp_put oi (fun cs b => hsel i oi cs b hi) a oj.dst u p3) (wanted_put oi a oj.dst u p3) (ec hb hb')
       · rw [Array.setIfInBounds_comm _ _ hji, Act.put_comm a u v (fun d hd hd' => p2 d hd' hd)]
         exact h
     refine ⟨oj, hoj, ?_⟩
     split
     · rename_i hw
       rw [if_pos hw] at hrun
       exact ct (fun u w' h => ⟨h.1, step u w' (h.1 hVj) h.2⟩) hrun
     · rename_i hw
       rw [if_neg hw] at hrun
       exact ⟨hrun.1, step undef w1 (hrun.1 hVj) hrun.2⟩
end

def cnd (c : Bool) (p : Per) : Per := ⟨fun w S => c = true → p.holds w S, fun h h1 h2 hc => p.mono (h hc) h1 h2⟩
section
variable {P : Program} {n : Fr} {ops : Array Oper}

def wpU (P : Program) (ops : Array Oper) (Q : Exit → Act → World → Prop) : List Oper → Act → World → Prop
 | [], a, w => Q .normal a w
 | o :: rest, a, w => if Region.wanted o (yielded ops a.tmps) then gB P (fun v w' => wpU P ops Q rest (a.put o.dst v) w') ((execOp a.eval o).run P w) else wpU P ops Q rest (a.put o.dst undef) w
theorem fo {ops : Array Oper} {Q Q' : Exit → Act → World → Prop} (hq : ∀ e a w, Q e a w → Q' e a w) : ∀ (l : List Oper) (a : Act) (w : World), wpU P ops Q l a w → wpU P ops Q' l a w
 | [], _, _, h => hq _ _ _ h
 | o :: l, a, w, h => by
   unfold wpU at *
   split
   · rename_i hw
     rw [if_pos hw] at h
     exact ct (fun v w' h => fo hq l _ _ h) h
   · rename_i hw
     rw [if_neg hw] at h
     exact fo hq l _ _ h
theorem aaT {r : Option Nat} {ops : Array Oper} {Q : Exit → Act → World → Prop} (l : List Oper) : ∀ (k : Nat) (a : Act) (w : World), (∀ j, l[j]? = ops[k + j]?) → wpU P ops Q l a w → wpOpsIn (fnc r) 0 P ops Q (List.range' k l.length) a w := by
 induction l with
 | nil => intro k a w _ h; exact h
 | cons o l ih =>
   intro k a w hk h
   have h0 : ops[k]? = some o := by simpa using (hk 0).symm
   have hk' : ∀ j, l[j]? = ops[k + 1 + j]? := fun j => by have := hk (j + 1); simpa [Nat.add_assoc, Nat.add_comm 1 j] using this
   rw [List.length_cons, List.range'_succ, wpOpsIn_cons]
   refine jE ⟨o, h0, ?_⟩
   unfold wpU at h
   split
   · rename_i hw
     rw [if_pos hw] at h
     exact ct (fun v w' h => ih (k + 1) _ _ hk' h) h
   · rename_i hw
     rw [if_neg hw] at h
     exact ih (k + 1) _ _ hk' h
theorem wpIn_region_lit {r : Option Nat} {id : Nat} {l : List Oper} {Q : Exit → Act → World → Prop} {a : Act} {w : World} (h : wpU P l.toArray Q l a w) : (Code.region id l.toArray false).wpIn (fnc r) 0 P Q a w :=
 wpIn_region (by rw [List.range_eq_range', List.size_toArray]; exact aaT l 0 a w (by simp) h)

def guardOf (ops : Array Oper) (env : Env) (o : Oper) : Option Bool :=
 match o.guard with
 | none => some true
 | some (j, want) => match (ops[j]?).bind (·.dst) with
   | none => none
   | some d => match look env d with
     | some (g, .bool b) => some (g && (b == want))
     | _ => none
theorem dO {env : Env} {o : Oper} {c : Bool} {a : Act} (hc : guardOf ops env o = some c) (he : cW a env) : Region.wanted o (yielded ops a.tmps) = c := by
 unfold guardOf at hc
 split at hc
 · rename_i hg; simp only [Option.some.injEq] at hc; subst hc; simp [Region.wanted, hg]
 · rename_i j want hg
   split at hc
   · cases hc
   · rename_i d hd
     split at hc
     · rename_i g b hl
       simp only [Option.some.injEq] at hc
       have h1 := he d g (.bool b) hl
       have hy : yielded ops a.tmps j = if g then some b else none := by
         unfold yielded
         simp only [hd, Option.bind_some]
         rcases Nat.lt_or_ge d a.tmps.size with hlt | hge
         · simp only [Array.getD, hlt, dite_true] at h1
           have h' : a.tmps[d]? = some (bif g then .bool b else undef) := by rw [Array.getElem?_eq_getElem hlt]; exact congrArg some h1
           rw [h']
           cases g <;> simp [undef]
         · have h' : a.tmps[d]? = none := by simp [hge]
           rw [h']
           cases g with
           | true => simp [Array.getD, Nat.not_lt.2 hge, undef] at h1
           | false => rfl
       rw [← hc]
       unfold Region.wanted
       rw [hg]
       simp only [hy]
       cases g <;> cases b <;> cases want <;> rfl
     · cases hc
def setEnv (env : Env) (dst : Option Tmp) (c : Bool) (v : Value) : Env :=
 match dst with
 | some d => (d, c, v) :: env
 | none => env
def fits (n : Nat) (dst : Option Tmp) : Bool :=
 match dst with
 | some d => decide (d < n)
 | none => true
theorem cW.set {a : Act} {env : Env} (h : cW a env) {dst : Option Tmp} (hd : fits a.tmps.size dst = true) (c : Bool) (v : Value) : cW (a.put dst (bif c then v else undef)) (setEnv env dst c v) := by
 cases dst with
 | none => exact h
 | some d => exact h.put (by simpa [fits] using hd) c v
theorem ez (a : Act) (dst : Option Tmp) (v : Value) : (a.put dst v).tmps.size = a.tmps.size := by
 cases dst <;> simp [Act.put]
theorem put_defers (a : Act) (dst : Option Tmp) (v : Value) : (a.put dst v).defers = a.defers := by
 cases dst <;> rfl

def Quiet (P : Program) (n : Fr) (o : Oper) (s : Sta) (v : Value) : Prop :=
 ∀ (w : World) (S : bz) (fp : Nat → bz) (a : Act), St w S fp s.ps s.hp → cW a s.env → a.tmps.size = n.size → mq P v w ((execOp a.eval o).run P w)
def jQ {β : Type} (P : Program) (n : Fr) (o : Oper) (s : Sta) (v : β → Value) (ps : β → List Per) : Prop :=
 ∀ (w : World) (S : bz) (fp : Nat → bz) (a : Act), St w S fp s.ps s.hp → cW a s.env → a.tmps.size = n.size →
   ∃ x, (∀ w1, Below w.heap.size w w1 → mq P (v x) w1 ((execOp a.eval o).run P w1)) ∧ ∀ p ∈ ps x, p.holds w S
def rF {β : Type} (P : Program) (R : World → World → Prop) (n : Fr) (o : Oper) (s : Sta) (v : β → Value) (ps : β → List Per) : Prop :=
 ∀ (w : World) (S : bz) (fp : Nat → bz) (a : Act), St w S fp s.ps s.hp → cW a s.env → a.tmps.size = n.size →
   ∃ x, (∀ w1, R w w1 → mq P (v x) w1 ((execOp a.eval o).run P w1)) ∧ ∀ p ∈ ps x, p.holds w S
def Eff (P : Program) (n : Fr) (o : Oper) (s : Sta) (quiet : Bool) (K : Sta → Prop) : Prop :=
 ∀ (w : World) (S : bz) (fp : Nat → bz) (a : Act), St w S fp s.ps s.hp → cW a s.env → a.tmps.size = n.size →
   gB P (fun u w' => ∃ s' S' fp', K s' ∧ St w' S' fp' s'.ps s'.hp ∧ cW (a.put o.dst u) s'.env ∧ Evo w S (tot fp s.hp.length) w' S' ∧ (∀ b, tot fp' s'.hp.length b → tot fp s.hp.length b ∨ w.heap.size ≤ b) ∧
     (quiet = true → Below w.heap.size w w')) ((execOp a.eval o).run P w)

def aL (P : Program) (n : Fr) (ops : Array Oper) (Q : Exit → Sta → Prop) (l : List Oper) (s : Sta) : Prop :=
 ∀ (w : World) (S : bz) (fp : Nat → bz) (a : Act), St w S fp s.ps s.hp → cW a s.env → a.tmps.size = n.size → a.defers = n.dfr → wpU P ops (e9 Q n w S (tot fp s.hp.length)) l a w
def aB (P : Program) (n : Fr) (ops : Array Oper) (V : List Nat) (Q : Exit → Sta → Prop) (k : Nat) (L : Array Bool) (s : Sta) : Prop :=
 ∀ (w : World) (S : bz) (fp : Nat → bz) (a : Act), St w S fp s.ps s.hp → cW a s.env → a.tmps.size = n.size → a.defers = n.dfr → wpB P .any ops (fun i => V.contains i) (e9 Q n w S (tot fp s.hp.length) .normal) k L a w

variable {Q : Exit → Sta → Prop} {s : Sta} {o : Oper} {rest : List Oper}
theorem cn (h : Q .normal s) : aL P n ops Q [] s := fun w S fp a hst he hn hd => iT hst he hn hd h
theorem qE {β : Type} {v : β → Value} {ps : β → List Per} (c : Bool) (hc : guardOf ops s.env o = some c) (hd : fits n.size o.dst = true) (hq : c = true → jQ P n o s v ps) (hin : c = false → Nonempty β)
   (h : ∀ x, aL P n ops Q rest ⟨setEnv s.env o.dst c (v x), (ps x).map (cnd c) ++ s.ps, s.hp⟩) : aL P n ops Q (o :: rest) s := fun w S fp a hst he hn hdf => by
 have hw := dO hc he
 unfold wpU
 rw [hw]
 cases c with
 | true =>
   rw [if_pos rfl]
   obtain ⟨x, hx, hps⟩ := hq rfl w S fp a hst he hn
   refine ct (fun u w' ⟨hu, hb⟩ => ?_) (hx w (Below.refl _ _))
   subst hu
   have hst' := hst.below hb
   have := h x w' S fp (a.put o.dst (v x)) ⟨fun p hp => ?_, hst'.res, hst'.lt, hst'.dj, hst'.slt⟩ (he.set (c := true) (by rw [hn]; exact hd) (v x)) (by rw [ez]; exact hn) (by rw [put_defers]; exact hdf)
   · exact fo (fun e a' w2 hp => hp.trans (Evo.of_below _ _ hb) (fun _ h => .inl h)) _ _ _ this
   · rcases List.mem_append.1 hp with h1 | h1
     · obtain ⟨p0, h2, rfl⟩ := List.mem_map.1 h1
       exact fun _ => p0.mono (hps p0 h2) (fun b hb' => hb.block b (hst.slt b hb')) (fun _ h => h)
     · exact hst'.per p h1
 | false =>
   rw [if_neg Bool.false_ne_true]
   obtain ⟨x⟩ := hin rfl
   exact h x w S fp (a.put o.dst undef) ⟨fun p hp => (List.mem_append.1 hp).elim (fun h1 => by obtain ⟨p0, h2, rfl⟩ := List.mem_map.1 h1; exact fun h => by cases h) (hst.per p), hst.res, hst.lt, hst.dj, hst.slt⟩ (he.set (c := false) (by rw [hn]; exact hd) (v x)) (by rw [ez]; exact hn) (by rw [put_defers]; exact hdf)
theorem Quiet.toE {v : Value} (h : Quiet P n o s v) : jQ (β := Unit) P n o s (fun _ => v) (fun _ => []) := fun w S fp a hst he hn =>
 ⟨(), fun w1 hb => h w1 S fp a (hst.below hb) he hn, fun _ h => by cases h⟩
theorem pc {v : Value} (c : Bool) (hc : guardOf ops s.env o = some c) (hd : fits n.size o.dst = true) (hq : c = true → Quiet P n o s v)
   (h : aL P n ops Q rest ⟨setEnv s.env o.dst c v, s.ps, s.hp⟩) : aL P n ops Q (o :: rest) s :=
 qE c hc hd (fun hc => (hq hc).toE) (fun _ => ⟨()⟩) (fun _ => h)
theorem an {q : Bool} (hc : guardOf ops s.env o = some true) (h : Eff P n o s q (aL P n ops Q rest)) : aL P n ops Q (o :: rest) s := fun w S fp a hst he hn hdf => by
 have hw := dO hc he
 unfold wpU
 rw [hw, if_pos rfl]
 refine ct (fun u w' ⟨s', S', fp', hK, hst', he', hE, hg, _⟩ => ?_) (h w S fp a hst he hn)
 exact fo (fun e a' w2 hp => hp.trans hE hg) _ _ _ (hK w' S' fp' _ hst' he' (by rw [ez]; exact hn) (by rw [put_defers]; exact hdf))
theorem aj {l : List Oper} {id : Nat} (h : aL P n l.toArray Q l s) : awp P n (.region id l.toArray false) Q s := fun w S fp a hst he hn hd => wpIn_region_lit (h w S fp a hst he hn hd)

theorem bO {V : List Nat} {L : Array Bool} (hr : Region.ready .any ops L = []) (h : Q .normal s) : aB P n ops V Q 0 L s := fun w S fp a hst he hn hd w1 hb =>
 ⟨hr, (iT (hst.below hb) he hn hd h).trans (Evo.of_below _ _ hb) (fun _ h => .inl h)⟩
theorem lE {V : Nat → Bool} {Q Q' : Act → World → Prop} (hq : ∀ a w, Q a w → Q' a w) : ∀ (k : Nat) (L : Array Bool) (a : Act) (w : World), wpB P .any ops V Q k L a w → wpB P .any ops V Q' k L a w
 | 0, _, _, _, h => fun w1 hb => ⟨(h w1 hb).1, hq _ _ (h w1 hb).2⟩
 | k + 1, _, _, _, h => fun w1 hb => ⟨fun h0 => hq _ _ ((h w1 hb).1 h0), fun i hi => uq (fun a w h => ⟨h.1, lE hq k _ _ _ h.2⟩) ((h w1 hb).2 i hi)⟩
def ga (ops : Array Oper) (V : List Nat) (L : Array Bool) (i : Nat) : Bool :=
 Region.noSelect ops && !V.contains i && mY .any ops L && Region.free .any ops L i && (Region.ready .any ops L).contains i &&
   V.all fun c => L.getD c true || oO .any ops 60 c i
theorem qB {β : Type} {V : List Nat} {k : Nat} {L : Array Bool} {v : β → Value} {ps : β → List Per} (i : Nat) (hi : ops[i]? = some o) (hf : ga ops V L i = true) (c : Bool) (hc : guardOf ops s.env o = some c) (hd : fits n.size o.dst = true)
   (hq : c = true → jQ P n o s v ps) (hin : c = false → Nonempty β)
   (h : ∀ x, aB P n ops V Q k (L.setIfInBounds i true) ⟨setEnv s.env o.dst c (v x), (ps x).map (cnd c) ++ s.ps, s.hp⟩) : aB P n ops V Q (k + 1) L s := fun w S fp a hst he hn hdf => by
 simp only [ga, Bool.and_eq_true] at hf
 obtain ⟨⟨⟨⟨⟨f1, f2⟩, f3⟩, f4⟩, f5⟩, f6⟩ := hf
 have hV : ∀ c, (fun i => V.contains i) c = true → L.getD c true = false → oO .any ops 60 c i = true := fun c hVc hL => by
   have := List.all_eq_true.1 f6 c (by simpa using hVc)
   simpa [hL] using this
 have hVi : (fun i => V.contains i) i = false := by simpa using f2
 have hw := dO (ops := ops) hc he
 cases c with
 | true =>
   obtain ⟨x, hx, hps⟩ := hq rfl w S fp a hst he hn
   refine qD hi (Region.noSelect_spec f1) 60 hVi k L a w (j1 f3) hV (Region.free_spec hi f4) (by simpa using f5) (v := v x) (.inl ⟨hw, hx⟩) ?_
   refine h x w S fp (a.put o.dst (v x)) ⟨fun p hp => ?_, hst.res, hst.lt, hst.dj, hst.slt⟩ (he.set (c := true) (by rw [hn]; exact hd) (v x)) (by rw [ez]; exact hn) (by rw [put_defers]; exact hdf)
   rcases List.mem_append.1 hp with h1 | h1
   · obtain ⟨p0, h2, rfl⟩ := List.mem_map.1 h1
     exact fun _ => hps p0 h2
   · exact hst.per p h1
 | false =>
   obtain ⟨x⟩ := hin rfl
   refine qD hi (Region.noSelect_spec f1) 60 hVi k L a w (j1 f3) hV (Region.free_spec hi f4) (by simpa using f5) (v := undef) (.inr ⟨hw, rfl⟩) ?_
   exact h x w S fp (a.put o.dst undef) ⟨fun p hp => (List.mem_append.1 hp).elim (fun h1 => by obtain ⟨p0, h2, rfl⟩ := List.mem_map.1 h1; exact fun h => by cases h) (hst.per p), hst.res, hst.lt, hst.dj, hst.slt⟩ (he.set (c := false) (by rw [hn]; exact hd) (v x)) (by rw [ez]; exact hn) (by rw [put_defers]; exact hdf)
theorem yq {V : List Nat} {k : Nat} {L : Array Bool} {v : Value} (i : Nat) (hi : ops[i]? = some o) (hf : ga ops V L i = true) (c : Bool) (hc : guardOf ops s.env o = some c) (hd : fits n.size o.dst = true)
   (hq : c = true → Quiet P n o s v) (h : aB P n ops V Q k (L.setIfInBounds i true) ⟨setEnv s.env o.dst c v, s.ps, s.hp⟩) : aB P n ops V Q (k + 1) L s :=
 qB i hi hf c hc hd (fun hc => (hq hc).toE) (fun _ => ⟨()⟩) (fun _ => h)
theorem cg {V : List Nat} {k : Nat} {L : Array Bool} {q : Bool} (i : Nat) (hi : ops[i]? = some o) (hr : Region.ready .any ops L = [i]) (hq : (q || V.contains i) = true) (hc : guardOf ops s.env o = some true)
   (h : Eff P n o s q (aB P n ops V Q k (L.setIfInBounds i true))) : aB P n ops V Q (k + 1) L s := fun w S fp a hst he hn hdf w1 hb => by
 refine ⟨fun h0 => (by rw [hr] at h0; cases h0), fun j hj => ?_⟩
 rw [hr] at hj
 obtain rfl := List.mem_singleton.1 hj
 refine ⟨o, hi, ?_⟩
 rw [if_pos (dO (ops := ops) hc he)]
 refine ct (fun u w' ⟨s', S', fp', hK, hst', he', hE, hg, hqb⟩ => ⟨fun hVj => hqb (by have h0 : V.contains j = false := hVj; rw [h0, Bool.or_false] at hq; exact hq), ?_⟩) (h w1 S fp a (hst.below hb) he hn)
 refine lE (fun a2 w2 hp => (hp.trans hE hg).trans (Evo.of_below _ _ hb) (fun _ h => .inl h)) _ _ _ _ (hK w' S' fp' _ hst' he' (by rw [ez]; exact hn) (by rw [put_defers]; exact hdf))
theorem bp {l : List Oper} {id : Nat} (V : List Nat) (hm : P.follows .mixedOrders = true) (h : aB P n l.toArray V Q l.length (Array.replicate l.length false) s) : awp P n (.region id l.toArray true) Q s := fun w S fp a hst he hn hd => by
 refine wpIn_region_any hm ?_
 have hb : Below w.heap.size w w.drew := (Below.refl _ _).drew
 have h1 := h w.drew S fp a (hst.below hb) he hn hd
 have h2 := kO (r := n.ro) (Q' := e9 Q n w S (tot fp s.hp.length)) (fun a' w' hp => e9.trans (Evo.of_below _ _ hb) (fun _ h => .inl h) hp) _ _ _ _ h1
 simpa using h2
end
end Go.Sy

namespace Go.Sy
open Go.RowKit

section
variable {P : Program} {n : Fr} {ops : Array Oper} {Q : Exit → Sta → Prop} {s : Sta}

theorem gy (env : Env) : ∀ (l : List Nat) (t : Nat) (g : Bool) (v : Value), look (wH env l) t = some (g, v) → look env t = some (g, v)
 | [], _, _, _, h => by cases h
 | k :: l, t, g, v, h => by
   unfold wH at h
   rw [List.filterMap_cons] at h
   cases hk : look env k with
   | none => rw [hk] at h; exact gy env l t g v h
   | some x =>
     rw [hk] at h
     simp only [Option.map_some, look] at h
     split at h
     · rename_i hkt
       obtain rfl : k = t := by simpa using hkt
       rw [hk]; exact h
     · exact gy env l t g v h
theorem St.bK {w : World} {S : bz} {fp : Nat → bz} {ps : List Per} {hp : List Res} (h : St w S fp ps hp) (lp lh : List Nat) (ok : okH hp lh = true) :
   St w S (fun k => fp (lh.getD k 0)) (fH ps lp) (bK hp lh) ∧ ∀ b, tot (fun k => fp (lh.getD k 0)) (Sy.bK hp lh).length b → tot fp hp.length b := by
 simp only [okH, Bool.and_eq_true, decide_eq_true_eq] at ok
 have hlt : ∀ k (hk : k < lh.length), lh[k] < hp.length := fun k hk => by simpa using List.all_eq_true.1 ok.1 _ (List.getElem_mem hk)
 have hg : ∀ k, k < lh.length → lh.getD k 0 < hp.length := fun k hk => by simpa [List.getD, hk] using hlt k hk
 have hnd : ∀ i j, i < lh.length → j < lh.length → i ≠ j → lh.getD i 0 ≠ lh.getD j 0 := fun i j hi hj hne he => by
   simp only [List.getD, List.getElem?_eq_getElem hi, List.getElem?_eq_getElem hj, Option.getD_some] at he
   have hp := List.pairwise_iff_getElem.1 ok.2
   rcases Nat.lt_or_gt_of_ne hne with hlt' | hlt'
   · exact hp i j hi hj hlt' he
   · exact hp j i hj hi hlt' he.symm
 refine ⟨⟨fun p hp' => ?_, fun i R hR => ?_, fun i hi b hb => ?_, fun i j hi hj hne b hb => ?_, h.slt⟩, fun b ⟨i, hi, hb⟩ => ⟨lh.getD i 0, hg i (by simpa [Sy.bK] using hi), hb⟩⟩
 · obtain ⟨k, _, hk⟩ := List.mem_filterMap.1 hp'
   exact h.per p (List.mem_reverse.1 (List.mem_of_getElem? hk))
 · unfold Sy.bK at hR
   rw [List.getElem?_map] at hR
   cases hk : lh[i]? with
   | none => rw [hk] at hR; cases hR
   | some k =>
     rw [hk] at hR
     simp only [Option.map_some, Option.some.injEq] at hR
     have hik := (List.getElem?_eq_some_iff.1 hk).1
     have e : lh.getD i 0 = k := by simp [List.getD, hk]
     have hlt' : k < hp.length := by have := hg i hik; rw [e] at this; exact this
     rw [e]
     refine h.res k R ?_
     rw [← hR, List.getElem?_eq_getElem hlt']
     simp [List.getD, hlt']
 · have hi' : i < lh.length := by simpa [Sy.bK] using hi
   exact h.lt _ (hg i hi') b hb
 · have hi' : i < lh.length := by simpa [Sy.bK] using hi
   have hj' : j < lh.length := by simpa [Sy.bK] using hj
   exact h.dj _ _ (hg i hi') (hg j hj') (hnd i j hi' hj' hne) b hb
theorem aan {c : Code} (le lp lh : List Nat) (ok : okH s.hp lh = true) (h : awp P n c Q ⟨wH s.env le, fH s.ps lp, bK s.hp lh⟩) : awp P n c Q s := fun w S fp a hst he hn hd => by
 obtain ⟨h1, h2⟩ := hst.bK lp lh ok
 exact dq (fun e a' w' hp => e9.trans (Evo.refl _ _ _) (fun b hb => .inl (h2 b hb)) hp) (h w S _ a h1 (he.sub (gy _ le)) hn hd)
theorem lq {c : Code} {φ : Prop} (h0 : ∀ w S fp, St w S fp s.ps s.hp → φ) (h : φ → awp P n c Q s) : awp P n c Q s := fun w S fp a hst he hn hd => h (h0 w S fp hst) w S fp a hst he hn hd
theorem e9.keepN {w w' : World} {S X : bz} {a : Act} {K : Sta → Prop} (h : e9 (thn (fun s => ∃ le lp lh, okH s.hp lh = true ∧ K (pk s le lp lh)) Q) n w S X .normal a w') : e9 (thn K Q) n w S X .normal a w' := by
 obtain ⟨s, S', fp', ⟨le, lp, lh, ok, hK⟩, hst, he, hn, hd, hE, hg⟩ := h
 obtain ⟨k1, k2⟩ := hst.bK lp lh ok
 exact ⟨_, S', _, hK, k1, he.sub (gy _ _), hn, hd, hE, fun b hb => hg b (k2 b hb)⟩
theorem aT {X : Type} {c : Code} (le lp lh : List Nat) (I : X → Sta → Prop) (μ : X → Nat) (ok : okH s.hp lh = true) (h0 : ∃ x, I x (pk s le lp lh))
   (round : ∀ x s, I x s → awp P n c (thn (fun s' => ∃ le lp lh, okH s'.hp lh = true ∧ ∃ x', I x' (pk s' le lp lh) ∧ μ x' < μ x) Q) s) : awp P n (.loop c) Q s := by
 obtain ⟨x, h0⟩ := h0
 refine aan le lp lh ok (aae I μ x h0 fun x s hI w S fp a hst he hn hd => ?_)
 exact dq (fun e a' w' hp => by
   cases e with
   | normal => exact e9.keepN hp
   | _ => exact hp) (round x s hI w S fp a hst he hn hd)
end

section
variable {P : Program} {n : Fr} {s : Sta} {d : Option Tmp} {ty : TypeId} {pos : String} {af : Array Edge} {gd : Option (Nat × Bool)} {v : Value}
theorem ck (v : Value) (w : World) : mq P v w (.ok (.value v) w) := ⟨rfl, Below.refl _ _⟩
theorem Quiet.run1 {o : Oper} {x : Operand} {vx : Value} (hx : ev s.env x = some (true, vx)) (h : ∀ (ρ : Operand → Value) (w : World), ρ x = vx → (execOp ρ o).run P w = .ok (.value v) w) : Quiet P n o s v := fun w S fp a hst he hn => by
 rw [h a.eval w (he.val hx rfl)]; exact ck v w
theorem Quiet.run2 {o : Oper} {x y : Operand} {vx vy : Value} (hx : ev s.env x = some (true, vx)) (hy : ev s.env y = some (true, vy)) (h : ∀ (ρ : Operand → Value) (w : World), ρ x = vx → ρ y = vy → (execOp ρ o).run P w = .ok (.value v) w) : Quiet P n o s v := fun w S fp a hst he hn => by
 rw [h a.eval w (he.val hx rfl) (he.val hy rfl)]; exact ck v w
theorem ae {env : Env} {x : Operand} {g : Bool} {v : Value} (h : ev env x = some (g, v)) (hg : g = true) : ev env x = some (true, v) := by rw [h, hg]

theorem aD {x : Operand} (hx : ev s.env x = some (true, v)) : Quiet P n ⟨d, .move x, ty, pos, af, gd⟩ s v := .run1 hx fun ρ w h => by subst h; rfl
theorem cz {x : Operand} (hx : ev s.env x = some (true, v)) : Quiet P n ⟨d, .assign x, ty, pos, af, gd⟩ s v := .run1 hx fun ρ w h => by subst h; rfl
theorem bJ {c x : Operand} {b1 b2 gx : Bool} (hc : ev s.env c = some (true, .bool b1)) (hx : ev s.env x = some (gx, .bool b2)) (hg : b1 = true → gx = true) :
   Quiet P n ⟨d, .pick c x (.const (.bool false)), ty, pos, af, gd⟩ s (.bool (b1 && b2)) := fun w S fp a hst he hn => by
 have h1 := he.val hc rfl
 have h2 := he.eval hx
 have : (execOp a.eval ⟨d, .pick c x (.const (.bool false)), ty, pos, af, gd⟩).run P w = .ok (.value (if b1 then a.eval x else .bool false)) w := by
   unfold execOp; dsimp only; rw [h1]; cases b1 <;> rfl
 rw [this]
 cases b1 with
 | true => rw [h2, hg rfl]; exact ck _ _
 | false => exact ck _ _
theorem bY {c x : Operand} {b1 b2 gx : Bool} (hc : ev s.env c = some (true, .bool b1)) (hx : ev s.env x = some (gx, .bool b2)) (hg : b1 = false → gx = true) :
   Quiet P n ⟨d, .pick c (.const (.bool true)) x, ty, pos, af, gd⟩ s (.bool (b1 || b2)) := fun w S fp a hst he hn => by
 have h1 := he.val hc rfl
 have h2 := he.eval hx
 have : (execOp a.eval ⟨d, .pick c (.const (.bool true)) x, ty, pos, af, gd⟩).run P w = .ok (.value (if b1 then .bool true else a.eval x)) w := by
   unfold execOp; dsimp only; rw [h1]; cases b1 <;> rfl
 rw [this]
 cases b1 with
 | true => exact ck _ _
 | false => rw [if_neg Bool.false_ne_true, h2, hg rfl]; exact ck _ _
section
variable {x y : Operand} {k : IntKind} {a b : Int} {t t' : TypeId}
theorem p9 (hx : ev s.env x = some (true, .int k a)) (hy : ev s.env y = some (true, .int k b)) : Quiet P n ⟨d, .binOp .add t x y t', ty, pos, af, gd⟩ s (.int k (k.wrap (a + b))) :=
 .run2 hx hy fun ρ w h1 h2 => by unfold execOp; dsimp only; rw [h1, h2]; cases k <;> rfl
theorem lD (hx : ev s.env x = some (true, .int k a)) (hy : ev s.env y = some (true, .int k b)) : Quiet P n ⟨d, .binOp .sub t x y t', ty, pos, af, gd⟩ s (.int k (k.wrap (a - b))) :=
 .run2 hx hy fun ρ w h1 h2 => by unfold execOp; dsimp only; rw [h1, h2]; cases k <;> rfl
theorem wt (hx : ev s.env x = some (true, .int k a)) (hy : ev s.env y = some (true, .int k b)) : Quiet P n ⟨d, .binOp .mul t x y t', ty, pos, af, gd⟩ s (.int k (k.wrap (a * b))) :=
 .run2 hx hy fun ρ w h1 h2 => by unfold execOp; dsimp only; rw [h1, h2]; cases k <;> rfl
theorem i64_in {n : Int} (h : -9223372036854775808 ≤ n ∧ n ≤ 9223372036854775807) : IntKind.i64.wrap n = n := by rw [IntKind.wrap_i64]; omega
theorem bd (hx : ev s.env x = some (true, .int .i64 a)) (hy : ev s.env y = some (true, .int .i64 b)) (h : -9223372036854775808 ≤ a + b ∧ a + b ≤ 9223372036854775807) : Quiet P n ⟨d, .binOp .add t x y t', ty, pos, af, gd⟩ s (.int .i64 (a + b)) := by
 have := p9 (P := P) (n := n) (d := d) (ty := ty) (pos := pos) (af := af) (gd := gd) (t := t) (t' := t') hx hy; rw [i64_in h] at this; exact this
theorem ei (hx : ev s.env x = some (true, .int .i64 a)) (hy : ev s.env y = some (true, .int .i64 b)) (h : -9223372036854775808 ≤ a - b ∧ a - b ≤ 9223372036854775807) : Quiet P n ⟨d, .binOp .sub t x y t', ty, pos, af, gd⟩ s (.int .i64 (a - b)) := by
 have := lD (P := P) (n := n) (d := d) (ty := ty) (pos := pos) (af := af) (gd := gd) (t := t) (t' := t') hx hy; rw [i64_in h] at this; exact this
theorem mo (hx : ev s.env x = some (true, .int .i64 a)) (hy : ev s.env y = some (true, .int .i64 b)) (h : -9223372036854775808 ≤ a * b ∧ a * b ≤ 9223372036854775807) : Quiet P n ⟨d, .binOp .mul t x y t', ty, pos, af, gd⟩ s (.int .i64 (a * b)) := by
 have := wt (P := P) (n := n) (d := d) (ty := ty) (pos := pos) (af := af) (gd := gd) (t := t) (t' := t') hx hy; rw [i64_in h] at this; exact this
theorem bw (hx : ev s.env x = some (true, .int k a)) (hy : ev s.env y = some (true, .int k b)) : Quiet P n ⟨d, .binOp .lss t x y t', ty, pos, af, gd⟩ s (.bool (decide (a < b))) :=
 .run2 hx hy fun ρ w h1 h2 => by unfold execOp; dsimp only; rw [h1, h2]; cases k <;> rfl
theorem jt (hx : ev s.env x = some (true, .int k a)) (hy : ev s.env y = some (true, .int k b)) : Quiet P n ⟨d, .binOp .leq t x y t', ty, pos, af, gd⟩ s (.bool (decide (a ≤ b))) :=
 .run2 hx hy fun ρ w h1 h2 => by unfold execOp; dsimp only; rw [h1, h2]; cases k <;> rfl
theorem cN (hx : ev s.env x = some (true, .int k a)) (hy : ev s.env y = some (true, .int k b)) : Quiet P n ⟨d, .binOp .gtr t x y t', ty, pos, af, gd⟩ s (.bool (decide (b < a))) :=
 .run2 hx hy fun ρ w h1 h2 => by unfold execOp; dsimp only; rw [h1, h2]; cases k <;> rfl
theorem eu (hx : ev s.env x = some (true, .int k a)) (hy : ev s.env y = some (true, .int k b)) : Quiet P n ⟨d, .binOp .geq t x y t', ty, pos, af, gd⟩ s (.bool (decide (b ≤ a))) :=
 .run2 hx hy fun ρ w h1 h2 => by unfold execOp; dsimp only; rw [h1, h2]; cases k <;> rfl
theorem bx (hx : ev s.env x = some (true, .int k a)) (hy : ev s.env y = some (true, .int k b)) : Quiet P n ⟨d, .binOp .eql t x y t', ty, pos, af, gd⟩ s (.bool (decide (a = b))) :=
 .run2 hx hy fun ρ w h1 h2 => by unfold execOp; dsimp only; rw [h1, h2]; cases k <;> rfl
theorem dB (hx : ev s.env x = some (true, .int k a)) (hy : ev s.env y = some (true, .int k b)) : Quiet P n ⟨d, .binOp .neq t x y t', ty, pos, af, gd⟩ s (.bool (!decide (a = b))) :=
 .run2 hx hy fun ρ w h1 h2 => by unfold execOp; dsimp only; rw [h1, h2]; cases k <;> rfl
theorem fF (hx : ev s.env x = some (true, .int k a)) (hy : ev s.env y = some (true, .int k b)) (h0 : b ≠ 0) : Quiet P n ⟨d, .binOp .rem t x y t', ty, pos, af, gd⟩ s (.int k (a.tmod b)) :=
 .run2 hx hy fun ρ w h1 h2 => by
   have e : Op.intDiv .rem k a b = pure (.int k (a.tmod b)) := by unfold Op.intDiv; rw [if_neg h0]
   unfold execOp; dsimp only; rw [h1, h2]
   have e2 : (do eqGuard BinOp.rem t x y (Value.int k a) (Value.int k b); binOp BinOp.rem t (Value.int k a) (Value.int k b)) = Op.intDiv .rem k a b := by cases k <;> rfl
   rw [e2, e]; rfl
theorem zO (hx : ev s.env x = some (true, .int k a)) (hy : ev s.env y = some (true, .int k b)) (h0 : b ≠ 0) : Quiet P n ⟨d, .binOp .quo t x y t', ty, pos, af, gd⟩ s (.int k (k.wrap (a.tdiv b))) :=
 .run2 hx hy fun ρ w h1 h2 => by
   have e : Op.intDiv .quo k a b = pure (.int k (k.wrap (a.tdiv b))) := by unfold Op.intDiv; rw [if_neg h0]
   unfold execOp; dsimp only; rw [h1, h2]
   have e2 : (do eqGuard BinOp.quo t x y (Value.int k a) (Value.int k b); binOp BinOp.quo t (Value.int k a) (Value.int k b)) = Op.intDiv .quo k a b := by cases k <;> rfl
   rw [e2, e]; rfl
end
theorem bZ {x : Operand} {t : TypeId} {b : Bool} (hx : ev s.env x = some (true, .bool b)) : Quiet P n ⟨d, .unOp .not t x, ty, pos, af, gd⟩ s (.bool (!b)) := .run1 hx fun ρ w h => by unfold execOp; dsimp only; rw [h]; rfl
theorem bD {x : Operand} {i : Nat} {vs : Array Value} (hx : ev s.env x = some (true, .tuple vs)) (hi : vs[i]? = some v) : Quiet P n ⟨d, .extract x i, ty, pos, af, gd⟩ s v := .run1 hx fun ρ w h => by
 unfold execOp; dsimp only; rw [h]; unfold Instr.extract; dsimp only; rw [hi]; rfl
theorem ve {fn : Fn} {l : List Operand} {vs : List Value} (hx : ∀ a : Act, cW a s.env → l.map a.eval = vs) :
   Quiet P n ⟨d, .makeFunc fn #[] l.toArray, ty, pos, af, gd⟩ s (.func fn #[] vs.toArray) := fun w S fp a hst he hn => by
 have : (execOp a.eval ⟨d, .makeFunc fn #[] l.toArray, ty, pos, af, gd⟩).run P w = .ok (.value (.func fn #[] (l.toArray.map a.eval))) w := by
   show Result.ok (Next.value (.func fn ((#[] : Array Operand).map a.eval) (l.toArray.map a.eval))) w = _
   rw [Array.map_empty]
 rw [this, List.map_toArray, hx a he]
 exact ck _ _
theorem aR {x : Operand} {p : Addr} (hx : ev s.env x = some (true, .pointer (some p))) : Quiet P n ⟨d, .nilCheck x, ty, pos, af, gd⟩ s (.pointer (some p)) := .run1 hx fun ρ w h => by
 unfold execOp; dsimp only; rw [h]; rfl
end
end Go.Sy

namespace Go.Lp
open Go.RowKit

def _root_.Go.World.ext (w : World) (objs : Array Obj) (d : Nat) : World := { w with heap := w.heap ++ objs, drawn := d }
section
variable (w : World) (objs : Array Obj) (d : Nat)
@[simp, go_sem] theorem size_ext : (w.ext objs d).heap.size = w.heap.size + objs.size := by simp [World.ext]
theorem nz {k : Nat} (h : k < w.heap.size) : (w.ext objs d).heap[k]? = w.heap[k]? := by
 simp only [World.ext]
 rw [Array.getElem?_append, if_pos h]
@[go_sem] theorem acg {a : Addr} (h : a.block < w.heap.size) : (w.ext objs d).cell? a = w.cell? a := by
 unfold World.cell?; rw [nz w objs d h]
@[go_sem] theorem abx {a : Addr} (h : a.block < w.heap.size) : (w.ext objs d).frozen? a = w.frozen? a := by
 unfold World.frozen?; rw [nz w objs d h]
@[simp, go_sem] theorem drew_ext : (w.ext objs d).drew = w.ext objs (d + 1) := rfl
@[simp, go_sem] theorem ext_ext (objs' : Array Obj) (d' : Nat) : (w.ext objs d).ext objs' d' = w.ext (objs ++ objs') d' := by
 simp [World.ext, Array.append_assoc]
theorem wU : Below w.heap.size w (w.ext objs d) := ⟨rfl, rfl, rfl, by simp, fun _ h => nz w objs d h⟩
end
def zq (objs : Array Obj) (k : Nat) (a : Addr) (v : Value) : Array Obj :=
 objs.modify k fun
   | .cells c elem frozen => .cells (if a.spot.isSome then c else c.setIfInBounds a.off v) elem frozen
   | o => o
theorem nr (w : World) (objs : Array Obj) (d b o : Nat) (s : Option Nat) (v : Value) :
   (w.ext objs d).setCell ⟨b, o, s⟩ v = if b < w.heap.size then (w.setCell ⟨b, o, s⟩ v).ext objs d else w.ext (zq objs (b - w.heap.size) ⟨b, o, s⟩ v) d := by
 by_cases h : b < w.heap.size
 · rw [if_pos h]
   unfold World.setCell World.ext
   simp only [World.mk.injEq, and_true]
   apply Array.ext_getElem?
   intro i
   simp only [Array.getElem?_modify, Array.getElem?_append, Array.size_modify]
   by_cases hi : b = i
   · subst hi; simp [h]
   · simp [hi]
 · rw [if_neg h]
   unfold World.setCell World.ext zq
   simp only [World.mk.injEq, and_true]
   apply Array.ext_getElem?
   intro i
   simp only [Array.getElem?_modify, Array.getElem?_append]
   by_cases hi : b = i
   · subst hi; simp [h]; rfl
   · by_cases hlt : i < w.heap.size
     · simp [hi, hlt]
     · have : ¬ b - w.heap.size = i - w.heap.size := by omega
       simp [hi, hlt, this]
@[go_sem] theorem abm (w : World) (objs : Array Obj) (d : Nat) {a : Addr} (v : Value) (h : a.block < w.heap.size) : (w.ext objs d).setCell a v = (w.setCell a v).ext objs d := by
 obtain ⟨b, o, s⟩ := a
 rw [nr, if_pos h]
@[go_sem] theorem acF {p n a1 : Nat} (h : p < n) : (p < n + a1) = True := eq_true (by omega)
@[go_sem] theorem ac3 {p n a1 : Nat} (h : p < n) : (p ≤ n + a1) = True := eq_true (by omega)
@[go_sem] theorem acX (n a1 a2 : Nat) : (n ≤ n + a1 + a2) = True := eq_true (by omega)
@[go_sem] theorem ac5 {p n a1 a2 : Nat} (h : p < n) : (p < n + a1 + a2) = True := eq_true (by omega)
@[go_sem] theorem acS {p n a1 a2 : Nat} (h : p < n) : (p ≤ n + a1 + a2) = True := eq_true (by omega)
@[go_sem] theorem acQ (n a1 a2 a3 : Nat) : (n ≤ n + a1 + a2 + a3) = True := eq_true (by omega)
@[go_sem] theorem acZ {p n a1 a2 a3 : Nat} (h : p < n) : (p < n + a1 + a2 + a3) = True := eq_true (by omega)
@[go_sem] theorem acJ {p n a1 a2 a3 : Nat} (h : p < n) : (p ≤ n + a1 + a2 + a3) = True := eq_true (by omega)
@[go_sem] theorem acL (n a1 a2 a3 a4 : Nat) : (n ≤ n + a1 + a2 + a3 + a4) = True := eq_true (by omega)
@[go_sem] theorem acW {p n a1 a2 a3 a4 : Nat} (h : p < n) : (p < n + a1 + a2 + a3 + a4) = True := eq_true (by omega)
@[go_sem] theorem acE {p n a1 a2 a3 a4 : Nat} (h : p < n) : (p ≤ n + a1 + a2 + a3 + a4) = True := eq_true (by omega)
@[go_sem] theorem acK (n a1 a2 a3 a4 a5 : Nat) : (n ≤ n + a1 + a2 + a3 + a4 + a5) = True := eq_true (by omega)
@[go_sem] theorem ac8 {p n a1 a2 a3 a4 a5 : Nat} (h : p < n) : (p < n + a1 + a2 + a3 + a4 + a5) = True := eq_true (by omega)
@[go_sem] theorem ac1 {p n a1 a2 a3 a4 a5 : Nat} (h : p < n) : (p ≤ n + a1 + a2 + a3 + a4 + a5) = True := eq_true (by omega)
@[go_sem] theorem acT (n a1 a2 a3 a4 a5 a6 : Nat) : (n ≤ n + a1 + a2 + a3 + a4 + a5 + a6) = True := eq_true (by omega)
@[go_sem] theorem acP {p n a1 a2 a3 a4 a5 a6 : Nat} (h : p < n) : (p < n + a1 + a2 + a3 + a4 + a5 + a6) = True := eq_true (by omega)
@[go_sem] theorem acH {p n a1 a2 a3 a4 a5 a6 : Nat} (h : p < n) : (p ≤ n + a1 + a2 + a3 + a4 + a5 + a6) = True := eq_true (by omega)
@[go_sem] theorem acO (n a1 a2 a3 a4 a5 a6 a7 : Nat) : (n ≤ n + a1 + a2 + a3 + a4 + a5 + a6 + a7) = True := eq_true (by omega)
@[go_sem] theorem acR {p n a1 a2 a3 a4 a5 a6 a7 : Nat} (h : p < n) : (p < n + a1 + a2 + a3 + a4 + a5 + a6 + a7) = True := eq_true (by omega)
@[go_sem] theorem ac6 {p n a1 a2 a3 a4 a5 a6 a7 : Nat} (h : p < n) : (p ≤ n + a1 + a2 + a3 + a4 + a5 + a6 + a7) = True := eq_true (by omega)
@[go_sem] theorem acG (n a1 a2 a3 a4 a5 a6 a7 a8 : Nat) : (n ≤ n + a1 + a2 + a3 + a4 + a5 + a6 + a7 + a8) = True := eq_true (by omega)
@[go_sem] theorem acM {p n a1 a2 a3 a4 a5 a6 a7 a8 : Nat} (h : p < n) : (p < n + a1 + a2 + a3 + a4 + a5 + a6 + a7 + a8) = True := eq_true (by omega)
@[go_sem] theorem acN {p n a1 a2 a3 a4 a5 a6 a7 a8 : Nat} (h : p < n) : (p ≤ n + a1 + a2 + a3 + a4 + a5 + a6 + a7 + a8) = True := eq_true (by omega)
@[go_sem] theorem acI {p n : Nat} (h : p < n) : (p ≤ n) = True := eq_true (by omega)
@[go_sem] theorem ac0 (n a1 : Nat) : (n < n + 1 + a1) = True := eq_true (by omega)
@[go_sem] theorem acY (n a1 a2 : Nat) : (n < n + 1 + a1 + a2) = True := eq_true (by omega)
@[go_sem] theorem acU (n a1 a2 a3 : Nat) : (n < n + 1 + a1 + a2 + a3) = True := eq_true (by omega)
@[go_sem] theorem acV (n a1 a2 a3 a4 : Nat) : (n < n + 1 + a1 + a2 + a3 + a4) = True := eq_true (by omega)
@[go_sem] theorem ac4 (n a1 a2 a3 a4 a5 : Nat) : (n < n + 1 + a1 + a2 + a3 + a4 + a5) = True := eq_true (by omega)
@[go_sem] theorem acD (n a1 a2 a3 a4 a5 a6 : Nat) : (n < n + 1 + a1 + a2 + a3 + a4 + a5 + a6) = True := eq_true (by omega)
theorem i64_in {n : Int} (h : -9223372036854775808 ≤ n) (h' : n ≤ 9223372036854775807) : IntKind.i64.wrap n = n := by rw [IntKind.wrap_i64]; omega
theorem lu {w w' : World} (h : Below w.heap.size w w') : ∃ objs d, w' = w.ext objs d := by
 refine ⟨w'.heap.extract w.heap.size w'.heap.size, w'.drawn, ?_⟩
 obtain ⟨hos, htape, hout, hsize, hblock⟩ := h
 cases w with | mk heap tape drawn os output =>
 cases w' with | mk heap' tape' drawn' os' output' =>
 simp only at hos htape hout hsize hblock
 subst hos htape hout
 simp only [World.ext, World.mk.injEq, and_true]
 apply Array.ext_getElem?
 intro i
 rw [Array.getElem?_append]
 split
 · rename_i hi; exact hblock i hi
 · rename_i hi
   rw [Array.getElem?_extract]
   split
   · congr 1; omega
   · rename_i h2
     rw [Array.getElem?_eq_none]; omega
end Go.Lp

namespace Go.Lp
open Go.RowKit

section
variable {P : Program} {ops : Array Oper} {md : Region.Mode}

@[go_sem] def abJ (P : Program) (D : World → Prop) (v : Value) : Result Next → Prop
 | .ok (.value u) w' => D w' ∧ u = v
 | .ok .skip w' => D w' ∧ v = undef
 | .ok (.enter f args) w' => Calls P f args w' (fun e w'' => e = .returned v ∧ D w'')
 | _ => False

def lk (P : Program) (ops : Array Oper) (C : Array Bool → World → Prop) (i : Nat) (o : Oper) (v : Value) (a : Act) : Prop :=
 (Region.wanted o (yielded ops a.tmps) = true ∧ ∀ L w, L.getD i true = false → C L w → abJ P (C (L.setIfInBounds i true)) v ((execOp a.eval o).run P w)) ∨
 (Region.wanted o (yielded ops a.tmps) = false ∧ v = undef ∧ ∀ L w, L.getD i true = false → C L w → C (L.setIfInBounds i true) w)

variable {C : Array Bool → World → Prop}

theorem lk.of_same {i : Nat} {o : Oper} {v : Value} {a a' : Act} (hy : lk P ops C i o v a) (he : execOp a'.eval o = execOp a.eval o)
   (hw : Region.wanted o (yielded ops a'.tmps) = Region.wanted o (yielded ops a.tmps)) : lk P ops C i o v a' := by
 unfold lk at *
 rw [he, hw]
 exact hy

theorem getD_set_true {L : Array Bool} {k j : Nat} (h : L.getD j true = true ∨ j = k) : (L.setIfInBounds k true).getD j true = true := by
 by_cases hjk : k = j
 · subst hjk
   rcases Nat.lt_or_ge k L.size with h' | h'
   · simp [h']
   · simp
 · rw [getD_set_ne true hjk]; exact h.resolve_right (Ne.symm hjk)

end
end Go.Lp

namespace Go.Lp
open Go.RowKit

def gv (c : Bool) (v : Value) : Value := bif c then v else undef
@[simp, go_sem] theorem gv_true (v : Value) : gv true v = v := rfl
@[simp, go_sem] theorem gv_false (v : Value) : gv false v = undef := rfl
@[simp, go_sem] theorem gv_self_t {g : Bool} (h : g = true) (v : Value) : gv g v = v := by subst h; rfl
section
variable {P : Program} {ops : Array Oper} {s k : Nat} {D : Bool → World → Prop} {U : World → Prop} {Q : Act → Prop} {o : Oper} {rest : List Oper} {a : Act}

end

end Go.Lp

namespace Go.Lp
open Go.RowKit

structure PD where
 b : Bool
 d : Nat
structure PX where
 b : Bool
 o : Array Obj
 d : Nat
structure XD where
 o : Array Obj
 d : Nat
instance : Nonempty PD := ⟨⟨true, 0⟩⟩
instance : Nonempty PX := ⟨⟨true, #[], 0⟩⟩
instance : Nonempty XD := ⟨⟨#[], 0⟩⟩
def wif (b : Bool) (x y : World) : World := bif b then x else y
@[simp, go_sem] theorem wif_true (x y : World) : wif true x y = x := rfl
@[simp, go_sem] theorem wif_false (x y : World) : wif false x y = y := rfl
@[simp, go_sem] theorem wif_cell (b : Bool) (x y : World) (a : Addr) : (wif b x y).cell? a = bif b then x.cell? a else y.cell? a := by cases b <;> rfl
@[simp, go_sem] theorem wif_frozen (b : Bool) (x y : World) (a : Addr) : (wif b x y).frozen? a = bif b then x.frozen? a else y.frozen? a := by cases b <;> rfl
@[simp, go_sem] theorem wif_size (b : Bool) (x y : World) : (wif b x y).heap.size = bif b then x.heap.size else y.heap.size := by cases b <;> rfl
@[go_sem] def Dr (W w' : World) : Prop := ∃ d, w' = W.ext #[] d
@[go_sem] def Ex (W w' : World) : Prop := ∃ x : XD, w' = W.ext x.o x.d

theorem Dr.drew (W : World) : Dr W W.drew := ⟨W.drawn + 1, by unfold World.ext World.drew; rw [Array.append_empty]⟩
theorem Ex.drew (W : World) : Ex W W.drew := ⟨⟨#[], W.drawn + 1⟩, by unfold World.ext World.drew; rw [Array.append_empty]⟩
theorem Ex.refl (W : World) : Ex W W := ⟨⟨#[], W.drawn⟩, by simp [World.ext]⟩
theorem Ex.of_below {W w : World} (h : Below W.heap.size W w) : Ex W w := by obtain ⟨o, d, h⟩ := lu h; exact ⟨⟨o, d⟩, h⟩
theorem Ex.below {W w : World} (h : Ex W w) : Below W.heap.size W w := by obtain ⟨x, rfl⟩ := h; exact wU _ _ _
section
variable {P : Program} {id : Nat} {Q : Exit → Act → World → Prop} {a : Act} {w : World} {l : List Oper}
end

end Go.Lp

namespace Go.Lp
open Go.RowKit

structure Upd (g : Nat) (w w' : World) : Prop where
 os : w'.os = w.os
 tape : w'.tape = w.tape
 output : w'.output = w.output
 size : w.heap.size ≤ w'.heap.size
 block : ∀ k, k < w.heap.size → k ≠ g → w'.heap[k]? = w.heap[k]?
variable {P : Program}

theorem tI (w : World) (g : Nat) (cs : Array Value) (k : Nat) (hk : k ≠ g) : (w.setRow g cs).heap[k]? = w.heap[k]? := by
 simp only [World.setRow, Array.getElem?_modify]
 rw [if_neg (by omega)]
theorem kr (w : World) (g o size n cap : Nat) (cur : List Value) (t : TypeId) (fz : Nat × Nat) (hg : w.heap[g]? = some (.cells cur.toArray t fz)) (h : o + n * size ≤ cur.length) :
   (Builtin.firstCells size n (.slice (some ⟨g, o, none⟩) n cap)).run P w = .ok ((cur.drop o).take (n * size)).toArray w := by
 have hl := run_loadCells_list (P := P) w ⟨g, o, none⟩ ((cur.drop o).take (n * size)) (fun j v hv => by
   rw [List.getElem?_take] at hv
   split at hv
   · rw [List.getElem?_drop] at hv
     unfold World.cell?
     by_cases hj : j = 0
     · subst hj; simp only [Addr.add, if_true, hg]; simpa using hv
     · simp only [Addr.add, if_neg hj, hg]; simpa using hv
   · cases hv)
 have hlen : ((cur.drop o).take (n * size)).length = n * size := by simp; omega
 rw [hlen] at hl
 exact hl
theorem nextslicecap_le (a b : Nat) : Builtin.nextslicecap a b ≤ a + 2 * b + 2048 + b := by
 unfold Builtin.nextslicecap
 split
 · omega
 · split
   · omega
   · have h : ∀ r c, c ≤ a + (a + 768) / 4 → Builtin.growBy a r c ≤ a + (a + 768) / 4 := by
       intro r
       induction r with
       | zero => intro c hc; exact hc
       | succ r ih =>
         intro c hc
         unfold Builtin.growBy
         split
         · exact hc
         · exact ih _ (by omega)
     by_cases hb : b ≤ a + (a + 768) / 4
     · have := h 4 b hb; omega
     · have h1 : Builtin.growBy a 4 b = b := by unfold Builtin.growBy; rw [if_pos (by omega)]
       omega
theorem lt_of_heap {w : World} {b : Nat} {x : Obj} (h : w.heap[b]? = some x) : b < w.heap.size := by
 rcases Nat.lt_or_ge b w.heap.size with h' | h'
 · exact h'
 · rw [Array.getElem?_eq_none h'] at h; cases h

theorem Src.row (w : World) (t e' : TypeId) (hk : P.underlying t = some (.slice e')) (size V o m vc : Nat) (news : List Value) (hl : news.length = m * size) (hV : ∀ j v, news[j]? = some v → w.cell? ⟨V, o + j, none⟩ = some v) (h1 : ∀ v ∈ news, v.oneCell' = true) :
   Src P size t (.slice (some ⟨V, o, none⟩) m vc) m news w :=
 Src.ofSlice w hk ⟨V, o, none⟩ m vc news hl (fun j v hj => by
   have := hV j v hj
   unfold Addr.add; split
   · rename_i h; subst h; exact this
   · exact this) h1

theorem mz (w : World) (t tx ty e : TypeId) (i : TypeInfo) (z : Value) (ht : P.underlying t = some (.slice e)) (hi : P.info? e = some i) (hz : i.zero = some z) (hzs : z.cells.size = i.size)
   (base : Option Addr) (n c k : Nat) (olds : List Value) (hold : (Builtin.firstCells i.size n (.slice base n c)).run P w.drew = .ok olds.toArray w.drew) (hol : olds.length = n * i.size) (x : Value) (news : List Value) (hsrc : Src P i.size tx x k news w)
   (hg : c < n + k) (hn : n + k ≤ 1000000000) (hb : i.bytes ≤ 4096) :
   ∃ C w1, n + k ≤ C ∧ C ≤ maxLen ∧ (Builtin.append_ #[t, tx] ty #[.slice base n c, x]).run P w = .ok (.slice (some ⟨w.heap.size, 0, none⟩) (n + k) C) w1 ∧
     (∃ cur1 : List Value, w1.heap[w.heap.size]? = some (.cells cur1.toArray e (0, 0)) ∧ cur1.length = C * i.size ∧ cur1.take ((n + k) * i.size) = olds ++ news) ∧ w1.heap.size = w.heap.size + 1 ∧ Below w.heap.size w w1 := by
 have hbytes : Builtin.nextslicecap (n + k) c * i.bytes ≤ 281474976710656 := by
   have h1 := nextslicecap_le (n + k) c
   have h2 : Builtin.nextslicecap (n + k) c * i.bytes ≤ 5000000000 * 4096 := Nat.mul_le_mul (by omega) hb
   omega
 have hr := run_append_grow_src (P := P) (w := w) t tx ty e i z ht hi hz base n c olds hold x k news hsrc hg (by omega) hbytes
 have hC := grownCap_ge w (n + k) c e
 have hnl := hsrc.newsLen
 refine ⟨grownCap w (n + k) c e, _, hC, grownCap_le_maxLen w (n + k) c e (by unfold maxLen; omega), hr, ⟨((olds ++ news).toArray ++ Builtin.zeroCells z.cells (grownCap w (n + k) c e - (n + k))).toList, ?_, ?_, ?_⟩, by simp, (Below.refl _ w).drew.alloc (Nat.le_refl _) _⟩
 · show (w.drew.heap.push _)[w.drew.heap.size]? = _
   rw [Array.getElem?_push_size]
 · simp only [Array.toList_append, List.length_append, Array.length_toList, Builtin.zeroCells, Array.size_map, Array.size_range, hzs, hol, hnl]
   rw [← Nat.add_mul, ← Nat.add_mul]
   congr 1; omega
 · rw [Array.toList_append, List.take_append_of_le_length (by simp [hol, hnl, Nat.add_mul])]
   show List.take _ (olds ++ news) = _
   rw [List.take_of_length_le (by simp [hol, hnl, Nat.add_mul])]

theorem tR (w : World) (t tx ty e : TypeId) (i : TypeInfo) (ht : P.underlying t = some (.slice e)) (hi : P.info? e = some i) (B o n c : Nat) (x : Value) (k : Nat) (news : List Value) (hsrc : Src P i.size tx x k news w)
   (hroom : n + k ≤ c) (cur : Array Value) (t' : TypeId) (hB : w.heap[B]? = some (.cells cur t' (0, 0))) (hfit : o + n * i.size + news.length ≤ cur.size) :
   (Builtin.append_ #[t, tx] ty #[.slice (some ⟨B, o, none⟩) n c, x]).run P w = .ok (.slice (some ⟨B, o, none⟩) (n + k) c) (w.setRow B (splice cur.toList (o + n * i.size) news).toArray) := by
 have hst := run_storeCells_at P B (o + n * i.size) t' news 0 cur w hB (by simpa using hfit) hsrc.one
 rcases hsrc.kind with ⟨e', hk⟩ | hk <;> simp [Builtin.append_, run_underlying ht, run_underlying hk, sizeOf, typeInfo, hi, hsrc.len, hroom, hsrc.cells, Addr.add_lit, hst, splice]
end Go.Lp

namespace Go.Sy
open Go.RowKit Go.Lp

def abZ : TypeDesc → Bool
 | .struct _ | .array _ _ => true
 | _ => false
def tyk (P : Program) (T : TypeId) : Option (Bool × Nat) := (P.underlying T).bind fun d => (P.info? T).map fun i => (abZ d, i.size)
theorem gT {P : Program} {T : TypeId} {ag : Bool} {k : Nat} (h : tyk P T = some (ag, k)) : ∃ d i, P.underlying T = some d ∧ P.info? T = some i ∧ abZ d = ag ∧ i.size = k := by
 unfold tyk at h
 cases hd : P.underlying T with
 | none => rw [hd] at h; cases h
 | some d =>
   cases hi : P.info? T with
   | none => rw [hd, hi] at h; cases h
   | some i =>
     rw [hd, hi] at h
     simp only [Option.bind_some, Option.map_some, Option.some.injEq, Prod.mk.injEq] at h
     exact ⟨d, i, rfl, rfl, h.1, h.2⟩
section
variable {P : Program}
theorem dm {w : World} {T : TypeId} {i : TypeInfo} (hi : P.info? T = some i) : (sizeOf T).run P w = .ok i.size w := by
 simp [sizeOf, typeInfo, hi]
theorem oK {w : World} {T : TypeId} {d : TypeDesc} (hd : P.underlying T = some d) : (isAgg T).run P w = .ok (abZ d) w := by
 simp only [isAgg, underlying, program, Sem.run_bind, Sem.run, hd, Result.andThen]
 cases d <;> rfl
theorem iA {w : World} {T : TypeId} {ag : Bool} {k : Nat} (h : tyk P T = some (ag, k)) (b o : Nat) (f : Nat → Value) (hc : ∀ j, j < (if ag then k else 1) → w.cell? ⟨b, o + j, none⟩ = some (f j)) :
   (loadVar T ⟨b, o, none⟩).run P w = .ok (if ag then .agg ((List.range k).map f).toArray else f 0) w := by
 obtain ⟨d, i, hd, hi, ha, hs⟩ := gT h
 have hadd : ∀ j, (Addr.mk b o none).add j = ⟨b, o + j, none⟩ := fun j => by
   unfold Addr.add; split
   · rename_i h; subst h; rfl
   · rfl
 simp only [loadVar, Sem.run_bind, oK hd, Result.andThen]
 rw [ha]
 cases ag with
 | true =>
   simp only [if_true, Sem.run_bind, dm hi, Result.andThen]
   rw [hs, run_loadCells w ⟨b, o, none⟩ k f (fun j hj => by rw [hadd]; exact hc j (by simpa using hj))]
   rfl
 | false =>
   have h0 := hc 0 (by simp)
   simp only [Bool.false_eq_true, if_false, load, Sem.run]
   rw [show (⟨b, o, none⟩ : Addr) = ⟨b, o + 0, none⟩ from rfl, h0]
def tkL : Nat → List Value → Option (List Value)
 | 0, _ => some []
 | k + 1, c :: cs => match tkL k cs with
   | some l => some (c :: l)
   | none => none
 | _ + 1, [] => none
theorem vK : ∀ (k : Nat) (cs l : List Value), tkL k cs = some l → k ≤ cs.length ∧ l = cs.take k
 | 0, _, l, h => by simp only [tkL, Option.some.injEq] at h; subst h; simp
 | k + 1, c :: cs, l, h => by
   unfold tkL at h
   split at h
   · rename_i l' hl
     simp only [Option.some.injEq] at h
     subst h
     obtain ⟨h1, rfl⟩ := vK k cs l' hl
     exact ⟨by simp; omega, by simp⟩
   · cases h
 | k + 1, [], l, h => by cases h
def rdC (ag : Bool) (k : Nat) (cs : List Value) (o : Nat) : Option Value :=
 match ag with
 | true => match tkL k (cs.drop o) with
   | some l => some (.agg l.toArray)
   | none => none
 | false => cs[o]?
theorem rC {w : World} {T : TypeId} {ag : Bool} {k : Nat} (h : tyk P T = some (ag, k)) {b o : Nat} {cs : List Value} {v : Value} (hv : rdC ag k cs o = some v) {p : Nat} (hc : ∀ j u, cs[j]? = some u → w.cell? ⟨b, p + j, none⟩ = some u) :
   (loadVar T ⟨b, p + o, none⟩).run P w = .ok v w := by
 unfold rdC at hv
 cases ag with
 | true =>
   simp only at hv
   split at hv
   · rename_i l hl
     obtain ⟨hle, rfl⟩ := vK _ _ _ hl
     rw [List.length_drop] at hle
     simp only [Option.some.injEq] at hv
     rw [iA h b (p + o) (fun j => cs.getD (o + j) undef) (fun j hj => by
       have : o + j < cs.length := by simp at hj; omega
       rw [Nat.add_assoc]
       exact hc (o + j) _ (by simp [List.getD, this]))]
     rw [← hv]
     simp only [if_true]
     congr 3
     apply List.ext_getElem
     · simp; omega
     · intro j h1 h2
       simp at h1 h2 ⊢
       simp [List.getD, show o + j < cs.length by omega]
   · cases hv
 | false =>
   simp only at hv
   rw [iA h b (p + o) (fun _ => v) (fun j hj => by
     have : j = 0 := by simp at hj; omega
     subst this
     exact hc o v hv)]
   rfl
theorem ef {w : World} {b : Nat} {T : TypeId} {cs : List Value} (h : w.heap[b]? = some (.cells cs.toArray T (0, 0))) (j : Nat) : w.cell? ⟨b, j, none⟩ = cs[j]? := by
 unfold World.cell?
 simp only [h]
 simp
variable {n : Fr} {s : Sta} {d : Option Tmp} {ty : TypeId} {pos : String} {af : Array Edge} {gd : Option (Nat × Bool)} {v : Value}
theorem ah {x : Operand} {U T : TypeId} {ag : Bool} {k b o : Nat} {cs : List Value} (i : Nat) (hk : tyk P U = some (ag, k)) (hx : ev s.env x = some (true, .pointer (some ⟨b, o, none⟩))) (hi : s.hp[i]? = some (Box b T cs)) (hv : rdC ag k cs o = some v) :
   Quiet P n ⟨d, .load U x, ty, pos, af, gd⟩ s v := fun w S fp a hst he hn => by
 have h1 := he.val hx rfl
 have hb := (hst.res i _ hi).1
 have : (execOp a.eval ⟨d, .load U x, ty, pos, af, gd⟩).run P w = .ok (.value v) w := by
   unfold execOp; dsimp only; rw [h1]
   have := rC (w := w) hk hv (b := b) (p := 0) (fun j u hu => by rw [Nat.zero_add, ef hb]; exact hu)
   rw [Nat.zero_add] at this
   show ((loadVar U ⟨b, o, none⟩).bind fun r => Sem.pure (Next.value r)).run P w = _
   rw [Sem.run_bind', this]; rfl
 rw [this]; exact ck _ _
def At (b o : Nat) (row : List D) : Per :=
 ⟨fun w S => S b ∧ ∀ j d, row[j]? = some d → ∃ u, w.cell? ⟨b, o + j, none⟩ = some u ∧ u.oneCell' = true ∧ eU w S u d,
  fun h h1 h2 => ⟨h2 _ h.1, fun j d hj => let ⟨u, hu, ho, hr⟩ := h.2 j d hj; ⟨u, by rw [← hu]; exact World.cell?_of_block (h1 b h.1), ho, hr.mono h1 h2⟩⟩⟩
def tkD : Nat → List D → Option (List Value)
 | 0, _ => some []
 | k + 1, .v x :: cs => match tkD k cs with
   | some l => some (x :: l)
   | none => none
 | _ + 1, _ => none
theorem aah : ∀ (k : Nat) (cs : List D) (l : List Value), tkD k cs = some l → l.length = k ∧ ∀ j, j < k → cs[j]? = some (.v (l.getD j undef))
 | 0, _, l, h => by simp only [tkD, Option.some.injEq] at h; subst h; exact ⟨rfl, fun j hj => by omega⟩
 | k + 1, .v x :: cs, l, h => by
   unfold tkD at h
   split at h
   · rename_i l' hl
     simp only [Option.some.injEq] at h
     subst h
     obtain ⟨h1, h2⟩ := aah k cs l' hl
     refine ⟨by simp [h1], fun j hj => ?_⟩
     cases j with
     | zero => rfl
     | succ j => simpa using h2 j (by omega)
   · cases h
 | k + 1, .sl _ :: _, l, h => by simp [tkD] at h
 | k + 1, [], l, h => by simp [tkD] at h
def rdD (ag : Bool) (k : Nat) (row : List D) (o : Nat) : Option Value :=
 match ag with
 | true => match tkD k (row.drop o) with
   | some l => some (.agg l.toArray)
   | none => none
 | false => match row[o]? with
   | some (.v x) => some x
   | _ => none
theorem bN {w : World} {S : bz} {u x : Value} (h : eU w S u (.v x)) : u = x := by cases h; rfl
theorem nb {w : World} {S : bz} {T : TypeId} {ag : Bool} {k : Nat} (h : tyk P T = some (ag, k)) {b o p : Nat} {row : List D} {v : Value} (hv : rdD ag k row o = some v) (hp : (At b p row).holds w S) :
   (loadVar T ⟨b, p + o, none⟩).run P w = .ok v w := by
 obtain ⟨_, hc⟩ := hp
 unfold rdD at hv
 cases ag with
 | true =>
   simp only at hv
   split at hv
   · rename_i vs hm
     simp only [Option.some.injEq] at hv
     obtain ⟨hl, hg⟩ := aah _ _ _ hm
     rw [iA h b (p + o) (fun j => vs.getD j undef) (fun j hj => by
         have hj' : j < k := by simpa using hj
         have e2 := hg j hj'
         rw [List.getElem?_drop] at e2
         obtain ⟨u, hu, _, hr⟩ := hc _ _ e2
         rw [Nat.add_assoc, hu, bN hr])]
     rw [← hv]
     simp only [if_true]
     congr 3
     apply List.ext_getElem
     · simp [hl]
     · intro j h1 h2
       simp [List.getD, h2]
   · cases hv
 | false =>
   simp only at hv
   split at hv
   · rename_i x hx
     simp only [Option.some.injEq] at hv
     subst hv
     obtain ⟨u, hu, _, hr⟩ := hc _ _ hx
     rw [iA h b (p + o) (fun _ => x) (fun j hj => by
       have : j = 0 := by simp at hj; omega
       subst this
       rw [Nat.add_zero, hu, bN hr])]
     rfl
   · cases hv
def Ent (ps : List Per) (p : Per) : Prop := ∀ w S, (∀ q ∈ ps, q.holds w S) → p.holds w S
theorem Ent.of {ps : List Per} {p : Per} (h : p ∈ ps) : Ent ps p := fun _ _ hq => hq p h
theorem aN {x : Operand} {U : TypeId} {ag : Bool} {k b p o : Nat} {row : List D} (hk : tyk P U = some (ag, k)) (hx : ev s.env x = some (true, .pointer (some ⟨b, p + o, none⟩))) (hi : Ent s.ps (At b p row)) (hv : rdD ag k row o = some v) :
   Quiet P n ⟨d, .load U x, ty, pos, af, gd⟩ s v := fun w S fp a hst he hn => by
 have h1 := he.val hx rfl
 have : (execOp a.eval ⟨d, .load U x, ty, pos, af, gd⟩).run P w = .ok (.value v) w := by
   unfold execOp; dsimp only; rw [h1]
   have := nb (P := P) hk hv (hi w S hst.per)
   show ((loadVar U ⟨b, p + o, none⟩).bind fun r => Sem.pure (Next.value r)).run P w = _
   rw [Sem.run_bind', this]; rfl
 rw [this]; exact ck _ _
theorem aP {x : Operand} {U : TypeId} {ag : Bool} {k b p o : Nat} {row : List D} (hk : tyk P U = some (ag, k)) (hx : ev s.env x = some (true, .pointer (some ⟨b, p + o, none⟩))) {c' : Bool} (hi : cnd c' (At b p row) ∈ s.ps) (hc' : c' = true) (hv : rdD ag k row o = some v) :
   Quiet P n ⟨d, .load U x, ty, pos, af, gd⟩ s v := fun w S fp a hst he hn => by
 have h1 := he.val hx rfl
 have : (execOp a.eval ⟨d, .load U x, ty, pos, af, gd⟩).run P w = .ok (.value v) w := by
   unfold execOp; dsimp only; rw [h1]
   have := nb (P := P) hk hv (hst.per _ hi hc')
   show ((loadVar U ⟨b, p + o, none⟩).bind fun r => Sem.pure (Next.value r)).run P w = _
   rw [Sem.run_bind', this]; rfl
 rw [this]; exact ck _ _
theorem cD {R : World → World → Prop} {x y : Operand} {T E : TypeId} {ag : Bool} {sz i c nn : Nat} {z : Int} {ad : Option Addr} {rows : List (List D)} {row : List D} (hT : P.underlying T = some (.slice E)) (hk : tyk P E = some (ag, sz)) (hx : ev s.env x = some (true, .slice ad nn c)) (hs : Ent s.ps (Sh (.slice ad nn c) (.sl rows)))
   (hy : ev s.env y = some (true, .int .i64 z)) (hr : rows[i]? = some row) (hz : z = (i : Int)) (hl : row.length = sz) :
   rF (β := Nat × Nat) P R n ⟨d, .indexAddr T x y, ty, pos, af, gd⟩ s (fun p => .pointer (some ⟨p.1, p.2, none⟩)) (fun p => [At p.1 p.2 row]) := fun w S fp a hst he hn => by
 have h1 := he.val hx rfl
 subst hz
 have h2 := he.val hy rfl
 obtain ⟨de, ie, _, hie, _, hsz⟩ := gT hk
 have hrep : eU w S (.slice ad nn c) (.sl rows) := hs w S hst.per
 have hilt : i < rows.length := (List.getElem?_eq_some_iff.1 hr).1
 cases hrep with
 | e a c hc => simp at hr
 | sl b o _ sz' _ us hb hn' hc hrl hcell hd =>
   have hsz' : sz' = sz := by rw [← hrl i row hr]; exact hl
   subst hsz'
   refine ⟨(b, o + i * sz'), fun w1 hb1 => ?_, fun p hp => ?_⟩
   · have : (execOp a.eval ⟨d, .indexAddr T x y, ty, pos, af, gd⟩).run P w1 = .ok (.value (.pointer (some ⟨b, o + i * sz', none⟩))) w1 := by
       unfold execOp; dsimp only; rw [h1, h2]
       show ((Instr.indexAt T (.slice (some ⟨b, o, none⟩) rows.length c) (.int .i64 i)).bind fun r => Sem.pure (Next.value r)).run P w1 = _
       have hT' : P.underlying T = some (.slice (P.elem T)) := by rw [hT]; unfold Program.elem; rw [hT]
       have hE : P.elem T = E := by unfold Program.elem; rw [hT]
       rw [Sem.run_bind', run_indexAt_slice _ _ _ _ _ _ _ hT', if_pos (by omega), hE, dm hie, hsz]
       simp only [Result.andThen, Int.toNat_natCast]
       unfold Addr.add
       split
       · rename_i h0; rw [h0]; rfl
       · rfl
     rw [this]; exact ck _ _
   · simp only [List.mem_singleton] at hp
     subst hp
     exact ⟨hb, fun j dj hj => ⟨us i j, by rw [← (hcell i j row dj hr hj).1], (hcell i j row dj hr hj).2, hd i j row dj hr hj⟩⟩
theorem rL {R : World → World → Prop} {x y : Operand} {T E : TypeId} {ag : Bool} {sz i c nn : Nat} {z : Int} {ad : Option Addr} {rows : List (List D)} {row : List D} (hT : P.underlying T = some (.slice E)) (hk : tyk P E = some (ag, sz)) (hx : ev s.env x = some (true, .slice ad nn c)) (hs : Sh (.slice ad nn c) (.sl rows) ∈ s.ps)
   (hy : ev s.env y = some (true, .int .i64 z)) (hr : rows[i]? = some row) (hz : z = (i : Int)) (hl : row.length = sz) :
   rF (β := Nat × Nat) P R n ⟨d, .indexAddr T x y, ty, pos, af, gd⟩ s (fun p => .pointer (some ⟨p.1, p.2, none⟩)) (fun p => [At p.1 p.2 row]) := cD hT hk hx (.of hs) hy hr hz hl
theorem su {x y : Operand} {T E : TypeId} {ag : Bool} {sz i c nn : Nat} {z : Int} {ad : Option Addr} {rows : List (List D)} {row : List D} (hT : P.underlying T = some (.slice E)) (hk : tyk P E = some (ag, sz)) (hx : ev s.env x = some (true, .slice ad nn c)) (hs : Sh (.slice ad nn c) (.sl rows) ∈ s.ps)
   (hy : ev s.env y = some (true, .int .i64 z)) (hr : rows[i]? = some row) (hz : z = (i : Int)) (hl : row.length = sz) :
   jQ (β := Nat × Nat) P n ⟨d, .indexAddr T x y, ty, pos, af, gd⟩ s (fun p => .pointer (some ⟨p.1, p.2, none⟩)) (fun p => [At p.1 p.2 row]) := rL hT hk hx hs hy hr hz hl
theorem av {x y : Operand} {T E : TypeId} {ag : Bool} {sz i c nn : Nat} {z : Int} {ad : Option Addr} {rows : List (List D)} {row : List D} (hT : P.underlying T = some (.slice E)) (hk : tyk P E = some (ag, sz)) (hx : ev s.env x = some (true, .slice ad nn c)) (hs : Ent s.ps (Sh (.slice ad nn c) (.sl rows)))
   (hy : ev s.env y = some (true, .int .i64 z)) (hr : rows[i]? = some row) (hz : z = (i : Int)) (hl : row.length = sz) :
   jQ (β := Nat × Nat) P n ⟨d, .indexAddr T x y, ty, pos, af, gd⟩ s (fun p => .pointer (some ⟨p.1, p.2, none⟩)) (fun p => [At p.1 p.2 row]) := cD hT hk hx hs hy hr hz hl
end
end Go.Sy

