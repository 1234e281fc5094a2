/- A logic of states: values in slots, shared data, owned resources. No condition. -/
import Derived.WalkKit
import Derived.Below
import Derived.Still
import Derived.Deep.Quiet
set_option linter.unusedVariables false
set_option linter.unusedSimpArgs false
set_option maxRecDepth 20000
namespace Go.Sy
open Go.RowKit

/-- a set of blocks -/
abbrev Blks := Nat → Prop

/-- data that many may see and that nobody changes -/
inductive D where
  | v (x : Value)
  | sl (rows : List (List D))

inductive RepD (w : World) (S : Blks) : Value → D → Prop where
  | v (x : Value) : RepD w S x (.v x)
  | e (a : Option Addr) (c : Nat) (hc : c ≤ maxLen) : RepD w S (.slice a 0 c) (.sl [])
  | sl (b o c sz : Nat) (rows : List (List D)) (us : Nat → Nat → Value) (hb : S b) (hn : rows.length ≤ c) (hc : c ≤ maxLen)
      (hr : ∀ (i : Nat) (r : List D), rows[i]? = some r → r.length = sz)
      (hcell : ∀ (i j : Nat) (r : List D) (d : D), rows[i]? = some r → r[j]? = some d → w.cell? ⟨b, o + i * sz + j, none⟩ = some (us i j) ∧ (us i j).oneCell' = true)
      (hd : ∀ (i j : Nat) (r : List D) (d : D), rows[i]? = some r → r[j]? = some d → RepD w S (us i j) d) : RepD w S (.slice (some ⟨b, o, none⟩) rows.length c) (.sl rows)

theorem RepD.mono {w w' : World} {S S' : Blks} {u : Value} {d : D} (h : RepD w S u d) (hw : ∀ b, S b → w'.heap[b]? = w.heap[b]?) (hS : ∀ b, S b → S' b) : RepD w' S' u d := by
  induction h with
  | v x => exact .v x
  | e a c hc => exact .e a c hc
  | sl b o c sz rows us hb hn hc hr hcell hd ih =>
    refine .sl b o c sz rows us (hS b hb) hn hc hr (fun i j r d h1 h2 => ⟨?_, (hcell i j r d h1 h2).2⟩) ih
    rw [← (hcell i j r d h1 h2).1]
    exact World.cell?_of_block (w := w) (w' := w') (hw b hb)

/-- a fact that lasts -/
structure Per where
  holds : World → Blks → Prop
  mono : ∀ {w w' : World} {S S' : Blks}, holds w S → (∀ b, S b → w'.heap[b]? = w.heap[b]?) → (∀ b, S b → S' b) → holds w' S'

/-- what is owned: a fact on the blocks of a footprint -/
structure Res where
  holds : World → Blks → Blks → Prop
  mono : ∀ {w w' : World} {S S' F : Blks}, holds w S F → (∀ b, F b → w'.heap[b]? = w.heap[b]?) → (∀ b, S b → w'.heap[b]? = w.heap[b]?) → (∀ b, S b → S' b) → holds w' S' F

def Sh (u : Value) (d : D) : Per := ⟨fun w S => RepD w S u d, fun h h1 h2 => h.mono h1 h2⟩
/-- a fact of no world -/
def Fa (φ : Prop) : Per := ⟨fun _ _ => φ, fun h _ _ => h⟩

/-- nothing -/
def emp : Res := ⟨fun _ _ F => ∀ b, ¬ F b, fun h _ _ _ => h⟩
/-- a block of just these cells -/
def Box (b : Nat) (T : TypeId) (cs : List Value) : Res :=
  ⟨fun w _ F => w.heap[b]? = some (.cells cs.toArray T (0, 0)) ∧ ∀ k, F k ↔ k = b, fun h h1 _ _ => ⟨(h1 b ((h.2 b).2 rfl)).trans h.1, h.2⟩⟩
/-- the cells that stand for rows of data -/
structure RowsAt (w : World) (S : Blks) (sz : Nat) (cs : List Value) (rows : List (List D)) : Prop where
  len : cs.length = rows.length * sz
  row : ∀ (i : Nat) (r : List D), rows[i]? = some r → r.length = sz
  one : ∀ v ∈ cs, v.oneCell' = true
  rep : ∀ (i j : Nat) (r : List D) (d : D), rows[i]? = some r → r[j]? = some d → ∃ u, cs[i * sz + j]? = some u ∧ RepD w S u d
theorem RowsAt.mono {w w' : World} {S S' : Blks} {sz : Nat} {cs : List Value} {rows : List (List D)} (h : RowsAt w S sz cs rows) (hw : ∀ b, S b → w'.heap[b]? = w.heap[b]?) (hS : ∀ b, S b → S' b) : RowsAt w' S' sz cs rows :=
  ⟨h.len, h.row, h.one, fun i j r d h1 h2 => let ⟨u, hu, hr⟩ := h.rep i j r d h1 h2; ⟨u, hu, hr.mono hw hS⟩⟩
/-- the array of an own slice: its first cells are rows of data, the others are anything -/
def Own (b : Nat) (T : TypeId) (sz cap : Nat) (rows : List (List D)) : Res :=
  ⟨fun w S F => (∃ cs sp : List Value, w.heap[b]? = some (.cells (cs ++ sp).toArray T (0, 0)) ∧ RowsAt w S sz cs rows ∧ (cs ++ sp).length = cap * sz ∧ rows.length ≤ cap ∧ cap ≤ maxLen) ∧ ∀ k, F k ↔ k = b,
   fun h h1 h2 h3 => let ⟨⟨cs, sp, e, hr, hl⟩, hF⟩ := h; ⟨⟨cs, sp, (h1 b ((hF b).2 rfl)).trans e, hr.mono h2 h3, hl⟩, hF⟩⟩

/-- a world and what is known of it -/
structure St (w : World) (S : Blks) (fp : Nat → Blks) (ps : List Per) (hp : List Res) : Prop where
  per : ∀ p ∈ ps, p.holds w S
  res : ∀ (i : Nat) (R : Res), hp[i]? = some R → R.holds w S (fp i)
  lt : ∀ i, i < hp.length → ∀ b, fp i b → b < w.heap.size ∧ ¬ S b
  dj : ∀ i j, i < hp.length → j < hp.length → i ≠ j → ∀ b, fp i b → ¬ fp j b
  slt : ∀ b, S b → b < w.heap.size

theorem St.keep {w w' : World} {S : Blks} {fp : Nat → Blks} {ps : List Per} {hp : List Res} (h : St w S fp ps hp) (hs : w.heap.size ≤ w'.heap.size)
    (hw : ∀ b, b < w.heap.size → w'.heap[b]? = w.heap[b]?) : St w' S fp ps hp where
  per p hp := p.mono (h.per p hp) (fun b hb => hw b (h.slt b hb)) (fun _ h => h)
  res i R hR := R.mono (h.res i R hR) (fun b hb => hw b (h.lt i (List.getElem?_eq_some_iff.1 hR).1 b hb).1) (fun b hb => hw b (h.slt b hb)) (fun _ h => h)
  lt i hi b hb := ⟨Nat.lt_of_lt_of_le (h.lt i hi b hb).1 hs, (h.lt i hi b hb).2⟩
  dj := h.dj
  slt b hb := Nat.lt_of_lt_of_le (h.slt b hb) hs
theorem St.below {w w' : World} {S : Blks} {fp : Nat → Blks} {ps : List Per} {hp : List Res} (h : St w S fp ps hp) (hb : Below w.heap.size w w') : St w' S fp ps hp :=
  h.keep hb.size hb.block

/-- which blocks are owned -/
def tot (fp : Nat → Blks) (n : Nat) : Blks := fun b => ∃ i, i < n ∧ fp i b

/-- from one world to a later one: X is what may have changed -/
structure Evo (w : World) (S X : Blks) (w' : World) (S' : Blks) : Prop where
  os : w'.os = w.os
  tape : w'.tape = w.tape
  output : w'.output = w.output
  size : w.heap.size ≤ w'.heap.size
  block : ∀ b, b < w.heap.size → ¬ X b → w'.heap[b]? = w.heap[b]?
  more : ∀ b, S b → S' b
  new : ∀ b, S' b → S b ∨ X b ∨ w.heap.size ≤ b
theorem Evo.refl (w : World) (S X : Blks) : Evo w S X w S := ⟨rfl, rfl, rfl, Nat.le_refl _, fun _ _ _ => rfl, fun _ h => h, fun _ h => .inl h⟩
theorem Evo.trans {w w1 w2 : World} {S S1 S2 X X1 : Blks} (h : Evo w S X w1 S1) (k : Evo w1 S1 X1 w2 S2) (hX : ∀ b, X1 b → X b ∨ w.heap.size ≤ b) : Evo w S X w2 S2 where
  os := k.os.trans h.os
  tape := k.tape.trans h.tape
  output := k.output.trans h.output
  size := Nat.le_trans h.size k.size
  block b hb hx := (k.block b (Nat.lt_of_lt_of_le hb h.size) fun hx1 => (hX b hx1).elim hx (fun hle => by omega)).trans (h.block b hb hx)
  more b hb := k.more b (h.more b hb)
  new b hb := by
    rcases k.new b hb with h1 | h1 | h1
    · exact h.new b h1
    · exact (hX b h1).elim (fun h => .inr (.inl h)) (fun h => .inr (.inr h))
    · exact .inr (.inr (Nat.le_trans h.size h1))
theorem Evo.of_below {w w' : World} (S X : Blks) (h : Below w.heap.size w w') : Evo w S X w' S := ⟨h.os, h.tape, h.output, h.size, fun b hb _ => h.block b hb, fun _ h => h, fun _ h => .inl h⟩
theorem Evo.wider {w w' : World} {S X X' S' : Blks} (h : Evo w S X w' S') (hX : ∀ b, X b → X' b) : Evo w S X' w' S' :=
  ⟨h.os, h.tape, h.output, h.size, fun b hb hx => h.block b hb fun k => hx (hX b k), h.more, fun b hb => (h.new b hb).imp id (Or.imp (hX b) id)⟩
/-- a world that has changed nothing old -/
theorem Evo.toBelow {w w' : World} {S X S' : Blks} (h : Evo w S X w' S') (hX : ∀ b, b < w.heap.size → ¬ X b) : Below w.heap.size w w' :=
  ⟨h.os, h.tape, h.output, h.size, fun b hb => h.block b hb (hX b hb)⟩

/-- what the slots hold: slot, condition, value -/
abbrev Env := List (Nat × Bool × Value)
def look : Env → Nat → Option (Bool × Value)
  | [], _ => none
  | (t, g, v) :: e, k => if t == k then some (g, v) else look e k
def EnvOk (a : Act) (env : Env) : Prop := ∀ t g v, look env t = some (g, v) → a.tmps.getD t undef = bif g then v else undef
theorem EnvOk.put {a : Act} {env : Env} (h : EnvOk a env) {d : Nat} (hd : d < a.tmps.size) (g : Bool) (v : Value) : EnvOk (a.put (some d) (bif g then v else undef)) ((d, g, v) :: env) := by
  intro t g' v' ht
  unfold look at ht
  simp only [Act.put]
  by_cases hdt : d = t
  · subst hdt
    simp only [beq_self_eq_true, if_true, Option.some.injEq, Prod.mk.injEq] at ht
    obtain ⟨rfl, rfl⟩ := ht
    simp [hd]
  · have : (d == t) = false := by simpa using hdt
    rw [this] at ht
    simp only [Bool.false_eq_true, if_false] at ht
    rw [← h t g' v' ht, Array.getD_eq_getD_getElem?, Array.getD_eq_getD_getElem?, Array.getElem?_setIfInBounds_ne hdt]
theorem EnvOk.sub {a : Act} {env env' : Env} (h : EnvOk a env) (hs : ∀ t g v, look env' t = some (g, v) → look env t = some (g, v)) : EnvOk a env' := fun t g v ht => h t g v (hs t g v ht)
theorem EnvOk.nil (a : Act) : EnvOk a [] := fun _ _ _ h => by cases h
/-- the value of an operand -/
def ev (env : Env) : Operand → Option (Bool × Value)
  | .tmp t => look env t
  | .const v => some (true, v)
  | .global g => some (true, .pointer (some ⟨g, 0, none⟩))
  | .func f => some (true, .func (.func f) #[] #[])
theorem EnvOk.eval {a : Act} {env : Env} (h : EnvOk a env) {x : Operand} {g : Bool} {v : Value} (hx : ev env x = some (g, v)) : a.eval x = bif g then v else undef := by
  cases x with
  | tmp t => exact h t g v hx
  | const c => simp only [ev, Option.some.injEq, Prod.mk.injEq] at hx; obtain ⟨rfl, rfl⟩ := hx; rfl
  | global c => simp only [ev, Option.some.injEq, Prod.mk.injEq] at hx; obtain ⟨rfl, rfl⟩ := hx; rfl
  | func c => simp only [ev, Option.some.injEq, Prod.mk.injEq] at hx; obtain ⟨rfl, rfl⟩ := hx; rfl
theorem EnvOk.val {a : Act} {env : Env} (h : EnvOk a env) {x : Operand} {g : Bool} {v : Value} (hx : ev env x = some (g, v)) (hg : g = true) : a.eval x = v := by
  rw [h.eval hx, hg]; rfl

/-- a state -/
structure Sta where
  env : Env
  ps : List Per
  hp : List Res

def PostA (Q : Exit → Sta → Prop) (n : Nat) (w : World) (S X : Blks) (e : Exit) (a' : Act) (w' : World) : Prop :=
  ∃ s S' fp', Q e s ∧ St w' S' fp' s.ps s.hp ∧ EnvOk a' s.env ∧ a'.tmps.size = n ∧ a'.defers = [] ∧ Evo w S X w' S' ∧ ∀ b, tot fp' s.hp.length b → X b ∨ w.heap.size ≤ b

theorem PostA.trans {Q : Exit → Sta → Prop} {n : Nat} {w w1 : World} {S X S1 X1 : Blks} (hE : Evo w S X w1 S1) (hX : ∀ b, X1 b → X b ∨ w.heap.size ≤ b) {e : Exit} {a : Act} {w2 : World} (h : PostA Q n w1 S1 X1 e a w2) : PostA Q n w S X e a w2 := by
  obtain ⟨s, S', fp', hq, hst, henv, hn, hd, hE', hg⟩ := h
  exact ⟨s, S', fp', hq, hst, henv, hn, hd, hE.trans hE' hX, fun b hb => (hg b hb).elim (hX b) (fun h => .inr (Nat.le_trans hE.size h))⟩
theorem PostA.mono {Q Q' : Exit → Sta → Prop} {n : Nat} {w : World} {S X : Blks} (hq : ∀ e s, Q e s → Q' e s) {e : Exit} {a : Act} {w' : World} (h : PostA Q n w S X e a w') : PostA Q' n w S X e a w' := by
  obtain ⟨s, S', fp', h1, h⟩ := h
  exact ⟨s, S', fp', hq _ _ h1, h⟩

/-- the code leads from the state to what Q says -/
def awp (P : Program) (n : Nat) (c : Code) (Q : Exit → Sta → Prop) (s : Sta) : Prop :=
  ∀ (w : World) (S : Blks) (fp : Nat → Blks) (a : Act), St w S fp s.ps s.hp → EnvOk a s.env → a.tmps.size = n → a.defers = [] →
    c.wp P (PostA Q n w S (tot fp s.hp.length)) a w

section rules
variable {P : Program} {n : Nat} {Q : Exit → Sta → Prop} {s : Sta}

theorem awp_here {w : World} {S : Blks} {fp : Nat → Blks} {a : Act} (hst : St w S fp s.ps s.hp) (he : EnvOk a s.env) (hn : a.tmps.size = n) (hd : a.defers = []) {e : Exit} (h : Q e s) : PostA Q n w S (tot fp s.hp.length) e a w :=
  ⟨s, S, fp, h, hst, he, hn, hd, Evo.refl _ _ _, fun _ h => .inl h⟩
theorem awp_skip (h : Q .normal s) : awp P n .skip Q s := fun w S fp a hst he hn hd => wp_skip (awp_here hst he hn hd h)
theorem awp_ret (h : Q .ret s) : awp P n .ret Q s := fun w S fp a hst he hn hd => wp_ret (awp_here hst he hn hd h)
theorem awp_exit {id : Nat} (h : Q (.exit id) s) : awp P n (.exit id) Q s := fun w S fp a hst he hn hd => wp_exit (awp_here hst he hn hd h)
theorem awp_label {id : Nat} (h : Q .normal s) : awp P n (.label id) Q s := fun w S fp a hst he hn hd => wp_label (awp_here hst he hn hd h)
/-- as Q, but at a normal end K -/
def thn (K : Sta → Prop) (Q : Exit → Sta → Prop) : Exit → Sta → Prop
  | .normal, s => K s
  | e, s => Q e s
theorem awp_seq {x y : Code} (h : awp P n x (thn (awp P n y Q) Q) s) : awp P n (.seq x y) Q s := fun w S fp a hst he hn hd =>
  wp_seq (Code.wp_mono (fun e a' w' hq => by
    cases e with
    | normal =>
      obtain ⟨s1, S1, fp1, h1, hst1, he1, hn1, hd1, hE, hg⟩ := hq
      exact Code.wp_mono (fun e a2 w2 h2 => h2.trans hE hg) (h1 w' S1 fp1 a' hst1 he1 hn1 hd1)
    | _ => exact hq) (h w S fp a hst he hn hd))
theorem awp_cond {c : Operand} {x y : Code} (t : Bool) (hc : ev s.env c = some (true, .bool t)) (h1 : t = true → awp P n x Q s) (h2 : t = false → awp P n y Q s) : awp P n (.cond c x y) Q s := fun w S fp a hst he hn hd =>
  wp_cond_split (t := t) (he.val hc rfl) (fun ht => h1 ht w S fp a hst he hn hd) (fun ht => h2 ht w S fp a hst he hn hd)
/-- as Q, but at the exit of this block K -/
def blk (id : Nat) (Q : Exit → Sta → Prop) : Exit → Sta → Prop
  | .exit id', s => if id' = id then Q .normal s else Q (.exit id') s
  | e, s => Q e s
theorem awp_block {id : Nat} {c : Code} (h : awp P n c (blk id Q) s) : awp P n (.block id c) Q s := fun w S fp a hst he hn hd =>
  wp_block (Code.wp_mono (fun e a' w' hq => by
    obtain ⟨s', S', fp', h1, h⟩ := hq
    cases e with
    | exit id' =>
      unfold Exit.inBlock
      unfold blk at h1
      dsimp only at h1 ⊢
      split
      · rename_i hid; rw [if_pos hid] at h1; exact ⟨s', S', fp', h1, h⟩
      · rename_i hid; rw [if_neg hid] at h1; exact ⟨s', S', fp', h1, h⟩
    | _ => exact ⟨s', S', fp', h1, h⟩) (h w S fp a hst he hn hd))
theorem awp_mono {c : Code} {Q' : Exit → Sta → Prop} (hq : ∀ e s, Q e s → Q' e s) (h : awp P n c Q s) : awp P n c Q' s := fun w S fp a hst he hn hd =>
  Code.wp_mono (fun _ _ _ h => h.mono hq) (h w S fp a hst he hn hd)
/-- the slots of a list -/
def keepE (env : Env) (l : List Nat) : Env := l.filterMap fun t => (look env t).map fun x => (t, x.1, x.2)
/-- facts, counted from the oldest one -/
def keepP (ps : List Per) (l : List Nat) : List Per := l.filterMap (ps.reverse[·]?)
def keepH (hp : List Res) (l : List Nat) : List Res := l.map fun i => hp.getD i emp
def keepS (s : Sta) (le lp lh : List Nat) : Sta := ⟨keepE s.env le, keepP s.ps lp, keepH s.hp lh⟩
def okH (hp : List Res) (l : List Nat) : Bool := l.all (· < hp.length) && decide l.Nodup
/-- a loop: a family of states at its head -/
theorem awp_loop {X : Type} {c : Code} (I : X → Sta → Prop) (μ : X → Nat) (x : X) (h0 : I x s)
    (round : ∀ x s, I x s → awp P n c (thn (fun s' => ∃ x', I x' s' ∧ μ x' < μ x) Q) s) : awp P n (.loop c) Q s := fun w S fp a hst he hn hd => by
  intro b k cs
  have key : ∀ (m : Nat) (x : X) (s1 : Sta) (w1 : World) (S1 : Blks) (fp1 : Nat → Blks) (a1 : Act), μ x = m → I x s1 → St w1 S1 fp1 s1.ps s1.hp → EnvOk a1 s1.env → a1.tmps.size = n → a1.defers = [] →
      ∃ e a' w', PostA Q n w1 S1 (tot fp1 s1.hp.length) e a' w' ∧ Arrives P (lone (b.at a1 (.code c :: .inLoop c :: k)) cs w1) b k cs e a' w' := by
    intro m
    induction m using Nat.strongRecOn with
    | _ m ih =>
      intro x s1 w1 S1 fp1 a1 hm hI hst1 he1 hn1 hd1
      obtain ⟨e, a2, w2, hq, harr⟩ := round x s1 hI w1 S1 fp1 a1 hst1 he1 hn1 hd1 b (.inLoop c :: k) cs
      cases e with
      | normal =>
        obtain ⟨s2, S2, fp2, ⟨x2, hI2, hlt⟩, hst2, he2, hn2, hd2, hE, hg⟩ := hq
        obtain ⟨e3, a3, w3, hq3, harr3⟩ := ih (μ x2) (hm ▸ hlt) x2 s2 w2 S2 fp2 a2 rfl hI2 hst2 he2 hn2 hd2
        exact ⟨e3, a3, w3, hq3.trans hE hg, .of_steps (Steps.trans harr (.one step_inLoop)) harr3⟩
      | exit id => exact ⟨_, a2, w2, hq, .pass (x := .inLoop c) rfl (fun _ _ => .inl (by simp)) harr⟩
      | goto l => exact ⟨_, a2, w2, hq, .pass (x := .inLoop c) rfl (fun _ _ => .inl (by simp)) harr⟩
      | ret => exact ⟨_, a2, w2, hq, .pass (x := .inLoop c) rfl (fun _ _ => .inl (by simp)) harr⟩
      | panic ch => exact ⟨_, a2, w2, hq, .pass (x := .inLoop c) rfl (fun _ _ => .inl (by simp)) harr⟩
      | outgrown => exact ⟨_, a2, w2, hq, .pass (x := .inLoop c) rfl (fun _ _ => .inl (by simp)) harr⟩
  obtain ⟨e, a', w', hq, harr⟩ := key _ x s w S fp a rfl h0 hst he hn hd
  exact ⟨e, a', w', hq, .of_steps (.one step_loop) harr⟩
end rules
/-! short names, for the walks -/
section
variable {α β : Type} {f : α → β} {a b x : α} {l m : List α} {n k : Nat}
theorem nA : (false = true) = False := Bool.false_eq_true
theorem nB : Option.map f none = none := rfl
theorem nC : Option.map f (some a) = some (f a) := rfl
theorem nD : (a :: l).getD 0 x = a := rfl
theorem nE : (a :: l).getD (n + 1) x = l.getD n x := rfl
theorem nF : (a :: l).drop (n + 1) = l.drop n := rfl
theorem nG : l.drop 0 = l := rfl
theorem nH : (a :: l).length = l.length + 1 := rfl
theorem nI : ([] : List α).length = 0 := rfl
theorem nJ : ([] : List α).drop n = [] := by cases n <;> rfl
theorem nK : (a :: l).set (n + 1) b = a :: l.set n b := rfl
theorem nL : (a :: l).set 0 b = b :: l := rfl
theorem nM : (a :: l) ++ m = a :: (l ++ m) := rfl
theorem nN : [] ++ l = l := rfl
theorem nO : l.toArray.setIfInBounds n a = (l.set n a).toArray := List.setIfInBounds_toArray _ _ _
theorem nP {c : Bool} : (c == c) = true := beq_self_eq_true c
theorem nQ {f : α → β} : (a :: l).map f = f a :: l.map f := rfl
theorem nR {f : α → β} : ([] : List α).map f = [] := rfl
end
end Go.Sy
