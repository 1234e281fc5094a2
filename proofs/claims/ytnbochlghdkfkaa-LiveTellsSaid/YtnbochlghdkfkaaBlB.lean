/- A logic of states: new blocks, stores, own slices. No condition. -/
import Derived.Test.YtnbochlghdkfkaaBlA
import Derived.Deep.Cut
import Derived.Deep.CutRange
import Derived.Deep.DeepCutAuto
import Derived.Laws.CopyRow
import Derived.Laws.CopyOwn
import Derived.Deep.AppendSrc
import Derived.Lib.AppendZerosOnto
import Derived.Lib.Overlaps
import Derived.Lib.Hide
import Derived.OwnWalk
set_option linter.unusedVariables false
set_option linter.unusedSimpArgs false
set_option maxRecDepth 20000
namespace Go.Lp
open Go.RowKit

/-- operations that hand back a value and enter no function -/
def plainB (o : Oper) : Bool :=
  match o.op with
  | .move _ | .assign _ | .pick .. | .load .. | .binOp .. | .unOp .. | .convert .. | .fieldAddr .. | .field .. | .indexAddr .. | .index .. | .extract .. | .slice .. | .lookup .. | .makeFunc .. | .build .. | .nilCheck _ => true
  | .call { callee := .builtin .len, .. } | .call { callee := .builtin .max, .. } | .call { callee := .builtin .min, .. } | .call { callee := .builtin .cap, .. } => true
  | _ => false

def Result.noEnter : Result Next → Prop
  | .ok (.enter _ _) _ => False
  | _ => True

theorem noEnter_value {P : Program} (x : Sem Value) (w : World) : Result.noEnter (((do pure (.value (← x))) : Sem Next).run P w) := by
  show Result.noEnter ((x.bind fun v => Sem.pure (.value v)).run P w)
  rw [Sem.run_bind']
  cases x.run P w <;> trivial

theorem noEnter_bind {P : Program} {α : Type} (x : Sem α) (f : α → Sem Next) (w : World) (h : ∀ a w, Result.noEnter ((f a).run P w)) : Result.noEnter ((x >>= f).run P w) := by
  show Result.noEnter ((x.bind f).run P w)
  rw [Sem.run_bind']
  cases x.run P w with
  | ok a w' => exact h a w'
  | halt _ _ => trivial

theorem noEnter_ite {c : Prop} [Decidable c] {x y : Result Next} (hx : Result.noEnter x) (hy : Result.noEnter y) : Result.noEnter (if c then x else y) := by
  split <;> assumption

theorem plain_noEnter {P : Program} {o : Oper} (h : plainB o = true) (ρ : Operand → Value) (w : World) : Result.noEnter ((execOp ρ o).run P w) := by
  obtain ⟨dst, op, type, pos, after, guard⟩ := o
  cases op with
  | call c =>
    obtain ⟨callee, args, ats⟩ := c
    cases callee with
    | builtin b => cases b <;> first | (simp [plainB] at h; done) | exact noEnter_value _ _
    | _ => simp [plainB] at h
  | nilCheck x =>
    unfold execOp
    generalize ρ x = v
    dsimp only
    split
    · simp [runtimePanic, Result.noEnter]
    · simp [runtimePanic, Result.noEnter]
    · simp [runtimePanic, Result.noEnter]
    · split
      · simp [runtimePanic, Result.noEnter]
      · refine noEnter_bind _ _ _ fun p w' => noEnter_bind _ _ _ fun q w'' => ?_
        split
        · exact noEnter_bind _ _ _ fun _ _ => trivial
        · trivial
      · trivial
    · trivial
  | move x => trivial
  | assign x => trivial
  | pick c a b =>
    show Result.noEnter ((Sem.bind (asBool (ρ c)) fun t => Sem.pure (.value (if t then ρ a else ρ b))).run P w)
    rw [Sem.run_bind']
    cases (asBool (ρ c)).run P w <;> trivial
  | _ => first | (simp [plainB] at h; done) | exact noEnter_value _ _

/-- a value that stands only where a guard says yes -/
def gv (c : Bool) (v : Value) : Value := bif c then v else undef
@[simp, go_sem] theorem gv_true (v : Value) : gv true v = v := rfl
@[simp, go_sem] theorem gv_false (v : Value) : gv false v = undef := rfl
@[simp, go_sem] theorem gv_self_t {g : Bool} (h : g = true) (v : Value) : gv g v = v := by subst h; rfl
def phC (s : Nat) (D : Bool → World → Prop) : Array Bool → World → Prop := fun L w => D (L.getD s true) w

def wpT (P : Program) (ops : Array Oper) (s : Nat) (D : Bool → World → Prop) (U : World → Prop) (Q : Act → Prop) (k : Nat) (l : List Oper) (a : Act) : Prop :=
  (∀ b w, D b w → U w) → wpPh P ops (phC s D) Q k l a

section
variable {P : Program} {ops : Array Oper} {s k : Nat} {D : Bool → World → Prop} {U : World → Prop} {Q : Act → Prop} {o : Oper} {rest : List Oper} {a : Act}

theorem T_nil (h : Q a) : wpT P ops s D U Q k [] a := fun _ => h

theorem phC_set {L : Array Bool} {w : World} (hks : (k == s) = false) : phC s D (L.setIfInBounds k true) w ↔ phC s D L w := by
  have : k ≠ s := by simpa using hks
  unfold phC
  rw [getD_set_ne true this]

theorem uponPh_of_quietUpon {C : World → Prop} {w : World} {v : Value} {r : Result Next} (h : Oper.quietUpon P C w v r) (hw : C w) : uponPh P C v r := by
  cases r with
  | halt x w' => simp only [Oper.quietUpon] at h
  | ok n w' =>
    cases n with
    | value u => obtain ⟨rfl, rfl⟩ := h; exact ⟨hw, rfl⟩
    | skip => obtain ⟨rfl, rfl⟩ := h; exact ⟨hw, rfl⟩
    | enter f args => obtain ⟨rfl, hc⟩ := h; exact hc
    | _ => simp only [Oper.quietUpon] at h

theorem uponPh_of_plain {w : World} {v : Value} (hp : plainB o = true) (h : o.quietAt P a U w v) {C : World → Prop} (hw : C w) : uponPh P C v ((execOp a.eval o).run P w) := by
  unfold Oper.quietAt at h
  have hn := plain_noEnter (P := P) hp a.eval w
  generalize (execOp a.eval o).run P w = r at *
  cases r with
  | halt x w' => simp only [Oper.quietUpon] at h
  | ok n w' =>
    cases n with
    | value u => obtain ⟨rfl, rfl⟩ := h; exact ⟨hw, rfl⟩
    | skip => obtain ⟨rfl, rfl⟩ := h; exact ⟨hw, rfl⟩
    | enter f args => exact hn.elim
    | _ => simp only [Oper.quietUpon] at h

theorem wanted_none (hg : o.guard = none) (y : Nat → Option Bool) : Region.wanted o y = true := by simp [Region.wanted, hg]

theorem T_quiet (hks : (k == s) = false) (hg : o.guard = none) (hp : plainB o = true)
    (h : ∀ K : Act → Prop, (∀ a, wpT P ops s D U Q (k + 1) rest a → K a) → o.quiet P a U K) : wpT P ops s D U Q k (o :: rest) a := fun hU => by
  obtain ⟨v, h1, h2⟩ := h (fun a => wpPh P ops (phC s D) Q (k + 1) rest a) (fun a h => h hU)
  exact ⟨v, .inl ⟨wanted_none hg _, fun L w _ hC => uponPh_of_plain hp (h1 w (hU _ _ hC)) ((phC_set hks).2 hC)⟩, h2⟩

theorem T_move (hks : (k == s) = false) (hg : o.guard = none) (x : Operand) (ho : o.op = .move x ∨ o.op = .assign x)
    (h : wpT P ops s D U Q (k + 1) rest (a.put o.dst (a.eval x))) : wpT P ops s D U Q k (o :: rest) a := fun hU =>
  ⟨_, .inl ⟨wanted_none hg _, fun L w _ hC => by
    have : (execOp a.eval o).run P w = .ok (.value (a.eval x)) w := by unfold execOp; rcases ho with ho | ho <;> rw [ho] <;> rfl
    rw [this]; exact ⟨(phC_set hks).2 hC, rfl⟩⟩, h hU⟩

theorem T_call {v : Value} (hks : (k == s) = false) (hg : o.guard = none)
    (h1 : ∀ b w, D b w → o.quietAt P a (D b) w v) (h2 : ∀ K : Act → Prop, (∀ a, wpT P ops s D U Q (k + 1) rest a → K a) → K (a.put o.dst v)) : wpT P ops s D U Q k (o :: rest) a := fun hU => by
  refine ⟨v, .inl ⟨wanted_none hg _, fun L w _ hC => ?_⟩, h2 (fun a => wpPh P ops (phC s D) Q (k + 1) rest a) (fun a h => h hU)⟩
  have := uponPh_of_quietUpon (h1 _ w hC) hC
  have e : phC s D (L.setIfInBounds k true) = D (L.getD s true) := by funext w; exact propext (phC_set hks)
  rw [e]; exact this

theorem T_write {v : Value} (hks : (k == s) = true) (hg : o.guard = none)
    (h1 : ∀ w, D false w → uponPh P (D true) v ((execOp a.eval o).run P w)) (h2 : ∀ K : Act → Prop, (∀ a, wpT P ops s D U Q (k + 1) rest a → K a) → K (a.put o.dst v)) : wpT P ops s D U Q k (o :: rest) a := fun hU => by
  refine ⟨v, .inl ⟨wanted_none hg _, fun L w hL hC => ?_⟩, h2 (fun a => wpPh P ops (phC s D) Q (k + 1) rest a) (fun a h => h hU)⟩
  obtain rfl : k = s := by simpa using hks
  have e : phC k D (L.setIfInBounds k true) = D true := by funext w; unfold phC; rw [getD_set_true (.inr rfl)]
  rw [e]
  unfold phC at hC
  rw [hL] at hC
  exact h1 w hC
theorem uponPh_value {D' : World → Prop} {v : Value} {w : World} (h : D' w) : uponPh P D' v (.ok (.value v) w) := ⟨h, rfl⟩

theorem T_store (hks : (k == s) = true) (hg : o.guard = none) (hd : o.dst = none)
    (h1 : ∀ w, D false w → uponPh P (D true) undef ((execOp a.eval o).run P w)) (h2 : wpT P ops s D U Q (k + 1) rest a) : wpT P ops s D U Q k (o :: rest) a := fun hU => by
  refine ⟨undef, .inl ⟨wanted_none hg _, fun L w hL hC => ?_⟩, by rw [hd]; exact h2 hU⟩
  obtain rfl : k = s := by simpa using hks
  have e : phC k D (L.setIfInBounds k true) = D true := by funext w; unfold phC; rw [getD_set_true (.inr rfl)]
  rw [e]
  unfold phC at hC
  rw [hL] at hC
  exact h1 w hC

/-- what a slot holds -/
def slotOf (ops : Array Oper) (a : Act) (j : Nat) : Value := ((ops[j]?).bind (·.dst)).elim undef fun d => a.tmps.getD d undef

theorem yielded_slot {j : Nat} {c g : Bool} (h : slotOf ops a j = gv c (.bool g)) : yielded ops a.tmps j = if c then some g else none := by
  unfold slotOf at h
  unfold yielded
  cases hd : (ops[j]?).bind (·.dst) with
  | none => cases c <;> simp [hd, gv, undef] at h ⊢
  | some d =>
    simp only [hd, Option.elim_some] at h
    simp only [Option.bind_some]
    rcases Nat.lt_or_ge d a.tmps.size with hlt | hge
    · simp only [Array.getD, hlt, dite_true] at h
      have h' : a.tmps[d]? = some (gv c (.bool g)) := by rw [Array.getElem?_eq_getElem hlt]; exact congrArg some h
      rw [h']
      cases c <;> simp [gv, undef]
    · have h' : a.tmps[d]? = none := by simp [hge]
      rw [h']
      cases c with
      | true => simp [Array.getD, Nat.not_lt.2 hge, gv, undef] at h
      | false => rfl

theorem lazy_core {v : Value} {c g want : Bool} {j : Nat} (hks : (k == s) = false) (hg : o.guard = some (j, want)) (hy : yielded ops a.tmps j = if c then some g else none)
    (h1 : c = true → g = want → ∀ L w, L.getD k true = false → phC s D L w → uponPh P (phC s D (L.setIfInBounds k true)) v ((execOp a.eval o).run P w)) :
    YieldsPh P ops (phC s D) k o (gv (c && (g == want)) v) a := by
  by_cases hgw : c = true ∧ g = want
  · obtain ⟨rfl, rfl⟩ := hgw
    refine .inl ⟨by simp [Region.wanted, hg, hy], ?_⟩
    simp only [beq_self_eq_true, Bool.and_self, gv_true]
    exact h1 rfl rfl
  · have e : (c && (g == want)) = false := by
      cases c with
      | false => rfl
      | true => simpa using hgw
    refine .inr ⟨?_, ?_, fun L w _ hC => (phC_set hks).2 hC⟩
    · cases c with
      | false => simp [Region.wanted, hg, hy]
      | true =>
        have : g ≠ want := by simpa using hgw
        simp [Region.wanted, hg, hy, this]
    · rw [e]; rfl

/-- a guard that is not decided: the value stands where it says yes -/
theorem T_lazy {v : Value} {j : Nat} {want g : Bool} (hks : (k == s) = false) (hg : o.guard = some (j, want)) (hy : slotOf ops a j = .bool g) (hp : plainB o = true)
    (h1 : g = want → ∀ w, U w → o.quietAt P a U w v) (h2 : ∀ K : Act → Prop, (∀ a, wpT P ops s D U Q (k + 1) rest a → K a) → K (a.put o.dst (gv (g == want) v))) : wpT P ops s D U Q k (o :: rest) a := fun hU =>
  ⟨_, lazy_core (c := true) hks hg (yielded_slot (c := true) hy) (fun _ hgw L w _ hC => uponPh_of_plain hp (h1 hgw w (hU _ _ hC)) ((phC_set hks).2 hC)),
    h2 (fun a => wpPh P ops (phC s D) Q (k + 1) rest a) (fun a h => h hU)⟩
theorem T_lazy2 {v : Value} {j : Nat} {want c g : Bool} (hks : (k == s) = false) (hg : o.guard = some (j, want)) (hy : slotOf ops a j = gv c (.bool g)) (hp : plainB o = true)
    (h1 : c = true → g = want → ∀ w, U w → o.quietAt P a U w v) (h2 : ∀ K : Act → Prop, (∀ a, wpT P ops s D U Q (k + 1) rest a → K a) → K (a.put o.dst (gv (c && (g == want)) v))) : wpT P ops s D U Q k (o :: rest) a := fun hU =>
  ⟨_, lazy_core hks hg (yielded_slot hy) (fun hc hgw L w _ hC => uponPh_of_plain hp (h1 hc hgw w (hU _ _ hC)) ((phC_set hks).2 hC)),
    h2 (fun a => wpPh P ops (phC s D) Q (k + 1) rest a) (fun a h => h hU)⟩

theorem lazy_call_core {v : Value} {L : Array Bool} {w : World} (hks : (k == s) = false) (h : o.quietAt P a (D (L.getD s true)) w v) (hC : phC s D L w) :
    uponPh P (phC s D (L.setIfInBounds k true)) v ((execOp a.eval o).run P w) := by
  have := uponPh_of_quietUpon h hC
  have e : phC s D (L.setIfInBounds k true) = D (L.getD s true) := by funext w; exact propext (phC_set hks)
  rw [e]; exact this
theorem T_lazy_call {v : Value} {j : Nat} {want g : Bool} (hks : (k == s) = false) (hg : o.guard = some (j, want)) (hy : slotOf ops a j = .bool g)
    (h1 : g = want → ∀ b w, D b w → o.quietAt P a (D b) w v) (h2 : ∀ K : Act → Prop, (∀ a, wpT P ops s D U Q (k + 1) rest a → K a) → K (a.put o.dst (gv (g == want) v))) : wpT P ops s D U Q k (o :: rest) a := fun hU =>
  ⟨_, lazy_core (c := true) hks hg (yielded_slot (c := true) hy) (fun _ hgw L w _ hC => lazy_call_core hks (h1 hgw _ w hC) hC),
    h2 (fun a => wpPh P ops (phC s D) Q (k + 1) rest a) (fun a h => h hU)⟩
theorem T_lazy2_call {v : Value} {j : Nat} {want c g : Bool} (hks : (k == s) = false) (hg : o.guard = some (j, want)) (hy : slotOf ops a j = gv c (.bool g))
    (h1 : c = true → g = want → ∀ b w, D b w → o.quietAt P a (D b) w v) (h2 : ∀ K : Act → Prop, (∀ a, wpT P ops s D U Q (k + 1) rest a → K a) → K (a.put o.dst (gv (c && (g == want)) v))) : wpT P ops s D U Q k (o :: rest) a := fun hU =>
  ⟨_, lazy_core hks hg (yielded_slot hy) (fun hc hgw L w _ hC => lazy_call_core hks (h1 hc hgw _ w hC) hC),
    h2 (fun a => wpPh P ops (phC s D) Q (k + 1) rest a) (fun a h => h hU)⟩

theorem run_pick {c x y : Operand} {b : Bool} (w : World) (ho : o.op = .pick c x y) (hc : a.eval c = .bool b) : (execOp a.eval o).run P w = .ok (.value (if b then a.eval x else a.eval y)) w := by
  unfold execOp; rw [ho]
  dsimp only
  rw [hc]
  cases b <;> rfl

theorem T_pick_and {c x : Operand} {b1 b2 : Bool} (hks : (k == s) = false) (hg : o.guard = none) (ho : o.op = .pick c x (.const (.bool false))) (hc : a.eval c = .bool b1) (hx : a.eval x = gv (b1 == true) (.bool b2))
    (h2 : ∀ K : Act → Prop, (∀ a, wpT P ops s D U Q (k + 1) rest a → K a) → K (a.put o.dst (.bool (b1 && b2)))) : wpT P ops s D U Q k (o :: rest) a := fun hU =>
  ⟨_, .inl ⟨wanted_none hg _, fun L w _ hC => by
    rw [run_pick w ho hc, hx]
    exact ⟨(phC_set hks).2 hC, by cases b1 <;> rfl⟩⟩, h2 (fun a => wpPh P ops (phC s D) Q (k + 1) rest a) (fun a h => h hU)⟩
theorem T_pick_or {c x : Operand} {b1 b2 : Bool} (hks : (k == s) = false) (hg : o.guard = none) (ho : o.op = .pick c (.const (.bool true)) x) (hc : a.eval c = .bool b1) (hx : a.eval x = gv (b1 == false) (.bool b2))
    (h2 : ∀ K : Act → Prop, (∀ a, wpT P ops s D U Q (k + 1) rest a → K a) → K (a.put o.dst (.bool (b1 || b2)))) : wpT P ops s D U Q k (o :: rest) a := fun hU =>
  ⟨_, .inl ⟨wanted_none hg _, fun L w _ hC => by
    rw [run_pick w ho hc, hx]
    exact ⟨(phC_set hks).2 hC, by cases b1 <;> rfl⟩⟩, h2 (fun a => wpPh P ops (phC s D) Q (k + 1) rest a) (fun a h => h hU)⟩
/-- a pick that itself stands behind a guard -/
theorem T_lazy_pick_and {c x : Operand} {b1 b2 want g : Bool} {j : Nat} (hks : (k == s) = false) (hg : o.guard = some (j, want)) (hy : slotOf ops a j = .bool g) (ho : o.op = .pick c x (.const (.bool false)))
    (hc : a.eval c = gv (g == want) (.bool b1)) (hx : a.eval x = gv ((g == want) && (b1 == true)) (.bool b2))
    (h2 : ∀ K : Act → Prop, (∀ a, wpT P ops s D U Q (k + 1) rest a → K a) → K (a.put o.dst (gv (g == want) (.bool (b1 && b2))))) : wpT P ops s D U Q k (o :: rest) a := fun hU =>
  ⟨_, lazy_core (c := true) hks hg (yielded_slot (c := true) hy) (fun _ hgw L w _ hC => by
    subst hgw
    simp only [beq_self_eq_true, gv_true, Bool.true_and] at hc hx
    rw [run_pick w ho hc, hx]
    exact ⟨(phC_set hks).2 hC, by cases b1 <;> rfl⟩), h2 (fun a => wpPh P ops (phC s D) Q (k + 1) rest a) (fun a h => h hU)⟩
theorem T_lazy_pick_or {c x : Operand} {b1 b2 want g : Bool} {j : Nat} (hks : (k == s) = false) (hg : o.guard = some (j, want)) (hy : slotOf ops a j = .bool g) (ho : o.op = .pick c (.const (.bool true)) x)
    (hc : a.eval c = gv (g == want) (.bool b1)) (hx : a.eval x = gv ((g == want) && (b1 == false)) (.bool b2))
    (h2 : ∀ K : Act → Prop, (∀ a, wpT P ops s D U Q (k + 1) rest a → K a) → K (a.put o.dst (gv (g == want) (.bool (b1 || b2))))) : wpT P ops s D U Q k (o :: rest) a := fun hU =>
  ⟨_, lazy_core (c := true) hks hg (yielded_slot (c := true) hy) (fun _ hgw L w _ hC => by
    subst hgw
    simp only [beq_self_eq_true, gv_true, Bool.true_and] at hc hx
    rw [run_pick w ho hc, hx]
    exact ⟨(phC_set hks).2 hC, by cases b1 <;> rfl⟩), h2 (fun a => wpPh P ops (phC s D) Q (k + 1) rest a) (fun a h => h hU)⟩
end

theorem getD_replicate (n s : Nat) : (Array.replicate n false).getD s true = decide (n ≤ s) := by
  by_cases h : s < n
  · simp [h]
  · simp [Nat.not_lt.1 h]

theorem wpList_of_ph {P : Program} {ops : Array Oper} {C : Array Bool → World → Prop} {Q : Act → Prop} {Q' : Exit → Act → World → Prop} (hQ : ∀ a w, (∃ L : Array Bool, (∀ j, L.getD j true = true) ∧ C L w) → Q a → Q' .normal a w) :
    ∀ (l : List Oper) (k : Nat) (L : Array Bool) (a : Act) (w : World), (∀ j, l[j]? = ops[k + j]?) → L.size = ops.size → (∀ j, j < k → L.getD j true = true) → (∀ j, k ≤ j → j < ops.size → L.getD j true = false) → C L w →
      wpPh P ops C Q k l a → wpList P ops Q' l a w
  | [], k, L, a, w, hl, hsz, h1, _, hC, h => hQ a w ⟨L, fun j => by
      have h0 := hl 0
      have hk : ops.size ≤ k := by
        rcases Nat.lt_or_ge k ops.size with h' | h'
        · simp [h'] at h0
        · exact h'
      rcases Nat.lt_or_ge j k with h' | h'
      · exact h1 j h'
      · have : L.size ≤ j := by omega
        simp [this], hC⟩ h
  | o :: l, k, L, a, w, hl, hsz, h1, h2, hC, ⟨v, hy, hK⟩ => by
    have h0 : ops[k]? = some o := by simpa using (hl 0).symm
    have hks : k < ops.size := by
      rcases Nat.lt_or_ge k ops.size with h' | h'
      · exact h'
      · simp [h'] at h0
    have hun : L.getD k true = false := h2 k (Nat.le_refl _) hks
    have hrec := fun w' (hC' : C (L.setIfInBounds k true) w') => wpList_of_ph (Q' := Q') hQ l (k + 1) (L.setIfInBounds k true) (a.put o.dst v) w'
      (fun j => by have := hl (j + 1); simpa [Nat.add_assoc, Nat.add_comm 1 j] using this) (by simp [hsz])
      (fun j hj => getD_set_true (by rcases Nat.lt_succ_iff_lt_or_eq.1 hj with h' | h'; exact .inl (h1 j h'); exact .inr h'))
      (fun j hj hj' => by rw [getD_set_ne true (by omega)]; exact h2 j (by omega) hj') hC' hK
    unfold wpList
    rcases hy with ⟨hw, hy⟩ | ⟨hw, rfl, hy⟩
    · rw [if_pos hw]
      exact .inl (wp_of_uponPh (hy L w hun hC) hrec)
    · rw [if_neg (by rw [hw]; exact Bool.false_ne_true)]
      exact hrec w (hy L w hun hC)

/-- a region in the order of the text, by the same walk -/
theorem wp_region_T0 {P : Program} {id : Nat} {Q : Exit → Act → World → Prop} {a : Act} {w : World} {l : List Oper} (s : Nat) (D : Bool → World → Prop) (U : World → Prop)
    (hU : ∀ b w, D b w → U w) (h0 : D (decide (l.length ≤ s)) w)
    (h : wpT P l.toArray s D U (fun a' => ∀ w', D true w' → Q .normal a' w') 0 l a) : (Code.region id l.toArray false).wp P Q a w := by
  refine wp_region_lit (wpList_of_ph (C := phC s D) (Q := fun a => ∀ w, D true w → Q .normal a w) (fun a w ⟨L, hL, hC⟩ hQ => hQ w (by unfold phC at hC; rwa [hL s] at hC)) l 0 (Array.replicate l.length false) a w (by simp) (by simp) (by simp) (fun j _ hj => ?_) ?_ (h hU))
  · have hj' : j < l.length := by simpa using hj
    simp [hj']
  · unfold phC; rw [getD_replicate]; exact h0

theorem wp_region_T {P : Program} {id : Nat} {Q : Exit → Act → World → Prop} {a : Act} {w : World} {l : List Oper} (s : Nat) (D : Bool → World → Prop) (U : World → Prop)
    (hm : P.follows .mixedOrders = true) (hB : Region.lexB .any l.toArray = true) (hU : ∀ b w, D b w → U w) (h0 : D (decide (l.length ≤ s)) w.drew)
    (h : wpT P l.toArray s D U (fun a' => ∀ w', D true w' → Q .normal a' w') 0 l a) : (Code.region id l.toArray true).wp P Q a w := by
  simp only [Region.lexB, Bool.and_eq_true] at hB
  refine wp_region_any hm (wpAny_of_ph (C := phC s D) (Q := fun L a => (∀ j, L.getD j true = true) ∧ ∀ w, D true w → Q .normal a w) (fun L a w hC hQ => hQ.2 w (by unfold phC at hC; rwa [hQ.1 s] at hC)) _ _ _ _ ?_ ?_)
  · unfold phC; rw [getD_replicate]; simpa using h0
  · have := wpAnyPh_lex (P := P) (md := .any) (ops := l.toArray) (C := phC s D) (Q := fun L a => (∀ j, L.getD j true = true) ∧ ∀ w, D true w → Q .normal a w) hB.1 l 0 (Array.replicate l.toArray.size false) a (by simp)
      (fun j hj => by rw [getD_replicate]; simpa using hj) (by simpa using hB.2) (wpPh_mono (fun a ha L hL => ⟨hL, ha⟩) l 0 a (h hU))
    simpa using this
end Go.Lp
namespace Go.Lp
open Go.RowKit

structure PD where
  b : Bool
  d : Nat
structure PX where
  b : Bool
  o : Array Obj
  d : Nat
structure XD where
  o : Array Obj
  d : Nat
instance : Nonempty PD := ⟨⟨true, 0⟩⟩
instance : Nonempty PX := ⟨⟨true, #[], 0⟩⟩
instance : Nonempty XD := ⟨⟨#[], 0⟩⟩
/-- one world or the other -/
def wif (b : Bool) (x y : World) : World := bif b then x else y
@[simp, go_sem] theorem wif_true (x y : World) : wif true x y = x := rfl
@[simp, go_sem] theorem wif_false (x y : World) : wif false x y = y := rfl
@[simp, go_sem] theorem wif_cell (b : Bool) (x y : World) (a : Addr) : (wif b x y).cell? a = bif b then x.cell? a else y.cell? a := by cases b <;> rfl
@[simp, go_sem] theorem wif_frozen (b : Bool) (x y : World) (a : Addr) : (wif b x y).frozen? a = bif b then x.frozen? a else y.frozen? a := by cases b <;> rfl
@[simp, go_sem] theorem wif_size (b : Bool) (x y : World) : (wif b x y).heap.size = bif b then x.heap.size else y.heap.size := by cases b <;> rfl
/-- some draws later -/
@[go_sem] def Dr (W w' : World) : Prop := ∃ d, w' = W.ext #[] d
/-- some blocks and draws later -/
@[go_sem] def Ex (W w' : World) : Prop := ∃ x : XD, w' = W.ext x.o x.d

theorem Dr.drew (W : World) : Dr W W.drew := ⟨W.drawn + 1, by unfold World.ext World.drew; rw [Array.append_empty]⟩
theorem Ex.drew (W : World) : Ex W W.drew := ⟨⟨#[], W.drawn + 1⟩, by unfold World.ext World.drew; rw [Array.append_empty]⟩
theorem Ex.refl (W : World) : Ex W W := ⟨⟨#[], W.drawn⟩, by simp [World.ext]⟩
theorem Ex.of_below {W w : World} (h : Below W.heap.size W w) : Ex W w := by obtain ⟨o, d, h⟩ := ext_of_below h; exact ⟨⟨o, d⟩, h⟩
theorem Ex.below {W w : World} (h : Ex W w) : Below W.heap.size W w := by obtain ⟨x, rfl⟩ := h; exact below_ext _ _ _
/-- a callee's contract, met in a world of the class -/
theorem Calls.ex {P : Program} {f : FuncId} {args : Array Value} {W : World} {objs : Array Obj} {d : Nat} {v u : Value}
    (h : Calls P f args (W.ext objs d) fun e w' => e = .returned u ∧ Below (W.ext objs d).heap.size (W.ext objs d) w') (hv : u = v) : Calls P f args (W.ext objs d) fun e w'' => e = .returned v ∧ Ex W w'' :=
  h.mono fun _ _ ⟨he, hb⟩ => ⟨hv ▸ he, by obtain ⟨o', d', rfl⟩ := ext_of_below hb; exact ⟨⟨_, _⟩, ext_ext _ _ _ _ _⟩⟩

theorem Calls.ex_same {P : Program} {f : FuncId} {args : Array Value} {W : World} {objs : Array Obj} {d : Nat} {v u : Value}
    (h : Calls P f args (W.ext objs d) fun e w' => e = .returned u ∧ W.ext objs d = w') (hv : u = v) : Calls P f args (W.ext objs d) fun e w'' => e = .returned v ∧ Ex W w'' :=
  h.mono fun _ _ ⟨he, hb⟩ => ⟨hv ▸ he, ⟨⟨objs, d⟩, hb.symm⟩⟩

section
variable {P : Program} {id : Nat} {Q : Exit → Act → World → Prop} {a : Act} {w : World} {l : List Oper}
theorem wp_region_rd (hm : P.follows .mixedOrders = true) (hB : Region.lexB .any l.toArray = true)
    (h : wpT P l.toArray 100000 (fun _ => Dr w) (Dr w) (fun a' => ∀ d, Q .normal a' (w.ext #[] d)) 0 l a) : (Code.region id l.toArray true).wp P Q a w :=
  wp_region_T 100000 (fun _ => Dr w) (Dr w) hm hB (fun _ _ h => h) (Dr.drew w) fun hU => wpPh_mono (fun a' ha w' ⟨d, hd⟩ => hd ▸ ha d) l 0 a (h hU)
theorem wp_region_rd0 (h : wpT P l.toArray 100000 (fun _ w' => w' = w) (fun w' => w' = w) (fun a' => Q .normal a' w) 0 l a) : (Code.region id l.toArray false).wp P Q a w :=
  wp_region_T0 100000 (fun _ w' => w' = w) (fun w' => w' = w) (fun _ _ h => h) rfl fun hU => wpPh_mono (fun a' ha w' hw => hw ▸ ha) l 0 a (h hU)
theorem wp_region_ex (hm : P.follows .mixedOrders = true) (hB : Region.lexB .any l.toArray = true)
    (h : wpT P l.toArray 100000 (fun _ => Ex w) (Ex w) (fun a' => ∀ objs d, Q .normal a' (w.ext objs d)) 0 l a) : (Code.region id l.toArray true).wp P Q a w :=
  wp_region_T 100000 (fun _ => Ex w) (Ex w) hm hB (fun _ _ h => h) (Ex.drew w) fun hU => wpPh_mono (fun a' ha w' ⟨x, hd⟩ => hd ▸ ha x.o x.d) l 0 a (h hU)
theorem wp_region_ex0 (h : wpT P l.toArray 100000 (fun _ => Ex w) (Ex w) (fun a' => ∀ objs d, Q .normal a' (w.ext objs d)) 0 l a) : (Code.region id l.toArray false).wp P Q a w :=
  wp_region_T0 100000 (fun _ => Ex w) (Ex w) (fun _ _ h => h) (Ex.refl w) fun hU => wpPh_mono (fun a' ha w' ⟨x, hd⟩ => hd ▸ ha x.o x.d) l 0 a (h hU)
/-- a store among reads: number s turns W into W1 -/
theorem wp_region_st (s : Nat) (W1 : World) (hs : (decide (l.length ≤ s)) = false) (hm : P.follows .mixedOrders = true) (hB : Region.lexB .any l.toArray = true)
    (h : wpT P l.toArray s (fun b => Dr (wif b W1 w)) (fun w' => ∃ φ : PD, w' = (wif φ.b W1 w).ext #[] φ.d) (fun a' => ∀ d, Q .normal a' (W1.ext #[] d)) 0 l a) : (Code.region id l.toArray true).wp P Q a w :=
  wp_region_T s (fun b => Dr (wif b W1 w)) (fun w' => ∃ φ : PD, w' = (wif φ.b W1 w).ext #[] φ.d) hm hB (fun b w' ⟨d, h⟩ => ⟨⟨b, d⟩, h⟩) (by rw [hs]; exact Dr.drew w)
    fun hU => wpPh_mono (fun a' ha w' ⟨d, hd⟩ => hd ▸ ha d) l 0 a (h hU)
/-- a store among reads and calls -/
theorem wp_region_stx (s : Nat) (W1 : World) (hs : (decide (l.length ≤ s)) = false) (hm : P.follows .mixedOrders = true) (hB : Region.lexB .any l.toArray = true)
    (h : wpT P l.toArray s (fun b => Ex (wif b W1 w)) (fun w' => ∃ φ : PX, w' = (wif φ.b W1 w).ext φ.o φ.d) (fun a' => ∀ objs d, Q .normal a' (W1.ext objs d)) 0 l a) : (Code.region id l.toArray true).wp P Q a w :=
  wp_region_T s (fun b => Ex (wif b W1 w)) (fun w' => ∃ φ : PX, w' = (wif φ.b W1 w).ext φ.o φ.d) hm hB (fun b w' ⟨x, h⟩ => ⟨⟨b, x.o, x.d⟩, h⟩) (by rw [hs]; exact Ex.drew w)
    fun hU => wpPh_mono (fun a' ha w' ⟨x, hd⟩ => hd ▸ ha x.o x.d) l 0 a (h hU)
end

end Go.Lp
namespace Go.Lp
open Go.RowKit

/-- w' is w but for block g, which reads otherwise -/
structure Upd (g : Nat) (w w' : World) : Prop where
  os : w'.os = w.os
  tape : w'.tape = w.tape
  output : w'.output = w.output
  size : w.heap.size ≤ w'.heap.size
  block : ∀ k, k < w.heap.size → k ≠ g → w'.heap[k]? = w.heap[k]?
theorem Upd.refl (g : Nat) (w : World) : Upd g w w := ⟨rfl, rfl, rfl, Nat.le_refl _, fun _ _ _ => rfl⟩
theorem Upd.trans {g : Nat} {a b c : World} (h : Upd g a b) (k : Upd g b c) : Upd g a c :=
  ⟨k.os.trans h.os, k.tape.trans h.tape, k.output.trans h.output, Nat.le_trans h.size k.size, fun i hi hne => (k.block i (Nat.lt_of_lt_of_le hi h.size) hne).trans (h.block i hi hne)⟩
theorem Upd.of_below {g : Nat} {w w' : World} (h : Below w.heap.size w w') : Upd g w w' := ⟨h.os, h.tape, h.output, h.size, fun k hk _ => h.block k hk⟩
theorem Upd.drew {g : Nat} {w w' : World} (h : Upd g w w') : Upd g w w'.drew := ⟨h.os, h.tape, h.output, h.size, h.block⟩
theorem Upd.below {g : Nat} {w w' : World} (h : Upd g w w') (hg : w.heap.size ≤ g) : Below w.heap.size w w' := ⟨h.os, h.tape, h.output, h.size, fun k hk => h.block k hk (by omega)⟩

variable {P : Program}

theorem heap_setRow (w : World) (g : Nat) (cs : Array Value) (k : Nat) (hk : k ≠ g) : (w.setRow g cs).heap[k]? = w.heap[k]? := by
  simp only [World.setRow, Array.getElem?_modify]
  rw [if_neg (by omega)]
theorem Upd.setRow (w : World) (g : Nat) (cs : Array Value) : Upd g w (w.setRow g cs) :=
  ⟨rfl, rfl, rfl, by simp [World.setRow], fun k _ hk => heap_setRow w g cs k hk⟩

/-- 'copy' between rows, whatever the element's size -/
theorem run_copy_rows (w : World) (dT sT ty elem : TypeId) (size g o dLen dCap : Nat) (a : Addr) (sLen sCap : Nat) (cur : Array Value) (t : TypeId) (cs : List Value)
    (hu : P.underlying dT = some (.slice elem)) (hs : (P.info? elem).map (·.size) = some size)
    (hg : w.heap[g]? = some (.cells cur t (0, 0))) (hn : cs.length = Nat.min sLen dLen * size)
    (hsrc : ∀ j v, cs[j]? = some v → w.cell? (a.add j) = some v) (hfit : o + cs.length ≤ cur.size) (h1 : ∀ v ∈ cs, v.oneCell' = true) :
    (Builtin.copy_ #[dT, sT] ty #[.slice (some ⟨g, o, none⟩) dLen dCap, .slice (some a) sLen sCap]).run P w =
      .ok (goInt (Nat.min sLen dLen)) (w.setRow g (splice cur.toList o cs).toArray) := by
  have hl := run_loadCells_list (P := P) w a cs hsrc
  have hst := run_storeCells_at P g o t cs 0 cur w hg (by simpa using hfit) h1
  cases hq : P.info? elem with
  | none => simp [hq] at hs
  | some i =>
    have hi : i.size = size := by simpa [hq] using hs
    simp [Builtin.copy_, run_underlying hu, Builtin.lenOf, Builtin.firstCells, sizeOf, typeInfo, hq, hi, ← hn, hl, hst, splice]

theorem run_firstCells_row (w : World) (g o size n cap : Nat) (cur : List Value) (t : TypeId) (fz : Nat × Nat) (hg : w.heap[g]? = some (.cells cur.toArray t fz)) (h : o + n * size ≤ cur.length) :
    (Builtin.firstCells size n (.slice (some ⟨g, o, none⟩) n cap)).run P w = .ok ((cur.drop o).take (n * size)).toArray w := by
  have hl := run_loadCells_list (P := P) w ⟨g, o, none⟩ ((cur.drop o).take (n * size)) (fun j v hv => by
    rw [List.getElem?_take] at hv
    split at hv
    · rw [List.getElem?_drop] at hv
      unfold World.cell?
      by_cases hj : j = 0
      · subst hj; simp only [Addr.add, if_true, hg]; simpa using hv
      · simp only [Addr.add, if_neg hj, hg]; simpa using hv
    · cases hv)
  have hlen : ((cur.drop o).take (n * size)).length = n * size := by simp; omega
  rw [hlen] at hl
  exact hl
theorem nextslicecap_le (a b : Nat) : Builtin.nextslicecap a b ≤ a + 2 * b + 2048 + b := by
  unfold Builtin.nextslicecap
  split
  · omega
  · split
    · omega
    · have h : ∀ r c, c ≤ a + (a + 768) / 4 → Builtin.growBy a r c ≤ a + (a + 768) / 4 := by
        intro r
        induction r with
        | zero => intro c hc; exact hc
        | succ r ih =>
          intro c hc
          unfold Builtin.growBy
          split
          · exact hc
          · exact ih _ (by omega)
      by_cases hb : b ≤ a + (a + 768) / 4
      · have := h 4 b hb; omega
      · have h1 : Builtin.growBy a 4 b = b := by unfold Builtin.growBy; rw [if_pos (by omega)]
        omega
/-- an operation whose run is known -/
theorem wpList_run {w : World} {ops : Array Oper} {rest : List Oper} {o : Oper} {a : Act} {Q : Exit → Act → World → Prop} (hgd : o.guard = none) (v' : Value) (w' : World)
    (hr : (execOp a.eval o).run P w = .ok (.value v') w') (h : ∀ K : Act → World → Prop, (∀ a w, wpList P ops Q rest a w → K a w) → K (a.put o.dst v') w') : wpList P ops Q (o :: rest) a w :=
  wpList_plain hgd fun _ hK => by
    unfold Oper.wp
    rw [hr]
    exact h _ hK

theorem exec_builtin {ρ : Operand → Value} {b : Builtin} {l : List Operand} {ats : Array TypeId} {dst : Option Tmp} {ty : TypeId} {pos : String} {after : Array Edge} {guard : Option (Nat × Bool)} {w w' : World} {v : Value} {s : Sem Value}
    (hr : s.run P w = .ok v w') (hb : builtin b ats ty (l.map fun | .const _ => true | _ => false).toArray (l.map ρ).toArray = (s.bind fun u => Sem.pure (Next.value u))) :
    (execOp ρ { dst, op := .call { callee := .builtin b, args := l.toArray, argTypes := ats }, type := ty, pos, after, guard }).run P w = .ok (.value v) w' := by
  have e : execOp ρ { dst, op := .call { callee := .builtin b, args := l.toArray, argTypes := ats }, type := ty, pos, after, guard } = builtin b ats ty (l.map fun | .const _ => true | _ => false).toArray (l.map ρ).toArray := by
    rw [← List.map_toArray, ← List.map_toArray]; rfl
  rw [e, hb, Sem.run_bind', hr]
  rfl

theorem setRow_ext (w : World) (objs : Array Obj) (d g : Nat) (cs : Array Value) (h : g < w.heap.size) : (w.ext objs d).setRow g cs = (w.setRow g cs).ext objs d := by
  unfold World.setRow World.ext
  simp only [World.mk.injEq, and_true]
  apply Array.ext_getElem?
  intro i
  simp only [Array.getElem?_modify, Array.getElem?_append, Array.size_modify]
  by_cases hi : g = i
  · subst hi; simp [h]
  · simp [hi]
theorem heap_setRow_same (w : World) (g : Nat) (cur cs : Array Value) (t : TypeId) (fz : Nat × Nat) (h : w.heap[g]? = some (.cells cur t fz)) : (w.setRow g cs).heap[g]? = some (.cells cs t fz) := by
  simp only [World.setRow, Array.getElem?_modify, if_true, h, Option.map_some]
theorem size_setRow (w : World) (g : Nat) (cs : Array Value) : (w.setRow g cs).heap.size = w.heap.size := by simp [World.setRow]
theorem cell_of_heap {w : World} {b o : Nat} {c : Array Value} {t : TypeId} {fz : Nat × Nat} (h : w.heap[b]? = some (.cells c t fz)) : w.cell? ⟨b, o, none⟩ = c[o]? := by
  unfold World.cell?; rw [show (⟨b, o, none⟩ : Addr).block = b from rfl, h]; rfl
theorem lt_of_heap {w : World} {b : Nat} {x : Obj} (h : w.heap[b]? = some x) : b < w.heap.size := by
  rcases Nat.lt_or_ge b w.heap.size with h' | h'
  · exact h'
  · rw [Array.getElem?_eq_none h'] at h; cases h

/-- append of zeros that outgrow the row: a new row -/
theorem append_zeros (w : World) (t tn ty e : TypeId) (i : TypeInfo) (z : Value) (kn : IntKind) (ht : P.underlying t = some (.slice e)) (htn : P.underlying tn = some (.int kn)) (hi : P.info? e = some i) (hz : i.zero = some z) (hzs : z.cells.size = i.size)
    (B n c k : Nat) (cur : List Value) (t' : TypeId) (fz : Nat × Nat) (hB : w.heap[B]? = some (.cells cur.toArray t' fz)) (hl : n * i.size ≤ cur.length) (h0 : 0 < k) (hs : 0 < i.size) (hg : c < n + k) (hn : n + k ≤ 1000000) (hb : i.bytes ≤ 4096) :
    ∃ C w1, n + k ≤ C ∧ C ≤ maxLen ∧ (Builtin.append_ #[t, tn] ty #[.slice (some ⟨B, 0, none⟩) n c, .int .i64 k]).run P w = .ok (.slice (some ⟨w.heap.size, 0, none⟩) (n + k) C) w1 ∧
      (∃ cur1 : List Value, w1.heap[w.heap.size]? = some (.cells cur1.toArray e (0, 0)) ∧ cur1.length = C * i.size ∧ cur1.take (n * i.size) = cur.take (n * i.size)) ∧ w1.heap.size = w.heap.size + 1 ∧ Below w.heap.size w w1 := by
  have hold := run_firstCells_row (P := P) w.drew B 0 i.size n c cur t' fz hB (by omega)
  have hbytes : Builtin.nextslicecap (n + k) c * i.bytes ≤ 281474976710656 := by
    have h1 := nextslicecap_le (n + k) c
    have h2 : Builtin.nextslicecap (n + k) c * i.bytes ≤ 5000000 * 4096 := Nat.mul_le_mul (by omega) hb
    omega
  have hk : k * i.bytes ≤ 281474976710656 := by
    have h2 : k * i.bytes ≤ 1000000 * 4096 := Nat.mul_le_mul (by omega) hb
    omega
  have hr := Lib.run_append_grow_zeros w t tn ty e i z .i64 kn ht htn hi hz (some ⟨B, 0, none⟩) n c _ hold k h0 hs hg (by omega) hk hbytes
  have hC := grownCap_ge w (n + k) c e
  refine ⟨grownCap w (n + k) c e, _, hC, grownCap_le_maxLen w (n + k) c e (by unfold maxLen; omega), hr, ⟨(((cur.drop 0).take (n * i.size)).toArray ++ Builtin.zeroCells z.cells k ++ Builtin.zeroCells z.cells (grownCap w (n + k) c e - (n + k))).toList, ?_, ?_, ?_⟩, by simp, (Below.refl _ w).drew.alloc (Nat.le_refl _) _⟩
  · show (w.drew.heap.push _)[w.drew.heap.size]? = _
    rw [Array.getElem?_push_size]
  · simp only [List.drop_zero, Array.toList_append, List.length_append, Array.length_toList, List.length_take, Builtin.zeroCells, Array.size_map, Array.size_range, hzs]
    rw [Nat.min_eq_left hl, ← Nat.add_mul, ← Nat.add_mul]
    congr 1; omega
  · rw [List.drop_zero, Array.toList_append, Array.toList_append, List.append_assoc, List.take_append_of_le_length (by simp; omega)]
    show List.take _ (List.take _ cur) = _
    rw [List.take_take, Nat.min_self]

theorem Src.row (w : World) (t e' : TypeId) (hk : P.underlying t = some (.slice e')) (size V o m vc : Nat) (news : List Value) (hl : news.length = m * size) (hV : ∀ j v, news[j]? = some v → w.cell? ⟨V, o + j, none⟩ = some v) (h1 : ∀ v ∈ news, v.oneCell' = true) :
    Src P size t (.slice (some ⟨V, o, none⟩) m vc) m news w :=
  Src.ofSlice w hk ⟨V, o, none⟩ m vc news hl (fun j v hj => by
    have := hV j v hj
    unfold Addr.add; split
    · rename_i h; subst h; exact this
    · exact this) h1

/-- append of a slice that outgrows the row: a new row -/
theorem append_grow (w : World) (t tx ty e : TypeId) (i : TypeInfo) (z : Value) (ht : P.underlying t = some (.slice e)) (hi : P.info? e = some i) (hz : i.zero = some z) (hzs : z.cells.size = i.size)
    (base : Option Addr) (n c k : Nat) (olds : List Value) (hold : (Builtin.firstCells i.size n (.slice base n c)).run P w.drew = .ok olds.toArray w.drew) (hol : olds.length = n * i.size) (x : Value) (news : List Value) (hsrc : Src P i.size tx x k news w)
    (hg : c < n + k) (hn : n + k ≤ 1000000000) (hb : i.bytes ≤ 4096) :
    ∃ C w1, n + k ≤ C ∧ C ≤ maxLen ∧ (Builtin.append_ #[t, tx] ty #[.slice base n c, x]).run P w = .ok (.slice (some ⟨w.heap.size, 0, none⟩) (n + k) C) w1 ∧
      (∃ cur1 : List Value, w1.heap[w.heap.size]? = some (.cells cur1.toArray e (0, 0)) ∧ cur1.length = C * i.size ∧ cur1.take ((n + k) * i.size) = olds ++ news) ∧ w1.heap.size = w.heap.size + 1 ∧ Below w.heap.size w w1 := by
  have hbytes : Builtin.nextslicecap (n + k) c * i.bytes ≤ 281474976710656 := by
    have h1 := nextslicecap_le (n + k) c
    have h2 : Builtin.nextslicecap (n + k) c * i.bytes ≤ 5000000000 * 4096 := Nat.mul_le_mul (by omega) hb
    omega
  have hr := run_append_grow_src (P := P) (w := w) t tx ty e i z ht hi hz base n c olds hold x k news hsrc hg (by omega) hbytes
  have hC := grownCap_ge w (n + k) c e
  have hnl := hsrc.newsLen
  refine ⟨grownCap w (n + k) c e, _, hC, grownCap_le_maxLen w (n + k) c e (by unfold maxLen; omega), hr, ⟨((olds ++ news).toArray ++ Builtin.zeroCells z.cells (grownCap w (n + k) c e - (n + k))).toList, ?_, ?_, ?_⟩, by simp, (Below.refl _ w).drew.alloc (Nat.le_refl _) _⟩
  · show (w.drew.heap.push _)[w.drew.heap.size]? = _
    rw [Array.getElem?_push_size]
  · simp only [Array.toList_append, List.length_append, Array.length_toList, Builtin.zeroCells, Array.size_map, Array.size_range, hzs, hol, hnl]
    rw [← Nat.add_mul, ← Nat.add_mul]
    congr 1; omega
  · rw [Array.toList_append, List.take_append_of_le_length (by simp [hol, hnl, Nat.add_mul])]
    show List.take _ (olds ++ news) = _
    rw [List.take_of_length_le (by simp [hol, hnl, Nat.add_mul])]

/-- append of a slice within the capacity: in place -/
theorem append_room (w : World) (t tx ty e : TypeId) (i : TypeInfo) (ht : P.underlying t = some (.slice e)) (hi : P.info? e = some i) (B o n c : Nat) (x : Value) (k : Nat) (news : List Value) (hsrc : Src P i.size tx x k news w)
    (hroom : n + k ≤ c) (cur : Array Value) (t' : TypeId) (hB : w.heap[B]? = some (.cells cur t' (0, 0))) (hfit : o + n * i.size + news.length ≤ cur.size) :
    (Builtin.append_ #[t, tx] ty #[.slice (some ⟨B, o, none⟩) n c, x]).run P w = .ok (.slice (some ⟨B, o, none⟩) (n + k) c) (w.setRow B (splice cur.toList (o + n * i.size) news).toArray) := by
  have hst := run_storeCells_at P B (o + n * i.size) t' news 0 cur w hB (by simpa using hfit) hsrc.one
  rcases hsrc.kind with ⟨e', hk⟩ | hk <;> simp [Builtin.append_, run_underlying ht, run_underlying hk, sizeOf, typeInfo, hi, hsrc.len, hroom, hsrc.cells, Addr.add_lit, hst, splice]
end Go.Lp
namespace Go.Sy
open Go.RowKit Go.Lp

/-- of a type: is it a struct or an array, and how many cells has it? -/
def aggB : TypeDesc → Bool
  | .struct _ | .array _ _ => true
  | _ => false
def tyk (P : Program) (T : TypeId) : Option (Bool × Nat) := (P.underlying T).bind fun d => (P.info? T).map fun i => (aggB d, i.size)
theorem tyk_parts {P : Program} {T : TypeId} {ag : Bool} {k : Nat} (h : tyk P T = some (ag, k)) : ∃ d i, P.underlying T = some d ∧ P.info? T = some i ∧ aggB d = ag ∧ i.size = k := by
  unfold tyk at h
  cases hd : P.underlying T with
  | none => rw [hd] at h; cases h
  | some d =>
    cases hi : P.info? T with
    | none => rw [hd, hi] at h; cases h
    | some i =>
      rw [hd, hi] at h
      simp only [Option.bind_some, Option.map_some, Option.some.injEq, Prod.mk.injEq] at h
      exact ⟨d, i, rfl, rfl, h.1, h.2⟩
section
variable {P : Program}
theorem run_sizeOf' {w : World} {T : TypeId} {i : TypeInfo} (hi : P.info? T = some i) : (sizeOf T).run P w = .ok i.size w := by
  simp [sizeOf, typeInfo, hi]
theorem run_isAgg' {w : World} {T : TypeId} {d : TypeDesc} (hd : P.underlying T = some d) : (isAgg T).run P w = .ok (aggB d) w := by
  simp only [isAgg, underlying, program, Sem.run_bind, Sem.run, hd, Result.andThen]
  cases d <;> rfl
theorem run_loadVar {w : World} {T : TypeId} {ag : Bool} {k : Nat} (h : tyk P T = some (ag, k)) (b o : Nat) (f : Nat → Value) (hc : ∀ j, j < (if ag then k else 1) → w.cell? ⟨b, o + j, none⟩ = some (f j)) :
    (loadVar T ⟨b, o, none⟩).run P w = .ok (if ag then .agg ((List.range k).map f).toArray else f 0) w := by
  obtain ⟨d, i, hd, hi, ha, hs⟩ := tyk_parts h
  have hadd : ∀ j, (Addr.mk b o none).add j = ⟨b, o + j, none⟩ := fun j => by
    unfold Addr.add; split
    · rename_i h; subst h; rfl
    · rfl
  simp only [loadVar, Sem.run_bind, run_isAgg' hd, Result.andThen]
  rw [ha]
  cases ag with
  | true =>
    simp only [if_true, Sem.run_bind, run_sizeOf' hi, Result.andThen]
    rw [hs, run_loadCells w ⟨b, o, none⟩ k f (fun j hj => by rw [hadd]; exact hc j (by simpa using hj))]
    rfl
  | false =>
    have h0 := hc 0 (by simp)
    simp only [Bool.false_eq_true, if_false, load, Sem.run]
    rw [show (⟨b, o, none⟩ : Addr) = ⟨b, o + 0, none⟩ from rfl, h0]
/-- the first k of a list -/
def tkL : Nat → List Value → Option (List Value)
  | 0, _ => some []
  | k + 1, c :: cs => match tkL k cs with
    | some l => some (c :: l)
    | none => none
  | _ + 1, [] => none
theorem tkL_eq : ∀ (k : Nat) (cs l : List Value), tkL k cs = some l → k ≤ cs.length ∧ l = cs.take k
  | 0, _, l, h => by simp only [tkL, Option.some.injEq] at h; subst h; simp
  | k + 1, c :: cs, l, h => by
    unfold tkL at h
    split at h
    · rename_i l' hl
      simp only [Option.some.injEq] at h
      subst h
      obtain ⟨h1, rfl⟩ := tkL_eq k cs l' hl
      exact ⟨by simp; omega, by simp⟩
    · cases h
  | k + 1, [], l, h => by cases h
/-- cells out of a row -/
def rdC (ag : Bool) (k : Nat) (cs : List Value) (o : Nat) : Option Value :=
  match ag with
  | true => match tkL k (cs.drop o) with
    | some l => some (.agg l.toArray)
    | none => none
  | false => cs[o]?
theorem rdC_run {w : World} {T : TypeId} {ag : Bool} {k : Nat} (h : tyk P T = some (ag, k)) {b o : Nat} {cs : List Value} {v : Value} (hv : rdC ag k cs o = some v) {p : Nat} (hc : ∀ j u, cs[j]? = some u → w.cell? ⟨b, p + j, none⟩ = some u) :
    (loadVar T ⟨b, p + o, none⟩).run P w = .ok v w := by
  unfold rdC at hv
  cases ag with
  | true =>
    simp only at hv
    split at hv
    · rename_i l hl
      obtain ⟨hle, rfl⟩ := tkL_eq _ _ _ hl
      rw [List.length_drop] at hle
      simp only [Option.some.injEq] at hv
      rw [run_loadVar h b (p + o) (fun j => cs.getD (o + j) undef) (fun j hj => by
        have : o + j < cs.length := by simp at hj; omega
        rw [Nat.add_assoc]
        exact hc (o + j) _ (by simp [List.getD, this]))]
      rw [← hv]
      simp only [if_true]
      congr 3
      apply List.ext_getElem
      · simp; omega
      · intro j h1 h2
        simp at h1 h2 ⊢
        simp [List.getD, show o + j < cs.length by omega]
    · cases hv
  | false =>
    simp only at hv
    rw [run_loadVar h b (p + o) (fun _ => v) (fun j hj => by
      have : j = 0 := by simp at hj; omega
      subst this
      exact hc o v hv)]
    rfl
theorem cell_box {w : World} {b : Nat} {T : TypeId} {cs : List Value} (h : w.heap[b]? = some (.cells cs.toArray T (0, 0))) (j : Nat) : w.cell? ⟨b, j, none⟩ = cs[j]? := by
  unfold World.cell?
  simp only [h]
  simp
variable {n : Fr} {s : Sta} {d : Option Tmp} {ty : TypeId} {pos : String} {af : Array Edge} {gd : Option (Nat × Bool)} {v : Value}
/-- a load out of a box -/
theorem q_load {x : Operand} {U T : TypeId} {ag : Bool} {k b o : Nat} {cs : List Value} (i : Nat) (hk : tyk P U = some (ag, k)) (hx : ev s.env x = some (true, .pointer (some ⟨b, o, none⟩))) (hi : s.hp[i]? = some (Box b T cs)) (hv : rdC ag k cs o = some v) :
    Quiet P n ⟨d, .load U x, ty, pos, af, gd⟩ s v := fun w S fp a hst he hn => by
  have h1 := he.val hx rfl
  have hb := (hst.res i _ hi).1
  have : (execOp a.eval ⟨d, .load U x, ty, pos, af, gd⟩).run P w = .ok (.value v) w := by
    unfold execOp; dsimp only; rw [h1]
    have := rdC_run (w := w) hk hv (b := b) (p := 0) (fun j u hu => by rw [Nat.zero_add, cell_box hb]; exact hu)
    rw [Nat.zero_add] at this
    show ((loadVar U ⟨b, o, none⟩).bind fun r => Sem.pure (Next.value r)).run P w = _
    rw [Sem.run_bind', this]; rfl
  rw [this]; exact uponQ_ok _ _
/-- the cells of a row of shared data -/
def At (b o : Nat) (row : List D) : Per :=
  ⟨fun w S => S b ∧ ∀ j d, row[j]? = some d → ∃ u, w.cell? ⟨b, o + j, none⟩ = some u ∧ u.oneCell' = true ∧ RepD w S u d,
   fun h h1 h2 => ⟨h2 _ h.1, fun j d hj => let ⟨u, hu, ho, hr⟩ := h.2 j d hj; ⟨u, by rw [← hu]; exact World.cell?_of_block (h1 b h.1), ho, hr.mono h1 h2⟩⟩⟩
/-- the first k values of a row -/
def tkD : Nat → List D → Option (List Value)
  | 0, _ => some []
  | k + 1, .v x :: cs => match tkD k cs with
    | some l => some (x :: l)
    | none => none
  | _ + 1, _ => none
theorem tkD_eq : ∀ (k : Nat) (cs : List D) (l : List Value), tkD k cs = some l → l.length = k ∧ ∀ j, j < k → cs[j]? = some (.v (l.getD j undef))
  | 0, _, l, h => by simp only [tkD, Option.some.injEq] at h; subst h; exact ⟨rfl, fun j hj => by omega⟩
  | k + 1, .v x :: cs, l, h => by
    unfold tkD at h
    split at h
    · rename_i l' hl
      simp only [Option.some.injEq] at h
      subst h
      obtain ⟨h1, h2⟩ := tkD_eq k cs l' hl
      refine ⟨by simp [h1], fun j hj => ?_⟩
      cases j with
      | zero => rfl
      | succ j => simpa using h2 j (by omega)
    · cases h
  | k + 1, .sl _ :: _, l, h => by simp [tkD] at h
  | k + 1, [], l, h => by simp [tkD] at h
/-- cells of known values -/
def rdD (ag : Bool) (k : Nat) (row : List D) (o : Nat) : Option Value :=
  match ag with
  | true => match tkD k (row.drop o) with
    | some l => some (.agg l.toArray)
    | none => none
  | false => match row[o]? with
    | some (.v x) => some x
    | _ => none
theorem repD_v {w : World} {S : Blks} {u x : Value} (h : RepD w S u (.v x)) : u = x := by cases h; rfl
theorem rdD_run {w : World} {S : Blks} {T : TypeId} {ag : Bool} {k : Nat} (h : tyk P T = some (ag, k)) {b o p : Nat} {row : List D} {v : Value} (hv : rdD ag k row o = some v) (hp : (At b p row).holds w S) :
    (loadVar T ⟨b, p + o, none⟩).run P w = .ok v w := by
  obtain ⟨_, hc⟩ := hp
  unfold rdD at hv
  cases ag with
  | true =>
    simp only at hv
    split at hv
    · rename_i vs hm
      simp only [Option.some.injEq] at hv
      obtain ⟨hl, hg⟩ := tkD_eq _ _ _ hm
      rw [run_loadVar h b (p + o) (fun j => vs.getD j undef) (fun j hj => by
          have hj' : j < k := by simpa using hj
          have e2 := hg j hj'
          rw [List.getElem?_drop] at e2
          obtain ⟨u, hu, _, hr⟩ := hc _ _ e2
          rw [Nat.add_assoc, hu, repD_v hr])]
      rw [← hv]
      simp only [if_true]
      congr 3
      apply List.ext_getElem
      · simp [hl]
      · intro j h1 h2
        simp [List.getD, h2]
    · cases hv
  | false =>
    simp only at hv
    split at hv
    · rename_i x hx
      simp only [Option.some.injEq] at hv
      subst hv
      obtain ⟨u, hu, _, hr⟩ := hc _ _ hx
      rw [run_loadVar h b (p + o) (fun _ => x) (fun j hj => by
        have : j = 0 := by simp at hj; omega
        subst this
        rw [Nat.add_zero, hu, repD_v hr])]
      rfl
    · cases hv
/-- what follows from facts -/
def Ent (ps : List Per) (p : Per) : Prop := ∀ w S, (∀ q ∈ ps, q.holds w S) → p.holds w S
theorem Ent.of {ps : List Per} {p : Per} (h : p ∈ ps) : Ent ps p := fun _ _ hq => hq p h
/-- a load out of shared data: known values -/
theorem q_loadDE {x : Operand} {U : TypeId} {ag : Bool} {k b p o : Nat} {row : List D} (hk : tyk P U = some (ag, k)) (hx : ev s.env x = some (true, .pointer (some ⟨b, p + o, none⟩))) (hi : Ent s.ps (At b p row)) (hv : rdD ag k row o = some v) :
    Quiet P n ⟨d, .load U x, ty, pos, af, gd⟩ s v := fun w S fp a hst he hn => by
  have h1 := he.val hx rfl
  have : (execOp a.eval ⟨d, .load U x, ty, pos, af, gd⟩).run P w = .ok (.value v) w := by
    unfold execOp; dsimp only; rw [h1]
    have := rdD_run (P := P) hk hv (hi w S hst.per)
    show ((loadVar U ⟨b, p + o, none⟩).bind fun r => Sem.pure (Next.value r)).run P w = _
    rw [Sem.run_bind', this]; rfl
  rw [this]; exact uponQ_ok _ _
/-- a load out of shared data: known values -/
theorem q_loadD {x : Operand} {U : TypeId} {ag : Bool} {k b p o : Nat} {row : List D} (hk : tyk P U = some (ag, k)) (hx : ev s.env x = some (true, .pointer (some ⟨b, p + o, none⟩))) {c' : Bool} (hi : cnd c' (At b p row) ∈ s.ps) (hc' : c' = true) (hv : rdD ag k row o = some v) :
    Quiet P n ⟨d, .load U x, ty, pos, af, gd⟩ s v := fun w S fp a hst he hn => by
  have h1 := he.val hx rfl
  have : (execOp a.eval ⟨d, .load U x, ty, pos, af, gd⟩).run P w = .ok (.value v) w := by
    unfold execOp; dsimp only; rw [h1]
    have := rdD_run (P := P) hk hv (hst.per _ hi hc')
    show ((loadVar U ⟨b, p + o, none⟩).bind fun r => Sem.pure (Next.value r)).run P w = _
    rw [Sem.run_bind', this]; rfl
  rw [this]; exact uponQ_ok _ _
/-- an element of a shared slice: its place -/
theorem q_indexAddrGR {R : World → World → Prop} {x y : Operand} {T E : TypeId} {ag : Bool} {sz i c nn : Nat} {z : Int} {ad : Option Addr} {rows : List (List D)} {row : List D} (hT : P.underlying T = some (.slice E)) (hk : tyk P E = some (ag, sz)) (hx : ev s.env x = some (true, .slice ad nn c)) (hs : Ent s.ps (Sh (.slice ad nn c) (.sl rows)))
    (hy : ev s.env y = some (true, .int .i64 z)) (hr : rows[i]? = some row) (hz : z = (i : Int)) (hl : row.length = sz) :
    QuietR (β := Nat × Nat) P R n ⟨d, .indexAddr T x y, ty, pos, af, gd⟩ s (fun p => .pointer (some ⟨p.1, p.2, none⟩)) (fun p => [At p.1 p.2 row]) := fun w S fp a hst he hn => by
  have h1 := he.val hx rfl
  subst hz
  have h2 := he.val hy rfl
  obtain ⟨de, ie, _, hie, _, hsz⟩ := tyk_parts hk
  have hrep : RepD w S (.slice ad nn c) (.sl rows) := hs w S hst.per
  have hilt : i < rows.length := (List.getElem?_eq_some_iff.1 hr).1
  cases hrep with
  | e a c hc => simp at hr
  | sl b o _ sz' _ us hb hn' hc hrl hcell hd =>
    have hsz' : sz' = sz := by rw [← hrl i row hr]; exact hl
    subst hsz'
    refine ⟨(b, o + i * sz'), fun w1 hb1 => ?_, fun p hp => ?_⟩
    · have : (execOp a.eval ⟨d, .indexAddr T x y, ty, pos, af, gd⟩).run P w1 = .ok (.value (.pointer (some ⟨b, o + i * sz', none⟩))) w1 := by
        unfold execOp; dsimp only; rw [h1, h2]
        show ((Instr.indexAt T (.slice (some ⟨b, o, none⟩) rows.length c) (.int .i64 i)).bind fun r => Sem.pure (Next.value r)).run P w1 = _
        have hT' : P.underlying T = some (.slice (P.elem T)) := by rw [hT]; unfold Program.elem; rw [hT]
        have hE : P.elem T = E := by unfold Program.elem; rw [hT]
        rw [Sem.run_bind', run_indexAt_slice _ _ _ _ _ _ _ hT', if_pos (by omega), hE, run_sizeOf' hie, hsz]
        simp only [Result.andThen, Int.toNat_natCast]
        unfold Addr.add
        split
        · rename_i h0; rw [h0]; rfl
        · rfl
      rw [this]; exact uponQ_ok _ _
    · simp only [List.mem_singleton] at hp
      subst hp
      exact ⟨hb, fun j dj hj => ⟨us i j, by rw [← (hcell i j row dj hr hj).1], (hcell i j row dj hr hj).2, hd i j row dj hr hj⟩⟩
theorem q_indexAddrR {R : World → World → Prop} {x y : Operand} {T E : TypeId} {ag : Bool} {sz i c nn : Nat} {z : Int} {ad : Option Addr} {rows : List (List D)} {row : List D} (hT : P.underlying T = some (.slice E)) (hk : tyk P E = some (ag, sz)) (hx : ev s.env x = some (true, .slice ad nn c)) (hs : Sh (.slice ad nn c) (.sl rows) ∈ s.ps)
    (hy : ev s.env y = some (true, .int .i64 z)) (hr : rows[i]? = some row) (hz : z = (i : Int)) (hl : row.length = sz) :
    QuietR (β := Nat × Nat) P R n ⟨d, .indexAddr T x y, ty, pos, af, gd⟩ s (fun p => .pointer (some ⟨p.1, p.2, none⟩)) (fun p => [At p.1 p.2 row]) := q_indexAddrGR hT hk hx (.of hs) hy hr hz hl
theorem q_indexAddr {x y : Operand} {T E : TypeId} {ag : Bool} {sz i c nn : Nat} {z : Int} {ad : Option Addr} {rows : List (List D)} {row : List D} (hT : P.underlying T = some (.slice E)) (hk : tyk P E = some (ag, sz)) (hx : ev s.env x = some (true, .slice ad nn c)) (hs : Sh (.slice ad nn c) (.sl rows) ∈ s.ps)
    (hy : ev s.env y = some (true, .int .i64 z)) (hr : rows[i]? = some row) (hz : z = (i : Int)) (hl : row.length = sz) :
    QuietE (β := Nat × Nat) P n ⟨d, .indexAddr T x y, ty, pos, af, gd⟩ s (fun p => .pointer (some ⟨p.1, p.2, none⟩)) (fun p => [At p.1 p.2 row]) := q_indexAddrR hT hk hx hs hy hr hz hl
theorem q_indexAddrG {x y : Operand} {T E : TypeId} {ag : Bool} {sz i c nn : Nat} {z : Int} {ad : Option Addr} {rows : List (List D)} {row : List D} (hT : P.underlying T = some (.slice E)) (hk : tyk P E = some (ag, sz)) (hx : ev s.env x = some (true, .slice ad nn c)) (hs : Ent s.ps (Sh (.slice ad nn c) (.sl rows)))
    (hy : ev s.env y = some (true, .int .i64 z)) (hr : rows[i]? = some row) (hz : z = (i : Int)) (hl : row.length = sz) :
    QuietE (β := Nat × Nat) P n ⟨d, .indexAddr T x y, ty, pos, af, gd⟩ s (fun p => .pointer (some ⟨p.1, p.2, none⟩)) (fun p => [At p.1 p.2 row]) := q_indexAddrGR hT hk hx hs hy hr hz hl
end
end Go.Sy
namespace Go.Sy
open Go.RowKit Go.Lp
section
variable {P : Program} {n : Fr} {s : Sta} {d : Option Tmp} {ty : TypeId} {pos : String} {af : Array Edge} {gd : Option (Nat × Bool)} {v : Value} {K : Sta → Prop}

/-- the values of operands -/
def evs (env : Env) : List Operand → Option (List Value)
  | [] => some []
  | x :: l => match ev env x, evs env l with
    | some (true, v), some vs => some (v :: vs)
    | _, _ => none
theorem evs_map {a : Act} {env : Env} (he : EnvOk a env) : ∀ (l : List Operand) (vs : List Value), evs env l = some vs → l.map a.eval = vs
  | [], vs, h => by simp only [evs, Option.some.injEq] at h; subst h; rfl
  | x :: l, vs, h => by
    unfold evs at h
    split at h
    · rename_i v vs' hx hl
      simp only [Option.some.injEq] at h
      subst h
      rw [List.map_cons, he.val hx rfl, evs_map he l vs' hl]
    · cases h

theorem q_func {fn : Fn} {l : List Operand} {vs : List Value} (hx : evs s.env l = some vs) : Quiet P n ⟨d, .makeFunc fn #[] l.toArray, ty, pos, af, gd⟩ s (.func fn #[] vs.toArray) := q_func_gen fun a he => evs_map he l vs hx
/-! more operations that touch no memory, or only read it -/
def fldOff (P : Program) (T : TypeId) (i : Nat) : Option Nat :=
  match P.underlying T with
  | some (.struct fs) => (fs[i]?).bind fun f => (P.info? f.type).bind fun j => if j.size = 0 then none else some f.offset
  | _ => none
theorem q_fieldAddr {x : Operand} {T : TypeId} {i b o off : Nat} (hf : fldOff P T i = some off) (hx : ev s.env x = some (true, .pointer (some ⟨b, o, none⟩))) :
    Quiet P n ⟨d, .fieldAddr T x i, ty, pos, af, gd⟩ s (.pointer (some ⟨b, o + off, none⟩)) := .run1 hx fun ρ w h1 => by
  unfold fldOff at hf
  split at hf
  · rename_i fs hT
    cases hi : fs[i]? with
    | none => rw [hi] at hf; cases hf
    | some f =>
      rw [hi] at hf
      cases hj : P.info? f.type with
      | none => rw [Option.bind_some, hj] at hf; cases hf
      | some j =>
        rw [Option.bind_some, hj, Option.bind_some] at hf
        split at hf
        · cases hf
        · rename_i h0
          simp only [Option.some.injEq] at hf
          subst hf
          unfold execOp; dsimp only; rw [h1]
          show ((Instr.fieldAt T (.pointer (some ⟨b, o, none⟩)) i).bind fun r => Sem.pure (Next.value r)).run P w = _
          rw [Sem.run_bind']
          have : (Instr.fieldAt T (.pointer (some ⟨b, o, none⟩)) i).run P w = .ok (.pointer (some ⟨b, o + f.offset, none⟩)) w := by
            have hadd : (Addr.mk b o none).add f.offset = ⟨b, o + f.offset, none⟩ := by
              unfold Addr.add; split
              · rename_i h; rw [h]; rfl
              · rfl
            simp only [Instr.fieldAt, Sem.run_bind, run_underlying hT, Result.andThen, hi, Instr.sureAddr, fieldPlace, Sem.run_pure, run_sizeOf' hj, if_neg h0, hadd]
          rw [this]; rfl
  · cases hf
theorem q_lenS {x : Operand} {T E : TypeId} {ad : Option Addr} {k c : Nat} (hT : P.underlying T = some (.slice E)) (hx : ev s.env x = some (true, .slice ad k c)) :
    Quiet P n ⟨d, .call ⟨.builtin .len, #[x], #[T]⟩, ty, pos, af, gd⟩ s (.int .i64 k) := .run1 hx fun ρ w h1 => by
  have hT' : P.underlying T = some (.slice (P.elem T)) := by rw [hT]; unfold Program.elem; rw [hT]
  have : (Builtin.len_ #[T] ty #[.slice ad k c]).run P w = .ok (.int .i64 k) w := run_len_slice _ _ _ _ _ _ hT'
  have e : (execOp ρ ⟨d, .call ⟨.builtin .len, #[x], #[T]⟩, ty, pos, af, gd⟩) = (Builtin.len_ #[T] ty (#[x].map ρ)).bind fun r => Sem.pure (Next.value r) := rfl
  rw [e, show #[x].map ρ = #[.slice ad k c] by simp [h1], Sem.run_bind', this]; rfl
theorem q_lenStr {x : Operand} {T : TypeId} {b : ByteArray} (hT : P.underlying T = some .string) (hx : ev s.env x = some (true, .string b)) :
    Quiet P n ⟨d, .call ⟨.builtin .len, #[x], #[T]⟩, ty, pos, af, gd⟩ s (.int .i64 b.size) := .run1 hx fun ρ w h1 => by
  have : (Builtin.len_ #[T] ty #[.string b]).run P w = .ok (.int .i64 b.size) w := run_len_string _ _ _ _ hT
  have e : (execOp ρ ⟨d, .call ⟨.builtin .len, #[x], #[T]⟩, ty, pos, af, gd⟩) = (Builtin.len_ #[T] ty (#[x].map ρ)).bind fun r => Sem.pure (Next.value r) := rfl
  rw [e, show #[x].map ρ = #[.string b] by simp [h1], Sem.run_bind', this]; rfl
theorem q_min {x y : Operand} {ts : Array TypeId} {k : IntKind} {a b : Int} (hx : ev s.env x = some (true, .int k a)) (hy : ev s.env y = some (true, .int k b)) :
    Quiet P n ⟨d, .call ⟨.builtin .min, #[x, y], ts⟩, ty, pos, af, gd⟩ s (.int k (min a b)) := .run2 hx hy fun ρ w h1 h2 => by
  have e : (execOp ρ ⟨d, .call ⟨.builtin .min, #[x, y], ts⟩, ty, pos, af, gd⟩) = (Builtin.min_ ts ty (#[x, y].map ρ)).bind fun r => Sem.pure (Next.value r) := rfl
  rw [e, show #[x, y].map ρ = #[.int k a, .int k b] by simp [h1, h2], Sem.run_bind', run_min_int2]
  have : (if b < a then b else a) = min a b := by omega
  rw [this]; rfl
theorem q_max {x y : Operand} {ts : Array TypeId} {k : IntKind} {a b : Int} (hx : ev s.env x = some (true, .int k a)) (hy : ev s.env y = some (true, .int k b)) :
    Quiet P n ⟨d, .call ⟨.builtin .max, #[x, y], ts⟩, ty, pos, af, gd⟩ s (.int k (max a b)) := .run2 hx hy fun ρ w h1 h2 => by
  have e : (execOp ρ ⟨d, .call ⟨.builtin .max, #[x, y], ts⟩, ty, pos, af, gd⟩) = (Builtin.max_ ts ty (#[x, y].map ρ)).bind fun r => Sem.pure (Next.value r) := rfl
  rw [e, show #[x, y].map ρ = #[.int k a, .int k b] by simp [h1, h2], Sem.run_bind', run_max_int2]
  have : (if b > a then b else a) = max a b := by omega
  rw [this]; rfl
theorem q_build {T : TypeId} {l : List (Nat × Operand)} {xs : List Operand} {vs : List Value} {cells : Array Value} (hxs : l.map (·.2) = xs) (hx : evs s.env xs = some vs) (hb : P.built T ((l.map (·.1)).zip vs) = some cells) :
    Quiet P n ⟨d, .build T l.toArray, ty, pos, af, gd⟩ s (.agg cells) := fun w S fp a hst he hn => by
  have hm := evs_map he xs vs hx
  have : (execOp a.eval ⟨d, .build T l.toArray, ty, pos, af, gd⟩).run P w = .ok (.value (.agg cells)) w := by
    have e : (execOp a.eval ⟨d, .build T l.toArray, ty, pos, af, gd⟩) = (Instr.build T (l.toArray.map fun (i, x) => (i, a.eval x))).bind fun r => Sem.pure (Next.value r) := rfl
    have e2 : l.toArray.map (fun (i, x) => (i, a.eval x)) = ((l.map (·.1)).zip vs).toArray := by
      rw [← hm, ← hxs]
      simp only [List.map_toArray, List.map_map]
      congr 1
      rw [List.zip_map']
      rfl
    rw [e, e2, Sem.run_bind', run_build w T _ cells (by simpa using hb)]; rfl
  rw [this]; exact uponQ_ok _ _

/-! calls -/
def callOk (P : Program) (f : FuncId) : Bool :=
  match P.funcs[f]? with
  | some fn => fn.name != "runtime.NumGoroutine" && fn.body.isSome
  | none => false
theorem run_callFunc {f : FuncId} (hf : callOk P f = true) (args : Array Value) (w : World) : (callFunc f args).run P w = .ok (.enter f args) w := by
  unfold callOk at hf
  cases h : P.funcs[f]? with
  | none => rw [h] at hf; cases hf
  | some fn =>
    rw [h] at hf
    simp only [Bool.and_eq_true, bne_iff_ne, ne_eq] at hf
    obtain ⟨h1, h2⟩ := hf
    cases hb : fn.body with
    | none => rw [hb] at h2; cases h2
    | some c => simp [callFunc, program, Sem.run_bind, Sem.run, h, Result.andThen, h1, hb]
theorem exec_call {f : FuncId} (hf : callOk P f = true) {l : List Operand} {ts : Array TypeId} {g : Operand} {caps : Array Value} {ρ : Operand → Value} (hg : ρ g = .func (.func f) #[] caps) {vs : List Value} (hv : l.map ρ = vs) (w : World) :
    (execOp ρ ⟨d, .call ⟨.value g, l.toArray, ts⟩, ty, pos, af, gd⟩).run P w = .ok (.enter f (vs.toArray ++ caps)) w := by
  unfold execOp
  dsimp only
  show ((resolve ρ ⟨.value g, l.toArray, ts⟩ ty).bind fun x => invoke x.target x.args).run P w = _
  have : resolve ρ ⟨.value g, l.toArray, ts⟩ ty = Sem.pure { target := .fn (.func f) caps, args := vs.toArray } := by
    unfold resolve
    dsimp only
    rw [hg]
    show Deferred.ofValue _ _ = _
    unfold Deferred.ofValue
    dsimp only
    rw [List.map_toArray, hv, Array.empty_append]
    rfl
  rw [this]
  show (callFunc f (vs.toArray ++ caps)).run P w = _
  exact run_callFunc hf _ w
/-- a call that changes nothing old -/
theorem q_call {f : FuncId} (hf : callOk P f = true) {l : List Operand} {ts : Array TypeId} {vs : List Value} (hx : evs s.env l = some vs)
    (hc : ∀ w S fp, St w S fp s.ps s.hp → Calls P f vs.toArray w fun e w' => e = .returned v ∧ Below w.heap.size w w') :
    Quiet P n ⟨d, .call ⟨.value (.func f), l.toArray, ts⟩, ty, pos, af, gd⟩ s v := fun w S fp a hst he hn => by
  rw [exec_call hf (caps := #[]) rfl (evs_map he l vs hx), Array.append_empty]
  exact (hc w S fp hst).mono fun e w' ⟨h1, h2⟩ => ⟨v, h1, rfl, h2⟩

/-- a function's contract over states: what it is given, what it leaves -/
def Con (P : Program) (f : FuncId) (args : List Value) (ps : List Per) (hp : List Res) (R : Value → List Per → List Res → Prop) : Prop :=
  ∀ (w : World) (S : Blks) (fp : Nat → Blks), St w S fp ps hp → Calls P f args.toArray w fun e w' => ∃ v ps' hp' S' fp', e = .returned v ∧ R v ps' hp' ∧ St w' S' fp' ps' hp' ∧ Evo w S (tot fp hp.length) w' S' ∧
    ∀ b, tot fp' hp'.length b → tot fp hp.length b ∨ w.heap.size ≤ b
/-- what is to be shown where a body ends -/
def PostF (P : Program) (fn : Func) (R : Value → List Per → List Res → Prop) (e : Exit) (s : Sta) : Prop :=
  (e = .normal ∨ e = .ret) ∧ ∃ v lp lh, okH s.hp lh = true ∧ (∀ a w S fp, St w S fp s.ps s.hp → EnvOk a s.env → (results fn a.tmps).run P w = .ok v w) ∧ R v (keepP s.ps lp) (keepH s.hp lh)
/-- the slots of a body's beginning -/
theorem env_args (args : List Value) (m : Nat) : EnvOk { tmps := args.toArray ++ Array.replicate (m - args.toArray.size) undef, defers := [] } ((List.range args.length).zipWith (fun i v => (i, true, v)) args) := by
  intro t g v ht
  have key : ∀ (l : List Value) (k : Nat), look ((List.range' k l.length).zipWith (fun i v => (i, true, v)) l) t = some (g, v) → k ≤ t ∧ g = true ∧ l[t - k]? = some v := by
    intro l
    induction l with
    | nil => intro k h; simp [look] at h
    | cons x l ih =>
      intro k h
      rw [List.length_cons, List.range'_succ, List.zipWith_cons_cons] at h
      unfold look at h
      split at h
      · rename_i hkt
        obtain rfl : k = t := by simpa using hkt
        simp only [Option.some.injEq, Prod.mk.injEq] at h
        obtain ⟨rfl, rfl⟩ := h
        simp
      · obtain ⟨h1, h2, h3⟩ := ih (k + 1) h
        refine ⟨by omega, h2, ?_⟩
        rw [show t - k = (t - (k + 1)) + 1 by omega, List.getElem?_cons_succ]
        exact h3
  rw [List.range_eq_range'] at ht
  obtain ⟨_, rfl, h3⟩ := key args 0 ht
  simp only [Nat.sub_zero] at h3
  have hlt := (List.getElem?_eq_some_iff.1 h3).1
  simp only [Array.getD_eq_getD_getElem?, Array.getElem?_append, List.size_toArray, if_pos hlt, List.getElem?_toArray, h3, cond_true, Option.getD_some]
/-- into a function's body -/
theorem Con.enter {f : FuncId} {fn : Func} {c : Code} {args : List Value} {ps : List Per} {hp : List Res} {R : Value → List Per → List Res → Prop} (hf : P.funcs[f]? = some fn) (hb : fn.body = some c) (hle : args.length ≤ fn.ntmps)
    (h : awp P ⟨fn.ntmps, none, []⟩ c (PostF P fn R) ⟨(List.range args.length).zipWith (fun i v => (i, true, v)) args, ps, hp⟩) : Con P f args ps hp R := fun w S fp hst => by
  refine calls_of_wp hf hb ((wpIn_wide (n := 0)).1 (cwp_mono (F := fnc none) (fun e a w' hq => ?_) (h w S fp { tmps := args.toArray ++ Array.replicate (fn.ntmps - args.toArray.size) undef, defers := [] } hst ?_ ?_ rfl)))
  · obtain ⟨s', S', fp', ⟨he, v, lp, lh, ok, hr, hR⟩, hst', henv, hn, hd, hE, hg⟩ := hq
    obtain ⟨k1, k2⟩ := hst'.keepH lp lh ok
    have := hr a w' S' fp' hst' henv
    rcases he with rfl | rfl
    · exact ⟨hd, v, this, v, _, _, S', _, rfl, hR, k1, hE, fun b hb => hg b (k2 b hb)⟩
    · exact ⟨hd, v, this, v, _, _, S', _, rfl, hR, k1, hE, fun b hb => hg b (k2 b hb)⟩
  · exact env_args args fn.ntmps
  · simp
    omega
theorem Evo.toX {w w' : World} {S X S' : Blks} (h : Evo w S X w' S') (hX : ∀ b, ¬ X b) : Below w.heap.size w w' := h.toBelow fun b _ => hX b
/-- a contract of a function that is given nothing of its own: nothing old changes -/
theorem Con.quiet {f : FuncId} {args : List Value} {ps : List Per} (h : Con P f args ps [] fun u _ _ => u = v) {w : World} {S : Blks} {fp : Nat → Blks} {ps' : List Per} {hp : List Res} (hsub : ∀ p ∈ ps, p ∈ ps') (hst : St w S fp ps' hp) :
    Calls P f args.toArray w fun e w' => e = .returned v ∧ Below w.heap.size w w' :=
  (h w S fp ⟨fun p hp => hst.per p (hsub p hp), fun i R hR => by simp at hR, fun i hi => by simp at hi, fun i j hi => by simp at hi, hst.slt⟩).mono fun e w' ⟨u, _, _, _, _, he, hu, _, hE, _⟩ => ⟨hu ▸ he, hE.toX fun b ⟨i, hi, _⟩ => by simp at hi⟩
theorem Con.quiet0 {f : FuncId} {args : List Value} (h : Con P f args [] [] fun u _ _ => u = v) {w : World} {S : Blks} {fp : Nat → Blks} {ps' : List Per} {hp : List Res} (hst : St w S fp ps' hp) :
    Calls P f args.toArray w fun e w' => e = .returned v ∧ Below w.heap.size w w' := h.quiet (fun _ h => by cases h) hst
theorem Con.quiet1 {f : FuncId} {args : List Value} {p : Per} (h : Con P f args [p] [] fun u _ _ => u = v) {w : World} {S : Blks} {fp : Nat → Blks} {ps' : List Per} {hp : List Res} (hp1 : p ∈ ps') (hst : St w S fp ps' hp) :
    Calls P f args.toArray w fun e w' => e = .returned v ∧ Below w.heap.size w w' := h.quiet (fun _ h => by rw [List.mem_singleton.1 h]; exact hp1) hst
end
end Go.Sy
namespace Go.Sy
open Go.RowKit
section
variable {P : Program} {n : Fr} {ops : Array Oper} {Q : Exit → Sta → Prop} {s : Sta} {K : Sta → Prop}
section
variable {env : Env} {ps : List Per} {hp : List Res} {d : Nat} {op : Op} {ty : TypeId} {pos : String} {af : Array Edge} {gd : Option (Nat × Bool)} {rest : List Oper} {v : Value}
theorem aL_s (c : Bool) (hc : guardOf ops env ⟨some d, op, ty, pos, af, gd⟩ = some c) (hd : fits n (some d) = true) (hq : c = true → Quiet P n ⟨some d, op, ty, pos, af, gd⟩ ⟨env, ps, hp⟩ v)
    (h : aL P n ops Q rest ⟨(d, c, v) :: env, ps, hp⟩) : aL P n ops Q (⟨some d, op, ty, pos, af, gd⟩ :: rest) ⟨env, ps, hp⟩ := aL_quiet c hc hd hq h
theorem aL_n (c : Bool) (hc : guardOf ops env ⟨none, op, ty, pos, af, gd⟩ = some c) (hq : c = true → Quiet P n ⟨none, op, ty, pos, af, gd⟩ ⟨env, ps, hp⟩ v)
    (h : aL P n ops Q rest ⟨env, ps, hp⟩) : aL P n ops Q (⟨none, op, ty, pos, af, gd⟩ :: rest) ⟨env, ps, hp⟩ := aL_quiet c hc rfl hq h
theorem aL_E {β : Type} {v : β → Value} {p1 : β → Per} (c : Bool) (hc : guardOf ops env ⟨some d, op, ty, pos, af, gd⟩ = some c) (hd : fits n (some d) = true) (hq : c = true → QuietE P n ⟨some d, op, ty, pos, af, gd⟩ ⟨env, ps, hp⟩ v (fun x => [p1 x])) (hin : c = false → Nonempty β)
    (h : ∀ x, aL P n ops Q rest ⟨(d, c, v x) :: env, cnd c (p1 x) :: ps, hp⟩) : aL P n ops Q (⟨some d, op, ty, pos, af, gd⟩ :: rest) ⟨env, ps, hp⟩ := aL_quietE c hc hd hq hin h
variable {V : List Nat} {k : Nat} {L : Array Bool}
theorem aB_s (i : Nat) (hi : ops[i]? = some ⟨some d, op, ty, pos, af, gd⟩) (hf : canFirst ops V L i = true) (c : Bool) (hc : guardOf ops env ⟨some d, op, ty, pos, af, gd⟩ = some c) (hd : fits n (some d) = true)
    (hq : c = true → Quiet P n ⟨some d, op, ty, pos, af, gd⟩ ⟨env, ps, hp⟩ v) (h : aB P n ops V Q k (L.setIfInBounds i true) ⟨(d, c, v) :: env, ps, hp⟩) : aB P n ops V Q (k + 1) L ⟨env, ps, hp⟩ := aB_quiet i hi hf c hc hd hq h
theorem aB_n (i : Nat) (hi : ops[i]? = some ⟨none, op, ty, pos, af, gd⟩) (hf : canFirst ops V L i = true) (c : Bool) (hc : guardOf ops env ⟨none, op, ty, pos, af, gd⟩ = some c)
    (hq : c = true → Quiet P n ⟨none, op, ty, pos, af, gd⟩ ⟨env, ps, hp⟩ v) (h : aB P n ops V Q k (L.setIfInBounds i true) ⟨env, ps, hp⟩) : aB P n ops V Q (k + 1) L ⟨env, ps, hp⟩ := aB_quiet i hi hf c hc rfl hq h
theorem aB_E {β : Type} {v : β → Value} {p1 : β → Per} (i : Nat) (hi : ops[i]? = some ⟨some d, op, ty, pos, af, gd⟩) (hf : canFirst ops V L i = true) (c : Bool) (hc : guardOf ops env ⟨some d, op, ty, pos, af, gd⟩ = some c) (hd : fits n (some d) = true)
    (hq : c = true → QuietE P n ⟨some d, op, ty, pos, af, gd⟩ ⟨env, ps, hp⟩ v (fun x => [p1 x])) (hin : c = false → Nonempty β)
    (h : ∀ x, aB P n ops V Q k (L.setIfInBounds i true) ⟨(d, c, v x) :: env, cnd c (p1 x) :: ps, hp⟩) : aB P n ops V Q (k + 1) L ⟨env, ps, hp⟩ := aB_quietE i hi hf c hc hd hq hin h
theorem evs_of {l : List Operand} {vs : List Value} (h : evs env l = some vs) : evs env l = some vs := h
theorem evs_cons {x : Operand} {l : List Operand} {v : Value} {vs : List Value} (h : ev env x = some (true, v)) (h' : evs env l = some vs) : evs env (x :: l) = some (v :: vs) := by unfold evs; rw [h, h']
end
/-- a slice's length is an int -/
theorem awp_len {c : Code} {ad : Option Addr} {m cp : Nat} {rows : List (List D)} (i : Nat) (hs : s.ps[i]? = some (Sh (.slice ad m cp) (.sl rows))) (h : rows.length ≤ 9223372036854775807 → awp P n c Q s) : awp P n c Q s :=
  awp_know (fun w S fp hst => by
    have h := hst.per _ (List.mem_of_getElem? hs)
    cases h with
    | e a c hc => simp
    | sl b o c sz rows us hb hn hc _ _ _ => unfold maxLen at hc; omega) h
theorem thn_n (h : K s) : thn K Q .normal s := h
theorem thn_e {id : Nat} (h : Q (.exit id) s) : thn K Q (.exit id) s := h
theorem thn_r (h : Q .ret s) : thn K Q .ret s := h
theorem blk_n {id : Nat} (h : Q .normal s) : blk id Q .normal s := h
theorem blk_r {id : Nat} (h : Q .ret s) : blk id Q .ret s := h
theorem blk_hit {id : Nat} (h : Q .normal s) : blk id Q (.exit id) s := by unfold blk; dsimp only; rw [if_pos rfl]; exact h
theorem blk_miss {id id' : Nat} (hne : (id' == id) = false) (h : Q (.exit id') s) : blk id Q (.exit id') s := by unfold blk; dsimp only; rw [if_neg (by simpa using hne)]; exact h
theorem gL {a b : Bool} (h : (a && b) = true) : a = true := (Bool.and_eq_true _ _ ▸ h).1
theorem gt {a b : Bool} (ha : a = true) (h : b = true) : (a && (b == true)) = true := by rw [ha, h]; rfl
theorem gf {a b : Bool} (ha : a = true) (h : b = false) : (a && (b == false)) = true := by rw [ha, h]; rfl
theorem gT {a b : Bool} (h : (a && (b == true)) = true) : b = true := by cases a <;> cases b <;> simp_all
theorem gF {a b : Bool} (h : (a && (b == false)) = true) : b = false := by cases a <;> cases b <;> simp_all
theorem psAt {l : List Per} {p : Per} (i : Nat) (h : l[i]? = some p) : p ∈ l := List.mem_of_getElem? h
theorem fin1 {fn : Func} {t : Nat} {v : Value} {R : Value → List Per → List Res → Prop} {e : Exit} (lp lh : List Nat) (ok : okH s.hp lh = true) (hr : fn.results = #[.tmp t]) (hl : look s.env t = some (true, v)) (h : R v (keepP s.ps lp) (keepH s.hp lh)) (he : e = .normal ∨ e = .ret) : PostF P fn R e s :=
  ⟨he, v, lp, lh, ok, fun a w S fp hst henv => by have := henv t true v hl; simp only [cond_true] at this; rw [results_tmp hr, this], h⟩
theorem fin2 {fn : Func} {t u : Nat} {v v' : Value} {R : Value → List Per → List Res → Prop} {e : Exit} (lp lh : List Nat) (ok : okH s.hp lh = true) (hr : fn.results = #[.tmp t, .tmp u]) (hl : look s.env t = some (true, v)) (hl' : look s.env u = some (true, v')) (h : R (.tuple #[v, v']) (keepP s.ps lp) (keepH s.hp lh)) (he : e = .normal ∨ e = .ret) : PostF P fn R e s :=
  ⟨he, .tuple #[v, v'], lp, lh, ok, fun a w S fp hst henv => by have h1 := henv t true v hl; have h2 := henv u true v' hl'; simp only [cond_true] at h1 h2; rw [results_tmp2 hr, h1, h2], h⟩
theorem fin3 {fn : Func} {t u x : Nat} {v v' v'' : Value} {R : Value → List Per → List Res → Prop} {e : Exit} (lp lh : List Nat) (ok : okH s.hp lh = true) (hr : fn.results = #[.tmp t, .tmp u, .tmp x]) (hl : look s.env t = some (true, v)) (hl' : look s.env u = some (true, v')) (hl'' : look s.env x = some (true, v'')) (h : R (.tuple #[v, v', v'']) (keepP s.ps lp) (keepH s.hp lh)) (he : e = .normal ∨ e = .ret) : PostF P fn R e s :=
  ⟨he, .tuple #[v, v', v''], lp, lh, ok, fun a w S fp hst henv => by have h1 := henv t true v hl; have h2 := henv u true v' hl'; have h3 := henv x true v'' hl''; simp only [cond_true] at h1 h2 h3; rw [results_tmp3 hr, h1, h2, h3], h⟩
theorem fin0 {fn : Func} {R : Value → List Per → List Res → Prop} {e : Exit} (lp lh : List Nat) (ok : okH s.hp lh = true) (hr : fn.results = #[]) (h : R (.tuple #[]) (keepP s.ps lp) (keepH s.hp lh)) (he : e = .normal ∨ e = .ret) : PostF P fn R e s :=
  ⟨he, .tuple #[], lp, lh, ok, fun a w S fp hst henv => by simp [results, hr], h⟩
end
end Go.Sy
namespace Go.Sy
open Go.RowKit Go.Lp
section
variable {P : Program} {n : Fr} {s : Sta} {d : Option Tmp} {ty : TypeId} {pos : String} {af : Array Edge} {gd : Option (Nat × Bool)} {v : Value} {K : Sta → Prop} {q : Bool}
variable {w : World} {S : Blks} {fp : Nat → Blks} {ps : List Per} {hp : List Res}

theorem heap_new (w : World) (o : Obj) : (w.alloc o).heap[w.heap.size]? = some o := by
  show (w.heap.push o)[w.heap.size]? = _
  simp
theorem below_new (w : World) (o : Obj) : Below w.heap.size w (w.alloc o) := (Below.refl _ _).alloc (Nat.le_refl _) _
/-- a further resource, on new blocks -/
theorem St.push (h : St w S fp ps hp) {w' : World} (hb : Below w.heap.size w w') (R : Res) (F : Blks) (hR : R.holds w' S F) (hF : ∀ b, F b → w.heap.size ≤ b ∧ b < w'.heap.size) : St w' S (fun i => if i = hp.length then F else fp i) ps (hp ++ [R]) := by
  have h' := h.below hb
  refine ⟨h'.per, fun i R' hi => ?_, fun i hi b hb' => ?_, fun i j hi hj hne b hbi hbj => ?_, h'.slt⟩
  · by_cases hil : i = hp.length
    · subst hil
      simp only [List.getElem?_concat_length, Option.some.injEq] at hi
      subst hi
      simpa using hR
    · have : i < hp.length := by have := (List.getElem?_eq_some_iff.1 hi).1; simp at this; omega
      rw [List.getElem?_append_left this] at hi
      simpa [hil] using h'.res i R' hi
  · by_cases hil : i = hp.length
    · subst hil
      simp only [if_true] at hb'
      exact ⟨(hF b hb').2, fun hS => by have := h.slt b hS; have := (hF b hb').1; omega⟩
    · rw [if_neg hil] at hb'
      exact h'.lt i (by simp at hi; omega) b hb'
  · simp only [List.length_append, List.length_cons, List.length_nil] at hi hj
    by_cases hil : i = hp.length
    · rw [if_pos hil] at hbi
      rw [if_neg (by omega)] at hbj
      have := (h.lt j (by omega) b hbj).1
      have := (hF b hbi).1
      omega
    · rw [if_neg hil] at hbi
      by_cases hjl : j = hp.length
      · rw [if_pos hjl] at hbj
        have := (h.lt i (by omega) b hbi).1
        have := (hF b hbj).1
        omega
      · rw [if_neg hjl] at hbj
        exact h.dj i j (by omega) (by omega) hne b hbi hbj
theorem tot_push {F : Blks} {m : Nat} {b : Nat} (h : tot (fun i => if i = m then F else fp i) (m + 1) b) : tot fp m b ∨ F b := by
  obtain ⟨i, hi, hb⟩ := h
  by_cases hil : i = m
  · rw [if_pos hil] at hb; exact .inr hb
  · rw [if_neg hil] at hb; exact .inl ⟨i, by omega, hb⟩
/-- an operation that makes one resource on new blocks -/
theorem Eff.push {o : Oper} (h : ∀ w S fp a, St w S fp s.ps s.hp → EnvOk a s.env → a.tmps.size = n.size →
      uponU P (fun u w' => ∃ R F s', K s' ∧ s'.ps = s.ps ∧ s'.hp = s.hp ++ [R] ∧ EnvOk (a.put o.dst u) s'.env ∧ Below w.heap.size w w' ∧ R.holds w' S F ∧ ∀ b, F b → w.heap.size ≤ b ∧ b < w'.heap.size) ((execOp a.eval o).run P w)) : Eff P n o s q K := fun w S fp a hst he hn => by
  refine uponU_mono (fun u w' hh => ?_) (h w S fp a hst he hn)
  obtain ⟨R, F, s', hK, hps, hhp, he', hb, hR, hF⟩ := hh
  refine ⟨s', S, _, hK, by rw [hps, hhp]; exact hst.push hb R F hR hF, he', Evo.of_below _ _ hb, fun b hb' => ?_, fun _ => hb⟩
  rw [hhp, List.length_append, List.length_cons, List.length_nil] at hb'
  exact (tot_push hb').imp id (fun h => (hF b h).1)
def zcells (P : Program) (T : TypeId) : Option (List Value) := (P.info? T).bind fun i => i.zero.map fun z => z.cells.toList
theorem run_zero {T : TypeId} {zs : List Value} (h : zcells P T = some zs) (w : World) : ∃ z, (zeroValue T).run P w = .ok z w ∧ z.cells.toList = zs := by
  unfold zcells at h
  cases hi : P.info? T with
  | none => rw [hi] at h; cases h
  | some i =>
    rw [hi] at h
    cases hz : i.zero with
    | none => rw [Option.bind_some, hz] at h; cases h
    | some z =>
      rw [Option.bind_some, hz] at h
      simp only [Option.map_some, Option.some.injEq] at h
      exact ⟨z, by simp [zeroValue, typeInfo, hi, hz], h⟩
theorem box_new (w : World) (S : Blks) (T : TypeId) (cs : List Value) : (Box w.heap.size T cs).holds (w.alloc (.cells cs.toArray T)) S (fun b => b = w.heap.size) := ⟨heap_new _ _, fun _ => Iff.rfl⟩
theorem e_alloc {t : Nat} {T : TypeId} {zs : List Value} (hz : zcells P T = some zs) (ht : fits n (some t) = true) (hK : ∀ b, K ⟨(t, true, .pointer (some ⟨b, 0, none⟩)) :: s.env, s.ps, s.hp ++ [Box b T zs]⟩) :
    Eff P n ⟨some t, .alloc T, ty, pos, af, gd⟩ s q K := .push fun w S fp a hst he hn => by
  obtain ⟨z, h1, h2⟩ := run_zero hz w
  have : (execOp a.eval ⟨some t, .alloc T, ty, pos, af, gd⟩).run P w = .ok (.value (.pointer (some ⟨w.heap.size, 0, none⟩))) (w.alloc (.cells zs.toArray T)) := by
    show ((Instr.alloc T true (.tuple #[])).bind fun r => Sem.pure (Next.value r)).run P w = _
    rw [Sem.run_bind']
    have : (Instr.alloc T true (.tuple #[])).run P w = .ok (.pointer (some ⟨w.heap.size, 0, none⟩)) (w.alloc (.cells zs.toArray T)) := by
      have e : z.cells = zs.toArray := by rw [← h2]
      simp [Instr.alloc, Sem.run_bind, h1, Result.andThen, newVar, newRow, newObj, Sem.run, e]
    rw [this]; rfl
  rw [this]
  refine ⟨Box w.heap.size T zs, fun b => b = w.heap.size, _, hK w.heap.size, rfl, rfl, ?_, below_new _ _, box_new _ _ _ _, fun b hb => ?_⟩
  · exact he.put (g := true) (by rw [hn]; simpa [fits] using ht) _
  · subst hb; simp
def cpL : List Value → Option (List Value)
  | [] => some []
  | c :: cs => match cpL cs with
    | some l => some (c :: l)
    | none => none
theorem cpL_eq : ∀ (cs l : List Value), cpL cs = some l → l = cs
  | [], l, h => by simp only [cpL, Option.some.injEq] at h; exact h.symm
  | c :: cs, l, h => by
    unfold cpL at h
    split at h
    · rename_i l' hl
      simp only [Option.some.injEq] at h
      rw [← h, cpL_eq cs l' hl]
    · cases h
theorem e_box {t : Nat} {T : TypeId} {x : Operand} {vx : Value} {cs : List Value} (hx : ev s.env x = some (true, vx)) (hc0 : cpL vx.cells.toList = some cs) (ht : fits n (some t) = true) (hK : ∀ b, K ⟨(t, true, .pointer (some ⟨b, 0, none⟩)) :: s.env, s.ps, s.hp ++ [Box b T cs]⟩) :
    Eff P n ⟨some t, .box T x, ty, pos, af, gd⟩ s q K := .push fun w S fp a hst he hn => by
  have hc := (cpL_eq _ _ hc0).symm
  have h1 := he.val hx rfl
  have : (execOp a.eval ⟨some t, .box T x, ty, pos, af, gd⟩).run P w = .ok (.value (.pointer (some ⟨w.heap.size, 0, none⟩))) (w.alloc (.cells cs.toArray T)) := by
    have e : vx.cells = cs.toArray := by rw [← hc]
    show ((Instr.box T (a.eval x)).bind fun r => Sem.pure (Next.value r)).run P w = _
    rw [h1, Sem.run_bind']
    have : (Instr.box T vx).run P w = .ok (.pointer (some ⟨w.heap.size, 0, none⟩)) (w.alloc (.cells cs.toArray T)) := by
      simp [Instr.box, Sem.run_bind, Result.andThen, newVar, newRow, newObj, Sem.run, e]
    rw [this]; rfl
  rw [this]
  refine ⟨Box w.heap.size T cs, fun b => b = w.heap.size, _, hK w.heap.size, rfl, rfl, ?_, below_new _ _, box_new _ _ _ _, fun b hb => ?_⟩
  · exact he.put (g := true) (by rw [hn]; simpa [fits] using ht) _
  · subst hb; simp

/-- a resource becomes another one on the same blocks -/
theorem St.change (h : St w S fp ps hp) {w' : World} {i : Nat} (hi : i < hp.length) (hs : w.heap.size ≤ w'.heap.size) (hw : ∀ b, b < w.heap.size → ¬ fp i b → w'.heap[b]? = w.heap[b]?) (R : Res) (hR : R.holds w' S (fp i)) : St w' S fp ps (hp.set i R) := by
  have hS : ∀ b, S b → w'.heap[b]? = w.heap[b]? := fun b hb => hw b (h.slt b hb) (fun hf => (h.lt i hi b hf).2 hb)
  refine ⟨fun p hp' => p.mono (h.per p hp') hS (fun _ h => h), fun j R' hj => ?_, fun j hj b hb => ?_, fun j k hj hk => h.dj j k (by simpa using hj) (by simpa using hk), fun b hb => Nat.lt_of_lt_of_le (h.slt b hb) hs⟩
  · by_cases hij : i = j
    · subst hij
      rw [List.getElem?_set_self hi] at hj
      simp only [Option.some.injEq] at hj
      subst hj; exact hR
    · rw [List.getElem?_set_ne hij] at hj
      have hjl := (List.getElem?_eq_some_iff.1 hj).1
      exact R'.mono (h.res j R' hj) (fun b hb => hw b (h.lt j hjl b hb).1 (fun hf => h.dj i j hi hjl hij b hf hb)) hS (fun _ h => h)
  · have hj' : j < hp.length := by simpa using hj
    exact ⟨Nat.lt_of_lt_of_le (h.lt j hj' b hb).1 hs, (h.lt j hj' b hb).2⟩
/-- an operation that changes one resource in place -/
theorem Eff.change {o : Oper} (i : Nat) {R0 : Res} (hi : s.hp[i]? = some R0) (h : ∀ w S fp a, St w S fp s.ps s.hp → EnvOk a s.env → a.tmps.size = n.size → R0.holds w S (fp i) →
      uponU P (fun u w' => ∃ R s', K s' ∧ s'.ps = s.ps ∧ s'.hp = s.hp.set i R ∧ EnvOk (a.put o.dst u) s'.env ∧ R.holds w' S (fp i) ∧ w'.os = w.os ∧ w'.tape = w.tape ∧ w'.output = w.output ∧ w.heap.size ≤ w'.heap.size ∧
        ∀ b, b < w.heap.size → ¬ fp i b → w'.heap[b]? = w.heap[b]?) ((execOp a.eval o).run P w)) : Eff P n o s false K := fun w S fp a hst he hn => by
  have hil := (List.getElem?_eq_some_iff.1 hi).1
  refine uponU_mono (fun u w' hh => ?_) (h w S fp a hst he hn (hst.res i R0 hi))
  obtain ⟨R, s', hK, hps, hhp, he', hR, h1, h2, h3, h4, h5⟩ := hh
  refine ⟨s', S, fp, hK, by rw [hps, hhp]; exact hst.change hil h4 h5 R hR, he', ⟨h1, h2, h3, h4, fun b hb hx => h5 b hb (fun hf => hx ⟨i, hil, hf⟩), fun _ h => h, fun _ h => .inl h⟩, fun b hb => ?_, fun h => by cases h⟩
  obtain ⟨j, hj, hb⟩ := hb
  exact .inl ⟨j, by rw [hhp] at hj; simpa using hj, hb⟩
/-- cells written into a row -/
def wrC (cs : List Value) (o : Nat) (vs : List Value) : List Value := cs.take o ++ (vs ++ cs.drop (o + vs.length))
theorem storeCells_run (b : Nat) (T : TypeId) (o : Nat) : ∀ (vs : List Value) (i : Nat) (cs : List Value) (w : World), w.heap[b]? = some (.cells cs.toArray T (0, 0)) → (∀ v ∈ vs, v.oneCell' = true) → o + i + vs.length ≤ cs.length →
    (storeCells ⟨b, o, none⟩ vs i).run P w = .ok () (w.setRow b (wrC cs (o + i) vs).toArray)
  | [], i, cs, w, hb, _, _ => by
    have : wrC cs (o + i) [] = cs := by unfold wrC; simp
    rw [this]
    show Result.ok () w = _
    congr 1
    unfold World.setRow
    cases w with | mk heap tape drawn os output =>
    simp only [World.mk.injEq, and_true]
    apply Array.ext_getElem?
    intro k
    rw [Array.getElem?_modify]
    split
    · rename_i hk; subst hk
      simp only at hb
      rw [hb]; rfl
    · rfl
  | v :: vs, i, cs, w, hb, h1, hl => by
    have hlt : o + i < cs.length := by simp at hl; omega
    have hadd : (Addr.mk b o none).add i = ⟨b, o + i, none⟩ := by
      unfold Addr.add; split
      · rename_i h; rw [h]; rfl
      · rfl
    have hc : w.cell? ⟨b, o + i, none⟩ = some cs[o + i] := by rw [cell_box hb]; simp [hlt]
    have hf : w.frozen? ⟨b, o + i, none⟩ = false := by unfold World.frozen?; simp [hb]
    unfold storeCells
    show ((store ((Addr.mk b o none).add i) v).bind fun _ => storeCells ⟨b, o, none⟩ vs (i + 1)).run P w = _
    rw [Sem.run_bind', hadd, run_store P w _ v _ (h1 v (by simp)), hc]
    simp only [hf, Bool.false_eq_true, if_false, Result.andThen]
    have hb' : (w.setCell ⟨b, o + i, none⟩ v).heap[b]? = some (.cells (cs.set (o + i) v).toArray T (0, 0)) := by
      unfold World.setCell
      simp only [Array.getElem?_modify, hb]
      simp
    rw [storeCells_run b T o vs (i + 1) (cs.set (o + i) v) _ hb' (fun u hu => h1 u (by simp [hu])) (by simp at hl ⊢; omega)]
    congr 1
    have e : wrC (cs.set (o + i) v) (o + (i + 1)) vs = wrC cs (o + i) (v :: vs) := by
      unfold wrC
      apply List.ext_getElem?
      intro k
      simp only [List.getElem?_append, List.length_take, List.length_set, List.getElem?_take, List.getElem?_drop, List.getElem?_set, List.length_cons, List.getElem?_cons]
      rw [Nat.min_eq_left (by simp at hl; omega), Nat.min_eq_left (by omega)]
      by_cases h1 : k < o + i
      · simp [show k < o + (i + 1) by omega, h1, show ¬ o + i = k by omega]
      · by_cases h2 : k = o + i
        · subst h2; simp [hlt]
        · have h3 : ¬ k < o + (i + 1) := by omega
          have h4 : k - (o + i) = (k - (o + (i + 1))) + 1 := by omega
          simp only [h1, h3, if_false]
          by_cases h5 : k - (o + (i + 1)) < vs.length
          · rw [if_pos h5, if_pos (by omega), if_neg (by omega)]
            congr 1 <;> omega
          · rw [if_neg h5, if_neg (by omega), if_neg (by omega)]
            congr 1 <;> omega
    rw [e]
    unfold World.setRow World.setCell
    simp only [World.mk.injEq, and_true]
    apply Array.ext_getElem?
    intro k
    simp only [Array.getElem?_modify]
    split
    · rename_i hk; subst hk
      rw [hb]; rfl
    · rfl
theorem setRow_other (w : World) (g : Nat) (cs : Array Value) (k : Nat) (hk : k ≠ g) : (w.setRow g cs).heap[k]? = w.heap[k]? := heap_setRow w g cs k hk
/-- cells written, spelled out -/
def wrL : Nat → List Value → Nat → List Value → Option (List Value)
  | 0, cs, 0, [] => some cs
  | k + 1, _ :: cs, 0, v :: vs => match v.oneCell' with
    | true => match wrL k cs 0 vs with
      | some l => some (v :: l)
      | none => none
    | false => none
  | k, c :: cs, o + 1, vs => match wrL k cs o vs with
    | some l => some (c :: l)
    | none => none
  | _, _, _, _ => none
theorem wrL_eq : ∀ (cs : List Value) (k o : Nat) (vs cs' : List Value), wrL k cs o vs = some cs' → vs.length = k ∧ (∀ v ∈ vs, v.oneCell' = true) ∧ o + vs.length ≤ cs.length ∧ cs' = wrC cs o vs
  | cs, 0, 0, [], cs', h => by
    have : some cs = some cs' := by cases cs <;> exact h
    simp only [Option.some.injEq] at this
    subst this
    exact ⟨rfl, by simp, by simp, by simp [wrC]⟩
  | [], 0, 0, _ :: _, _, h => by cases h
  | _ :: _, 0, 0, _ :: _, _, h => by cases h
  | _ :: cs, k + 1, 0, v :: vs, cs', h => by
    unfold wrL at h
    split at h
    · rename_i hv
      split at h
      · rename_i l hl
        simp only [Option.some.injEq] at h
        subst h
        obtain ⟨h1, h2, h3, rfl⟩ := wrL_eq cs k 0 vs l hl
        refine ⟨by simp [h1], fun u hu => ?_, by simp at h3 ⊢; omega, by simp [wrC]⟩
        rcases List.mem_cons.1 hu with rfl | hu
        · exact hv
        · exact h2 u hu
      · cases h
    · cases h
  | [], k + 1, 0, _ :: _, _, h => by cases h
  | [], k + 1, 0, [], _, h => by cases h
  | _ :: _, k + 1, 0, [], _, h => by cases h
  | [], 0, o + 1, _, _, h => by cases h
  | [], k + 1, o + 1, _, _, h => by cases h
  | c :: cs, k, o + 1, vs, cs', h => by
    have h' : (match wrL k cs o vs with | some l => some (c :: l) | none => none) = some cs' := by cases k <;> exact h
    split at h'
    · rename_i l hl
      simp only [Option.some.injEq] at h'
      subst h'
      obtain ⟨h1, h2, h3, rfl⟩ := wrL_eq cs k o vs l hl
      exact ⟨h1, h2, by simp; omega, by simp [wrC, show o + 1 + vs.length = (o + vs.length) + 1 by omega]⟩
    · cases h'
/-- a store into a box -/
theorem e_store {x y : Operand} {U T : TypeId} {ag : Bool} {k b o : Nat} {cs cs' : List Value} {vy : Value} (i : Nat) (hk : tyk P U = some (ag, k)) (hx : ev s.env x = some (true, .pointer (some ⟨b, o, none⟩))) (hy : ev s.env y = some (true, vy)) (hi : s.hp[i]? = some (Box b T cs))
    (hw : wrL k cs o vy.cells.toList = some cs') (hK : K ⟨s.env, s.ps, s.hp.set i (Box b T cs')⟩) :
    Eff P n ⟨none, .store U x y, ty, pos, af, gd⟩ s false K := .change i hi fun w S fp a hst he hn hR => by
  have e1 := he.val hx rfl
  have e2 := he.val hy rfl
  obtain ⟨_, j, _, hj, _, hjk⟩ := tyk_parts hk
  obtain ⟨hb, hF⟩ := hR
  obtain ⟨hl, h1', hle, rfl⟩ := wrL_eq _ _ _ _ _ hw
  generalize hv : vy.cells.toList = vs at hl h1' hle hK
  have : (execOp a.eval ⟨none, .store U x y, ty, pos, af, gd⟩).run P w = .ok .skip (w.setRow b (wrC cs o vs).toArray) := by
    show ((Instr.storeAt U (a.eval x) (a.eval y)).bind fun _ => Sem.pure Next.skip).run P w = _
    rw [e1, e2, Sem.run_bind']
    have : (Instr.storeAt U (.pointer (some ⟨b, o, none⟩)) vy).run P w = .ok () (w.setRow b (wrC cs o vs).toArray) := by
      show (storeVar U ⟨b, o, none⟩ vy).run P w = _
      unfold storeVar
      simp only [Sem.run_bind, run_sizeOf' hj, Result.andThen]
      have hsz : vy.cells.size = j.size := by rw [hjk, ← hl, ← hv]; simp
      rw [if_neg (by simpa using hsz)]
      rw [hv]
      exact storeCells_run b T o vs 0 cs w hb h1' (by omega)
    rw [this]; rfl
  rw [this]
  refine ⟨Box b T (wrC cs o vs), _, hK, rfl, rfl, he, ⟨setRow_heap _ _ _ _ _ _ hb, hF⟩, rfl, rfl, rfl, by simp [World.setRow], fun b' hb' hne => setRow_other _ _ _ _ (fun h => hne ((hF b').2 h))⟩
end
end Go.Sy
