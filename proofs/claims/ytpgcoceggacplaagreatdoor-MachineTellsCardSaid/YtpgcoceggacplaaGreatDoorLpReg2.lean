/- Regions that draw their order: the steps of the walk. No condition. -/
import Derived.Test.YtpgcoceggacplaaGreatDoorLpReg
set_option linter.unusedVariables false
set_option linter.unusedSimpArgs false
set_option maxRecDepth 20000
namespace Go.Lp
open Go.RowKit

/-- operations that hand back a value and enter no function -/
def plainB (o : Oper) : Bool :=
  match o.op with
  | .move _ | .assign _ | .pick .. | .load .. | .binOp .. | .unOp .. | .convert .. | .fieldAddr .. | .field .. | .indexAddr .. | .index .. | .extract .. | .slice .. | .lookup .. | .makeFunc .. | .build .. | .nilCheck _ => true
  | .call { callee := .builtin .len, .. } | .call { callee := .builtin .max, .. } | .call { callee := .builtin .min, .. } | .call { callee := .builtin .cap, .. } => true
  | _ => false

def Result.noEnter : Result Next → Prop
  | .ok (.enter _ _) _ => False
  | _ => True

theorem noEnter_value {P : Program} (x : Sem Value) (w : World) : Result.noEnter (((do pure (.value (← x))) : Sem Next).run P w) := by
  show Result.noEnter ((x.bind fun v => Sem.pure (.value v)).run P w)
  rw [Sem.run_bind']
  cases x.run P w <;> trivial

theorem noEnter_bind {P : Program} {α : Type} (x : Sem α) (f : α → Sem Next) (w : World) (h : ∀ a w, Result.noEnter ((f a).run P w)) : Result.noEnter ((x >>= f).run P w) := by
  show Result.noEnter ((x.bind f).run P w)
  rw [Sem.run_bind']
  cases x.run P w with
  | ok a w' => exact h a w'
  | halt _ _ => trivial

theorem noEnter_ite {c : Prop} [Decidable c] {x y : Result Next} (hx : Result.noEnter x) (hy : Result.noEnter y) : Result.noEnter (if c then x else y) := by
  split <;> assumption

theorem plain_noEnter {P : Program} {o : Oper} (h : plainB o = true) (ρ : Operand → Value) (w : World) : Result.noEnter ((execOp ρ o).run P w) := by
  obtain ⟨dst, op, type, pos, after, guard⟩ := o
  cases op with
  | call c =>
    obtain ⟨callee, args, ats⟩ := c
    cases callee with
    | builtin b => cases b <;> first | (simp [plainB] at h; done) | exact noEnter_value _ _
    | _ => simp [plainB] at h
  | nilCheck x =>
    unfold execOp
    generalize ρ x = v
    dsimp only
    split
    · simp [runtimePanic, Result.noEnter]
    · simp [runtimePanic, Result.noEnter]
    · simp [runtimePanic, Result.noEnter]
    · split
      · simp [runtimePanic, Result.noEnter]
      · refine noEnter_bind _ _ _ fun p w' => noEnter_bind _ _ _ fun q w'' => ?_
        split
        · exact noEnter_bind _ _ _ fun _ _ => trivial
        · trivial
      · trivial
    · trivial
  | move x => trivial
  | assign x => trivial
  | pick c a b =>
    show Result.noEnter ((Sem.bind (asBool (ρ c)) fun t => Sem.pure (.value (if t then ρ a else ρ b))).run P w)
    rw [Sem.run_bind']
    cases (asBool (ρ c)).run P w <;> trivial
  | _ => first | (simp [plainB] at h; done) | exact noEnter_value _ _

/-- a value that stands only where a guard says yes -/
def gv (c : Bool) (v : Value) : Value := bif c then v else undef
@[simp, go_sem] theorem gv_true (v : Value) : gv true v = v := rfl
@[simp, go_sem] theorem gv_false (v : Value) : gv false v = undef := rfl
@[simp, go_sem] theorem gv_self_t {g : Bool} (h : g = true) (v : Value) : gv g v = v := by subst h; rfl
def phC (s : Nat) (D : Bool → World → Prop) : Array Bool → World → Prop := fun L w => D (L.getD s true) w

def wpT (P : Program) (ops : Array Oper) (s : Nat) (D : Bool → World → Prop) (U : World → Prop) (Q : Act → Prop) (k : Nat) (l : List Oper) (a : Act) : Prop :=
  (∀ b w, D b w → U w) → wpPh P ops (phC s D) Q k l a

section
variable {P : Program} {ops : Array Oper} {s k : Nat} {D : Bool → World → Prop} {U : World → Prop} {Q : Act → Prop} {o : Oper} {rest : List Oper} {a : Act}

theorem T_nil (h : Q a) : wpT P ops s D U Q k [] a := fun _ => h

theorem phC_set {L : Array Bool} {w : World} (hks : (k == s) = false) : phC s D (L.setIfInBounds k true) w ↔ phC s D L w := by
  have : k ≠ s := by simpa using hks
  unfold phC
  rw [getD_set_ne true this]

theorem uponPh_of_quietUpon {C : World → Prop} {w : World} {v : Value} {r : Result Next} (h : Oper.quietUpon P C w v r) (hw : C w) : uponPh P C v r := by
  cases r with
  | halt x w' => simp only [Oper.quietUpon] at h
  | ok n w' =>
    cases n with
    | value u => obtain ⟨rfl, rfl⟩ := h; exact ⟨hw, rfl⟩
    | skip => obtain ⟨rfl, rfl⟩ := h; exact ⟨hw, rfl⟩
    | enter f args => obtain ⟨rfl, hc⟩ := h; exact hc
    | _ => simp only [Oper.quietUpon] at h

theorem uponPh_of_plain {w : World} {v : Value} (hp : plainB o = true) (h : o.quietAt P a U w v) {C : World → Prop} (hw : C w) : uponPh P C v ((execOp a.eval o).run P w) := by
  unfold Oper.quietAt at h
  have hn := plain_noEnter (P := P) hp a.eval w
  generalize (execOp a.eval o).run P w = r at *
  cases r with
  | halt x w' => simp only [Oper.quietUpon] at h
  | ok n w' =>
    cases n with
    | value u => obtain ⟨rfl, rfl⟩ := h; exact ⟨hw, rfl⟩
    | skip => obtain ⟨rfl, rfl⟩ := h; exact ⟨hw, rfl⟩
    | enter f args => exact hn.elim
    | _ => simp only [Oper.quietUpon] at h

theorem wanted_none (hg : o.guard = none) (y : Nat → Option Bool) : Region.wanted o y = true := by simp [Region.wanted, hg]

theorem T_quiet (hks : (k == s) = false) (hg : o.guard = none) (hp : plainB o = true)
    (h : ∀ K : Act → Prop, (∀ a, wpT P ops s D U Q (k + 1) rest a → K a) → o.quiet P a U K) : wpT P ops s D U Q k (o :: rest) a := fun hU => by
  obtain ⟨v, h1, h2⟩ := h (fun a => wpPh P ops (phC s D) Q (k + 1) rest a) (fun a h => h hU)
  exact ⟨v, .inl ⟨wanted_none hg _, fun L w _ hC => uponPh_of_plain hp (h1 w (hU _ _ hC)) ((phC_set hks).2 hC)⟩, h2⟩

theorem T_move (hks : (k == s) = false) (hg : o.guard = none) (x : Operand) (ho : o.op = .move x ∨ o.op = .assign x)
    (h : wpT P ops s D U Q (k + 1) rest (a.put o.dst (a.eval x))) : wpT P ops s D U Q k (o :: rest) a := fun hU =>
  ⟨_, .inl ⟨wanted_none hg _, fun L w _ hC => by
    have : (execOp a.eval o).run P w = .ok (.value (a.eval x)) w := by unfold execOp; rcases ho with ho | ho <;> rw [ho] <;> rfl
    rw [this]; exact ⟨(phC_set hks).2 hC, rfl⟩⟩, h hU⟩

theorem T_call {v : Value} (hks : (k == s) = false) (hg : o.guard = none)
    (h1 : ∀ b w, D b w → o.quietAt P a (D b) w v) (h2 : ∀ K : Act → Prop, (∀ a, wpT P ops s D U Q (k + 1) rest a → K a) → K (a.put o.dst v)) : wpT P ops s D U Q k (o :: rest) a := fun hU => by
  refine ⟨v, .inl ⟨wanted_none hg _, fun L w _ hC => ?_⟩, h2 (fun a => wpPh P ops (phC s D) Q (k + 1) rest a) (fun a h => h hU)⟩
  have := uponPh_of_quietUpon (h1 _ w hC) hC
  have e : phC s D (L.setIfInBounds k true) = D (L.getD s true) := by funext w; exact propext (phC_set hks)
  rw [e]; exact this

theorem T_write {v : Value} (hks : (k == s) = true) (hg : o.guard = none)
    (h1 : ∀ w, D false w → uponPh P (D true) v ((execOp a.eval o).run P w)) (h2 : ∀ K : Act → Prop, (∀ a, wpT P ops s D U Q (k + 1) rest a → K a) → K (a.put o.dst v)) : wpT P ops s D U Q k (o :: rest) a := fun hU => by
  refine ⟨v, .inl ⟨wanted_none hg _, fun L w hL hC => ?_⟩, h2 (fun a => wpPh P ops (phC s D) Q (k + 1) rest a) (fun a h => h hU)⟩
  obtain rfl : k = s := by simpa using hks
  have e : phC k D (L.setIfInBounds k true) = D true := by funext w; unfold phC; rw [getD_set_true (.inr rfl)]
  rw [e]
  unfold phC at hC
  rw [hL] at hC
  exact h1 w hC
theorem uponPh_value {D' : World → Prop} {v : Value} {w : World} (h : D' w) : uponPh P D' v (.ok (.value v) w) := ⟨h, rfl⟩

theorem T_store (hks : (k == s) = true) (hg : o.guard = none) (hd : o.dst = none)
    (h1 : ∀ w, D false w → uponPh P (D true) undef ((execOp a.eval o).run P w)) (h2 : wpT P ops s D U Q (k + 1) rest a) : wpT P ops s D U Q k (o :: rest) a := fun hU => by
  refine ⟨undef, .inl ⟨wanted_none hg _, fun L w hL hC => ?_⟩, by rw [hd]; exact h2 hU⟩
  obtain rfl : k = s := by simpa using hks
  have e : phC k D (L.setIfInBounds k true) = D true := by funext w; unfold phC; rw [getD_set_true (.inr rfl)]
  rw [e]
  unfold phC at hC
  rw [hL] at hC
  exact h1 w hC

/-- what a slot holds -/
def slotOf (ops : Array Oper) (a : Act) (j : Nat) : Value := ((ops[j]?).bind (·.dst)).elim undef fun d => a.tmps.getD d undef

theorem yielded_slot {j : Nat} {c g : Bool} (h : slotOf ops a j = gv c (.bool g)) : yielded ops a.tmps j = if c then some g else none := by
  unfold slotOf at h
  unfold yielded
  cases hd : (ops[j]?).bind (·.dst) with
  | none => cases c <;> simp [hd, gv, undef] at h ⊢
  | some d =>
    simp only [hd, Option.elim_some] at h
    simp only [Option.bind_some]
    rcases Nat.lt_or_ge d a.tmps.size with hlt | hge
    · simp only [Array.getD, hlt, dite_true] at h
      have h' : a.tmps[d]? = some (gv c (.bool g)) := by rw [Array.getElem?_eq_getElem hlt]; exact congrArg some h
      rw [h']
      cases c <;> simp [gv, undef]
    · have h' : a.tmps[d]? = none := by simp [hge]
      rw [h']
      cases c with
      | true => simp [Array.getD, Nat.not_lt.2 hge, gv, undef] at h
      | false => rfl

theorem lazy_core {v : Value} {c g want : Bool} {j : Nat} (hks : (k == s) = false) (hg : o.guard = some (j, want)) (hy : yielded ops a.tmps j = if c then some g else none)
    (h1 : c = true → g = want → ∀ L w, L.getD k true = false → phC s D L w → uponPh P (phC s D (L.setIfInBounds k true)) v ((execOp a.eval o).run P w)) :
    YieldsPh P ops (phC s D) k o (gv (c && (g == want)) v) a := by
  by_cases hgw : c = true ∧ g = want
  · obtain ⟨rfl, rfl⟩ := hgw
    refine .inl ⟨by simp [Region.wanted, hg, hy], ?_⟩
    simp only [beq_self_eq_true, Bool.and_self, gv_true]
    exact h1 rfl rfl
  · have e : (c && (g == want)) = false := by
      cases c with
      | false => rfl
      | true => simpa using hgw
    refine .inr ⟨?_, ?_, fun L w _ hC => (phC_set hks).2 hC⟩
    · cases c with
      | false => simp [Region.wanted, hg, hy]
      | true =>
        have : g ≠ want := by simpa using hgw
        simp [Region.wanted, hg, hy, this]
    · rw [e]; rfl

/-- a guard that is not decided: the value stands where it says yes -/
theorem T_lazy {v : Value} {j : Nat} {want g : Bool} (hks : (k == s) = false) (hg : o.guard = some (j, want)) (hy : slotOf ops a j = .bool g) (hp : plainB o = true)
    (h1 : g = want → ∀ w, U w → o.quietAt P a U w v) (h2 : ∀ K : Act → Prop, (∀ a, wpT P ops s D U Q (k + 1) rest a → K a) → K (a.put o.dst (gv (g == want) v))) : wpT P ops s D U Q k (o :: rest) a := fun hU =>
  ⟨_, lazy_core (c := true) hks hg (yielded_slot (c := true) hy) (fun _ hgw L w _ hC => uponPh_of_plain hp (h1 hgw w (hU _ _ hC)) ((phC_set hks).2 hC)),
    h2 (fun a => wpPh P ops (phC s D) Q (k + 1) rest a) (fun a h => h hU)⟩
theorem T_lazy2 {v : Value} {j : Nat} {want c g : Bool} (hks : (k == s) = false) (hg : o.guard = some (j, want)) (hy : slotOf ops a j = gv c (.bool g)) (hp : plainB o = true)
    (h1 : c = true → g = want → ∀ w, U w → o.quietAt P a U w v) (h2 : ∀ K : Act → Prop, (∀ a, wpT P ops s D U Q (k + 1) rest a → K a) → K (a.put o.dst (gv (c && (g == want)) v))) : wpT P ops s D U Q k (o :: rest) a := fun hU =>
  ⟨_, lazy_core hks hg (yielded_slot hy) (fun hc hgw L w _ hC => uponPh_of_plain hp (h1 hc hgw w (hU _ _ hC)) ((phC_set hks).2 hC)),
    h2 (fun a => wpPh P ops (phC s D) Q (k + 1) rest a) (fun a h => h hU)⟩

theorem lazy_call_core {v : Value} {L : Array Bool} {w : World} (hks : (k == s) = false) (h : o.quietAt P a (D (L.getD s true)) w v) (hC : phC s D L w) :
    uponPh P (phC s D (L.setIfInBounds k true)) v ((execOp a.eval o).run P w) := by
  have := uponPh_of_quietUpon h hC
  have e : phC s D (L.setIfInBounds k true) = D (L.getD s true) := by funext w; exact propext (phC_set hks)
  rw [e]; exact this
theorem T_lazy_call {v : Value} {j : Nat} {want g : Bool} (hks : (k == s) = false) (hg : o.guard = some (j, want)) (hy : slotOf ops a j = .bool g)
    (h1 : g = want → ∀ b w, D b w → o.quietAt P a (D b) w v) (h2 : ∀ K : Act → Prop, (∀ a, wpT P ops s D U Q (k + 1) rest a → K a) → K (a.put o.dst (gv (g == want) v))) : wpT P ops s D U Q k (o :: rest) a := fun hU =>
  ⟨_, lazy_core (c := true) hks hg (yielded_slot (c := true) hy) (fun _ hgw L w _ hC => lazy_call_core hks (h1 hgw _ w hC) hC),
    h2 (fun a => wpPh P ops (phC s D) Q (k + 1) rest a) (fun a h => h hU)⟩
theorem T_lazy2_call {v : Value} {j : Nat} {want c g : Bool} (hks : (k == s) = false) (hg : o.guard = some (j, want)) (hy : slotOf ops a j = gv c (.bool g))
    (h1 : c = true → g = want → ∀ b w, D b w → o.quietAt P a (D b) w v) (h2 : ∀ K : Act → Prop, (∀ a, wpT P ops s D U Q (k + 1) rest a → K a) → K (a.put o.dst (gv (c && (g == want)) v))) : wpT P ops s D U Q k (o :: rest) a := fun hU =>
  ⟨_, lazy_core hks hg (yielded_slot hy) (fun hc hgw L w _ hC => lazy_call_core hks (h1 hc hgw _ w hC) hC),
    h2 (fun a => wpPh P ops (phC s D) Q (k + 1) rest a) (fun a h => h hU)⟩

theorem run_pick {c x y : Operand} {b : Bool} (w : World) (ho : o.op = .pick c x y) (hc : a.eval c = .bool b) : (execOp a.eval o).run P w = .ok (.value (if b then a.eval x else a.eval y)) w := by
  unfold execOp; rw [ho]
  dsimp only
  rw [hc]
  cases b <;> rfl

theorem T_pick_and {c x : Operand} {b1 b2 : Bool} (hks : (k == s) = false) (hg : o.guard = none) (ho : o.op = .pick c x (.const (.bool false))) (hc : a.eval c = .bool b1) (hx : a.eval x = gv (b1 == true) (.bool b2))
    (h2 : ∀ K : Act → Prop, (∀ a, wpT P ops s D U Q (k + 1) rest a → K a) → K (a.put o.dst (.bool (b1 && b2)))) : wpT P ops s D U Q k (o :: rest) a := fun hU =>
  ⟨_, .inl ⟨wanted_none hg _, fun L w _ hC => by
    rw [run_pick w ho hc, hx]
    exact ⟨(phC_set hks).2 hC, by cases b1 <;> rfl⟩⟩, h2 (fun a => wpPh P ops (phC s D) Q (k + 1) rest a) (fun a h => h hU)⟩
theorem T_pick_or {c x : Operand} {b1 b2 : Bool} (hks : (k == s) = false) (hg : o.guard = none) (ho : o.op = .pick c (.const (.bool true)) x) (hc : a.eval c = .bool b1) (hx : a.eval x = gv (b1 == false) (.bool b2))
    (h2 : ∀ K : Act → Prop, (∀ a, wpT P ops s D U Q (k + 1) rest a → K a) → K (a.put o.dst (.bool (b1 || b2)))) : wpT P ops s D U Q k (o :: rest) a := fun hU =>
  ⟨_, .inl ⟨wanted_none hg _, fun L w _ hC => by
    rw [run_pick w ho hc, hx]
    exact ⟨(phC_set hks).2 hC, by cases b1 <;> rfl⟩⟩, h2 (fun a => wpPh P ops (phC s D) Q (k + 1) rest a) (fun a h => h hU)⟩
/-- a pick that itself stands behind a guard -/
theorem T_lazy_pick_and {c x : Operand} {b1 b2 want g : Bool} {j : Nat} (hks : (k == s) = false) (hg : o.guard = some (j, want)) (hy : slotOf ops a j = .bool g) (ho : o.op = .pick c x (.const (.bool false)))
    (hc : a.eval c = gv (g == want) (.bool b1)) (hx : a.eval x = gv ((g == want) && (b1 == true)) (.bool b2))
    (h2 : ∀ K : Act → Prop, (∀ a, wpT P ops s D U Q (k + 1) rest a → K a) → K (a.put o.dst (gv (g == want) (.bool (b1 && b2))))) : wpT P ops s D U Q k (o :: rest) a := fun hU =>
  ⟨_, lazy_core (c := true) hks hg (yielded_slot (c := true) hy) (fun _ hgw L w _ hC => by
    subst hgw
    simp only [beq_self_eq_true, gv_true, Bool.true_and] at hc hx
    rw [run_pick w ho hc, hx]
    exact ⟨(phC_set hks).2 hC, by cases b1 <;> rfl⟩), h2 (fun a => wpPh P ops (phC s D) Q (k + 1) rest a) (fun a h => h hU)⟩
theorem T_lazy_pick_or {c x : Operand} {b1 b2 want g : Bool} {j : Nat} (hks : (k == s) = false) (hg : o.guard = some (j, want)) (hy : slotOf ops a j = .bool g) (ho : o.op = .pick c (.const (.bool true)) x)
    (hc : a.eval c = gv (g == want) (.bool b1)) (hx : a.eval x = gv ((g == want) && (b1 == false)) (.bool b2))
    (h2 : ∀ K : Act → Prop, (∀ a, wpT P ops s D U Q (k + 1) rest a → K a) → K (a.put o.dst (gv (g == want) (.bool (b1 || b2))))) : wpT P ops s D U Q k (o :: rest) a := fun hU =>
  ⟨_, lazy_core (c := true) hks hg (yielded_slot (c := true) hy) (fun _ hgw L w _ hC => by
    subst hgw
    simp only [beq_self_eq_true, gv_true, Bool.true_and] at hc hx
    rw [run_pick w ho hc, hx]
    exact ⟨(phC_set hks).2 hC, by cases b1 <;> rfl⟩), h2 (fun a => wpPh P ops (phC s D) Q (k + 1) rest a) (fun a h => h hU)⟩
end

theorem getD_replicate (n s : Nat) : (Array.replicate n false).getD s true = decide (n ≤ s) := by
  by_cases h : s < n
  · simp [h]
  · simp [Nat.not_lt.1 h]

theorem wpList_of_ph {P : Program} {ops : Array Oper} {C : Array Bool → World → Prop} {Q : Act → Prop} {Q' : Exit → Act → World → Prop} (hQ : ∀ a w, (∃ L : Array Bool, (∀ j, L.getD j true = true) ∧ C L w) → Q a → Q' .normal a w) :
    ∀ (l : List Oper) (k : Nat) (L : Array Bool) (a : Act) (w : World), (∀ j, l[j]? = ops[k + j]?) → L.size = ops.size → (∀ j, j < k → L.getD j true = true) → (∀ j, k ≤ j → j < ops.size → L.getD j true = false) → C L w →
      wpPh P ops C Q k l a → wpList P ops Q' l a w
  | [], k, L, a, w, hl, hsz, h1, _, hC, h => hQ a w ⟨L, fun j => by
      have h0 := hl 0
      have hk : ops.size ≤ k := by
        rcases Nat.lt_or_ge k ops.size with h' | h'
        · simp [h'] at h0
        · exact h'
      rcases Nat.lt_or_ge j k with h' | h'
      · exact h1 j h'
      · have : L.size ≤ j := by omega
        simp [this], hC⟩ h
  | o :: l, k, L, a, w, hl, hsz, h1, h2, hC, ⟨v, hy, hK⟩ => by
    have h0 : ops[k]? = some o := by simpa using (hl 0).symm
    have hks : k < ops.size := by
      rcases Nat.lt_or_ge k ops.size with h' | h'
      · exact h'
      · simp [h'] at h0
    have hun : L.getD k true = false := h2 k (Nat.le_refl _) hks
    have hrec := fun w' (hC' : C (L.setIfInBounds k true) w') => wpList_of_ph (Q' := Q') hQ l (k + 1) (L.setIfInBounds k true) (a.put o.dst v) w'
      (fun j => by have := hl (j + 1); simpa [Nat.add_assoc, Nat.add_comm 1 j] using this) (by simp [hsz])
      (fun j hj => getD_set_true (by rcases Nat.lt_succ_iff_lt_or_eq.1 hj with h' | h'; exact .inl (h1 j h'); exact .inr h'))
      (fun j hj hj' => by rw [getD_set_ne true (by omega)]; exact h2 j (by omega) hj') hC' hK
    unfold wpList
    rcases hy with ⟨hw, hy⟩ | ⟨hw, rfl, hy⟩
    · rw [if_pos hw]
      exact .inl (wp_of_uponPh (hy L w hun hC) hrec)
    · rw [if_neg (by rw [hw]; exact Bool.false_ne_true)]
      exact hrec w (hy L w hun hC)

/-- a region in the order of the text, by the same walk -/
theorem wp_region_T0 {P : Program} {id : Nat} {Q : Exit → Act → World → Prop} {a : Act} {w : World} {l : List Oper} (s : Nat) (D : Bool → World → Prop) (U : World → Prop)
    (hU : ∀ b w, D b w → U w) (h0 : D (decide (l.length ≤ s)) w)
    (h : wpT P l.toArray s D U (fun a' => ∀ w', D true w' → Q .normal a' w') 0 l a) : (Code.region id l.toArray false).wp P Q a w := by
  refine wp_region_lit (wpList_of_ph (C := phC s D) (Q := fun a => ∀ w, D true w → Q .normal a w) (fun a w ⟨L, hL, hC⟩ hQ => hQ w (by unfold phC at hC; rwa [hL s] at hC)) l 0 (Array.replicate l.length false) a w (by simp) (by simp) (by simp) (fun j _ hj => ?_) ?_ (h hU))
  · have hj' : j < l.length := by simpa using hj
    simp [hj']
  · unfold phC; rw [getD_replicate]; exact h0

theorem wp_region_T {P : Program} {id : Nat} {Q : Exit → Act → World → Prop} {a : Act} {w : World} {l : List Oper} (s : Nat) (D : Bool → World → Prop) (U : World → Prop)
    (hm : P.follows .mixedOrders = true) (hB : Region.lexB .any l.toArray = true) (hU : ∀ b w, D b w → U w) (h0 : D (decide (l.length ≤ s)) w.drew)
    (h : wpT P l.toArray s D U (fun a' => ∀ w', D true w' → Q .normal a' w') 0 l a) : (Code.region id l.toArray true).wp P Q a w := by
  simp only [Region.lexB, Bool.and_eq_true] at hB
  refine wp_region_any hm (wpAny_of_ph (C := phC s D) (Q := fun L a => (∀ j, L.getD j true = true) ∧ ∀ w, D true w → Q .normal a w) (fun L a w hC hQ => hQ.2 w (by unfold phC at hC; rwa [hQ.1 s] at hC)) _ _ _ _ ?_ ?_)
  · unfold phC; rw [getD_replicate]; simpa using h0
  · have := wpAnyPh_lex (P := P) (md := .any) (ops := l.toArray) (C := phC s D) (Q := fun L a => (∀ j, L.getD j true = true) ∧ ∀ w, D true w → Q .normal a w) hB.1 l 0 (Array.replicate l.toArray.size false) a (by simp)
      (fun j hj => by rw [getD_replicate]; simpa using hj) (by simpa using hB.2) (wpPh_mono (fun a ha L hL => ⟨hL, ha⟩) l 0 a (h hU))
    simpa using this
end Go.Lp
