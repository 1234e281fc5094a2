/- Regions that draw their order, walked once: the theory. No condition. -/
import Derived.Test.YtpgcoceggacplaaGreatDoorLpBase
import Derived.Still
set_option linter.unusedVariables false
set_option linter.unusedSimpArgs false
set_option maxRecDepth 20000
namespace Go.Lp
open Go.RowKit

/-! A region that draws its order, walked once in the order of the text; the class of worlds goes by which operations have come up (by the bit of one operation). -/
section
variable {P : Program} {ops : Array Oper} {md : Region.Mode}

/-- what is asked of an operation's outcome: value v, a world of the class -/
@[go_sem] def uponPh (P : Program) (D : World → Prop) (v : Value) : Result Next → Prop
  | .ok (.value u) w' => D w' ∧ u = v
  | .ok .skip w' => D w' ∧ v = undef
  | .ok (.enter f args) w' => Calls P f args w' (fun e w'' => e = .returned v ∧ D w'')
  | _ => False

def YieldsPh (P : Program) (ops : Array Oper) (C : Array Bool → World → Prop) (i : Nat) (o : Oper) (v : Value) (a : Act) : Prop :=
  (Region.wanted o (yielded ops a.tmps) = true ∧ ∀ L w, L.getD i true = false → C L w → uponPh P (C (L.setIfInBounds i true)) v ((execOp a.eval o).run P w)) ∨
  (Region.wanted o (yielded ops a.tmps) = false ∧ v = undef ∧ ∀ L w, L.getD i true = false → C L w → C (L.setIfInBounds i true) w)

def opPh (P : Program) (ops : Array Oper) (C : Array Bool → World → Prop) (i : Nat) (K : Act → Prop) (a : Act) : Prop :=
  ∃ o v, ops[i]? = some o ∧ YieldsPh P ops C i o v a ∧ K (a.put o.dst v)

variable {C : Array Bool → World → Prop}

theorem opPh_mono {i : Nat} {a : Act} {K K' : Act → Prop} (h : ∀ a, K a → K' a) (hh : opPh P ops C i K a) : opPh P ops C i K' a :=
  let ⟨o, v, ho, hy, hk⟩ := hh
  ⟨o, v, ho, hy, h _ hk⟩

def wpAnyPh (P : Program) (md : Region.Mode) (ops : Array Oper) (C : Array Bool → World → Prop) (Q : Array Bool → Act → Prop) : Nat → Array Bool → Act → Prop
  | 0, L, a => Region.ready md ops L = [] ∧ Q L a
  | n + 1, L, a =>
    (Region.ready md ops L = [] → Q L a) ∧ ∀ i ∈ Region.ready md ops L, opPh P ops C i (wpAnyPh P md ops C Q n (L.setIfInBounds i true)) a

theorem wp_of_uponPh {o : Oper} {a : Act} {w : World} {v : Value} {D : World → Prop} {K : Act → World → Prop} {Q : Exit → Act → World → Prop}
    (h : uponPh P D v ((execOp a.eval o).run P w)) (hk : ∀ w', D w' → K (a.put o.dst v) w') : o.wp P a w K Q := by
  unfold Oper.wp
  generalize (execOp a.eval o).run P w = r at *
  cases r with
  | halt x w' => simp only [uponPh] at h
  | ok n w' =>
    cases n with
    | value u => obtain ⟨h1, rfl⟩ := h; exact hk _ h1
    | skip => obtain ⟨h1, rfl⟩ := h; exact hk _ h1
    | enter f args => exact Calls.mono h fun e w'' ⟨he, hw⟩ => by subst he; exact hk _ hw
    | _ => simp only [uponPh] at h

theorem wpAny_of_ph {Q : Array Bool → Act → Prop} {Q' : Exit → Act → World → Prop} (hQ : ∀ L a w, C L w → Q L a → Q' .normal a w) :
    ∀ (n : Nat) (L : Array Bool) (a : Act) (w : World), C L w → wpAnyPh P md ops C Q n L a → wpAny P md ops Q' n L a w
  | 0, _, _, _, hw, h => ⟨h.1, hQ _ _ _ hw h.2⟩
  | n + 1, L, a, w, hw, h => ⟨fun h0 => hQ _ _ _ hw (h.1 h0), fun i hi => by
      obtain ⟨o, v, ho, hy, hk⟩ := h.2 i hi
      have hun := (mem_ready.1 hi).1
      unfold wpOp
      simp only [ho]
      rcases hy with ⟨hwant, hy⟩ | ⟨hwant, rfl, hy⟩
      · rw [if_pos hwant]
        exact .inl (wp_of_uponPh (hy L w hun hw) fun w' hw' => wpAny_of_ph hQ n _ _ w' hw' hk)
      · rw [if_neg (by rw [hwant]; exact Bool.false_ne_true)]
        exact wpAny_of_ph hQ n _ _ w (hy L w hun hw) hk⟩

theorem YieldsPh.of_same {i : Nat} {o : Oper} {v : Value} {a a' : Act} (hy : YieldsPh P ops C i o v a) (he : execOp a'.eval o = execOp a.eval o)
    (hw : Region.wanted o (yielded ops a'.tmps) = Region.wanted o (yielded ops a.tmps)) : YieldsPh P ops C i o v a' := by
  unfold YieldsPh at *
  rw [he, hw]
  exact hy

/-- 'i' may be taken first -/
theorem wpAnyPh_first {Q : Array Bool → Act → Prop} {i : Nat} {oi : Oper} {v : Value} (hi : ops[i]? = some oi) (hsel : ∀ (j : Nat) (o : Oper) cs b, ops[j]? = some o → o.op ≠ .select cs b) :
    ∀ (n : Nat) (L : Array Bool) (a : Act),
      (∀ j oj, ops[j]? = some oj → j ≠ i → L.getD j true = false → (∀ e ∈ oj.after, Region.binds md e = true → e.on ≠ i) → oi.apart ops oj = true) →
      i ∈ Region.ready md ops L → YieldsPh P ops C i oi v a →
      wpAnyPh P md ops C Q n (L.setIfInBounds i true) (a.put oi.dst v) → wpAnyPh P md ops C Q (n + 1) L a := by
  intro n
  induction n with
  | zero =>
    intro L a _ hr hy H
    refine ⟨fun h => (by rw [h] at hr; cases hr), fun j hj => ?_⟩
    by_cases hji : j = i
    · subst hji; exact ⟨oi, v, hi, hy, H⟩
    · have := ready_mono hj hji
      rw [H.1] at this
      cases this
  | succ n ih =>
    intro L a hfree hr hy H
    refine ⟨fun h => (by rw [h] at hr; cases hr), fun j hj => ?_⟩
    by_cases hji : j = i
    · subst hji; exact ⟨oi, v, hi, hy, H⟩
    · obtain ⟨oj, u, hoj, hyj, hK⟩ := H.2 j (ready_mono hj hji)
      obtain ⟨hjun, oj', hoj', hall⟩ := mem_ready.1 hj
      obtain rfl : oj = oj' := Option.some.inj (hoj.symm.trans hoj')
      have hnot : ∀ e ∈ oj.after, Region.binds md e = true → e.on ≠ i := fun e he hb heq => by
        have h1 := hall e he hb
        have h0 := (mem_ready.1 hr).1
        rw [heq] at h1
        rcases Nat.lt_or_ge i L.size with h' | h'
        · simp [h'] at h0 h1; rw [h0] at h1; cases h1
        · simp [Array.getElem?_eq_none h'] at h1
      obtain ⟨p1, p2, p3⟩ := Oper.apart_spec (hfree j oj hoj hji hjun hnot)
      have hyj' : YieldsPh P ops C j oj u a := hyj.of_same (execOp_put oj (fun cs b => hsel j oj cs b hoj) a oi.dst v p1).symm (wanted_put oj a oi.dst v p1).symm
      have hyi' : YieldsPh P ops C i oi v (a.put oj.dst u) := hy.of_same (execOp_put oi (fun cs b => hsel i oi cs b hi) a oj.dst u p3) (wanted_put oi a oj.dst u p3)
      have hfree' : ∀ k ok, ops[k]? = some ok → k ≠ i → (L.setIfInBounds j true).getD k true = false →
          (∀ e ∈ ok.after, Region.binds md e = true → e.on ≠ i) → oi.apart ops ok = true := fun k ok hk hki hun hno => by
        refine hfree k ok hk hki ?_ hno
        by_cases hjk : j = k
        · subst hjk; exact hjun
        · rw [getD_set_ne true hjk] at hun; exact hun
      refine ⟨oj, u, hoj, hyj', ih _ _ hfree' (ready_mono hr (Ne.symm hji)) hyi' ?_⟩
      rw [Array.setIfInBounds_comm _ _ hji, Act.put_comm a u v (fun d hd hd' => p2 d hd' hd)]
      exact hK

/-- the walk in the order of the text from operation number k on -/
def wpPh (P : Program) (ops : Array Oper) (C : Array Bool → World → Prop) (Q : Act → Prop) : Nat → List Oper → Act → Prop
  | _, [], a => Q a
  | k, o :: rest, a => ∃ v, YieldsPh P ops C k o v a ∧ wpPh P ops C Q (k + 1) rest (a.put o.dst v)

theorem getD_set_true {L : Array Bool} {k j : Nat} (h : L.getD j true = true ∨ j = k) : (L.setIfInBounds k true).getD j true = true := by
  by_cases hjk : k = j
  · subst hjk
    rcases Nat.lt_or_ge k L.size with h' | h'
    · simp [h']
    · simp
  · rw [getD_set_ne true hjk]; exact h.resolve_right (Ne.symm hjk)

theorem wpAnyPh_lex {Q : Array Bool → Act → Prop} (hs : Region.noSelect ops = true) : ∀ (l : List Oper) (k : Nat) (L : Array Bool) (a : Act), (∀ j, l[j]? = ops[k + j]?) → (∀ j, j < k ∨ ops.size ≤ j → L.getD j true = true) →
    Region.lexFrom md ops l.length k L = true → wpPh P ops C (fun a => ∀ L, (∀ j, L.getD j true = true) → Q L a) k l a → wpAnyPh P md ops C Q l.length L a
  | [], k, L, _, hl, hL, hB, h => ⟨by simpa [Region.lexFrom] using hB, h L fun j => hL j (by
      have := hl 0
      rcases Nat.lt_or_ge k ops.size with h' | h'
      · simp [h'] at this
      · omega)⟩
  | o :: l, k, L, a, hl, hL, hB, h => by
    have h0 : ops[k]? = some o := by simpa using (hl 0).symm
    simp only [List.length_cons, Region.lexFrom, Bool.and_eq_true] at hB
    obtain ⟨⟨hr, hf⟩, hB'⟩ := hB
    obtain ⟨v, hy, hK⟩ := h
    exact wpAnyPh_first h0 (Region.noSelect_spec hs) l.length L a (Region.free_spec h0 hf) (by simpa using hr) hy
      (wpAnyPh_lex hs l (k + 1) _ _ (fun j => by have := hl (j + 1); simpa [Nat.add_assoc, Nat.add_comm 1 j] using this)
        (fun j hj => getD_set_true (by
          rcases hj with hj | hj
          · rcases Nat.lt_succ_iff_lt_or_eq.1 hj with h' | h'
            · exact .inl (hL j (.inl h'))
            · exact .inr h'
          · exact .inl (hL j (.inr hj)))) hB' hK)

theorem wpPh_mono {Q Q' : Act → Prop} (hq : ∀ a, Q a → Q' a) : ∀ (l : List Oper) (k : Nat) (a : Act), wpPh P ops C Q k l a → wpPh P ops C Q' k l a
  | [], _, _, h => hq _ h
  | _ :: l, k, _, ⟨v, hy, h⟩ => ⟨v, hy, wpPh_mono hq l (k + 1) _ h⟩
end
end Go.Lp
