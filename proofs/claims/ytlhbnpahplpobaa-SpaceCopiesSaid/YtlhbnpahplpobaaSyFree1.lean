/- Cutting spans keeps a list right. -/
import Derived.Test.YtlhbnpahplpobaaSyRoom4
set_option linter.unusedVariables false
set_option linter.unusedSimpArgs false
namespace Go.Proofs.Ytlhbnpahplpobaa
open Go.RowKit Go.Lp Go.Sy
structure RightP (l : List Span) : Prop where
  ok : ∀ p ∈ l, 0 ≤ p.1 ∧ p.1 ≤ 1099511627776 ∧ 0 < p.2 ∧ p.2 ≤ 1099511627776 - p.1
  gap : l.Pairwise fun p q => p.1 + p.2 < q.1
theorem okAt_iff {l : List Span} {i : Nat} {p : Span} : okAt l i p = true ↔ validB p.1 p.2 = true ∧ p.2 ≠ 0 ∧ (0 < i → (l.getD (i - 1) (0, 0)).1 + (l.getD (i - 1) (0, 0)).2 < p.1) := by
  unfold okAt
  cases hv : validB p.1 p.2 with
  | false => simp
  | true =>
    simp only [Bool.not_true, Bool.false_or, Bool.not_eq_true', Bool.or_eq_false_iff, decide_eq_false_iff_not, Bool.and_eq_false_iff, true_and]
    constructor
    · rintro ⟨h1, h2⟩
      refine ⟨h1, fun hi => ?_⟩
      rcases h2 with h2 | h2
      · omega
      · omega
    · rintro ⟨h1, h2⟩
      refine ⟨h1, ?_⟩
      by_cases hi : 0 < i
      · right; have := h2 hi; omega
      · left; omega
theorem RightP.of {l : List Span} (h : rightB l = true) : RightP l := by
  have h0 := rightB_iff.1 h
  have hv : ∀ (i : Nat) (p : Span), l[i]? = some p → 0 ≤ p.1 ∧ p.1 ≤ 1099511627776 ∧ 0 < p.2 ∧ p.2 ≤ 1099511627776 - p.1 := fun i p hp => by
    obtain ⟨h1, h2, _⟩ := okAt_iff.1 (h0 i p hp)
    obtain ⟨a, b, c, d⟩ := validB_iff.1 h1
    omega
  refine ⟨fun p hp => ?_, ?_⟩
  · obtain ⟨i, hi, rfl⟩ := List.getElem_of_mem hp
    exact hv i _ (by simp [hi])
  · rw [List.pairwise_iff_getElem]
    intro i j hi hj hij
    induction j with
    | zero => omega
    | succ j ih =>
      have hjl : j < l.length := by omega
      obtain ⟨_, _, h3⟩ := okAt_iff.1 (h0 (j + 1) l[j + 1] (by simp [hj]))
      have h4 := h3 (by omega)
      simp only [Nat.add_sub_cancel, List.getD, List.getElem?_eq_getElem hjl, Option.getD_some] at h4
      by_cases hij' : i = j
      · subst hij'; exact h4
      · have := ih hjl (by omega)
        have := hv j l[j] (by simp [hjl])
        omega
theorem RightP.to {l : List Span} (h : RightP l) : rightB l = true := by
  rw [rightB_iff]
  intro i p hp
  have hmem := h.ok p (List.mem_of_getElem? hp)
  rw [okAt_iff]
  refine ⟨validB_iff.2 (by omega), by omega, fun hi => ?_⟩
  have hil := (List.getElem?_eq_some_iff.1 hp).1
  have := List.pairwise_iff_getElem.1 h.gap (i - 1) i (by omega) hil (by omega)
  have e : l[i] = p := by rw [List.getElem?_eq_getElem hil] at hp; injection hp
  rw [e] at this
  simpa [List.getD, show i - 1 < l.length by omega] using this
/-- the pieces of a span -/
def pieces (x n : Int) (p : Span) : List Span := keepL p.1 (min (p.1 + p.2) x) ++ keepL (max p.1 (x + n)) (p.1 + p.2)
theorem mem_keepL {f u : Int} {p : Span} : p ∈ keepL f u ↔ f < u ∧ p = (f, u - f) := by
  unfold keepL
  split
  · rename_i h; simp [h]
  · rename_i h; simp [h]
theorem pieces_in {x n : Int} {p q : Span} (h : q ∈ pieces x n p) : 0 < q.2 ∧ p.1 ≤ q.1 ∧ q.1 + q.2 ≤ p.1 + p.2 ∧ ((q.1 + q.2 ≤ x ∧ q.1 = p.1) ∨ (x + n ≤ q.1 ∧ q.1 + q.2 = p.1 + p.2)) := by
  unfold pieces at h
  rcases List.mem_append.1 h with h | h
  · obtain ⟨h1, rfl⟩ := mem_keepL.1 h; exact ⟨by simp only; omega, by simp only; omega, by simp only; omega, .inl ⟨by simp only; omega, rfl⟩⟩
  · obtain ⟨h1, rfl⟩ := mem_keepL.1 h; exact ⟨by simp only; omega, by simp only; omega, by simp only; omega, .inr ⟨by simp only; omega, by simp only; omega⟩⟩
theorem pieces_gap {x n : Int} (hn : 0 < n) (p : Span) : (pieces x n p).Pairwise fun a b => a.1 + a.2 < b.1 := by
  unfold pieces
  rw [List.pairwise_append]
  refine ⟨?_, ?_, fun a ha b hb => ?_⟩
  · unfold keepL; split <;> simp
  · unfold keepL; split <;> simp
  · obtain ⟨h1, rfl⟩ := mem_keepL.1 ha
    obtain ⟨h2, rfl⟩ := mem_keepL.1 hb
    simp only; omega
theorem cutL_cons (x n : Int) (p : Span) (l : List Span) : cutL x n (p :: l) = pieces x n p ++ cutL x n l := rfl
theorem mem_cutL {x n : Int} {l : List Span} {q : Span} : q ∈ cutL x n l ↔ ∃ p ∈ l, q ∈ pieces x n p := by
  unfold cutL; rw [List.mem_flatMap]; rfl
theorem cutL_right {x n : Int} {l : List Span} (h : RightP l) (hn : 0 < n) : RightP (cutL x n l) := by
  refine ⟨fun q hq => ?_, ?_⟩
  · obtain ⟨p, hp, hqp⟩ := mem_cutL.1 hq
    have := h.ok p hp
    have := pieces_in hqp
    omega
  · obtain ⟨hok, hgap⟩ := h
    induction l with
    | nil => exact List.Pairwise.nil
    | cons p l ih =>
      rw [cutL_cons, List.pairwise_append]
      obtain ⟨g1, g2⟩ := List.pairwise_cons.1 hgap
      refine ⟨pieces_gap hn p, ih (fun q hq => hok q (by simp [hq])) g2, fun a ha b hb => ?_⟩
      obtain ⟨q, hq, hbq⟩ := mem_cutL.1 hb
      have := g1 q hq
      have := pieces_in ha
      have := pieces_in hbq
      omega
theorem pieces_len {x n : Int} {p : Span} : (pieces x n p).length ≤ 1 ∨ ((pieces x n p).length = 2 ∧ x + n < p.1 + p.2) := by
  unfold pieces keepL
  split <;> split <;> simp <;> omega
theorem cutL_len1 {x n : Int} {l : List Span} (h : RightP l) (hn : 0 < n) : (cutL x n l).length ≤ l.length + 1 := by
  obtain ⟨hok, hgap⟩ := h
  induction l with
  | nil => simp [cutL]
  | cons p l ih =>
    obtain ⟨g1, g2⟩ := List.pairwise_cons.1 hgap
    have ih' := ih (fun q hq => hok q (by simp [hq])) g2
    rw [cutL_cons]
    simp only [List.length_append, List.length_cons]
    rcases @pieces_len x n p with h1 | ⟨h1, h2⟩
    · omega
    · have key : ∀ m : List Span, (∀ q ∈ m, x + n < q.1) → (cutL x n m).length ≤ m.length := by
        intro m
        induction m with
        | nil => intro _; simp [cutL]
        | cons q m ih2 =>
          intro hm
          have hq := hm q (by simp)
          have := ih2 (fun r hr => hm r (by simp [hr]))
          rw [cutL_cons]
          have : (pieces x n q).length ≤ 1 := by
            unfold pieces keepL
            rw [if_neg (by omega)]
            split <;> simp
          simp only [List.length_append, List.length_cons]; omega
      have := key l (fun q hq => by have := g1 q hq; omega)
      omega
end Go.Proofs.Ytlhbnpahplpobaa
