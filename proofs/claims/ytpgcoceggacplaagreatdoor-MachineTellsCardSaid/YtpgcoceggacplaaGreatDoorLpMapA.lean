/- Where a new area goes. -/
import Derived.Test.YtpgcoceggacplaaGreatDoorLpIns2
set_option linter.unusedVariables false
set_option linter.unusedSimpArgs false
set_option maxRecDepth 20000
namespace Go.Lp
open Go.RowKit
theorem filter_take {α : Type} (p : α → Bool) (l : List α) (k : Nat) (h1 : ∀ i (hi : i < l.length), i < k → p l[i] = true) (h2 : ∀ i (hi : i < l.length), k ≤ i → p l[i] = false) : l.filter p = l.take k ∧ l.filter (fun x => !p x) = l.drop k := by
  have e : l = l.take k ++ l.drop k := (List.take_append_drop k l).symm
  have a1 : (l.take k).filter p = l.take k := by
    rw [List.filter_eq_self]
    intro a ha
    obtain ⟨j, hj, rfl⟩ := List.getElem_of_mem ha
    rw [List.getElem_take]
    simp at hj
    exact h1 _ _ (by omega)
  have a2 : (l.drop k).filter p = [] := by
    rw [List.filter_eq_nil_iff]
    intro a ha
    obtain ⟨j, hj, rfl⟩ := List.getElem_of_mem ha
    rw [List.getElem_drop]
    simp [h2 (k + j) (by simp at hj; omega) (by omega)]
  have a3 : (l.take k).filter (fun x => !p x) = [] := by
    rw [List.filter_eq_nil_iff]
    intro a ha
    obtain ⟨j, hj, rfl⟩ := List.getElem_of_mem ha
    rw [List.getElem_take]
    simp at hj
    simp [h1 j (by omega) (by omega)]
  have a4 : (l.drop k).filter (fun x => !p x) = l.drop k := by
    rw [List.filter_eq_self]
    intro a ha
    obtain ⟨j, hj, rfl⟩ := List.getElem_of_mem ha
    rw [List.getElem_drop]
    simp [h2 (k + j) (by simp at hj; omega) (by omega)]
  constructor
  · conv => lhs; rw [e]
    rw [List.filter_append, a1, a2, List.append_nil]
  · conv => lhs; rw [e]
    rw [List.filter_append, a3, a4, List.nil_append]
theorem lo_ex (key : Nat → Int) (t : Int) : ∀ (n : Nat), (∀ i j, i ≤ j → j < n → key i ≤ key j) → ∃ k, Lo key n t k
  | 0, _ => ⟨0, Nat.le_refl _, by omega, by omega⟩
  | n + 1, h => by
    obtain ⟨k, h1, h2, h3⟩ := lo_ex key t n (fun i j hij hj => h i j hij (by omega))
    by_cases hk : k < n
    · refine ⟨k, by omega, h2, fun i hi hin => ?_⟩
      have a := h3 k (Nat.le_refl _) hk
      have b := h k i hi hin
      omega
    · obtain rfl : k = n := by omega
      by_cases hn : key k < t
      · refine ⟨k + 1, Nat.le_refl _, fun i hi => ?_, by omega⟩
        rcases Nat.lt_succ_iff_lt_or_eq.1 hi with h | rfl
        · exact h2 i h
        · exact hn
      · refine ⟨k, by omega, h2, fun i hi hin => ?_⟩
        obtain rfl : i = k := by omega
        omega
end Go.Lp
namespace Go.Proofs.YtpgcoceggacplaaGreatDoor
open Go.RowKit Go.Lp
theorem mem_at {S : List Pt} {i : Nat} (hi : i < S.length) : (mem S)[i]? = some ((S.getD i default).ar, (S.getD i default).bytes) := by
  simp [mem, List.getD, hi]
theorem meets_iff {S : List Pt} (h : Inv S) {A : Ar} (hr : rightA A = true) {k : Nat} (hlo : Lo (ptKey S) S.length A.at_ k) :
    (mem S).any (meets A) = true ↔ (k < S.length ∧ ptKey S k = A.at_) ∨ (k < S.length ∧ (S.getD k default).ar.at_ < A.at_ + A.size) ∨ ∃ j : Nat, (k : Int) - 1 = j ∧ A.at_ < (S.getD j default).ar.at_ + (S.getD j default).ar.size := by
  obtain ⟨r1, r2, r3, r4, r5, r6, r7, r8⟩ := rightA_iff.1 hr
  obtain ⟨l1, l2, l3⟩ := hlo
  have mk : ∀ i, i < S.length → (S.getD i default).ar.at_ < A.at_ + A.size → A.at_ < (S.getD i default).ar.at_ + (S.getD i default).ar.size → (mem S).any (meets A) = true := fun i hi h1 h2 => by
    rw [List.any_eq_true]
    exact ⟨_, List.mem_of_getElem? (mem_at hi), by unfold meets; rw [decide_eq_true h1, decide_eq_true h2]; rfl⟩
  constructor
  · intro hm
    rw [List.any_eq_true] at hm
    obtain ⟨x, hx, hmx⟩ := hm
    obtain ⟨i, hi, rfl⟩ := List.getElem_of_mem hx
    have hi' : i < S.length := by simpa using hi
    have e := mem_at hi'
    rw [List.getElem?_eq_getElem hi] at e
    injection e with e
    rw [e] at hmx
    simp only [meets, Bool.and_eq_true, decide_eq_true_eq] at hmx
    by_cases hik : k ≤ i
    · have hk : k < S.length := by omega
      have := h.key_le k i hik hi'
      unfold ptKey at this
      exact .inr (.inl ⟨hk, by omega⟩)
    · by_cases hik' : i = k - 1
      · subst hik'; exact .inr (.inr ⟨k - 1, by omega, hmx.2⟩)
      · have h1 := h.key_lt (show i < k - 1 by omega) (show k - 1 < S.length by omega)
        have h2 := l2 (k - 1) (by omega)
        unfold ptKey at h2
        omega
  · rintro (⟨h1, h2⟩ | ⟨h1, h2⟩ | ⟨j, hj, h2⟩)
    · have := rightA_iff.1 (h.rightAt h1)
      unfold ptKey at h2
      exact mk k h1 (by omega) (by omega)
    · have := rightA_iff.1 (h.rightAt h1)
      have := l3 k (Nat.le_refl _) h1
      unfold ptKey at this
      exact mk k h1 h2 (by omega)
    · have hjl : j < S.length := by omega
      have := l2 j (by omega)
      unfold ptKey at this
      exact mk j hjl (by omega) h2
theorem fit_mem {S : List Pt} (h : Inv S) {A : Ar} (hr : rightA A = true) {k : Nat} (hlo : Lo (ptKey S) S.length A.at_ k) (hno : ¬ ((k < S.length ∧ ptKey S k = A.at_) ∨ (k < S.length ∧ (S.getD k default).ar.at_ < A.at_ + A.size) ∨ ∃ j : Nat, (k : Int) - 1 = j ∧ A.at_ < (S.getD j default).ar.at_ + (S.getD j default).ar.size)) :
    MInv ((mem S).take k ++ [(A, List.replicate A.size.toNat 0)] ++ (mem S).drop k) := by
  obtain ⟨r1, r2, r3, r4, r5, r6, r7, r8⟩ := rightA_iff.1 hr
  obtain ⟨l1, l2, l3⟩ := hlo
  have hm := inv_mem.1 h
  have sub : ∀ x, x ∈ (mem S).take k ∨ x ∈ (mem S).drop k → x ∈ mem S := fun x hx => hx.elim List.mem_of_mem_take List.mem_of_mem_drop
  have hl : ∀ x ∈ (mem S).take k, x.1.at_ + x.1.size ≤ A.at_ := fun x hx => by
    obtain ⟨i, hi, rfl⟩ := List.getElem_of_mem hx
    rw [List.getElem_take]
    have hi' : i < k ∧ i < S.length := by simp at hi; omega
    have e := mem_at hi'.2
    rw [List.getElem?_eq_getElem (by simpa using hi'.2)] at e
    injection e with e
    rw [e]
    by_cases hik : i = k - 1
    · have : ¬ A.at_ < (S.getD i default).ar.at_ + (S.getD i default).ar.size := fun hlt => hno (.inr (.inr ⟨i, by omega, hlt⟩))
      simp only; omega
    · have h1 := h.key_lt (show i < k - 1 by omega) (show k - 1 < S.length by omega)
      have h2 := l2 (k - 1) (by omega)
      unfold ptKey at h2
      simp only; omega
  have hg : ∀ x ∈ (mem S).drop k, A.at_ + A.size ≤ x.1.at_ := fun x hx => by
    obtain ⟨i, hi, rfl⟩ := List.getElem_of_mem hx
    rw [List.getElem_drop]
    have hi' : k + i < S.length := by simp at hi; omega
    have e := mem_at hi'
    rw [List.getElem?_eq_getElem (by simpa using hi')] at e
    injection e with e
    rw [e]
    have hk : k < S.length := by omega
    have : ¬ (S.getD k default).ar.at_ < A.at_ + A.size := fun hlt => hno (.inr (.inl ⟨hk, hlt⟩))
    have h1 := h.key_le k (k + i) (by omega) hi'
    unfold ptKey at h1
    simp only; omega
  refine ⟨fun x hx => ?_, ?_, fun x hx => ?_⟩
  · simp only [List.mem_append, List.mem_singleton] at hx
    rcases hx with (hx | rfl) | hx
    · exact hm.right x (sub x (.inl hx))
    · exact hr
    · exact hm.right x (sub x (.inr hx))
  · rw [List.pairwise_append, List.pairwise_append]
    refine ⟨⟨hm.asc.sublist (List.take_sublist _ _), List.pairwise_singleton _ _, fun x hx y hy => ?_⟩, hm.asc.sublist (List.drop_sublist _ _), fun x hx y hy => ?_⟩
    · rw [List.mem_singleton.1 hy]; exact hl x hx
    · rcases List.mem_append.1 hx with hx | hx
      · have := hl x hx; have := hg y hy; omega
      · rw [List.mem_singleton.1 hx]; exact hg y hy
  · simp only [List.mem_append, List.mem_singleton] at hx
    rcases hx with (hx | rfl) | hx
    · exact hm.len x (sub x (.inl hx))
    · simp; omega
    · exact hm.len x (sub x (.inr hx))
end Go.Proofs.YtpgcoceggacplaaGreatDoor
