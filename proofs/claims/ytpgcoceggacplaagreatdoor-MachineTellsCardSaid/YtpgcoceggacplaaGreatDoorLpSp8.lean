/- Unmap of a space. -/
import Derived.Test.YtpgcoceggacplaaGreatDoorLpSp7
set_option linter.unusedVariables false
set_option linter.unusedSimpArgs false
set_option maxRecDepth 20000
namespace Go.Lp
open Go.RowKit
theorem filter_idx {α : Type} (p : α → Bool) (l : List α) (i : Nat) (hi : i < l.length) (h0 : p l[i] = false) (h1 : ∀ j (hj : j < l.length), j ≠ i → p l[j] = true) : l.filter p = l.take i ++ l.drop (i + 1) := by
  have e : l = l.take i ++ l[i] :: l.drop (i + 1) := by rw [← List.drop_eq_getElem_cons hi, List.take_append_drop]
  conv => lhs; rw [e]
  rw [List.filter_append, List.filter_cons_of_neg (by simp [h0])]
  congr 1
  · rw [List.filter_eq_self]
    intro a ha
    obtain ⟨j, hj, rfl⟩ := List.getElem_of_mem ha
    rw [List.getElem_take]
    simp at hj
    exact h1 _ _ (by omega)
  · rw [List.filter_eq_self]
    intro a ha
    obtain ⟨j, hj, rfl⟩ := List.getElem_of_mem ha
    rw [List.getElem_drop]
    exact h1 _ _ (by omega)
def without (S : List Pt) (i : Nat) : List Pt := S.take i ++ S.drop (i + 1)
theorem without_sub (S : List Pt) (i : Nat) : (without S i).Sublist S := by
  unfold without
  have : S = S.take i ++ S.drop i := (List.take_append_drop i S).symm
  conv => rhs; rw [this]
  refine List.Sublist.append (List.Sublist.refl _) ?_
  rw [← List.drop_drop]
  exact List.drop_sublist 1 _
theorem Inv.sub {S T : List Pt} (h : Inv S) (hs : T.Sublist S) : Inv T := ⟨fun q hq => h.right q (hs.subset hq), h.asc.sublist hs, fun q hq => h.len q (hs.subset hq)⟩
theorem Lo.uniq {key : Nat → Int} {n : Nat} {t : Int} {k i : Nat} (h : Lo key n t k) (hi : i < n) (he : key i = t) (hl : ∀ j, j < i → key j < t) : k = i := by
  obtain ⟨h1, h2, h3⟩ := h
  rcases Nat.lt_trichotomy k i with hlt | rfl | hlt
  · have := h3 k (Nat.le_refl _) (by omega)
    have := hl k hlt
    omega
  · rfl
  · have := h2 i hlt
    omega
end Go.Lp
namespace Go.Proofs.YtpgcoceggacplaaGreatDoor
open Go.RowKit Go.Lp Go.Deep

end Go.Proofs.YtpgcoceggacplaaGreatDoor
