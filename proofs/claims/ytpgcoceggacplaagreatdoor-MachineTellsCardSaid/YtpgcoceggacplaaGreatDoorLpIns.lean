/- Insert of one part into the row of a space. -/
import Derived.Test.YtpgcoceggacplaaGreatDoorLpSp8
set_option linter.unusedVariables false
set_option linter.unusedSimpArgs false
set_option maxRecDepth 20000
namespace Go.Lp
open Go.RowKit
def plus (S : List Pt) (i : Nat) (q : Pt) : List Pt := S.take i ++ [q] ++ S.drop i
theorem plus_length (S : List Pt) (i : Nat) (q : Pt) : (plus S i q).length = S.length + 1 := by unfold plus; simp; omega
theorem flat_plus (S : List Pt) (i : Nat) (q : Pt) : flat (plus S i q) = (flat S).take (i * 6) ++ q.vals ++ (flat S).drop (i * 6) := by
  unfold plus
  rw [flat_append, flat_append, flat_take, flat_drop]
  simp [flat]
theorem one_vals (q : Pt) : ∀ v ∈ q.vals, v.oneCell' = true := by
  have := one_flat [q]
  simpa [flat] using this
end Go.Lp
namespace Go.Proofs.YtpgcoceggacplaaGreatDoor
open Go.RowKit Go.Lp Go.Deep

/-- what Insert leaves -/
def InsRes (a : Option Nat) (T : List Pt) (W : World) (e : Ending) (w' : World) : Prop :=
  ∃ a' c', e = .returned (.slice (adr a') T.length c') ∧ RowAt w' a' c' T ∧ (a' = a ∨ ∃ B, a' = some B ∧ W.heap.size ≤ B) ∧ Keep a.toList W w'

theorem insert_part {w : World} {p : Nat} {a : Option Nat} {c : Nat} {S : List Pt} (h : SpAt w p a c S) (i : Nat) (hi : i ≤ S.length) (hnf : S.length < 4096) (q : Pt) (W : World) (hW : Below w.heap.size w W) (V : Nat)
    (hV : W.heap[V]? = some (.cells q.vals.toArray 83 (0, 0))) (hVn : w.heap.size ≤ V) :
    Calls Tryz.prog 41 #[.slice (adr a) S.length c, .int .i64 i, .slice (some ⟨V, 0, none⟩) 1 1] W fun e w' => InsRes a (plus S i q) W e w' := by
  have hVl := lt_of_heap hV
  have hV' : ∀ j v, q.vals[j]? = some v → W.cell? ⟨V, 0 + j, none⟩ = some v := fun j v hj => by rw [cell_of_heap hV, Nat.zero_add]; simpa using hj
  have hV'' : ∀ j v, q.vals[j]? = some v → W.cell? ⟨V, j, none⟩ = some v := fun j v hj => by have := hV' j v hj; rwa [Nat.zero_add] at this
  have h1 := one_vals q
  have hq6 : q.vals.length = 6 := rfl
  obtain ⟨i0, z, hi0, hz, hzs, hsz, hby⟩ := info_parts6
  have hsrc := fun W' (hc : ∀ j v, q.vals[j]? = some v → World.cell? W' ⟨V, 0 + j, none⟩ = some v) => Src.row (P := Tryz.prog) W' 96 83 Tryz.underlying96 i0.size V 0 1 1 q.vals (by rw [hsz, hq6]) hc h1
  have hfl := flat_plus S i q
  have hpl := plus_length S i q
  have hrow := h.row
  cases a with
  | none =>
    obtain ⟨rfl, rfl⟩ := hrow
    obtain rfl : i = 0 := by simpa using hi
    obtain ⟨C, w1, hC1, hC2, hrun, ⟨cur1, hg1, hl1, ht1⟩, hs1, hb1⟩ := append_grow (P := Tryz.prog) W 96 96 96 83 i0 z Tryz.underlying96 hi0 hz hzs none 0 0 1 [] (run_firstCells_none W.drew i0.size 0 0 0) (by simp) (.slice (some ⟨V, 0, none⟩) 1 1) q.vals (hsrc W hV') (by omega) (by omega) (by omega)
    refine (insert_end (.slice none 0 0) 0 V 1 W (Lib.hid ⟨_, _, hrun⟩) none 0 rfl (by omega)).mono fun e w' hw => ?_
    obtain ⟨v', hr, rfl⟩ := hw
    rw [hrun] at hr
    injection hr with e1 e2
    subst e1; subst e2
    refine ⟨some W.heap.size, C, by rw [hpl]; rfl, ⟨cur1, hg1, by rw [hl1, hsz], by rw [hpl]; exact hC1, hC2, ?_⟩, .inr ⟨_, rfl, Nat.le_refl _⟩, Keep.of_below hb1⟩
    rw [hpl, hfl, ← hsz]
    simpa [flat] using ht1
  | some B =>
    obtain ⟨cur, hB, hl, hS, hc, ht⟩ := hrow
    have hBl := lt_of_heap hB
    have hBW := (hW.block B hBl).trans hB
    have hBV : V ≠ B := by omega
    by_cases hin : i < S.length
    · by_cases hroom : c < S.length + 1
      · refine (insert_grow B S.length c i V 1 cur q.vals W hBW hl hS hin hroom (by omega) hV'' hVl hq6 h1 (by rw [ht]; exact one_flat S)).mono fun e w' hw => ?_
        obtain ⟨C, cur', rfl, h3, h4, h5, h6, h7, h8⟩ := hw
        refine ⟨some W.heap.size, C, by rw [hpl]; rfl, ⟨cur', h5, h6, by rw [hpl]; exact h3, h4, ?_⟩, .inr ⟨_, rfl, Nat.le_refl _⟩, Keep.of_below h8⟩
        rw [hpl, h7, hfl, ht]
      · refine (insert_room B S.length c i V 1 cur q.vals W hBW hl hin (by omega) (by omega) hc hV hBV hq6 h1 (by rw [ht]; exact one_flat S)).mono fun e w' hw => ?_
        obtain ⟨cur', rfl, h5, h6, h7, h8⟩ := hw
        refine ⟨some B, c, by rw [hpl]; rfl, ⟨cur', h5, h6, by rw [hpl]; omega, hc, ?_⟩, .inl rfl, Keep.of_upd h8 (by simp)⟩
        rw [hpl, h7, hfl, ht]
    · obtain rfl : i = S.length := by omega
      have hfl' : flat (plus S S.length q) = flat S ++ q.vals := by
        rw [hfl, List.take_of_length_le (by rw [flat_length]; omega), List.drop_eq_nil_of_le (by rw [flat_length]; omega), List.append_nil]
      by_cases hroom : c < S.length + 1
      · have hcc : c = S.length := by omega
        have hold := run_firstCells_row (P := Tryz.prog) W.drew B 0 i0.size S.length c cur 83 (0, 0) hBW (by rw [hsz]; omega)
        obtain ⟨C, w1, hC1, hC2, hrun, ⟨cur1, hg1, hl1, ht1⟩, hs1, hb1⟩ := append_grow (P := Tryz.prog) W 96 96 96 83 i0 z Tryz.underlying96 hi0 hz hzs (some ⟨B, 0, none⟩) S.length c 1 _ hold (by simp; rw [hsz]; omega) (.slice (some ⟨V, 0, none⟩) 1 1) q.vals (hsrc W hV') (by omega) (by omega) (by omega)
        refine (insert_end (.slice (some ⟨B, 0, none⟩) S.length c) S.length V 1 W (Lib.hid ⟨_, _, hrun⟩) (some ⟨B, 0, none⟩) c rfl (by omega)).mono fun e w' hw => ?_
        obtain ⟨v', hr, rfl⟩ := hw
        rw [hrun] at hr
        injection hr with e1 e2
        subst e1; subst e2
        refine ⟨some W.heap.size, C, by rw [hpl]; rfl, ⟨cur1, hg1, by rw [hl1, hsz], by rw [hpl]; exact hC1, hC2, ?_⟩, .inr ⟨_, rfl, Nat.le_refl _⟩, Keep.of_below hb1⟩
        rw [hpl, hfl', ← ht, ← hsz, ht1, List.drop_zero]
      · have hrun := append_room (P := Tryz.prog) W 96 96 96 83 i0 Tryz.underlying96 hi0 B 0 S.length c (.slice (some ⟨V, 0, none⟩) 1 1) 1 q.vals (hsrc W hV') (by omega) cur.toArray _ hBW (by rw [hsz]; simp; omega)
        refine (insert_end (.slice (some ⟨B, 0, none⟩) S.length c) S.length V 1 W (Lib.hid ⟨_, _, hrun⟩) (some ⟨B, 0, none⟩) c rfl (by omega)).mono fun e w' hw => ?_
        obtain ⟨v', hr, rfl⟩ := hw
        rw [hrun] at hr
        injection hr with e1 e2
        subst e1; subst e2
        refine ⟨some B, c, by rw [hpl]; rfl, ⟨_, heap_setRow_same _ _ _ _ _ _ hBW, by simp [splice, hsz]; omega, by rw [hpl]; omega, hc, ?_⟩, .inl rfl, Keep.of_upd (Upd.setRow _ _ _) (by simp)⟩
        rw [hpl, hfl', ← ht, hsz]
        unfold splice
        rw [Nat.zero_add, ← List.append_assoc, List.take_append_of_le_length (by simp; omega), List.take_of_length_le (by simp; omega)]
end Go.Proofs.YtpgcoceggacplaaGreatDoor
