/- The contracts of space.search and what it calls. -/
import Derived.Test.YtpgcoceggacplaaGreatDoorLpGet
set_option linter.unusedVariables false
set_option linter.unusedSimpArgs false
set_option maxRecDepth 20000
namespace Go.Lp
/-- where a search among ascending keys ends -/
def Lo (key : Nat → Int) (n : Nat) (t : Int) (k : Nat) : Prop := k ≤ n ∧ (∀ i, i < k → key i < t) ∧ (∀ i, k ≤ i → i < n → t ≤ key i)

end Go.Lp
namespace Go.Proofs.YtpgcoceggacplaaGreatDoor
open Go.RowKit Go.Lp

theorem search1_any (a0 a1 a2 a3 a4 t : Int) (sl : Value) (w : World) :
    Calls Tryz.prog 99 #[.agg #[.int .i64 a0, .int .i64 a1, .int .i64 a2, .int .i64 a3, .int .i64 a4, sl], .int .i64 t] w fun e w' => e = .returned (.int .i64 (cmpInt a0 t)) ∧ Below w.heap.size w w' := by
  go_enter Tryz.func99, Tryz.ntmps99
  go_wp2_with (go_at_call 100; refine (compare_any _ _ _).mono ?_; rintro e w' ⟨rfl, rfl⟩)
  go_ret
  exact ⟨rfl, (Below.refl _ _).alloc (Nat.le_refl _) _⟩

theorem cmp_eq0 (a b : Int) : (cmpInt a b == 0) = decide (a = b) := by
  unfold cmpInt
  by_cases h : a < b
  · rw [if_pos h]; simp; omega
  · rw [if_neg h]
    by_cases h' : b < a
    · rw [if_pos h']; simp; omega
    · rw [if_neg h']; simp; omega
/-- the six cells of an element -/
def Part6 (w : World) (a : Option Addr) (key : Nat → Int) (i : Nat) : Prop :=
  ∃ B v1 v2 v3 v4 b n c, a = some ⟨B, 0, none⟩ ∧ B < w.heap.size ∧ w.cell? ⟨B, i * 6, none⟩ = some (.int .i64 (key i)) ∧ w.cell? ⟨B, i * 6 + 1, none⟩ = some (.int .i64 v1) ∧ w.cell? ⟨B, i * 6 + 2, none⟩ = some (.int .i64 v2) ∧
    w.cell? ⟨B, i * 6 + 3, none⟩ = some (.int .i64 v3) ∧ w.cell? ⟨B, i * 6 + 4, none⟩ = some (.int .i64 v4) ∧ w.cell? ⟨B, i * 6 + 5, none⟩ = some (.slice (some ⟨b, 0, none⟩) n c)

set_option maxHeartbeats 400000 in
theorem bsf_any (a : Option Addr) (n c : Nat) (t : Int) (key : Nat → Int) (w : World) (hn : n ≤ 4611686018427387904) (hcell : ∀ i, i < n → Part6 w a key i) (hasc : ∀ i j, i ≤ j → j < n → key i ≤ key j) :
    Calls Tryz.prog 98 #[.slice a n c, .int .i64 t, .func (.func 99) #[] #[]] w fun e w' => ∃ k, Lo key n t k ∧ e = .returned (.tuple #[.int .i64 k, .bool (decide (k < n ∧ key k = t))]) ∧ Below w.heap.size w w' := by
  have HC := Lib.hid hcell
  have HA := Lib.hid hasc
  clear hcell hasc
  go_enter Tryz.func98, Tryz.ntmps98
  go_wp2
  go_loopw [9, 10] (fun i j wr => ∃ p q : Nat, p ≤ q ∧ q ≤ n ∧ i = .int .i64 p ∧ j = .int .i64 q ∧ (∀ x, x < p → key x < t) ∧ (∀ x, q ≤ x → x < n → t ≤ key x) ∧ ∃ o d, wr = w.ext o d) (fun i j _ => ((intOf j) - (intOf i)).toNat)
  case atStart => exact ⟨0, n, Nat.zero_le _, Nat.le_refl _, rfl, rfl, by omega, by omega, #[], w.drawn, (ext_zero w).symm⟩
  case round =>
    obtain ⟨p, q, hpq, hqn, rfl, rfl, hlo, hhi, o, d, rfl⟩ := hrel
    have HL := Lib.hid hlo
    have HH := Lib.hid hhi
    clear hlo hhi
    by_cases hlt : p < q
    · obtain ⟨B, v1, v2, v3, v4, b, m, c', rfl, hB, h0, h1, h2, h3, h4, h5⟩ := HC.out ((p + q) / 2) (by omega)
      go_wp2_with (go_at_call 99; refine (search1_any _ _ _ _ _ _ _ _).mono ?_; rintro e w' ⟨rfl, hb⟩; obtain ⟨o', d', rfl⟩ := ext_of_below hb; clear hb)
      all_goals clear h0 h1 h2 h3 h4 h5
      · rename_i hc
        go_roundw
        case rel =>
          refine ⟨(p + q) / 2 + 1, q, by omega, hqn, by go_num, rfl, fun x hx => ?_, HH.out, _, _, rfl⟩
          have h1 := HA.out x ((p + q) / 2) (by omega) (by omega)
          have h2 : key ((p + q) / 2) < t := by
            unfold cmpInt at hc
            by_cases h : key ((p + q) / 2) < t
            · exact h
            · rw [if_neg h] at hc; split at hc <;> omega
          omega
        case measure => simp [intOf]; omega
      · rename_i hc
        go_roundw
        case rel =>
          refine ⟨p, (p + q) / 2, by omega, by omega, rfl, by go_num, HL.out, fun x hx hxn => ?_, _, _, rfl⟩
          have h1 := HA.out ((p + q) / 2) x (by omega) (by omega)
          have h2 : t ≤ key ((p + q) / 2) := by
            unfold cmpInt at hc
            by_cases h : key ((p + q) / 2) < t
            · rw [if_pos h] at hc; omega
            · omega
          omega
        case measure => simp [intOf]; omega
    · obtain rfl : p = q := by omega
      have HLo := Lib.hid (show Lo key n t p from ⟨hqn, HL.out, HH.out⟩)
      by_cases hpn : p < n
      · obtain ⟨B, v1, v2, v3, v4, b, m, c', rfl, hB, h0, h1, h2, h3, h4, h5⟩ := HC.out p hpn
        go_wp2_with (go_at_call 99; refine (search1_any _ _ _ _ _ _ _ _).mono ?_; rintro e w' ⟨rfl, hb⟩; obtain ⟨o', d', rfl⟩ := ext_of_below hb; clear hb)
        go_ret2
        refine ⟨p, HLo.out, ret_int_bool rfl ?_, ?_⟩
        · rw [cmp_eq0]; simp [hpn]
        · exact below_ext _ _ _
      · go_wp2
        go_ret2
        refine ⟨p, HLo.out, ret_int_bool rfl ?_, below_ext _ _ _⟩
        simp [hpn]

set_option maxHeartbeats 400000 in
theorem search_any (p : Nat) (a : Option Addr) (n c : Nat) (t : Int) (key : Nat → Int) (w : World) (hp : w.cell? ⟨p, 0, none⟩ = some (.slice a n c)) (hn : n ≤ 4611686018427387904) (hcell : ∀ i, i < n → Part6 w a key i) (hasc : ∀ i j, i ≤ j → j < n → key i ≤ key j) :
    Calls Tryz.prog 40 #[.pointer (some ⟨p, 0, none⟩), .int .i64 t] w fun e w' => ∃ k, Lo key n t k ∧ e = .returned (.tuple #[.int .i64 k, .bool (decide (k < n ∧ key k = t))]) ∧ Below w.heap.size w w' := by
  have HC := Lib.hid hcell
  have HA := Lib.hid hasc
  clear hcell hasc
  go_enter Tryz.func40, Tryz.ntmps40
  go_wp2_with (go_at_call 98; refine (bsf_any _ _ _ _ _ _ hn HC.out HA.out).mono ?_; rintro e w' ⟨k, hk, rfl, hb⟩)
  go_ret2
  exact ⟨k, hk, ret_int_bool rfl (by simp), hb⟩
end Go.Proofs.YtpgcoceggacplaaGreatDoor
