/- The contract of word.Get. -/
import Derived.Test.YtpgcoceggacplaaGreatDoorLpWord
import Derived.Lib.Hide
set_option linter.unusedVariables false
set_option linter.unusedSimpArgs false
set_option maxRecDepth 20000
namespace Go.Proofs.YtpgcoceggacplaaGreatDoor
open Go.RowKit Go.Lp

def leNat : List UInt8 → Nat
  | [] => 0
  | b :: l => b.toNat + 256 * leNat l
theorem leNat_lt (l : List UInt8) : leNat l < 256 ^ l.length := by
  induction l with
  | nil => simp [leNat]
  | cons b l ih =>
    have := b.toNat_lt
    simp only [leNat, List.length_cons, Nat.pow_succ]
    omega
theorem leNat_snoc (l : List UInt8) (b : UInt8) : leNat (l ++ [b]) = leNat l + 256 ^ l.length * b.toNat := by
  induction l with
  | nil => simp [leNat]
  | cons c l ih =>
    simp only [List.cons_append, leNat, ih, List.length_cons, Nat.pow_succ, Nat.mul_add]
    rw [Nat.mul_comm (256 ^ l.length) 256, Nat.mul_assoc]; omega
/-- the field of a string -/
def fieldL (s : ByteArray) (at_ size : Nat) : List UInt8 := (s.data.toList.drop at_).take size
def toI64 (n : Nat) : Int := if n < 2 ^ 63 then n else (n : Int) - 2 ^ 64

theorem or_step (n k : Nat) (b : UInt8) (hk : k < 8) (h : n < 256 ^ k) :
    bits BinOp.or IntKind.u64 (n : Int) (IntKind.u64.wrap (IntKind.u64.wrap (b.toNat : Int) * 2 ^ (8 * k))) = ((n + 256 ^ k * b.toNat : Nat) : Int) := by
  have hb := b.toNat_lt
  have e1 : IntKind.u64.wrap (b.toNat : Int) = b.toNat := by rw [IntKind.wrap_u64]; omega
  have hp : (256 : Nat) ^ k = 2 ^ (8 * k) := by rw [show (256 : Nat) = 2 ^ 8 from rfl, ← Nat.pow_mul]
  have hlt : 2 ^ (8 * k) * b.toNat < 18446744073709551616 := by
    have : 2 ^ (8 * k) ≤ 2 ^ 56 := Nat.pow_le_pow_right (by omega) (by omega)
    have := Nat.mul_le_mul this (show b.toNat ≤ 255 by omega)
    omega
  have e2 : IntKind.u64.wrap ((b.toNat : Int) * 2 ^ (8 * k)) = ((2 ^ (8 * k) * b.toNat : Nat) : Int) := by
    rw [IntKind.wrap_u64]
    have : (b.toNat : Int) * 2 ^ (8 * k) = ((2 ^ (8 * k) * b.toNat : Nat) : Int) := by push_cast; rw [Int.mul_comm]
    rw [this]
    omega
  have hn : n < 2 ^ (8 * k) := by rw [← hp]; exact h
  rw [e1, e2, bits_or_u64_nat _ _ (by have : 2 ^ (8 * k) ≤ 2 ^ 56 := Nat.pow_le_pow_right (by omega) (by omega)
                                      omega) hlt]
  rw [hp, Nat.or_comm, ← Nat.two_pow_add_eq_or_of_lt hn, Nat.add_comm]
theorem field_snoc (s : ByteArray) (at_ k : Nat) (h : at_ + k < s.size) : fieldL s at_ (k + 1) = fieldL s at_ k ++ [s[at_ + k]] := by
  unfold fieldL
  have h' : k < (s.data.toList.drop at_).length := by simp; show k < s.size - at_; omega
  rw [List.take_succ_eq_append_getElem h']
  simp
  rfl
theorem field_len (s : ByteArray) (at_ k : Nat) (h : at_ + k ≤ s.size) : (fieldL s at_ k).length = k := by
  unfold fieldL
  have : at_ + k ≤ s.data.size := h
  simp
  omega
theorem get_step (s : ByteArray) (at_ k : Nat) (h : at_ + k < s.size) (hk : k < 8) :
    bits BinOp.or IntKind.u64 (leNat (fieldL s at_ k) : Int) (IntKind.u64.wrap (IntKind.u64.wrap (s[at_ + k].toNat : Int) * 2 ^ (8 * k))) = (leNat (fieldL s at_ (k + 1)) : Int) := by
  have hl := leNat_lt (fieldL s at_ k)
  have e := field_len s at_ k (by omega)
  rw [e] at hl
  rw [or_step _ _ _ hk hl, field_snoc s at_ k h, leNat_snoc, e]
def toS (n size : Nat) : Int := if 2 * n < 256 ^ size then n else (n : Int) - 256 ^ size
theorem toI64_wrap {n : Nat} (h : n < 18446744073709551616) : wrap64 (n : Int) = toI64 n := by
  unfold wrap64 toI64; split <;> omega
theorem sgn1 {n : Nat} (h : n < 256 ^ 1) : wrap64 ((n : Int) * 72057594037927936) / 72057594037927936 = toS n 1 := by
  have h : n < 256 := h
  show _ = if 2 * n < 256 then (n : Int) else (n : Int) - 256
  unfold wrap64; split <;> omega
theorem sgn2 {n : Nat} (h : n < 256 ^ 2) : wrap64 ((n : Int) * 281474976710656) / 281474976710656 = toS n 2 := by
  have h : n < 65536 := h
  show _ = if 2 * n < 65536 then (n : Int) else (n : Int) - 65536
  unfold wrap64; split <;> omega
theorem sgn4 {n : Nat} (h : n < 256 ^ 4) : wrap64 ((n : Int) * 4294967296) / 4294967296 = toS n 4 := by
  have h : n < 4294967296 := h
  show _ = if 2 * n < 4294967296 then (n : Int) else (n : Int) - 4294967296
  unfold wrap64; split <;> omega
theorem sgn8 {n : Nat} (h : n < 256 ^ 8) : wrap64 (n : Int) = toS n 8 := by
  have h : n < 18446744073709551616 := h
  show _ = if 2 * n < 18446744073709551616 then (n : Int) else (n : Int) - 18446744073709551616
  unfold wrap64; split <;> omega
/-- what Get reads -/
def getI (l : List UInt8) (size : Nat) (signed : Bool) : Int := bif signed then toS (leNat l) size else toI64 (leNat l)

set_option maxHeartbeats 400000 in
theorem get_any (s : ByteArray) (at_ size : Nat) (hs : s.size ≤ maxLen) (hsize : size = 1 ∨ size = 2 ∨ size = 4 ∨ size = 8) (hat : at_ + size ≤ s.size) (signed : Bool) (w : World) :
    Calls Tryz.prog 35 #[.string s, .int .i64 at_, .int .i64 size, .bool signed] w fun e w' => e = .returned (.tuple #[.int .i64 (getI (fieldL s at_ size) size signed), .bool true]) ∧ w = w' := by
  have hm := hs
  unfold maxLen at hm
  have hf : (decide ((size : Int) = 1 ∨ (size : Int) = 2 ∨ (size : Int) = 4 ∨ (size : Int) = 8) && decide (0 ≤ (at_ : Int)) && decide ((at_ : Int) ≤ s.size - size)) = true := by
    simp; omega
  have hsz : size ≤ 8 := by omega
  have hsize' := Lib.hid hsize
  clear hsize
  go_enter Tryz.func35, Tryz.ntmps35
  go_wp2_with (go_at_call 90; refine (field_any s at_ size hs _).mono ?_; rintro e w' ⟨rfl, rfl⟩; rw [hf])
  go_loop [10, 11, 19] (fun n i j => ∃ k : Nat, k ≤ size ∧ j = .int .i64 k ∧ n = .int .u64 (leNat (fieldL s at_ k))) (fun _ _ j => size - (intOf j).toNat)
  case atStart => exact ⟨0, Nat.zero_le _, rfl, by simp [fieldL, leNat]⟩
  case round =>
    obtain ⟨k, hk, rfl, rfl⟩ := hrel
    by_cases hlt : k < size
    · have hb : at_ + k < s.size := by omega
      go_wp2
      exact ⟨⟨k + 1, by omega, by go_num, by rw [get_step s at_ k hb (by omega)]⟩, by simp [intOf]; omega⟩
    · have : k = size := by omega
      subst this
      have hl := leNat_lt (fieldL s at_ k)
      rw [field_len s at_ k hat] at hl
      cases signed with
      | false =>
        go_wp2
        go_ret2
        refine ⟨ret_int_bool ?_ rfl, rfl⟩
        have h8 : (256 : Nat) ^ k ≤ 256 ^ 8 := Nat.pow_le_pow_right (by omega) hsz
        rw [toI64_wrap (by omega)]; rfl
      | true =>
        generalize hN : leNat (fieldL s at_ k) = N at *
        have HN := Lib.hid hN
        clear hN
        rcases hsize'.out with h | h | h | h
        all_goals
          subst h
          go_wp2
          go_ret2
          refine ⟨ret_int_bool ?_ rfl, rfl⟩
          show _ = toS (leNat _) _
          rw [HN.out]
          first | with_reducible exact sgn1 hl | with_reducible exact sgn2 hl | with_reducible exact sgn4 hl | with_reducible exact sgn8 hl
end Go.Proofs.YtpgcoceggacplaaGreatDoor
