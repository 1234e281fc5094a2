/- The plain law of SpaceBytes. -/
import Derived.Test.YtlhbnpahplpobaaLpMapA
import Derived.Test.YtlhbnpahplpobaaSyRoom1
set_option linter.unusedVariables false
set_option linter.unusedSimpArgs false
namespace Go.Proofs.Ytlhbnpahplpobaa
open Go.RowKit Go.Lp
/-- an address, some bytes on -/
def addW (a : Int) (i : Int) : Int := IntKind.i64.wrap (a + i)
theorem addW_in (a i : Int) : -9223372036854775808 ≤ addW a i ∧ addW a i ≤ 9223372036854775807 := by unfold addW; rw [IntKind.wrap_i64]; omega
/-- the good of the law after j rounds -/
def bGood (M : Mem) (a : Int) : Nat → Bool
  | 0 => decide (a.tmod 8 = 0)
  | j + 1 => bGood M a j && (areaM M (addW a (7 - j))).2
def bSum (M : Mem) (a : Int) : Nat → Int
  | 0 => 0
  | j + 1 => IntKind.i64.wrap (BitVec.ofInt 64 (IntKind.i64.wrap (bSum M a j * 2 ^ 8)) ||| BitVec.ofInt 64 (loadM M (addW a (7 - j)) 1).1).toNat
def bAll (M : Mem) (a : Int) : Bool := bGood M a 8 && decide ((areaM M a).1 = (areaM M (addW a 7)).1)
theorem mfind_holds {M : Mem} {a s : Int} {x : Cell} (h : mfind M a s = some x) : x ∈ M ∧ x.1.at_ ≤ a ∧ a < x.1.at_ + x.1.size ∧ a + s ≤ x.1.at_ + x.1.size := by
  have h1 := List.mem_of_find?_eq_some h
  have h2 := List.find?_some h
  simp only [holds, Bool.and_eq_true, decide_eq_true_eq] at h2
  exact ⟨h1, h2.1.1, h2.1.2, by omega⟩
theorem inv_meet {M : Mem} (h : MInv M) {x y : Cell} (hx : x ∈ M) (hy : y ∈ M) {a : Int} (h1 : x.1.at_ ≤ a ∧ a < x.1.at_ + x.1.size) (h2 : y.1.at_ ≤ a ∧ a < y.1.at_ + y.1.size) : x = y := by
  obtain ⟨i, hi, rfl⟩ := List.getElem_of_mem hx
  obtain ⟨j, hj, rfl⟩ := List.getElem_of_mem hy
  rcases Nat.lt_trichotomy i j with hlt | rfl | hlt
  · have := List.pairwise_iff_getElem.1 h.asc i j hi hj hlt
    omega
  · rfl
  · have := List.pairwise_iff_getElem.1 h.asc j i hj hi hlt
    omega
theorem mfind_of {M : Mem} (h : MInv M) {a s : Int} {x : Cell} (hx : x ∈ M) (h1 : x.1.at_ ≤ a) (h2 : a < x.1.at_ + x.1.size) (h3 : a + s ≤ x.1.at_ + x.1.size) : mfind M a s = some x := by
  cases hm : mfind M a s with
  | some y =>
    obtain ⟨hy, h4, h5, _⟩ := mfind_holds hm
    rw [inv_meet h hx hy ⟨h1, h2⟩ ⟨h4, h5⟩]
  | none =>
    have := List.find?_eq_none.1 hm x hx
    simp only [holds, Bool.and_eq_true, decide_eq_true_eq] at this
    exact absurd ⟨⟨h1, h2⟩, by omega⟩ this
theorem inv_span {M : Mem} (h : MInv M) {x : Cell} (hx : x ∈ M) : 256 ≤ x.1.at_ ∧ 1 ≤ x.1.size ∧ x.1.at_ + x.1.size ≤ 1099511627776 := by
  have := rightA_iff.1 (h.right x hx); omega
theorem area_found (M : Mem) (a : Int) : (areaM M a).2 = (mfind M a 1).isSome := by unfold areaM; cases mfind M a 1 <;> rfl
theorem load_err (M : Mem) (a : Int) (h : (loadM M a 8).2 ≠ 0) : (loadM M a 8).1 = 0 := by
  unfold loadM at h ⊢
  split at h <;> rename_i h1
  · rw [if_pos h1]
  · rw [if_neg h1]; split at h
    · exact absurd rfl h
    · rfl
theorem load1 (M : Mem) (a : Int) : loadM M a 1 = match mfind M a 1 with
    | some x => (toI64 (leNat (rng x a 1)), 0)
    | none => (0, 6) := by
  unfold loadM accM
  cases h : mfind M a 1 <;> simp [getI]
theorem load8 (M : Mem) (a : Int) : loadM M a 8 = if a % 8 ≠ 0 then ((0, 6) : Int × Int) else match mfind M a 8 with
    | some x => ((toS (leNat (rng x a 8)) 8, 0) : Int × Int)
    | none => (0, 6) := by
  unfold loadM accM
  by_cases ha : a % 8 = 0
  · cases h : mfind M a 8 <;> simp [getI, ha]
  · simp [ha]
theorem rng_len {x : Cell} {a s : Int} (hl : (x.2.length : Int) = x.1.size) (h1 : x.1.at_ ≤ a) (h3 : a + s ≤ x.1.at_ + x.1.size) : (rng x a s).length = s.toNat := by
  unfold rng; rw [List.length_take, List.length_drop]; omega
theorem byte_small {l : List UInt8} (h : l.length ≤ 1) : 0 ≤ toI64 (leNat l) ∧ toI64 (leNat l) ≤ 255 := by
  have h1 := leNat_lt l
  have : leNat l < 256 := Nat.lt_of_lt_of_le h1 (by have : l.length = 0 ∨ l.length = 1 := by omega
                                                    rcases this with h | h <;> rw [h] <;> decide)
  unfold toI64; split <;> omega
theorem law_b1 (M : Mem) (a : Int) : (!((areaM M a).2 == decide ((loadM M a 1).2 = 0)) || decide ((loadM M a 1).1 < 0) || decide (255 < (loadM M a 1).1)) = false := by
  rw [area_found, load1]
  cases h : mfind M a 1 with
  | none => simp
  | some x =>
    have := byte_small (l := rng x a 1) (by unfold rng; rw [List.length_take]; exact Nat.min_le_left _ _)
    simp; omega
theorem addW_eq {a i : Int} (h : -9223372036854775808 ≤ a + i ∧ a + i ≤ 9223372036854775807) : addW a i = a + i := by unfold addW; rw [IntKind.wrap_i64]; omega
theorem bGood_iff (M : Mem) (a : Int) : ∀ j, bGood M a j = true ↔ a % 8 = 0 ∧ ∀ k : Nat, k < j → (mfind M (addW a (7 - k)) 1).isSome = true
  | 0 => by
    unfold bGood
    rw [decide_eq_true_eq]
    have : a.tmod 8 = 0 ↔ a % 8 = 0 := by rw [← Int.dvd_iff_tmod_eq_zero, ← Int.dvd_iff_emod_eq_zero]
    rw [this]; simp
  | j + 1 => by
    unfold bGood
    rw [Bool.and_eq_true, bGood_iff M a j, area_found]
    constructor
    · rintro ⟨⟨h1, h2⟩, h3⟩
      refine ⟨h1, fun k hk => ?_⟩
      by_cases e : k = j
      · rw [e]; exact h3
      · exact h2 k (by omega)
    · rintro ⟨h1, h2⟩
      exact ⟨⟨h1, fun k hk => h2 k (by omega)⟩, h2 j (by omega)⟩
/-- where the law's good is yes -/
theorem bAll_found {M : Mem} (h : MInv M) {a : Int} (ha : I64 a) (hb : bAll M a = true) : a % 8 = 0 ∧ ∃ x, mfind M a 8 = some x := by
  unfold bAll at hb
  rw [Bool.and_eq_true, decide_eq_true_eq, bGood_iff] at hb
  obtain ⟨⟨h1, h2⟩, h3⟩ := hb
  unfold I64 at ha
  have e7 := h2 0 (by omega)
  have e0 := h2 7 (by omega)
  rw [addW_eq (by omega)] at e7 e0
  rw [addW_eq (by omega)] at h3
  rw [show a + (7 - ((0 : Nat) : Int)) = a + 7 by omega] at e7
  rw [show a + (7 - ((7 : Nat) : Int)) = a by omega] at e0
  obtain ⟨x, hx⟩ := Option.isSome_iff_exists.1 e0
  obtain ⟨y, hy⟩ := Option.isSome_iff_exists.1 e7
  unfold areaM at h3
  rw [hx, hy] at h3
  have h3 : x.1 = y.1 := h3
  obtain ⟨hx1, hx2, hx3, hx4⟩ := mfind_holds hx
  obtain ⟨hy1, hy2, hy3, hy4⟩ := mfind_holds hy
  rw [← h3] at hy2 hy3 hy4
  exact ⟨h1, x, mfind_of h hx1 hx2 hx3 (by omega)⟩
theorem law_b2 (M : Mem) (h : MInv M) (a : Int) (ha : I64 a) : bAll M a = decide ((loadM M a 8).2 = 0) := by
  rw [Bool.eq_iff_iff, decide_eq_true_eq, load8]
  constructor
  · intro hb
    obtain ⟨h1, x, hx⟩ := bAll_found h ha hb
    rw [if_neg (by omega), hx]
  · intro hl
    by_cases h1 : a % 8 = 0
    · rw [if_neg (by omega)] at hl
      cases hm : mfind M a 8 with
      | none => rw [hm] at hl; cases hl
      | some x =>
        obtain ⟨hx1, hx2, hx3, hx4⟩ := mfind_holds hm
        have hs := inv_span h hx1
        have fnd : ∀ k : Int, 0 ≤ k → k ≤ 7 → mfind M (addW a k) 1 = some x := fun k hk0 hk => by
          rw [addW_eq (by omega)]
          exact mfind_of h hx1 (by omega) (by omega) (by omega)
        unfold bAll
        rw [Bool.and_eq_true, decide_eq_true_eq, bGood_iff]
        refine ⟨⟨h1, fun k hk => by rw [fnd _ (by omega) (by omega)]; rfl⟩, ?_⟩
        unfold areaM
        rw [fnd 7 (by omega) (by omega), mfind_of h hx1 hx2 hx3 (by omega)]
    · rw [if_pos h1] at hl; cases hl
theorem sum_step (N b : Nat) (hN : N < 72057594037927936) (hb : b < 256) :
    IntKind.i64.wrap (BitVec.ofInt 64 (IntKind.i64.wrap ((N : Int) * 2 ^ 8)) ||| BitVec.ofInt 64 (b : Int)).toNat = IntKind.i64.wrap ((N * 256 + b : Nat) : Int) := by
  congr 1
  have e1 : (BitVec.ofInt 64 (IntKind.i64.wrap ((N : Int) * 2 ^ 8))).toNat = 2 ^ 8 * N := by
    rw [BitVec.toNat_ofInt, IntKind.wrap_i64]; omega
  have e2 : (BitVec.ofInt 64 (b : Int)).toNat = b := by
    rw [BitVec.toNat_ofInt]; omega
  rw [BitVec.toNat_or, e1, e2, ← Nat.two_pow_add_eq_or_of_lt hb]
  omega
theorem horner (n0 n1 n2 n3 n4 n5 n6 n7 : Nat) : (n0 + 256 * (n1 + 256 * (n2 + 256 * (n3 + 256 * (n4 + 256 * (n5 + 256 * (n6 + 256 * (n7 + 256 * 0)))))))) = ((((((((0 * 256 + n7) * 256 + n6) * 256 + n5) * 256 + n4) * 256 + n3) * 256 + n2) * 256 + n1) * 256 + n0) := by omega
theorem horner_lt (n0 n1 n2 n3 n4 n5 n6 n7 : Nat) (l0 : n0 < 256) (l1 : n1 < 256) (l2 : n2 < 256) (l3 : n3 < 256) (l4 : n4 < 256) (l5 : n5 < 256) (l6 : n6 < 256) (l7 : n7 < 256) : ((((((((0 * 256 + n7) * 256 + n6) * 256 + n5) * 256 + n4) * 256 + n3) * 256 + n2) * 256 + n1) * 256 + n0) < 18446744073709551616 := by omega
theorem law_b3 (M : Mem) (h : MInv M) (a : Int) (ha : I64 a) (hb : bAll M a = true) : (loadM M a 8).1 = bSum M a 8 := by
  obtain ⟨h1, x, hx⟩ := bAll_found h ha hb
  obtain ⟨hx1, hx2, hx3, hx4⟩ := mfind_holds hx
  have hs := inv_span h hx1
  have hl := h.len x hx1
  obtain ⟨n, hn⟩ : ∃ n : Nat, a - x.1.at_ = n := ⟨(a - x.1.at_).toNat, by omega⟩
  have hL : 8 ≤ (x.2.drop n).length := by rw [List.length_drop]; omega
  obtain ⟨b0, b1, b2, b3, b4, b5, b6, b7, r, hr⟩ : ∃ b0 b1 b2 b3 b4 b5 b6 b7 r, x.2.drop n = b0 :: b1 :: b2 :: b3 :: b4 :: b5 :: b6 :: b7 :: r := by
    match x.2.drop n, hL with
    | b0 :: b1 :: b2 :: b3 :: b4 :: b5 :: b6 :: b7 :: r, _ => exact ⟨_, _, _, _, _, _, _, _, _, rfl⟩
  have byte : ∀ (k : Nat), k ≤ 7 → (loadM M (addW a k) 1).1 = toI64 (leNat (((x.2.drop n).drop k).take 1)) := fun k hk => by
    rw [addW_eq (by unfold I64 at ha; omega), load1, mfind_of h hx1 (by omega) (by omega) (by omega)]
    show toI64 (leNat (rng x (a + k) 1)) = _
    unfold rng
    rw [List.drop_drop, show (a + (k : Int) - x.1.at_).toNat = n + k by omega]; rfl
  rw [hr] at byte
  have one : ∀ (b : UInt8), toI64 (leNat [b]) = ((b.toNat : Nat) : Int) := fun b => by
    have := b.toNat_lt
    show toI64 (b.toNat + 256 * 0) = _
    unfold toI64; split <;> omega
  have c0 : (loadM M (addW a 0) 1).1 = ((b0.toNat : Nat) : Int) := (byte 0 (by omega)).trans (one b0)
  have c1 : (loadM M (addW a 1) 1).1 = ((b1.toNat : Nat) : Int) := (byte 1 (by omega)).trans (one b1)
  have c2 : (loadM M (addW a 2) 1).1 = ((b2.toNat : Nat) : Int) := (byte 2 (by omega)).trans (one b2)
  have c3 : (loadM M (addW a 3) 1).1 = ((b3.toNat : Nat) : Int) := (byte 3 (by omega)).trans (one b3)
  have c4 : (loadM M (addW a 4) 1).1 = ((b4.toNat : Nat) : Int) := (byte 4 (by omega)).trans (one b4)
  have c5 : (loadM M (addW a 5) 1).1 = ((b5.toNat : Nat) : Int) := (byte 5 (by omega)).trans (one b5)
  have c6 : (loadM M (addW a 6) 1).1 = ((b6.toNat : Nat) : Int) := (byte 6 (by omega)).trans (one b6)
  have c7 : (loadM M (addW a 7) 1).1 = ((b7.toNat : Nat) : Int) := (byte 7 (by omega)).trans (one b7)
  have l0 := b0.toNat_lt
  have l1 := b1.toNat_lt
  have l2 := b2.toNat_lt
  have l3 := b3.toNat_lt
  have l4 := b4.toNat_lt
  have l5 := b5.toNat_lt
  have l6 := b6.toNat_lt
  have l7 := b7.toNat_lt
  have st : ∀ (j N b : Nat), bSum M a j = (N : Int) → (loadM M (addW a (7 - j)) 1).1 = (b : Int) → N < 72057594037927936 → b < 256 → bSum M a (j + 1) = IntKind.i64.wrap ((N * 256 + b : Nat) : Int) := fun j N b e1 e2 e3 e4 => by
    unfold bSum; rw [e1, e2]; exact sum_step N b e3 e4
  have wr : ∀ (N : Nat), N < 72057594037927936 → IntKind.i64.wrap (N : Int) = (N : Int) := fun N hN => by rw [IntKind.wrap_i64]; omega
  have s1 : bSum M a 1 = _ := (st 0 0 _ rfl c7 (by omega) (by omega)).trans (wr _ (by omega))
  have s2 : bSum M a 2 = _ := (st 1 _ _ s1 c6 (by omega) (by omega)).trans (wr _ (by omega))
  have s3 : bSum M a 3 = _ := (st 2 _ _ s2 c5 (by omega) (by omega)).trans (wr _ (by omega))
  have s4 : bSum M a 4 = _ := (st 3 _ _ s3 c4 (by omega) (by omega)).trans (wr _ (by omega))
  have s5 : bSum M a 5 = _ := (st 4 _ _ s4 c3 (by omega) (by omega)).trans (wr _ (by omega))
  have s6 : bSum M a 6 = _ := (st 5 _ _ s5 c2 (by omega) (by omega)).trans (wr _ (by omega))
  have s7 : bSum M a 7 = _ := (st 6 _ _ s6 c1 (by omega) (by omega)).trans (wr _ (by omega))
  have s8 := st 7 _ _ s7 c0 (by omega) (by omega)
  rw [show bSum M a (7 + 1) = bSum M a 8 from rfl] at s8
  rw [s8, load8, if_neg (by omega), hx]
  show toS (leNat (rng x a 8)) 8 = _
  unfold rng
  rw [hn, show ((n : Int)).toNat = n from rfl, hr]
  show toS (b0.toNat + 256 * (b1.toNat + 256 * (b2.toNat + 256 * (b3.toNat + 256 * (b4.toNat + 256 * (b5.toNat + 256 * (b6.toNat + 256 * (b7.toNat + 256 * 0)))))))) 8 = _
  have e := horner b0.toNat b1.toNat b2.toNat b3.toNat b4.toNat b5.toNat b6.toNat b7.toNat
  have e' := horner_lt b0.toNat b1.toNat b2.toNat b3.toNat b4.toNat b5.toNat b6.toNat b7.toNat l0 l1 l2 l3 l4 l5 l6 l7
  rw [e]
  generalize ((((((((0 * 256 + b7.toNat) * 256 + b6.toNat) * 256 + b5.toNat) * 256 + b4.toNat) * 256 + b3.toNat) * 256 + b2.toNat) * 256 + b1.toNat) * 256 + b0.toNat) = Z at e' ⊢
  rw [IntKind.wrap_i64]
  show (if 2 * Z < 18446744073709551616 then (Z : Int) else (Z : Int) - 18446744073709551616) = _
  split <;> omega
end Go.Proofs.Ytlhbnpahplpobaa
