/- Proved: for every list of deeds, every deed, address and size the law SpaceHolds of the given program answers true and leaves what it was handed as it was. Conditions: none but those in the given statement itself. -/
import Derived.Test.YtlhbnpahplpobaaLpByt
import Derived.Test.YtlhbnpahplpobaaSyBytes
import Derived.Laws.Strings
import Derived.Test.YtlhbnpahplpobaaRows
import Derived.Test.YtlhbnpahplpobaaSyOut
import Derived.WalkKit
import Derived.ProofKit
import Derived.OpenShut
import Derived.ShutString
import Derived.ChangeOld
import Derived.Below
set_option linter.unusedVariables false
set_option linter.unusedSimpArgs false
namespace Go.Proofs.Ytlhbnpahplpobaa
open Go.RowKit Go.Lp Go.Sy
theorem splice_get {l b : List UInt8} {o : Nat} (h : o + b.length ≤ l.length) (i : Nat) : (splice l o b)[i]? = if i < o then l[i]? else if i < o + b.length then b[i - o]? else l[i]? := by
  unfold splice
  have e : (l.take o).length = o := by rw [List.length_take]; omega
  by_cases h1 : i < o
  · rw [if_pos h1, List.getElem?_append_left (by omega), List.getElem?_take, if_pos h1]
  · rw [if_neg h1, List.getElem?_append_right (by omega), e]
    by_cases h2 : i < o + b.length
    · rw [if_pos h2, List.getElem?_append_left (by omega)]
    · rw [if_neg h2, List.getElem?_append_right (by omega), List.getElem?_drop]
      congr 1; omega
theorem mfind_upd {M : Mem} {t : Int} {bs : List UInt8} (a s : Int) : mfind (updM M t bs) a s = (mfind M a s).map fun x => if x.1.at_ = t then (x.1, bs) else x := by
  unfold mfind updM
  rw [List.find?_map]
  congr 2
  funext x
  simp only [Function.comp]
  split <;> rfl
theorem rng_get (x : Cell) (q s : Int) (i : Nat) : (rng x q s)[i]? = if i < s.toNat then x.2[(q - x.1.at_).toNat + i]? else none := by
  unfold rng
  rw [List.getElem?_take]
  split
  · rw [List.getElem?_drop]
  · rfl
theorem rng_same {x : Cell} (hl : (x.2.length : Int) = x.1.size) {a q s : Int} {b : List UInt8} (h1 : x.1.at_ ≤ a) (h2 : a + b.length ≤ x.1.at_ + x.1.size) (h3 : x.1.at_ ≤ q) (hap : q + s ≤ a ∨ a + b.length ≤ q) :
    rng (x.1, splice x.2 (a - x.1.at_).toNat b) q s = rng x q s := by
  apply List.ext_getElem?
  intro i
  rw [rng_get, rng_get]
  split
  · dsimp only
    rw [splice_get (by omega)]
    split
    · rfl
    · rw [if_neg (by omega)]
  · rfl
theorem rng_back {x : Cell} (hl : (x.2.length : Int) = x.1.size) {a : Int} {b : List UInt8} (h1 : x.1.at_ ≤ a) (h2 : a + b.length ≤ x.1.at_ + x.1.size) :
    rng (x.1, splice x.2 (a - x.1.at_).toNat b) a b.length = b := by
  apply List.ext_getElem?
  intro i
  rw [rng_get]
  dsimp only
  split
  · rw [splice_get (by omega), if_neg (by omega), if_pos (by omega)]
    congr 1; omega
  · rw [List.getElem?_eq_none (by omega)]
/-- a memory, and what it is behind a write of bytes at a place -/
def Wrote (M M' : Mem) (a : Int) (b : List UInt8) : Prop := ∃ x ∈ M, x.1.at_ ≤ a ∧ a < x.1.at_ + x.1.size ∧ a + b.length ≤ x.1.at_ + x.1.size ∧ M' = updM M x.1.at_ (splice x.2 (a - x.1.at_).toNat b)
theorem wrote_err {M M' : Mem} {a : Int} {b : List UInt8} (h : Wrote M M' a b) (q s : Int) : (readM M q s).2 = (readM M' q s).2 := by
  obtain ⟨x, _, _, _, _, rfl⟩ := h
  unfold readM
  split
  · rfl
  · split
    · rfl
    · rw [mfind_upd]; cases mfind M q s <;> rfl
theorem wrote_apart {M M' : Mem} (hI : MInv M) {a : Int} {b : List UInt8} (h : Wrote M M' a b) {q s : Int} (hap : s ≤ 0 ∨ q + s ≤ a ∨ a + b.length ≤ q) : (readM M q s).1 = (readM M' q s).1 := by
  obtain ⟨x, hx, h1, _, h2, rfl⟩ := h
  unfold readM
  split
  · rfl
  · split
    · rfl
    · rw [mfind_upd]
      cases hm : mfind M q s with
      | none => rfl
      | some y =>
        obtain ⟨hy, h3, h4, h5⟩ := mfind_holds hm
        show rng y q s = rng (if y.1.at_ = x.1.at_ then (y.1, _) else y) q s
        split
        · rename_i e
          obtain rfl := hI.pair hy hx e
          exact (rng_same (hI.len y hy) h1 h2 h3 (by omega)).symm
        · rfl
theorem wrote_read {M M' : Mem} (hI : MInv M) {a : Int} {b : List UInt8} (hb : 1 ≤ b.length) (h : Wrote M M' a b) : readM M' a b.length = (b, 0) := by
  obtain ⟨x, hx, h1, h3, h2, rfl⟩ := h
  unfold readM
  rw [if_neg (by omega), if_neg (by omega), mfind_upd, mfind_of hI hx h1 h3 h2]
  show (rng (if x.1.at_ = x.1.at_ then (x.1, _) else x) a b.length, (0 : Int)) = _
  rw [if_pos rfl, rng_back (hI.len x hx) h1 h2]
theorem write_ok {M : Mem} {a : Int} {b : List UInt8} (hb : b ≠ []) (h : (writeM M a b).2 = 0) : Wrote M (writeM M a b).1 a b := by
  unfold writeM at h ⊢
  rw [if_neg hb] at h ⊢
  cases hm : mfind M a b.length with
  | none => rw [hm] at h; cases h
  | some x =>
    obtain ⟨hx, h1, h2, h3⟩ := mfind_holds hm
    exact ⟨x, hx, h1, h2, h3, rfl⟩
theorem writeM_no {M : Mem} {a : Int} {b : List UInt8} (h : (writeM M a b).2 ≠ 0) : (writeM M a b).1 = M := by
  unfold writeM at h ⊢
  split
  · rfl
  · split
    · rename_i h1 _ _ h2
      rw [if_neg h1, h2] at h; exact absurd rfl h
    · rfl
theorem store_ok {M : Mem} {a s n : Int} (h : (storeM M a s n).2 = 0) : (s = 1 ∨ s = 8 ∧ a % 8 = 0) ∧ Wrote M (storeM M a s n).1 a (numBytes n s.toNat) := by
  unfold storeM at h ⊢
  split at h
  · rename_i h1; exact absurd h h1
  · rename_i h1
    rw [if_neg h1]
    have h1 : accM M a s = 0 := Classical.not_not.1 h1
    unfold accM at h1
    split at h1
    · cases h1
    · rename_i h2
      split at h1
      · cases h1
      · rename_i h3
        cases hm : mfind M a s with
        | none => rw [hm] at h; cases h
        | some x =>
          rw [hm] at h
          dsimp only at h ⊢
          obtain ⟨hx, g1, g2, g3⟩ := mfind_holds hm
          by_cases hk : x.1.kind = 0
          · rw [if_pos hk] at h; cases h
          · rw [if_neg hk]
            have hs : s = 1 ∨ s = 8 := by omega
            exact ⟨by omega, x, hx, g1, g2, by rw [numBytes_length]; omega, rfl⟩
theorem storeM_no {M : Mem} {a s n : Int} (h : (storeM M a s n).2 ≠ 0) : (storeM M a s n).1 = M := by
  unfold storeM at h ⊢
  split
  · rfl
  · rename_i h1
    rw [if_neg h1] at h
    split
    · rename_i h2
      rw [h2] at h
      dsimp only at h
      split
      · rfl
      · rename_i h3; rw [if_neg h3] at h; exact absurd rfl h
    · rfl
theorem nth_toNat (n : Int) (k : Nat) : ((nthByte n k).toNat : Int) = (n / 256 ^ k) % 256 := by
  have h1 := Int.emod_nonneg (n / 256 ^ k) (show (256 : Int) ≠ 0 by omega)
  have h2 := Int.emod_lt_of_pos (n / 256 ^ k) (show (0 : Int) < 256 by omega)
  unfold nthByte
  rw [UInt8.toNat_ofNat']
  omega
theorem emod_two (n P : Int) (hP : 0 < P) : n % (P * 256) = n % P + P * (n / P % 256) := by
  have e1 := Int.emod_add_mul_ediv n P
  have e2 := Int.emod_add_mul_ediv (n / P) 256
  have h1 := Int.emod_nonneg n (show P ≠ 0 by omega)
  have h2 := Int.emod_lt_of_pos n hP
  have h3 := Int.emod_nonneg (n / P) (show (256 : Int) ≠ 0 by omega)
  have h4 := Int.emod_lt_of_pos (n / P) (show (0 : Int) < 256 by omega)
  have h5 : P * (n / P % 256) ≤ P * 255 := Int.mul_le_mul_of_nonneg_left (by omega) (by omega)
  have h6 : 0 ≤ P * (n / P % 256) := Int.mul_nonneg (by omega) h3
  have e3 : n = n % P + P * (n / P % 256) + P * 256 * (n / P / 256) := by
    rw [Int.mul_assoc, Int.add_assoc, ← Int.mul_add, e2, e1]
  conv => lhs; rw [e3]
  rw [Int.add_mul_emod_self_left]
  exact Int.emod_eq_of_lt (by omega) (by omega)
theorem num_nat (n : Int) : ∀ k, ((leNat (numBytes n k) : Nat) : Int) = n % 256 ^ k
  | 0 => by simp [numBytes, leNat]
  | k + 1 => by
    rw [numBytes_succ, leNat_snoc, numBytes_length]
    have ih := num_nat n k
    have hb := nth_toNat n k
    rw [Int.natCast_add, Int.natCast_mul, ih, hb, Int.natCast_pow]
    have e2 : n % 256 ^ (k + 1) = n % 256 ^ k + 256 ^ k * (n / 256 ^ k % 256) := by
      rw [Int.pow_succ]; exact emod_two n (256 ^ k) (Int.pow_pos (by omega))
    rw [e2]; rfl
theorem load_back {M M' : Mem} (hI : MInv M) {a n s : Int} (hn : I64 n) (hs : s = 1 ∨ s = 8 ∧ a % 8 = 0) (h : Wrote M M' a (numBytes n s.toNat)) : loadM M' a s = (if s = 1 then n % 256 else n, 0) := by
  obtain ⟨x, hx, h1, h3, h2, rfl⟩ := h
  rw [numBytes_length] at h2
  have hm := mfind_of hI hx (a := a) (s := s) h1 h3 (by omega)
  have hm2 : mfind (updM M x.1.at_ (splice x.2 (a - x.1.at_).toNat (numBytes n s.toNat))) a s = some (x.1, splice x.2 (a - x.1.at_).toNat (numBytes n s.toNat)) := by
    rw [mfind_upd, hm]
    show some (if x.1.at_ = x.1.at_ then _ else x) = _
    rw [if_pos rfl]
  have hr : rng (x.1, splice x.2 (a - x.1.at_).toNat (numBytes n s.toNat)) a s = numBytes n s.toNat := by
    have := rng_back (hI.len x hx) (b := numBytes n s.toNat) h1 (by rw [numBytes_length]; omega)
    rw [numBytes_length, show ((s.toNat : Nat) : Int) = s by omega] at this
    exact this
  unfold I64 at hn
  rcases hs with rfl | ⟨rfl, h8⟩
  · rw [load1, hm2]
    dsimp only
    rw [hr, if_pos rfl]
    have := num_nat n 1
    have e : ((1 : Int)).toNat = 1 := rfl
    rw [e]
    unfold toI64
    have e2 : (256 : Int) ^ 1 = 256 := by decide
    rw [e2] at this
    split
    · rw [this]
    · omega
  · rw [load8, if_neg (by omega), hm2]
    dsimp only
    rw [hr, if_neg (by omega)]
    have := num_nat n 8
    have e : ((8 : Int)).toNat = 8 := rfl
    rw [e]
    have e2 : (256 : Int) ^ 8 = 18446744073709551616 := by decide
    rw [e2] at this
    show ((if 2 * leNat (numBytes n 8) < 18446744073709551616 then ((leNat (numBytes n 8) : Nat) : Int) else ((leNat (numBytes n 8) : Nat) : Int) - 18446744073709551616), (0 : Int)) = (n, 0)
    rw [this]
    split <;> (congr 1; omega)
end Go.Proofs.Ytlhbnpahplpobaa
namespace Go.Sy
open Go.RowKit
section
variable {P : Program} {n : Nat} {s : Sta} {d : Option Tmp} {ty : TypeId} {pos : String} {af : Array Edge} {gd : Option (Nat × Bool)} {x y : Operand} {t t' : TypeId}
theorem qs_eql {a b : ByteArray} (hx : ev s.env x = some (true, .string a)) (hy : ev s.env y = some (true, .string b)) : Quiet P n ⟨d, .binOp .eql t x y t', ty, pos, af, gd⟩ s (.bool (a.toList == b.toList)) :=
  .run2 hx hy fun ρ w h1 h2 => by
    unfold execOp; dsimp only; rw [h1, h2]
    simp only [eqGuard_at_string, Sem.run_bind, Sem.run_pure, binOp_string_eql, Result.andThen_ok]
theorem qs_neq {a b : ByteArray} (hx : ev s.env x = some (true, .string a)) (hy : ev s.env y = some (true, .string b)) : Quiet P n ⟨d, .binOp .neq t x y t', ty, pos, af, gd⟩ s (.bool (!(a.toList == b.toList))) :=
  .run2 hx hy fun ρ w h1 h2 => by
    unfold execOp; dsimp only; rw [h1, h2]
    simp only [eqGuard_at_string, Sem.run_bind, Sem.run_pure, binOp_string_neq, Result.andThen_ok]
end
/-- an own slice, looked at as shared -/
theorem st_share {w : World} {S : Blks} {fp : Nat → Blks} {ps : List Per} {hp : List Res} {v : Value} {T : TypeId} {sz : Nat} {rows : List (List D)} (hst : St w S fp ps hp) (i : Nat) (hi : hp[i]? = some (OwnS v T sz rows)) :
    St w (fun b => S b ∨ fp i b) (fun k => if k = i then (fun _ => False) else fp k) (Sh v (.sl rows) :: ps) (hp.set i emp) := by
  have hil := (List.getElem?_eq_some_iff.1 hi).1
  have hr := hst.res i _ hi
  have hst0 := hst.drop i
  have hS : ∀ b, S b → (S b ∨ fp i b) := fun _ h => .inl h
  refine ⟨fun p hp' => ?_, fun j R hj => R.mono (hst0.res j R hj) (fun _ _ => rfl) (fun _ _ => rfl) hS, fun j hj b hb => ?_, hst0.dj, fun b hb => hb.elim (hst.slt b) (fun h => (hst.lt i hil b h).1)⟩
  · rcases List.mem_cons.1 hp' with rfl | h2
    · rcases hr with ⟨rfl, rfl, _⟩ | ⟨b, cap, rfl, ⟨cs, sp, hb, hrows, hl, hle, hcap⟩, hF⟩
      · exact .e none 0 (by unfold maxLen; omega)
      · refine .sl b 0 cap sz rows (fun i j => cs.getD (i * sz + j) undef) (.inr ((hF b).2 rfl)) hle hcap hrows.row (fun i j r d h1 h2 => ?_) (fun i j r d h1 h2 => ?_)
        · obtain ⟨u, hu, _⟩ := hrows.rep i j r d h1 h2
          have e : cs.getD (i * sz + j) undef = u := by simp [List.getD, hu]
          rw [e]
          refine ⟨?_, hrows.one u (List.mem_of_getElem? hu)⟩
          rw [Nat.zero_add, cell_box hb, List.getElem?_append_left (List.getElem?_eq_some_iff.1 hu).1]; exact hu
        · obtain ⟨u, hu, hr⟩ := hrows.rep i j r d h1 h2
          have e : cs.getD (i * sz + j) undef = u := by simp [List.getD, hu]
          rw [e]
          exact hr.mono (fun _ _ => rfl) hS
    · exact p.mono (hst.per p h2) (fun _ _ => rfl) hS
  · have hj' : j < hp.length := by simpa using hj
    by_cases hji : j = i
    · rw [if_pos hji] at hb; exact hb.elim
    · rw [if_neg hji] at hb
      exact ⟨(hst.lt j hj' b hb).1, fun h => h.elim (hst.lt j hj' b hb).2 (hst.dj j i hj' hil hji b hb)⟩
end Go.Sy
namespace Go.Proofs.Ytlhbnpahplpobaa
open Go.RowKit Go.Lp Go.Sy
def deedV (d : Deed) : List Value := [.int .i64 d.do_, .int .i64 d.a.at_, .int .i64 d.a.size, .int .i64 d.a.kind, .int .i64 d.a.owner, .int .i64 d.a.mod, .int .i64 d.at_, .int .i64 d.size, .int .i64 d.n, .string d.b]
def apartB (a len q s : Int) : Bool := decide (s ≤ 0) || decide (len ≤ 0) || (decide (a ≤ q) && decide (len ≤ IntKind.i64.wrap (q - a))) || (decide (q < a) && decide (s ≤ IntKind.i64.wrap (a - q)))
theorem apart_of {a len q s : Int} (ha : I64 a) (hq : I64 q) (h : apartB a len q s = true) : s ≤ 0 ∨ len ≤ 0 ∨ a + len ≤ q ∨ q + s ≤ a := by
  unfold I64 at ha hq
  unfold apartB at h
  rw [IntKind.wrap_i64, IntKind.wrap_i64] at h
  simp only [Bool.or_eq_true, Bool.and_eq_true, decide_eq_true_eq] at h
  omega
theorem bytes_eq {a b : List UInt8} : ((ofBytes a).toList == (ofBytes b).toList) = decide (a = b) := by
  have e : ∀ l, (ofBytes l).toList = l := fun l => by rw [ByteArray.toList_eq]; rfl
  rw [e, e, Bool.eq_iff_iff]; simp
theorem bytes_eq2 {a : List UInt8} {b : ByteArray} (h : a = b.data.toList) : ((ofBytes a).toList == b.toList) = true := by
  rw [ByteArray.toList_eq, ByteArray.toList_eq, h]
  simp [ofBytes]
theorem and255 {n : Int} (h : I64 n) : IntKind.i64.wrap (BitVec.ofInt IntKind.i64.bits n &&& BitVec.ofInt IntKind.i64.bits 255).toNat = n % 256 := by
  have e1 : (BitVec.ofInt 64 255).toNat = 255 := by decide
  have e2 : (BitVec.ofInt 64 n).toNat = (n % 18446744073709551616).toNat := by rw [BitVec.toNat_ofInt]; rfl
  show IntKind.i64.wrap (BitVec.ofInt 64 n &&& BitVec.ofInt 64 255).toNat = n % 256
  rw [BitVec.toNat_and, e1, e2, show (255 : Nat) = 2 ^ 8 - 1 from rfl, Nat.and_two_pow_sub_one_eq_mod, IntKind.wrap_i64]
  omega
theorem store_facts {M M' : Mem} (hI : MInv M) {a s n e : Int} (ha : I64 a) (hn : I64 n) (hM : (storeM M a s n).1 = M') (he : (storeM M a s n).2 = e) :
    (∀ q z, (readM M q z).2 = (readM M' q z).2) ∧ (∀ q z, I64 q → (apartB a s q z || !decide (e = 0)) = true → (readM M q z).1 = (readM M' q z).1) ∧ (e = 0 → loadM M' a s = (if s = 1 then n % 256 else n, 0)) := by
  by_cases h0 : e = 0
  · obtain ⟨hs, hw⟩ := store_ok (he.trans h0)
    rw [hM] at hw
    refine ⟨wrote_err hw, fun q z hq h => ?_, fun _ => load_back hI hn hs hw⟩
    simp only [h0, decide_true, Bool.not_true, Bool.or_false] at h
    have := apart_of ha hq h
    exact wrote_apart hI hw (by rw [numBytes_length]; omega)
  · have := storeM_no (by rw [he]; exact h0)
    rw [hM] at this
    subst this
    exact ⟨fun _ _ => rfl, fun _ _ _ _ => rfl, fun h => absurd h h0⟩
theorem write_facts {M M' : Mem} (hI : MInv M) {a e : Int} {b : List UInt8} (ha : I64 a) (hM : (writeM M a b).1 = M') (he : (writeM M a b).2 = e) :
    (∀ q z, (readM M q z).2 = (readM M' q z).2) ∧ (∀ q z, I64 q → (apartB a b.length q z || !decide (e = 0)) = true → (readM M q z).1 = (readM M' q z).1) ∧ (e = 0 → readM M' a b.length = (b, 0)) := by
  by_cases hb : b = []
  · subst hb
    have : M = M' := by rw [← hM]; rfl
    subst this
    exact ⟨fun _ _ => rfl, fun _ _ _ _ => rfl, fun _ => rfl⟩
  · by_cases h0 : e = 0
    · have hw := write_ok hb (he.trans h0)
      rw [hM] at hw
      have hb1 : 1 ≤ b.length := by cases b with
        | nil => exact absurd rfl hb
        | cons x b => simp
      refine ⟨wrote_err hw, fun q z hq h => ?_, fun _ => wrote_read hI hb1 hw⟩
      simp only [h0, decide_true, Bool.not_true, Bool.or_false] at h
      have := apart_of ha hq h
      exact wrote_apart hI hw (by omega)
    · have := writeM_no (by rw [he]; exact h0)
      rw [hM] at this
      subst this
      exact ⟨fun _ _ => rfl, fun _ _ _ _ => rfl, fun h => absurd h h0⟩
theorem holds_A (l : List Deed) (ad : Option Addr) (c : Nat) (hl : ∀ d ∈ l, DeedOk d) (d : Deed) (hd : DeedOk d) (hd4 : I64 d.size) (hd5 : I64 d.n) (at_ : Int) (hat : I64 at_) (size : Int) (hs : I64 size) (hf : fewB l = false) :
    Con Try.prog 3 [.slice ad l.length c, .agg #[.int .i64 d.do_, .int .i64 d.a.at_, .int .i64 d.a.size, .int .i64 d.a.kind, .int .i64 d.a.owner, .int .i64 d.a.mod, .int .i64 d.at_, .int .i64 d.size, .int .i64 d.n, .string d.b], .int .i64 at_, .int .i64 size]
      [Sh (.slice ad l.length c) (.sl (l.map deedRow))] [] fun r _ _ => r = .bool true := by
  have HL := Lib.hid hl
  clear hl
  have HD := Lib.hid hd
  clear hd
  refine Con.enter Try.func3 rfl (by simp [Try.ntmps3]) ?_
  show awp _ _ _ _ ⟨[(0, true, _), (1, true, _), (2, true, _), (3, true, _)], _, _⟩
  refine awp_len 0 rfl (fun hlen => ?_)
  refine awp_seq ?_
  refine awp_region ?_
  refine aL_eff (q := true) rfl (e_box rfl rfl rfl (fun b0_0 => ?_))
  simp only [List.cons_append, List.nil_append]
  refine aL_s true rfl rfl (fun _ => q_assign rfl) ?_
  refine aL_nil ?_
  refine thn_n ?_
  refine awp_seq ?_
  refine awp_region ?_
  refine aL_s true rfl rfl (fun _ => q_call (by kernel_rfl) rfl (fun w S fp hst => small_fn.quiet0 hst)) ?_
  refine aL_s true rfl rfl (fun _ => q_assign rfl) ?_
  refine aL_nil ?_
  refine thn_n ?_
  refine awp_seq ?_
  refine awp_seq ?_
  refine awp_region ?_
  refine aL_s true rfl rfl (fun _ => q_move rfl) ?_
  refine aL_s true rfl rfl (fun _ => q_call (by kernel_rfl) rfl (fun w S fp hst => ret_eq ((few_fn l ad c).quiet1 (psAt 0 rfl) hst) (congrArg Value.bool hf))) ?_
  refine aL_s true rfl rfl (fun _ => q_not rfl) ?_
  refine aL_s true rfl rfl (fun _ => q_move rfl) ?_
  refine aL_s (v := .bool false) false rfl rfl (fun h => (by cases h)) ?_
  refine aL_s (v := .bool false) false rfl rfl (fun h => (by cases h)) ?_
  refine aL_s (v := .bool false) false rfl rfl (fun h => (by cases h)) ?_
  refine aL_s (v := .bool false) false rfl rfl (fun h => (by cases h)) ?_
  refine aL_s true rfl rfl (fun _ => q_or rfl rfl (fun h => gf rfl h)) ?_
  refine aL_s true rfl rfl (fun _ => q_move rfl) ?_
  refine aL_s _ rfl rfl (fun hc => q_move rfl) ?_
  refine aL_s _ rfl rfl (fun hc => q_gtr (ev_yes rfl hc) rfl) ?_
  refine aL_s true rfl rfl (fun _ => q_or rfl rfl (fun h => gf rfl h)) ?_
  refine aL_nil ?_
  refine thn_n ?_
  refine awp_cond _ rfl (fun h1 => ?_) (fun h1 => ?_)
  · skip
    refine awp_seq ?_
    refine awp_region ?_
    refine aL_s true rfl rfl (fun _ => q_move rfl) ?_
    refine aL_s true rfl rfl (fun _ => q_assign rfl) ?_
    refine aL_nil ?_
    refine thn_n ?_
    refine awp_ret ?_
    refine thn_r ?_
    refine fin1 [] [] rfl Try.results3 rfl ?_ (.inr rfl)
    rfl
  · skip
    exact absurd h1 (by simp)
theorem holds_B3 (l : List Deed) (ad : Option Addr) (c : Nat) (hl : ∀ d ∈ l, DeedOk d) (d : Deed) (hd : DeedOk d) (hd4 : I64 d.size) (hd5 : I64 d.n) (at_ : Int) (hat : I64 at_) (size : Int) (hs : I64 size) (hf : fewB l = true) (hk : d.do_ % 2 = 0) :
    Con Try.prog 3 [.slice ad l.length c, .agg #[.int .i64 d.do_, .int .i64 d.a.at_, .int .i64 d.a.size, .int .i64 d.a.kind, .int .i64 d.a.owner, .int .i64 d.a.mod, .int .i64 d.at_, .int .i64 d.size, .int .i64 d.n, .string d.b], .int .i64 at_, .int .i64 size]
      [Sh (.slice ad l.length c) (.sl (l.map deedRow))] [] fun r _ _ => r = .bool true := by
  have HL := Lib.hid hl
  clear hl
  have HD := Lib.hid hd
  clear hd
  refine Con.enter Try.func3 rfl (by simp [Try.ntmps3]) ?_
  show awp _ _ _ _ ⟨[(0, true, _), (1, true, _), (2, true, _), (3, true, _)], _, _⟩
  refine awp_len 0 rfl (fun hlen => ?_)
  refine awp_seq ?_
  refine awp_region ?_
  refine aL_eff (q := true) rfl (e_box rfl rfl rfl (fun b0_0 => ?_))
  simp only [List.cons_append, List.nil_append]
  refine aL_s true rfl rfl (fun _ => q_assign rfl) ?_
  refine aL_nil ?_
  refine thn_n ?_
  refine awp_seq ?_
  refine awp_region ?_
  refine aL_s true rfl rfl (fun _ => q_call (by kernel_rfl) rfl (fun w S fp hst => small_fn.quiet0 hst)) ?_
  refine aL_s true rfl rfl (fun _ => q_assign rfl) ?_
  refine aL_nil ?_
  refine thn_n ?_
  refine awp_seq ?_
  refine awp_seq ?_
  refine awp_region ?_
  refine aL_s true rfl rfl (fun _ => q_move rfl) ?_
  refine aL_s true rfl rfl (fun _ => q_call (by kernel_rfl) rfl (fun w S fp hst => ret_eq ((few_fn l ad c).quiet1 (psAt 0 rfl) hst) (congrArg Value.bool hf))) ?_
  refine aL_s true rfl rfl (fun _ => q_not rfl) ?_
  refine aL_s true rfl rfl (fun _ => q_move rfl) ?_
  refine aL_s _ rfl rfl (fun hc => q_load 0 tk26 rfl rfl rfl) ?_
  refine aL_eff (q := true) rfl (w_lit (zs := [.int .i64 0, .int .i64 0, .int .i64 0, .int .i64 0, .int .i64 0, .int .i64 0, .int .i64 0, .int .i64 0, .int .i64 0, .string .empty]) (l := [(0, .tmp 30)]) el22 (by kernel_rfl) (by decide) (by decide) (by decide) rfl rfl rfl (.more rfl (.v rfl (.v rfl (.v rfl (.v rfl (.v rfl (.v rfl (.v rfl (.v rfl (.v rfl (.v rfl .nil)))))))))) .nil) rfl rfl (fun v2_5 => ?_))
  simp only [List.cons_append, List.nil_append]
  refine aL_s _ rfl rfl (fun hc => q_call (by kernel_rfl) (evs_cons (ev_yes rfl hc) rfl) (fun w S fp hst => (few_fn [d] v2_5 1).quiet1 (List.mem_cons_self ..) (st_share hst 1 rfl))) ?_
  refine aL_s _ rfl rfl (fun hc => q_not (ev_yes rfl hc)) ?_
  refine aL_s true rfl rfl (fun _ => q_or rfl rfl (fun h => gf rfl h)) ?_
  refine aL_s true rfl rfl (fun _ => q_move rfl) ?_
  refine aL_s _ rfl rfl (fun hc => q_move rfl) ?_
  refine aL_s _ rfl rfl (fun hc => q_gtr (ev_yes rfl hc) rfl) ?_
  refine aL_s true rfl rfl (fun _ => q_or rfl rfl (fun h => gf rfl h)) ?_
  refine aL_nil ?_
  refine thn_n ?_
  refine awp_cond _ rfl (fun h1 => ?_) (fun h1 => ?_)
  · skip
    refine awp_seq ?_
    refine awp_region ?_
    refine aL_s true rfl rfl (fun _ => q_move rfl) ?_
    refine aL_s true rfl rfl (fun _ => q_assign rfl) ?_
    refine aL_nil ?_
    refine thn_n ?_
    refine awp_ret ?_
    refine thn_r ?_
    refine fin1 [] [] rfl Try.results3 rfl ?_ (.inr rfl)
    rfl
  · skip
    have hll : l.length ≤ 4000 := few_len hf
    refine awp_skip ?_
    refine thn_n ?_
    refine awp_seq ?_
    refine awp_region ?_
    refine aL_s true rfl rfl (fun _ => q_move rfl) ?_
    refine aL_eff (q := true) rfl (e_call [0] [] (by kernel_rfl) rfl rfl rfl rfl (fill_fn l ad c HL.out hll) ?_)
    rintro v ps' hp' ⟨rfl, p, rfl, rfl⟩
    refine aL_s true rfl rfl (fun _ => q_assign rfl) ?_
    refine aL_nil ?_
    refine thn_n ?_
    refine awp_seq ?_
    have hMl : (fillM l).length ≤ 4000 := Nat.le_trans (fillM_len l) hll
    generalize fillM l = M at hMl ⊢
    refine awp_spinv 2 rfl (fun hI => ?_)
    have hat_d := HD.out.at_
    refine awp_region ?_
    refine aL_s true rfl rfl (fun _ => q_fieldAddr (off := 0) (by kernel_rfl) rfl) ?_
    refine aL_s true rfl rfl (fun _ => q_load 0 tk3 rfl rfl rfl) ?_
    refine aL_s true rfl rfl (fun _ => q_call (by kernel_rfl) rfl (fun w S fp hst => (pick_fn d.do_ 2 HD.out.do_ (by omega)).quiet0 hst)) ?_
    refine aL_s true rfl rfl (fun _ => q_muli rfl rfl (by omega)) ?_
    refine aL_s true rfl rfl (fun _ => q_addi rfl rfl (by omega)) ?_
    refine aL_s true rfl rfl (fun _ => q_fieldAddr (off := 0) (by kernel_rfl) rfl) ?_
    refine aL_eff rfl (e_store 0 tk3 rfl rfl rfl rfl ?_)
    simp only [List.set_cons_succ, List.set_cons_zero]
    refine aL_nil ?_
    refine thn_n ?_
    refine awp_seq ?_
    generalize hE : 3 + 2 * (d.do_ % 2) = E
    have hE' : E = 3 := by omega
    refine awp_region ?_
    refine aL_s true rfl rfl (fun _ => q_fieldAddr (off := 7) (by kernel_rfl) rfl) ?_
    refine aL_s true rfl rfl (fun _ => q_load 0 tk3 rfl rfl rfl) ?_
    refine aL_s true rfl rfl (fun _ => q_assign rfl) ?_
    refine aL_nil ?_
    refine thn_n ?_
    refine awp_seq ?_
    refine awp_seq ?_
    refine awp_region ?_
    refine aL_s true rfl rfl (fun _ => q_fieldAddr (off := 0) (by kernel_rfl) rfl) ?_
    refine aL_s true rfl rfl (fun _ => q_load 0 tk3 rfl rfl rfl) ?_
    refine aL_s true rfl rfl (fun _ => q_eql rfl rfl) ?_
    refine aL_nil ?_
    refine thn_n ?_
    refine awp_cond _ rfl (fun h2 => ?_) (fun h2 => ?_)
    · skip
      exact absurd h2 (by rw [hE']; decide)
    · skip
      refine awp_skip ?_
      refine thn_n ?_
      refine awp_seq ?_
      refine awp_region ?_
      refine aL_s true rfl rfl (fun _ => q_move rfl) ?_
      refine aL_s true rfl rfl (fun _ => q_move rfl) ?_
      refine aL_s true rfl rfl (fun _ => q_move rfl) ?_
      refine aL_s true rfl rfl (fun _ => q_call (by kernel_rfl) rfl (fun w S fp hst => q_spread hst 2 rfl at_ size hat)) ?_
      refine aL_s true rfl rfl (fun _ => q_move rfl) ?_
      refine aL_s true rfl rfl (fun _ => q_extract rfl rfl) ?_
      refine aL_s true rfl rfl (fun _ => q_extract rfl rfl) ?_
      refine aL_s true rfl rfl (fun _ => q_assign rfl) ?_
      refine aL_s true rfl rfl (fun _ => q_assign rfl) ?_
      refine aL_nil ?_
      refine thn_n ?_
      refine awp_seq ?_
      have hdo : doM M ⟨E, d.a, d.at_, d.size, d.n, d.b⟩ = ((storeM M d.at_ d.size d.n).1, 0, [], (storeM M d.at_ d.size d.n).2) := by unfold doM; simp [hE']
      have hdok : DeedOk ⟨E, d.a, d.at_, d.size, d.n, d.b⟩ := ⟨by show I64 E; unfold I64; omega, HD.out.at_, HD.out.b⟩
      refine awp_region ?_
      refine aL_s true rfl rfl (fun _ => q_move rfl) ?_
      refine aL_s true rfl rfl (fun _ => q_load 0 tk26 rfl rfl rfl) ?_
      refine aL_eff (q := false) rfl (e_call [] [2] (by kernel_rfl) rfl rfl rfl rfl (do_fn p M ⟨E, d.a, d.at_, d.size, d.n, d.b⟩ hdok (by omega)) ?_)
      rintro v ps' hp' ⟨rfl, rfl, rfl⟩; rw [hdo]
      refine aL_s true rfl rfl (fun _ => q_move rfl) ?_
      refine aL_s true rfl rfl (fun _ => q_extract rfl rfl) ?_
      refine aL_s true rfl rfl (fun _ => q_extract rfl rfl) ?_
      refine aL_s true rfl rfl (fun _ => q_extract rfl rfl) ?_
      refine aL_s true rfl rfl (fun _ => q_assign rfl) ?_
      refine aL_s true rfl rfl (fun _ => q_assign rfl) ?_
      refine aL_s true rfl rfl (fun _ => q_assign rfl) ?_
      refine aL_nil ?_
      refine thn_n ?_
      refine awp_seq ?_
      generalize hM' : (storeM M d.at_ d.size d.n).1 = M'
      generalize he : (storeM M d.at_ d.size d.n).2 = e
      obtain ⟨g1, g2, g3⟩ := store_facts hI hat_d hd5 hM' he
      refine awp_region ?_
      refine aL_s true rfl rfl (fun _ => q_move rfl) ?_
      refine aL_s true rfl rfl (fun _ => q_move rfl) ?_
      refine aL_s true rfl rfl (fun _ => q_move rfl) ?_
      refine aL_s true rfl rfl (fun _ => q_call (by kernel_rfl) rfl (fun w S fp hst => q_spread hst 2 rfl at_ size hat)) ?_
      refine aL_s true rfl rfl (fun _ => q_move rfl) ?_
      refine aL_s true rfl rfl (fun _ => q_extract rfl rfl) ?_
      refine aL_s true rfl rfl (fun _ => q_extract rfl rfl) ?_
      refine aL_s true rfl rfl (fun _ => q_assign rfl) ?_
      refine aL_s true rfl rfl (fun _ => q_assign rfl) ?_
      refine aL_nil ?_
      refine thn_n ?_
      refine awp_seq ?_
      refine awp_seq ?_
      refine awp_region ?_
      refine aL_s true rfl rfl (fun _ => q_move rfl) ?_
      refine aL_s true rfl rfl (fun _ => q_move rfl) ?_
      refine aL_s true rfl rfl (fun _ => q_neq rfl rfl) ?_
      refine aL_nil ?_
      refine thn_n ?_
      refine awp_cond _ rfl (fun h3 => ?_) (fun h3 => ?_)
      · skip
        refine awp_seq ?_
        refine awp_region ?_
        refine aL_s true rfl rfl (fun _ => q_assign rfl) ?_
        refine aL_nil ?_
        refine thn_n ?_
        refine awp_ret ?_
        refine thn_r ?_
        refine fin1 [] [] rfl Try.results3 rfl ?_ (.inr rfl)
        exact absurd h3 (by rw [g1]; simp)
      · skip
        refine awp_skip ?_
        refine thn_n ?_
        refine awp_seq ?_
        refine awp_region ?_
        refine aL_s true rfl rfl (fun _ => q_move rfl) ?_
        refine aL_s true rfl rfl (fun _ => q_leq rfl rfl) ?_
        refine aL_s true rfl rfl (fun _ => q_move rfl) ?_
        refine aL_s _ rfl rfl (fun hc => q_move rfl) ?_
        refine aL_s _ rfl rfl (fun hc => q_leq (ev_yes rfl hc) rfl) ?_
        refine aL_s true rfl rfl (fun _ => q_or rfl rfl (fun h => gf rfl h)) ?_
        refine aL_s true rfl rfl (fun _ => q_move rfl) ?_
        refine aL_s _ rfl rfl (fun hc => q_move rfl) ?_
        refine aL_s _ rfl rfl (fun hc => q_fieldAddr (off := 6) (by kernel_rfl) rfl) ?_
        refine aL_s _ rfl rfl (fun hc => q_load 0 tk3 (ev_yes rfl hc) rfl rfl) ?_
        refine aL_s _ rfl rfl (fun hc => q_geq (ev_yes rfl hc) (ev_yes rfl hc)) ?_
        refine aL_s _ rfl rfl (fun hc => q_move (ev_yes rfl hc)) ?_
        refine aL_s _ rfl rfl (fun hc => q_move rfl) ?_
        refine aL_s _ rfl rfl (fun hc => q_fieldAddr (off := 6) (by kernel_rfl) rfl) ?_
        refine aL_s _ rfl rfl (fun hc => q_load 0 tk3 (ev_yes rfl hc) rfl rfl) ?_
        refine aL_s _ rfl rfl (fun hc => q_sub (ev_yes rfl hc) (ev_yes rfl hc)) ?_
        refine aL_s _ rfl rfl (fun hc => q_move rfl) ?_
        refine aL_s _ rfl rfl (fun hc => q_geq (ev_yes rfl hc) (ev_yes rfl hc)) ?_
        refine aL_s _ rfl rfl (fun hc => q_and (ev_yes rfl hc) rfl (fun h => gt hc h)) ?_
        refine aL_s true rfl rfl (fun _ => q_or rfl rfl (fun h => gf rfl h)) ?_
        refine aL_s true rfl rfl (fun _ => q_move rfl) ?_
        refine aL_s _ rfl rfl (fun hc => q_move rfl) ?_
        refine aL_s _ rfl rfl (fun hc => q_fieldAddr (off := 6) (by kernel_rfl) rfl) ?_
        refine aL_s _ rfl rfl (fun hc => q_load 0 tk3 (ev_yes rfl hc) rfl rfl) ?_
        refine aL_s _ rfl rfl (fun hc => q_lss (ev_yes rfl hc) (ev_yes rfl hc)) ?_
        refine aL_s _ rfl rfl (fun hc => q_move (ev_yes rfl hc)) ?_
        refine aL_s _ rfl rfl (fun hc => q_move rfl) ?_
        refine aL_s _ rfl rfl (fun hc => q_fieldAddr (off := 6) (by kernel_rfl) rfl) ?_
        refine aL_s _ rfl rfl (fun hc => q_load 0 tk3 (ev_yes rfl hc) rfl rfl) ?_
        refine aL_s _ rfl rfl (fun hc => q_move rfl) ?_
        refine aL_s _ rfl rfl (fun hc => q_sub (ev_yes rfl hc) (ev_yes rfl hc)) ?_
        refine aL_s _ rfl rfl (fun hc => q_leq (ev_yes rfl hc) (ev_yes rfl hc)) ?_
        refine aL_s _ rfl rfl (fun hc => q_and (ev_yes rfl hc) rfl (fun h => gt hc h)) ?_
        refine aL_s true rfl rfl (fun _ => q_or rfl rfl (fun h => gf rfl h)) ?_
        refine aL_s true rfl rfl (fun _ => q_assign rfl) ?_
        refine aL_nil ?_
        refine thn_n ?_
        refine awp_seq ?_
        refine awp_seq ?_
        refine awp_region ?_
        refine aL_s true rfl rfl (fun _ => q_move rfl) ?_
        refine aL_s true rfl rfl (fun _ => q_move rfl) ?_
        refine aL_s _ rfl rfl (fun hc => q_move rfl) ?_
        refine aL_s _ rfl rfl (fun hc => q_neq (ev_yes rfl hc) rfl) ?_
        refine aL_s true rfl rfl (fun _ => q_or rfl rfl (fun h => gf rfl h)) ?_
        refine aL_s true rfl rfl (fun _ => q_move rfl) ?_
        refine aL_s _ rfl rfl (fun hc => q_move rfl) ?_
        refine aL_s _ rfl rfl (fun hc => q_move rfl) ?_
        refine aL_s _ rfl rfl (fun hc => qs_neq (ev_yes rfl hc) (ev_yes rfl hc)) ?_
        refine aL_s true rfl rfl (fun _ => q_and rfl rfl (fun h => gt rfl h)) ?_
        refine aL_nil ?_
        refine thn_n ?_
        refine awp_cond _ rfl (fun h4 => ?_) (fun h4 => ?_)
        · skip
          refine awp_seq ?_
          refine awp_region ?_
          refine aL_s true rfl rfl (fun _ => q_assign rfl) ?_
          refine aL_nil ?_
          refine thn_n ?_
          refine awp_ret ?_
          refine thn_r ?_
          refine fin1 [] [] rfl Try.results3 rfl ?_ (.inr rfl)
          rw [bytes_eq, Bool.and_eq_true] at h4
          have h5 := g2 at_ size hat h4.1
          rw [h5] at h4
          exact absurd h4.2 (by simp)
        · skip
          refine awp_skip ?_
          refine thn_n ?_
          refine awp_seq ?_
          refine awp_seq ?_
          refine awp_region ?_
          refine aL_s true rfl rfl (fun _ => q_move rfl) ?_
          refine aL_s true rfl rfl (fun _ => q_neq rfl rfl) ?_
          refine aL_nil ?_
          refine thn_n ?_
          refine awp_cond _ rfl (fun h5 => ?_) (fun h5 => ?_)
          · skip
            refine awp_seq ?_
            refine awp_region ?_
            refine aL_s true rfl rfl (fun _ => q_move rfl) ?_
            refine aL_s true rfl rfl (fun _ => q_assign rfl) ?_
            refine aL_nil ?_
            refine thn_n ?_
            refine awp_ret ?_
            refine thn_r ?_
            refine fin1 [] [] rfl Try.results3 rfl ?_ (.inr rfl)
            rfl
          · skip
            refine awp_skip ?_
            refine thn_n ?_
            refine awp_seq ?_
            refine awp_seq ?_
            refine awp_region ?_
            refine aL_s true rfl rfl (fun _ => q_fieldAddr (off := 0) (by kernel_rfl) rfl) ?_
            refine aL_s true rfl rfl (fun _ => q_load 0 tk3 rfl rfl rfl) ?_
            refine aL_s true rfl rfl (fun _ => q_eql rfl rfl) ?_
            refine aL_nil ?_
            refine thn_n ?_
            refine awp_cond _ rfl (fun h6 => ?_) (fun h6 => ?_)
            · skip
              exact absurd h6 (by rw [hE']; decide)
            · skip
              refine awp_skip ?_
              refine thn_n ?_
              refine awp_seq ?_
              refine awp_region ?_
              refine aL_s true rfl rfl (fun _ => q_move rfl) ?_
              refine aL_s true rfl rfl (fun _ => q_fieldAddr (off := 6) (by kernel_rfl) rfl) ?_
              refine aL_s true rfl rfl (fun _ => q_load 0 tk3 rfl rfl rfl) ?_
              refine aL_s true rfl rfl (fun _ => q_fieldAddr (off := 7) (by kernel_rfl) rfl) ?_
              refine aL_s true rfl rfl (fun _ => q_load 0 tk3 rfl rfl rfl) ?_
              refine aL_s true rfl rfl (fun _ => q_call (by kernel_rfl) rfl (fun w S fp hst => q_spload hst 2 rfl d.at_ d.size hat_d)) ?_
              refine aL_s true rfl rfl (fun _ => q_move rfl) ?_
              refine aL_s true rfl rfl (fun _ => q_extract rfl rfl) ?_
              refine aL_s true rfl rfl (fun _ => q_extract rfl rfl) ?_
              refine aL_s true rfl rfl (fun _ => q_assign rfl) ?_
              refine aL_s true rfl rfl (fun _ => q_assign rfl) ?_
              refine aL_nil ?_
              refine thn_n ?_
              refine awp_seq ?_
              refine awp_region ?_
              refine aL_s true rfl rfl (fun _ => q_fieldAddr (off := 8) (by kernel_rfl) rfl) ?_
              refine aL_s true rfl rfl (fun _ => q_load 0 tk3 rfl rfl rfl) ?_
              refine aL_s true rfl rfl (fun _ => q_assign rfl) ?_
              refine aL_nil ?_
              refine thn_n ?_
              refine awp_seq ?_
              refine awp_seq ?_
              refine awp_region ?_
              refine aL_s true rfl rfl (fun _ => q_fieldAddr (off := 7) (by kernel_rfl) rfl) ?_
              refine aL_s true rfl rfl (fun _ => q_load 0 tk3 rfl rfl rfl) ?_
              refine aL_s true rfl rfl (fun _ => q_eql rfl rfl) ?_
              refine aL_nil ?_
              refine thn_n ?_
              refine awp_cond _ rfl (fun h7 => ?_) (fun h7 => ?_)
              · skip
                refine awp_region ?_
                refine aL_s true rfl rfl (fun _ => q_fieldAddr (off := 8) (by kernel_rfl) rfl) ?_
                refine aL_s true rfl rfl (fun _ => q_load 0 tk3 rfl rfl rfl) ?_
                refine aL_s true rfl rfl (fun _ => q_andB rfl rfl) ?_
                refine aL_s true rfl rfl (fun _ => q_assign rfl) ?_
                refine aL_nil ?_
                refine thn_n ?_
                refine awp_seq ?_
                refine awp_region ?_
                refine aL_s true rfl rfl (fun _ => q_move rfl) ?_
                refine aL_s true rfl rfl (fun _ => q_move rfl) ?_
                refine aL_s _ rfl rfl (fun hc => q_move rfl) ?_
                refine aL_s _ rfl rfl (fun hc => q_eql (ev_yes rfl hc) rfl) ?_
                refine aL_s true rfl rfl (fun _ => q_and rfl rfl (fun h => gt rfl h)) ?_
                refine aL_s true rfl rfl (fun _ => q_move rfl) ?_
                refine aL_s _ rfl rfl (fun hc => q_move rfl) ?_
                refine aL_s _ rfl rfl (fun hc => q_move rfl) ?_
                refine aL_s _ rfl rfl (fun hc => q_eql (ev_yes rfl hc) (ev_yes rfl hc)) ?_
                refine aL_s true rfl rfl (fun _ => q_and rfl rfl (fun h => gt rfl h)) ?_
                refine aL_s true rfl rfl (fun _ => q_assign rfl) ?_
                refine aL_nil ?_
                refine thn_n ?_
                refine awp_ret ?_
                refine fin1 [] [] rfl Try.results3 rfl ?_ (.inr rfl)
                have g := g3 (by simpa using h5)
                rw [g, if_pos (of_decide_eq_true h7), and255 hd5]; simp
              · skip
                refine awp_skip ?_
                refine thn_n ?_
                refine awp_seq ?_
                refine awp_region ?_
                refine aL_s true rfl rfl (fun _ => q_move rfl) ?_
                refine aL_s true rfl rfl (fun _ => q_move rfl) ?_
                refine aL_s _ rfl rfl (fun hc => q_move rfl) ?_
                refine aL_s _ rfl rfl (fun hc => q_eql (ev_yes rfl hc) rfl) ?_
                refine aL_s true rfl rfl (fun _ => q_and rfl rfl (fun h => gt rfl h)) ?_
                refine aL_s true rfl rfl (fun _ => q_move rfl) ?_
                refine aL_s _ rfl rfl (fun hc => q_move rfl) ?_
                refine aL_s _ rfl rfl (fun hc => q_move rfl) ?_
                refine aL_s _ rfl rfl (fun hc => q_eql (ev_yes rfl hc) (ev_yes rfl hc)) ?_
                refine aL_s true rfl rfl (fun _ => q_and rfl rfl (fun h => gt rfl h)) ?_
                refine aL_s true rfl rfl (fun _ => q_assign rfl) ?_
                refine aL_nil ?_
                refine thn_n ?_
                refine awp_ret ?_
                refine fin1 [] [] rfl Try.results3 rfl ?_ (.inr rfl)
                have g := g3 (by simpa using h5)
                rw [g, if_neg (of_decide_eq_false h7)]; simp
theorem holds_B5 (l : List Deed) (ad : Option Addr) (c : Nat) (hl : ∀ d ∈ l, DeedOk d) (d : Deed) (hd : DeedOk d) (hd4 : I64 d.size) (hd5 : I64 d.n) (at_ : Int) (hat : I64 at_) (size : Int) (hs : I64 size) (hf : fewB l = true) (hk : d.do_ % 2 = 1) :
    Con Try.prog 3 [.slice ad l.length c, .agg #[.int .i64 d.do_, .int .i64 d.a.at_, .int .i64 d.a.size, .int .i64 d.a.kind, .int .i64 d.a.owner, .int .i64 d.a.mod, .int .i64 d.at_, .int .i64 d.size, .int .i64 d.n, .string d.b], .int .i64 at_, .int .i64 size]
      [Sh (.slice ad l.length c) (.sl (l.map deedRow))] [] fun r _ _ => r = .bool true := by
  have HL := Lib.hid hl
  clear hl
  have HD := Lib.hid hd
  clear hd
  refine Con.enter Try.func3 rfl (by simp [Try.ntmps3]) ?_
  show awp _ _ _ _ ⟨[(0, true, _), (1, true, _), (2, true, _), (3, true, _)], _, _⟩
  refine awp_len 0 rfl (fun hlen => ?_)
  refine awp_seq ?_
  refine awp_region ?_
  refine aL_eff (q := true) rfl (e_box rfl rfl rfl (fun b0_0 => ?_))
  simp only [List.cons_append, List.nil_append]
  refine aL_s true rfl rfl (fun _ => q_assign rfl) ?_
  refine aL_nil ?_
  refine thn_n ?_
  refine awp_seq ?_
  refine awp_region ?_
  refine aL_s true rfl rfl (fun _ => q_call (by kernel_rfl) rfl (fun w S fp hst => small_fn.quiet0 hst)) ?_
  refine aL_s true rfl rfl (fun _ => q_assign rfl) ?_
  refine aL_nil ?_
  refine thn_n ?_
  refine awp_seq ?_
  refine awp_seq ?_
  refine awp_region ?_
  refine aL_s true rfl rfl (fun _ => q_move rfl) ?_
  refine aL_s true rfl rfl (fun _ => q_call (by kernel_rfl) rfl (fun w S fp hst => ret_eq ((few_fn l ad c).quiet1 (psAt 0 rfl) hst) (congrArg Value.bool hf))) ?_
  refine aL_s true rfl rfl (fun _ => q_not rfl) ?_
  refine aL_s true rfl rfl (fun _ => q_move rfl) ?_
  refine aL_s _ rfl rfl (fun hc => q_load 0 tk26 rfl rfl rfl) ?_
  refine aL_eff (q := true) rfl (w_lit (zs := [.int .i64 0, .int .i64 0, .int .i64 0, .int .i64 0, .int .i64 0, .int .i64 0, .int .i64 0, .int .i64 0, .int .i64 0, .string .empty]) (l := [(0, .tmp 30)]) el22 (by kernel_rfl) (by decide) (by decide) (by decide) rfl rfl rfl (.more rfl (.v rfl (.v rfl (.v rfl (.v rfl (.v rfl (.v rfl (.v rfl (.v rfl (.v rfl (.v rfl .nil)))))))))) .nil) rfl rfl (fun v2_5 => ?_))
  simp only [List.cons_append, List.nil_append]
  refine aL_s _ rfl rfl (fun hc => q_call (by kernel_rfl) (evs_cons (ev_yes rfl hc) rfl) (fun w S fp hst => (few_fn [d] v2_5 1).quiet1 (List.mem_cons_self ..) (st_share hst 1 rfl))) ?_
  refine aL_s _ rfl rfl (fun hc => q_not (ev_yes rfl hc)) ?_
  refine aL_s true rfl rfl (fun _ => q_or rfl rfl (fun h => gf rfl h)) ?_
  refine aL_s true rfl rfl (fun _ => q_move rfl) ?_
  refine aL_s _ rfl rfl (fun hc => q_move rfl) ?_
  refine aL_s _ rfl rfl (fun hc => q_gtr (ev_yes rfl hc) rfl) ?_
  refine aL_s true rfl rfl (fun _ => q_or rfl rfl (fun h => gf rfl h)) ?_
  refine aL_nil ?_
  refine thn_n ?_
  refine awp_cond _ rfl (fun h1 => ?_) (fun h1 => ?_)
  · skip
    refine awp_seq ?_
    refine awp_region ?_
    refine aL_s true rfl rfl (fun _ => q_move rfl) ?_
    refine aL_s true rfl rfl (fun _ => q_assign rfl) ?_
    refine aL_nil ?_
    refine thn_n ?_
    refine awp_ret ?_
    refine thn_r ?_
    refine fin1 [] [] rfl Try.results3 rfl ?_ (.inr rfl)
    rfl
  · skip
    have hll : l.length ≤ 4000 := few_len hf
    refine awp_skip ?_
    refine thn_n ?_
    refine awp_seq ?_
    refine awp_region ?_
    refine aL_s true rfl rfl (fun _ => q_move rfl) ?_
    refine aL_eff (q := true) rfl (e_call [0] [] (by kernel_rfl) rfl rfl rfl rfl (fill_fn l ad c HL.out hll) ?_)
    rintro v ps' hp' ⟨rfl, p, rfl, rfl⟩
    refine aL_s true rfl rfl (fun _ => q_assign rfl) ?_
    refine aL_nil ?_
    refine thn_n ?_
    refine awp_seq ?_
    have hMl : (fillM l).length ≤ 4000 := Nat.le_trans (fillM_len l) hll
    generalize fillM l = M at hMl ⊢
    refine awp_spinv 2 rfl (fun hI => ?_)
    have hat_d := HD.out.at_
    refine awp_region ?_
    refine aL_s true rfl rfl (fun _ => q_fieldAddr (off := 0) (by kernel_rfl) rfl) ?_
    refine aL_s true rfl rfl (fun _ => q_load 0 tk3 rfl rfl rfl) ?_
    refine aL_s true rfl rfl (fun _ => q_call (by kernel_rfl) rfl (fun w S fp hst => (pick_fn d.do_ 2 HD.out.do_ (by omega)).quiet0 hst)) ?_
    refine aL_s true rfl rfl (fun _ => q_muli rfl rfl (by omega)) ?_
    refine aL_s true rfl rfl (fun _ => q_addi rfl rfl (by omega)) ?_
    refine aL_s true rfl rfl (fun _ => q_fieldAddr (off := 0) (by kernel_rfl) rfl) ?_
    refine aL_eff rfl (e_store 0 tk3 rfl rfl rfl rfl ?_)
    simp only [List.set_cons_succ, List.set_cons_zero]
    refine aL_nil ?_
    refine thn_n ?_
    refine awp_seq ?_
    generalize hE : 3 + 2 * (d.do_ % 2) = E
    have hE' : E = 5 := by omega
    refine awp_region ?_
    refine aL_s true rfl rfl (fun _ => q_fieldAddr (off := 7) (by kernel_rfl) rfl) ?_
    refine aL_s true rfl rfl (fun _ => q_load 0 tk3 rfl rfl rfl) ?_
    refine aL_s true rfl rfl (fun _ => q_assign rfl) ?_
    refine aL_nil ?_
    refine thn_n ?_
    refine awp_seq ?_
    refine awp_seq ?_
    refine awp_region ?_
    refine aL_s true rfl rfl (fun _ => q_fieldAddr (off := 0) (by kernel_rfl) rfl) ?_
    refine aL_s true rfl rfl (fun _ => q_load 0 tk3 rfl rfl rfl) ?_
    refine aL_s true rfl rfl (fun _ => q_eql rfl rfl) ?_
    refine aL_nil ?_
    refine thn_n ?_
    refine awp_cond _ rfl (fun h2 => ?_) (fun h2 => ?_)
    · skip
      refine awp_region ?_
      refine aL_s true rfl rfl (fun _ => q_fieldAddr (off := 9) (by kernel_rfl) rfl) ?_
      refine aL_s true rfl rfl (fun _ => q_load 0 tk9 rfl rfl rfl) ?_
      refine aL_s true rfl rfl (fun _ => q_lenStr Try.underlying9 rfl) ?_
      refine aL_s true rfl rfl (fun _ => q_assign rfl) ?_
      refine aL_nil ?_
      refine thn_n ?_
      refine awp_seq ?_
      refine awp_region ?_
      refine aL_s true rfl rfl (fun _ => q_move rfl) ?_
      refine aL_s true rfl rfl (fun _ => q_move rfl) ?_
      refine aL_s true rfl rfl (fun _ => q_move rfl) ?_
      refine aL_s true rfl rfl (fun _ => q_call (by kernel_rfl) rfl (fun w S fp hst => q_spread hst 2 rfl at_ size hat)) ?_
      refine aL_s true rfl rfl (fun _ => q_move rfl) ?_
      refine aL_s true rfl rfl (fun _ => q_extract rfl rfl) ?_
      refine aL_s true rfl rfl (fun _ => q_extract rfl rfl) ?_
      refine aL_s true rfl rfl (fun _ => q_assign rfl) ?_
      refine aL_s true rfl rfl (fun _ => q_assign rfl) ?_
      refine aL_nil ?_
      refine thn_n ?_
      refine awp_seq ?_
      have hdo : doM M ⟨E, d.a, d.at_, d.size, d.n, d.b⟩ = ((writeM M d.at_ d.b.data.toList).1, 0, [], (writeM M d.at_ d.b.data.toList).2) := by unfold doM; simp [hE']
      have hdok : DeedOk ⟨E, d.a, d.at_, d.size, d.n, d.b⟩ := ⟨by show I64 E; unfold I64; omega, HD.out.at_, HD.out.b⟩
      refine awp_region ?_
      refine aL_s true rfl rfl (fun _ => q_move rfl) ?_
      refine aL_s true rfl rfl (fun _ => q_load 0 tk26 rfl rfl rfl) ?_
      refine aL_eff (q := false) rfl (e_call [] [2] (by kernel_rfl) rfl rfl rfl rfl (do_fn p M ⟨E, d.a, d.at_, d.size, d.n, d.b⟩ hdok (by omega)) ?_)
      rintro v ps' hp' ⟨rfl, rfl, rfl⟩; rw [hdo]
      refine aL_s true rfl rfl (fun _ => q_move rfl) ?_
      refine aL_s true rfl rfl (fun _ => q_extract rfl rfl) ?_
      refine aL_s true rfl rfl (fun _ => q_extract rfl rfl) ?_
      refine aL_s true rfl rfl (fun _ => q_extract rfl rfl) ?_
      refine aL_s true rfl rfl (fun _ => q_assign rfl) ?_
      refine aL_s true rfl rfl (fun _ => q_assign rfl) ?_
      refine aL_s true rfl rfl (fun _ => q_assign rfl) ?_
      refine aL_nil ?_
      refine thn_n ?_
      refine awp_seq ?_
      generalize hM' : (writeM M d.at_ d.b.data.toList).1 = M'
      generalize he : (writeM M d.at_ d.b.data.toList).2 = e
      obtain ⟨g1, g2, g3⟩ := write_facts hI hat_d hM' he
      refine awp_region ?_
      refine aL_s true rfl rfl (fun _ => q_move rfl) ?_
      refine aL_s true rfl rfl (fun _ => q_move rfl) ?_
      refine aL_s true rfl rfl (fun _ => q_move rfl) ?_
      refine aL_s true rfl rfl (fun _ => q_call (by kernel_rfl) rfl (fun w S fp hst => q_spread hst 2 rfl at_ size hat)) ?_
      refine aL_s true rfl rfl (fun _ => q_move rfl) ?_
      refine aL_s true rfl rfl (fun _ => q_extract rfl rfl) ?_
      refine aL_s true rfl rfl (fun _ => q_extract rfl rfl) ?_
      refine aL_s true rfl rfl (fun _ => q_assign rfl) ?_
      refine aL_s true rfl rfl (fun _ => q_assign rfl) ?_
      refine aL_nil ?_
      refine thn_n ?_
      refine awp_seq ?_
      refine awp_seq ?_
      refine awp_region ?_
      refine aL_s true rfl rfl (fun _ => q_move rfl) ?_
      refine aL_s true rfl rfl (fun _ => q_move rfl) ?_
      refine aL_s true rfl rfl (fun _ => q_neq rfl rfl) ?_
      refine aL_nil ?_
      refine thn_n ?_
      refine awp_cond _ rfl (fun h3 => ?_) (fun h3 => ?_)
      · skip
        refine awp_seq ?_
        refine awp_region ?_
        refine aL_s true rfl rfl (fun _ => q_assign rfl) ?_
        refine aL_nil ?_
        refine thn_n ?_
        refine awp_ret ?_
        refine thn_r ?_
        refine fin1 [] [] rfl Try.results3 rfl ?_ (.inr rfl)
        exact absurd h3 (by rw [g1]; simp)
      · skip
        refine awp_skip ?_
        refine thn_n ?_
        refine awp_seq ?_
        refine awp_region ?_
        refine aL_s true rfl rfl (fun _ => q_move rfl) ?_
        refine aL_s true rfl rfl (fun _ => q_leq rfl rfl) ?_
        refine aL_s true rfl rfl (fun _ => q_move rfl) ?_
        refine aL_s _ rfl rfl (fun hc => q_move rfl) ?_
        refine aL_s _ rfl rfl (fun hc => q_leq (ev_yes rfl hc) rfl) ?_
        refine aL_s true rfl rfl (fun _ => q_or rfl rfl (fun h => gf rfl h)) ?_
        refine aL_s true rfl rfl (fun _ => q_move rfl) ?_
        refine aL_s _ rfl rfl (fun hc => q_move rfl) ?_
        refine aL_s _ rfl rfl (fun hc => q_fieldAddr (off := 6) (by kernel_rfl) rfl) ?_
        refine aL_s _ rfl rfl (fun hc => q_load 0 tk3 (ev_yes rfl hc) rfl rfl) ?_
        refine aL_s _ rfl rfl (fun hc => q_geq (ev_yes rfl hc) (ev_yes rfl hc)) ?_
        refine aL_s _ rfl rfl (fun hc => q_move (ev_yes rfl hc)) ?_
        refine aL_s _ rfl rfl (fun hc => q_move rfl) ?_
        refine aL_s _ rfl rfl (fun hc => q_fieldAddr (off := 6) (by kernel_rfl) rfl) ?_
        refine aL_s _ rfl rfl (fun hc => q_load 0 tk3 (ev_yes rfl hc) rfl rfl) ?_
        refine aL_s _ rfl rfl (fun hc => q_sub (ev_yes rfl hc) (ev_yes rfl hc)) ?_
        refine aL_s _ rfl rfl (fun hc => q_move rfl) ?_
        refine aL_s _ rfl rfl (fun hc => q_geq (ev_yes rfl hc) (ev_yes rfl hc)) ?_
        refine aL_s _ rfl rfl (fun hc => q_and (ev_yes rfl hc) rfl (fun h => gt hc h)) ?_
        refine aL_s true rfl rfl (fun _ => q_or rfl rfl (fun h => gf rfl h)) ?_
        refine aL_s true rfl rfl (fun _ => q_move rfl) ?_
        refine aL_s _ rfl rfl (fun hc => q_move rfl) ?_
        refine aL_s _ rfl rfl (fun hc => q_fieldAddr (off := 6) (by kernel_rfl) rfl) ?_
        refine aL_s _ rfl rfl (fun hc => q_load 0 tk3 (ev_yes rfl hc) rfl rfl) ?_
        refine aL_s _ rfl rfl (fun hc => q_lss (ev_yes rfl hc) (ev_yes rfl hc)) ?_
        refine aL_s _ rfl rfl (fun hc => q_move (ev_yes rfl hc)) ?_
        refine aL_s _ rfl rfl (fun hc => q_move rfl) ?_
        refine aL_s _ rfl rfl (fun hc => q_fieldAddr (off := 6) (by kernel_rfl) rfl) ?_
        refine aL_s _ rfl rfl (fun hc => q_load 0 tk3 (ev_yes rfl hc) rfl rfl) ?_
        refine aL_s _ rfl rfl (fun hc => q_move rfl) ?_
        refine aL_s _ rfl rfl (fun hc => q_sub (ev_yes rfl hc) (ev_yes rfl hc)) ?_
        refine aL_s _ rfl rfl (fun hc => q_leq (ev_yes rfl hc) (ev_yes rfl hc)) ?_
        refine aL_s _ rfl rfl (fun hc => q_and (ev_yes rfl hc) rfl (fun h => gt hc h)) ?_
        refine aL_s true rfl rfl (fun _ => q_or rfl rfl (fun h => gf rfl h)) ?_
        refine aL_s true rfl rfl (fun _ => q_assign rfl) ?_
        refine aL_nil ?_
        refine thn_n ?_
        refine awp_seq ?_
        refine awp_seq ?_
        refine awp_region ?_
        refine aL_s true rfl rfl (fun _ => q_move rfl) ?_
        refine aL_s true rfl rfl (fun _ => q_move rfl) ?_
        refine aL_s _ rfl rfl (fun hc => q_move rfl) ?_
        refine aL_s _ rfl rfl (fun hc => q_neq (ev_yes rfl hc) rfl) ?_
        refine aL_s true rfl rfl (fun _ => q_or rfl rfl (fun h => gf rfl h)) ?_
        refine aL_s true rfl rfl (fun _ => q_move rfl) ?_
        refine aL_s _ rfl rfl (fun hc => q_move rfl) ?_
        refine aL_s _ rfl rfl (fun hc => q_move rfl) ?_
        refine aL_s _ rfl rfl (fun hc => qs_neq (ev_yes rfl hc) (ev_yes rfl hc)) ?_
        refine aL_s true rfl rfl (fun _ => q_and rfl rfl (fun h => gt rfl h)) ?_
        refine aL_nil ?_
        refine thn_n ?_
        refine awp_cond _ rfl (fun h4 => ?_) (fun h4 => ?_)
        · skip
          refine awp_seq ?_
          refine awp_region ?_
          refine aL_s true rfl rfl (fun _ => q_assign rfl) ?_
          refine aL_nil ?_
          refine thn_n ?_
          refine awp_ret ?_
          refine thn_r ?_
          refine fin1 [] [] rfl Try.results3 rfl ?_ (.inr rfl)
          rw [bytes_eq, Bool.and_eq_true] at h4
          have h5 := g2 at_ size hat h4.1
          rw [h5] at h4
          exact absurd h4.2 (by simp)
        · skip
          refine awp_skip ?_
          refine thn_n ?_
          refine awp_seq ?_
          refine awp_seq ?_
          refine awp_region ?_
          refine aL_s true rfl rfl (fun _ => q_move rfl) ?_
          refine aL_s true rfl rfl (fun _ => q_neq rfl rfl) ?_
          refine aL_nil ?_
          refine thn_n ?_
          refine awp_cond _ rfl (fun h5 => ?_) (fun h5 => ?_)
          · skip
            refine awp_seq ?_
            refine awp_region ?_
            refine aL_s true rfl rfl (fun _ => q_move rfl) ?_
            refine aL_s true rfl rfl (fun _ => q_assign rfl) ?_
            refine aL_nil ?_
            refine thn_n ?_
            refine awp_ret ?_
            refine thn_r ?_
            refine fin1 [] [] rfl Try.results3 rfl ?_ (.inr rfl)
            rfl
          · skip
            refine awp_skip ?_
            refine thn_n ?_
            refine awp_seq ?_
            refine awp_seq ?_
            refine awp_region ?_
            refine aL_s true rfl rfl (fun _ => q_fieldAddr (off := 0) (by kernel_rfl) rfl) ?_
            refine aL_s true rfl rfl (fun _ => q_load 0 tk3 rfl rfl rfl) ?_
            refine aL_s true rfl rfl (fun _ => q_eql rfl rfl) ?_
            refine aL_nil ?_
            refine thn_n ?_
            refine awp_cond _ rfl (fun h6 => ?_) (fun h6 => ?_)
            · skip
              refine awp_seq ?_
              refine awp_region ?_
              refine aL_s true rfl rfl (fun _ => q_move rfl) ?_
              refine aL_s true rfl rfl (fun _ => q_fieldAddr (off := 6) (by kernel_rfl) rfl) ?_
              refine aL_s true rfl rfl (fun _ => q_load 0 tk3 rfl rfl rfl) ?_
              refine aL_s true rfl rfl (fun _ => q_move rfl) ?_
              refine aL_s true rfl rfl (fun _ => q_call (by kernel_rfl) rfl (fun w S fp hst => q_spread hst 2 rfl d.at_ d.b.size hat_d)) ?_
              refine aL_s true rfl rfl (fun _ => q_move rfl) ?_
              refine aL_s true rfl rfl (fun _ => q_extract rfl rfl) ?_
              refine aL_s true rfl rfl (fun _ => q_extract rfl rfl) ?_
              refine aL_s true rfl rfl (fun _ => q_assign rfl) ?_
              refine aL_s true rfl rfl (fun _ => q_assign rfl) ?_
              refine aL_nil ?_
              refine thn_n ?_
              refine awp_seq ?_
              refine awp_region ?_
              refine aL_s true rfl rfl (fun _ => q_move rfl) ?_
              refine aL_s true rfl rfl (fun _ => q_move rfl) ?_
              refine aL_s _ rfl rfl (fun hc => q_move rfl) ?_
              refine aL_s _ rfl rfl (fun hc => q_eql (ev_yes rfl hc) rfl) ?_
              refine aL_s true rfl rfl (fun _ => q_and rfl rfl (fun h => gt rfl h)) ?_
              refine aL_s true rfl rfl (fun _ => q_move rfl) ?_
              refine aL_s _ rfl rfl (fun hc => q_move rfl) ?_
              refine aL_s _ rfl rfl (fun hc => q_fieldAddr (off := 9) (by kernel_rfl) rfl) ?_
              refine aL_s _ rfl rfl (fun hc => q_load 0 tk9 (ev_yes rfl hc) rfl rfl) ?_
              refine aL_s _ rfl rfl (fun hc => qs_eql (ev_yes rfl hc) (ev_yes rfl hc)) ?_
              refine aL_s true rfl rfl (fun _ => q_and rfl rfl (fun h => gt rfl h)) ?_
              refine aL_s true rfl rfl (fun _ => q_assign rfl) ?_
              refine aL_nil ?_
              refine thn_n ?_
              refine awp_ret ?_
              refine thn_r ?_
              refine fin1 [] [] rfl Try.results3 rfl ?_ (.inr rfl)
              have g : readM M' d.at_ d.b.size = (d.b.data.toList, 0) := g3 (by simpa using h5)
              rw [g, bytes_eq2 rfl]; rfl
            · skip
              exact absurd h6 (by rw [hE']; decide)
    · skip
      exact absurd h2 (by rw [hE']; decide)
theorem spaceHolds_con (l : List Deed) (ad : Option Addr) (c : Nat) (hl : ∀ d ∈ l, DeedOk d) (d : Deed) (hd : DeedOk d) (hd4 : I64 d.size) (hd5 : I64 d.n) (at_ : Int) (hat : I64 at_) (size : Int) (hs : I64 size) :
    Con Try.prog 3 [.slice ad l.length c, .agg (deedV d).toArray, .int .i64 at_, .int .i64 size] [Sh (.slice ad l.length c) (.sl (l.map deedRow))] [] fun r _ _ => r = .bool true := by
  cases hf : fewB l with
  | false => exact holds_A l ad c hl d hd hd4 hd5 at_ hat size hs hf
  | true =>
    have h2 : d.do_ % 2 = 0 ∨ d.do_ % 2 = 1 := by omega
    rcases h2 with h2 | h2
    · exact holds_B3 l ad c hl d hd hd4 hd5 at_ hat size hs hf h2
    · exact holds_B5 l ad c hl d hd hd4 hd5 at_ hat size hs hf h2
end Go.Proofs.Ytlhbnpahplpobaa
namespace Go.Proofs.Ytlhbnpahplpobaa.spaceHolds
open Go.ChangeShapes Go.WideShapes Go.ChangeAt Go.RowKit
open Go.Lp Go.Sy
open Go.ChangeMaps (open_string shut_string)
theorem own : ownKnob Try.prog.godebug = none := by kernel_rfl
theorem laidOut : laidOutB Try.prog = true := by kernel_rfl
theorem rep_v {w : World} {S : Blks} {u x : Value} (h : RepD w S u (.v x)) : u = x := by cases h; rfl
theorem rds_plain {w : World} {cs l : List Value} (h : Rds w cs 0 (l.map D.v)) (hl : cs.length = l.length) : cs = l := by
  apply List.ext_getElem? 
  intro j
  by_cases hj : j < l.length
  · obtain ⟨u, hu, _, hr⟩ := h j (.v l[j]) (by simp [hj])
    rw [rep_v hr, Nat.zero_add] at hu
    rw [hu]; simp [hj]
  · rw [List.getElem?_eq_none (by omega), List.getElem?_eq_none (by omega)]
theorem deed_of2 {r : List D} (h : okD Try.prog 3 26 r) : ∃ d, r = deedRow d ∧ DeedOk d ∧ I64 d.size ∧ I64 d.n := by
  have h := okD_struct Try.underlying26 h
  obtain ⟨d1, _, rfl, h1, d2, _, rfl, h2, d3, _, rfl, h3, d4, _, rfl, h4, d5, _, rfl, h5, d6, _, rfl, h6, rfl⟩ := h
  obtain ⟨n1, rfl, w1⟩ := okD_int (i := .i64) (by kernel_rfl) h1
  obtain ⟨a, rfl, wa⟩ := area_of h2
  obtain ⟨n3, rfl, w3⟩ := okD_int (i := .i64) (by kernel_rfl) h3
  obtain ⟨n4, rfl, w4⟩ := okD_int (i := .i64) (by kernel_rfl) h4
  obtain ⟨n5, rfl, w5⟩ := okD_int (i := .i64) (by kernel_rfl) h5
  obtain ⟨s, rfl, w6⟩ := okD_string (by kernel_rfl) h6
  exact ⟨⟨n1, a, n3, n4, n5, s⟩, rfl, ⟨wf64 w1, wf64 w3, w6⟩, wf64 w4, wf64 w5⟩
set_option maxRecDepth 100000 in
theorem lifted (os : Os) (started : os.Started) (H : Type) (enc : TypeId × Value → H) :
    ReturnsInHanded {} Try.checked os 3 .any (Rows.spaceHoldsSpec.pre6 enc Try.prog Try.f3 Rows.spaceHoldsRow.domain false) (Rows.spaceHoldsSpec.post enc Try.prog Try.f3 false true false false) := by
  refine returnsInHanded_of_change (C := Try.checked) own started (by kernel_rfl) Try.func3
    (ChangeSpec.witness6 (enc := enc) (C := Try.checked) false ⟨#[], #[.slice none 0 0, .agg #[.int .i64 0, .int .i64 0, .int .i64 0, .int .i64 0, .int .i64 0, .int .i64 0, .int .i64 0, .int .i64 0, .int .i64 0, .string .empty], .int .i64 0, .int .i64 0], []⟩ 8 (by kernel_rfl) (by kernel_rfl) (by kernel_rfl) (by kernel_rfl)) ?_
  intro W base args ds gs before hval0 hW hcnd _
  have hval : ∀ (j : Nat) t v, Try.f3.params[j]? = some t → args[j]? = some v → Value.okWide Try.prog W .any base t v := hval0
  have hW' := hW
  obtain ⟨p, q, hA0, hV, rfl, hfz, hnd⟩ := hW
  have hA : DataW.TrodAll enc Try.prog W 0 (fun _ => true) true Try.f3.params.toList args.toList ds p := hA0
  rw [Try.params3] at hA hval
  obtain ⟨v0, vs0, d0, ds0, p0, q0, hargs, rfl, rfl, h0, r0⟩ := trodAll_cons hA
  obtain ⟨v1, vs1, d1, ds1, p1, q1, rfl, rfl, rfl, h1, r1⟩ := trodAll_cons r0
  obtain ⟨v2, vs2, d2, ds2, p2, q2, rfl, rfl, rfl, h2, r2⟩ := trodAll_cons r1
  obtain ⟨v3, vs3, d3, ds3, p3, q3, rfl, rfl, rfl, h3, r3⟩ := trodAll_cons r2
  obtain ⟨rfl, rfl, rfl⟩ := trodAll_nil r3
  obtain rfl : args = #[v0, v1, v2, v3] := by cases args; simp_all
  obtain ⟨rfl, rfl⟩ := trodVars_none hV
  obtain ⟨a0, len0, cap0, rfl⟩ := okWide_slice Try.underlying22 (hval 0 22 v0 rfl rfl)
  have k0 := h0
  have lt0 : ∀ x ∈ p0, x.block < W.heap.size := by obtain ⟨m, hm⟩ := k0; exact DataW.trod_lt m _ _ _ hm
  obtain ⟨l, rfl, hl, hrep⟩ : ∃ l : List Deed, len0 = l.length ∧ (∀ d ∈ l, DeedOk d) ∧ RepD W (fun b => b < W.heap.size) (.slice a0 l.length cap0) (.sl (l.map deedRow)) := by
    obtain ⟨fuel, hf⟩ := h0
    exact slice_in (k := 3) Try.underlying22 (by kernel_rfl) (fun r => deed_of) (by simpa [Value.cells] using hf)
  obtain ⟨cs1, rfl, hsz1⟩ := okWide_struct Try.underlying26 (hval 1 26 v1 rfl rfl)
  have k1 := h1
  have lt1 : ∀ x ∈ p1, x.block < W.heap.size := by obtain ⟨m, hm⟩ := k1; exact DataW.trod_lt m _ _ _ hm
  obtain ⟨d, rfl, hd, hd4, hd5⟩ : ∃ d : Deed, cs1 = (deedV d).toArray ∧ DeedOk d ∧ I64 d.size ∧ I64 d.n := by
    obtain ⟨fuel, hf⟩ := h1
    obtain ⟨ds, hlen, ho, hR⟩ := trod_rep 3 fuel 26 _ _ (by kernel_rfl) hf
    obtain ⟨d, rfl, hd⟩ := deed_of2 ho
    refine ⟨d, ?_, hd⟩
    have := rds_plain (l := deedV d) hR hlen.symm
    rw [← this]
    simp [Value.cells]
  obtain ⟨a2, rfl, rfl, rfl, w2⟩ := open_int Try.underlying3 (hval 2 3 v2 rfl rfl) h2
  obtain ⟨a3, rfl, rfl, rfl, w3⟩ := open_int Try.underlying3 (hval 3 3 v3 rfl rfl) h3
  clear hA0 hval0
  have hc := (spaceHolds_con l a0 cap0 hl d hd hd4 hd5 a2 (wf64 w2) a3 (wf64 w3)).quiet1 (List.mem_singleton.2 rfl) (st_in (w := W) (ps := [Sh (.slice a0 l.length cap0) (.sl (l.map deedRow))]) fun p hp => by rw [List.mem_singleton.1 hp]; exact hrep)
  refine hc.mono fun e W' ⟨he, bel⟩ => ?_
  subst he
  exact ⟨_, rfl, _, _, _, [], _, [], hW', trodAll_mk1 (shut_bool Try.underlying4 _), (trodAll_cons_mk (Below.trod laidOut (by kernel_rfl) (of_decide_eq_true (by kernel_rfl)) k0 bel lt0) (trodAll_cons_mk (Below.trod laidOut (by kernel_rfl) (of_decide_eq_true (by kernel_rfl)) k1 bel lt1) (trodAll_cons_mk (shut_int Try.underlying3 w2) (trodAll_cons_mk (shut_int Try.underlying3 w3) trodAll_mk0)))), rfl, bel.frame _, fun h => by cases h⟩
theorem over : Rows.spaceHoldsRow.holds Try.pinned (OpenSpec.ofChange Rows.spaceHoldsSpec) :=
  OpenClaim.holds_of_wide 3 Try.f3 rfl rfl rfl rfl rfl rfl rfl ⟨rfl, rfl, rfl, rfl, rfl⟩ rfl rfl rfl rfl rfl (by kernel_rfl) Try.func3 (by kernel_rfl)
    (of_decide_eq_true (by kernel_rfl)) (by unfold Func.isWrapper; first | (rw [if_pos (by decide +kernel)]; kernel_rfl) | (rw [if_neg (by decide +kernel)]; exact ⟨rfl, rfl⟩))
    (fun os started H enc _ => lifted os started H enc)
theorem proved : Rows.SpaceHoldsSaid := over
end Go.Proofs.Ytlhbnpahplpobaa.spaceHolds
