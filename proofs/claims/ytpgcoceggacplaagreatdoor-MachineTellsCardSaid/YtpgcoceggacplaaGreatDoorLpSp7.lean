/- Load, Read, Area, Store, Write of a space, by its memory. -/
import Derived.Test.YtpgcoceggacplaaGreatDoorLpMem
set_option linter.unusedVariables false
set_option linter.unusedSimpArgs false
set_option maxRecDepth 20000
namespace Go.Proofs.YtpgcoceggacplaaGreatDoor
open Go.RowKit Go.Lp

theorem accM_mem (S : List Pt) (at_ size : Int) : accM (mem S) at_ size = accE S at_ size := by
  unfold accM accE
  rw [mfind_mem]
  simp [Option.map_eq_none_iff]
theorem acc_yes {S : List Pt} {at_ size : Int} (h : accE S at_ size = 0) : (size = 1 ∨ size = 8 ∧ at_ % 8 = 0) ∧ ∃ q, pfind S at_ size = some q := by
  unfold accE at h
  split at h
  · omega
  · split at h
    · omega
    · split at h
      · omega
      · rename_i h3
        refine ⟨by omega, ?_⟩
        cases hq : pfind S at_ size with
        | none => exact absurd hq h3
        | some q => exact ⟨q, rfl⟩

theorem Sp.load {w : World} {p : Nat} {F : List Nat} {M : Mem} (h : Sp w p F M) (at_ size : Int) (hat : -9223372036854775808 ≤ at_) (hat' : at_ ≤ 9223372036854775807) :
    Calls Tryz.prog 103 #[.pointer (some ⟨p, 0, none⟩), .int .i64 at_, .int .i64 size] w fun e w' => e = .returned (.tuple #[.int .i64 (loadM M at_ size).1, .int .i64 (loadM M at_ size).2]) ∧ Below w.heap.size w w' := by
  obtain ⟨a, c, S, h, rfl, rfl⟩ := h
  unfold loadM
  rw [accM_mem]
  by_cases he : accE S at_ size = 0
  · rw [if_neg (by omega)]
    obtain ⟨hs, q, hq⟩ := acc_yes he
    rw [mfind_mem, hq]
    rcases hs with rfl | ⟨rfl, h8⟩
    · exact load_1 h at_ hat hat' hq
    · exact load_8 h at_ hat hat' h8 hq
  · rw [if_pos he]
    exact load_no h at_ size hat hat' he
theorem Sp.read {w : World} {p : Nat} {F : List Nat} {M : Mem} (h : Sp w p F M) (at_ size : Int) (hat : -9223372036854775808 ≤ at_) (hat' : at_ ≤ 9223372036854775807) :
    Calls Tryz.prog 14 #[.pointer (some ⟨p, 0, none⟩), .int .i64 at_, .int .i64 size] w fun e w' => e = .returned (.tuple #[.string (ofBytes (readM M at_ size).1), .int .i64 (readM M at_ size).2]) ∧ Below w.heap.size w w' := by
  obtain ⟨a, c, S, h, rfl, rfl⟩ := h
  have hno := read_no h at_ size hat hat'
  unfold readE at hno
  unfold readM
  by_cases h1 : size < 0
  · rw [if_pos h1] at hno ⊢; exact hno (.inl (by omega))
  · rw [if_neg h1] at hno ⊢
    by_cases h0 : size = 0
    · rw [if_pos h0] at hno ⊢; exact hno (.inl (by omega))
    · rw [if_neg h0] at hno ⊢
      rw [mfind_mem]
      cases hq : pfind S at_ size with
      | none => rw [hq] at hno; exact hno (.inr rfl)
      | some q => exact read_yes h at_ size hat hat' (by omega) hq
theorem Sp.area {w : World} {p : Nat} {F : List Nat} {M : Mem} (h : Sp w p F M) (at_ : Int) (hat : -9223372036854775808 ≤ at_) (hat' : at_ ≤ 9223372036854775807) :
    Calls Tryz.prog 43 #[.pointer (some ⟨p, 0, none⟩), .int .i64 at_] w fun e w' => e = .returned (.tuple #[.agg (areaM M at_).1.vals.toArray, .bool (areaM M at_).2]) ∧ Below w.heap.size w w' := by
  obtain ⟨a, c, S, h, rfl, rfl⟩ := h
  unfold areaM
  rw [mfind_mem]
  cases hq : pfind S at_ 1 with
  | none => exact area_no h at_ hat hat' hq
  | some q => exact area_yes h at_ hat hat' hq

set_option maxHeartbeats 1000000 in
theorem store_no {w : World} {p : Nat} {a : Option Nat} {c : Nat} {S : List Pt} (h : SpAt w p a c S) (at_ size n : Int) (hat : -9223372036854775808 ≤ at_) (hat' : at_ ≤ 9223372036854775807) (he : accE S at_ size ≠ 0) :
    Calls Tryz.prog 104 #[.pointer (some ⟨p, 0, none⟩), .int .i64 at_, .int .i64 size, .int .i64 n] w fun e w' => e = .returned (.int .i64 (accE S at_ size)) ∧ Below w.heap.size w w' := by
  have HACC := Lib.hid (fun W (hb : Below w.heap.size w W) => access_no (h.below hb) at_ size hat hat' he)
  generalize accE S at_ size = E at *
  have hE : (E != 0) = true := by simpa using he
  clear h he
  go_enter Tryz.func104, Tryz.ntmps104
  go_wp2_with (go_at_call 118; refine (HACC.out _ (by (repeat (first | exact Below.refl _ _ | exact below_ext _ _ _ | (refine below_ext' ?_ (by (try simp only [World.size_alloc, size_ext, World.size_setCell, World.size_drew]); omega) _ _) | (refine Below.alloc ?_ (by (try simp only [World.size_alloc, size_ext, World.size_setCell, World.size_drew]); omega) _) | refine Below.drew ?_)))).mono ?_; rintro e w1 ⟨rfl, hb⟩; obtain ⟨objs, d, rfl⟩ := ext_of_below hb; clear hb)
  go_ret
  exact ⟨rfl, by (repeat (first | exact Below.refl _ _ | exact below_ext _ _ _ | (refine below_ext' ?_ (by (try simp only [World.size_alloc, size_ext, World.size_setCell, World.size_drew]); omega) _ _) | (refine Below.alloc ?_ (by (try simp only [World.size_alloc, size_ext, World.size_setCell, World.size_drew]); omega) _) | refine Below.drew ?_))⟩
set_option maxHeartbeats 1000000 in
theorem store_code {w : World} {p : Nat} {a : Option Nat} {c : Nat} {S : List Pt} (h : SpAt w p a c S) (at_ size n : Int) (hat : -9223372036854775808 ≤ at_) (hat' : at_ ≤ 9223372036854775807) {q : Pt} (hs : size = 1 ∨ size = 8 ∧ at_ % 8 = 0) (hq : pfind S at_ size = some q) (hk : q.ar.kind = 0) :
    Calls Tryz.prog 104 #[.pointer (some ⟨p, 0, none⟩), .int .i64 at_, .int .i64 size, .int .i64 n] w fun e w' => e = .returned (.int .i64 5) ∧ Below w.heap.size w w' := by
  have HACC := Lib.hid (fun W (hb : Below w.heap.size w W) => access_yes (h.below hb) at_ size hat hat' hs hq)
  have hkk : (q.ar.kind == 0) = true := by simpa using hk
  clear h hq hs hk
  go_enter Tryz.func104, Tryz.ntmps104
  go_wp2_with (go_at_call 118; refine (HACC.out _ (by (repeat (first | exact Below.refl _ _ | exact below_ext _ _ _ | (refine below_ext' ?_ (by (try simp only [World.size_alloc, size_ext, World.size_setCell, World.size_drew]); omega) _ _) | (refine Below.alloc ?_ (by (try simp only [World.size_alloc, size_ext, World.size_setCell, World.size_drew]); omega) _) | refine Below.drew ?_)))).mono ?_; rintro e w1 ⟨rfl, hb⟩; obtain ⟨objs, d, rfl⟩ := ext_of_below hb; clear hb)
  go_ret
  exact ⟨rfl, by (repeat (first | exact Below.refl _ _ | exact below_ext _ _ _ | (refine below_ext' ?_ (by (try simp only [World.size_alloc, size_ext, World.size_setCell, World.size_drew]); omega) _ _) | (refine Below.alloc ?_ (by (try simp only [World.size_alloc, size_ext, World.size_setCell, World.size_drew]); omega) _) | refine Below.drew ?_))⟩
/-- bytes of one area anew -/
theorem done_mid {w w' : World} {p : Nat} {a : Option Nat} {c : Nat} {S : List Pt} (h : SpAt w p a c S) {q : Pt} (hq : q ∈ S) {bs : List UInt8} {sp : List Value} (hb : bs.length = q.bytes.length) (hc : q.bytes.length + sp.length = q.cap ∧ q.cap ≤ maxLen) (hm : Mid w q bs sp w') :
    Done w p (foot p a S) (updM (mem S) q.ar.at_ bs) w' := by
  have hf : foot p a (updAt S q.ar.at_ bs) = foot p a S := by
    unfold foot updAt
    rw [List.map_map]
    congr 2
    apply List.map_congr_left
    intro x _
    simp only [Function.comp]
    split <;> rfl
  refine ⟨foot p a S, ⟨a, c, updAt S q.ar.at_ bs, h.upd hq hm.upd hb ⟨sp, hm.blk, by simp only [hb]; exact hc.1, hc.2⟩, hf.symm, (mem_updAt _ _ _).symm⟩, Keep.of_upd hm.upd ?_, Grew.refl _ _⟩
  simp only [foot, List.mem_cons, List.mem_append, List.mem_map]
  exact .inr (.inr ⟨q, hq, rfl⟩)
theorem Sp.store {w : World} {p : Nat} {F : List Nat} {M : Mem} (h : Sp w p F M) (at_ size n : Int) (hat : -9223372036854775808 ≤ at_) (hat' : at_ ≤ 9223372036854775807) :
    Calls Tryz.prog 104 #[.pointer (some ⟨p, 0, none⟩), .int .i64 at_, .int .i64 size, .int .i64 n] w fun e w' => e = .returned (.int .i64 (storeM M at_ size n).2) ∧ Done w p F (storeM M at_ size n).1 w' := by
  have hh := h
  obtain ⟨a, c, S, h, rfl, rfl⟩ := h
  unfold storeM
  rw [accM_mem]
  by_cases he : accE S at_ size = 0
  · rw [if_neg (by omega)]
    obtain ⟨hs, q, hq⟩ := acc_yes he
    rw [mfind_mem, hq]
    by_cases hk : q.ar.kind = 0
    · simp only [Option.map_some, if_pos hk]
      exact (store_code h at_ size n hat hat' hs hq hk).mono fun e w' hw => ⟨hw.1, Done.of_below hh hw.2⟩
    · simp only [Option.map_some, if_neg hk]
      obtain ⟨hqm, b1, b2, b3, b4, b5, b6, b7, b8⟩ := pfind_bounds h.inv hq
      obtain ⟨sp, hsp, hc⟩ := h.bytes q hqm
      refine (store_walk h at_ size n hat hat' hs hq hk (at_ - q.ar.at_).toNat size.toNat (by omega) (by omega) sp hsp).mono fun e w' hw => ⟨hw.1, done_mid h hqm (length_splice _ _ _ ?_) hc hw.2⟩
      rw [numBytes_length]; omega
  · rw [if_pos he]
    exact (store_no h at_ size n hat hat' he).mono fun e w' hw => ⟨hw.1, Done.of_below hh hw.2⟩

set_option maxHeartbeats 1000000 in
theorem write_no {w : World} {p : Nat} {a : Option Nat} {c : Nat} {S : List Pt} (h : SpAt w p a c S) (at_ : Int) (s : ByteArray) (hs0 : s.data.toList ≠ []) (hsM : s.size ≤ 9223372036854775807) (hat : -9223372036854775808 ≤ at_) (hat' : at_ ≤ 9223372036854775807) (hq : pfind S at_ s.size = none) :
    Calls Tryz.prog 21 #[.pointer (some ⟨p, 0, none⟩), .int .i64 at_, .string s] w fun e w' => e = .returned (.int .i64 6) ∧ Below w.heap.size w w' := by
  have HFN := Lib.hid (fun W (hb : Below w.heap.size w W) => find_no (h.below hb) at_ s.size hat hat' hq)
  have hemp : s.toList.isEmpty = false := by
    rw [ByteArray.toList_eq]
    cases hl : s.data.toList with
    | nil => exact absurd hl hs0
    | cons _ _ => rfl
  clear h hq
  go_enter Tryz.func21, Tryz.ntmps21
  go_wp2_with (go_at_call 34; refine (HFN.out _ (by (repeat (first | exact Below.refl _ _ | exact below_ext _ _ _ | (refine below_ext' ?_ (by (try simp only [World.size_alloc, size_ext, World.size_setCell, World.size_drew]); omega) _ _) | (refine Below.alloc ?_ (by (try simp only [World.size_alloc, size_ext, World.size_setCell, World.size_drew]); omega) _) | refine Below.drew ?_)))).mono ?_; rintro e w1 ⟨a0, a1, a2, a3, a4, x, n, m, rfl, hb⟩; obtain ⟨objs, d, rfl⟩ := ext_of_below hb; clear hb)
  go_ret
  exact ⟨rfl, by (repeat (first | exact Below.refl _ _ | exact below_ext _ _ _ | (refine below_ext' ?_ (by (try simp only [World.size_alloc, size_ext, World.size_setCell, World.size_drew]); omega) _ _) | (refine Below.alloc ?_ (by (try simp only [World.size_alloc, size_ext, World.size_setCell, World.size_drew]); omega) _) | refine Below.drew ?_))⟩
theorem write_nil {w : World} {p : Nat} (at_ : Int) (s : ByteArray) (hs0 : s.data.toList = []) :
    Calls Tryz.prog 21 #[.pointer (some ⟨p, 0, none⟩), .int .i64 at_, .string s] w fun e w' => e = .returned (.int .i64 0) ∧ Below w.heap.size w w' := by
  have hemp : s.toList.isEmpty = true := by rw [ByteArray.toList_eq, hs0]; rfl
  go_enter Tryz.func21, Tryz.ntmps21
  go_wp2
  go_ret
  exact ⟨rfl, by (repeat (first | exact Below.refl _ _ | exact below_ext _ _ _ | (refine below_ext' ?_ (by (try simp only [World.size_alloc, size_ext, World.size_setCell, World.size_drew]); omega) _ _) | (refine Below.alloc ?_ (by (try simp only [World.size_alloc, size_ext, World.size_setCell, World.size_drew]); omega) _) | refine Below.drew ?_))⟩
theorem Sp.write {w : World} {p : Nat} {F : List Nat} {M : Mem} (h : Sp w p F M) (at_ : Int) (s : ByteArray) (hsM : s.size ≤ 9223372036854775807) (hat : -9223372036854775808 ≤ at_) (hat' : at_ ≤ 9223372036854775807) :
    Calls Tryz.prog 21 #[.pointer (some ⟨p, 0, none⟩), .int .i64 at_, .string s] w fun e w' => e = .returned (.int .i64 (writeM M at_ s.data.toList).2) ∧ Done w p F (writeM M at_ s.data.toList).1 w' := by
  have hh := h
  obtain ⟨a, c, S, h, rfl, rfl⟩ := h
  have hsl : s.data.toList.length = s.size := Array.length_toList
  unfold writeM
  by_cases hs0 : s.data.toList = []
  · rw [if_pos hs0]
    exact (write_nil at_ s hs0).mono fun e w' hw => ⟨hw.1, Done.of_below hh hw.2⟩
  · rw [if_neg hs0, mfind_mem, hsl]
    have hpos : 0 < s.size := by rw [← hsl]; exact List.length_pos_iff.2 hs0
    cases hq : pfind S at_ s.size with
    | none => exact (write_no h at_ s hs0 hsM hat hat' hq).mono fun e w' hw => ⟨hw.1, Done.of_below hh hw.2⟩
    | some q =>
      obtain ⟨hqm, b1, b2, b3, b4, b5, b6, b7, b8⟩ := pfind_bounds h.inv hq
      obtain ⟨sp, hsp, hc⟩ := h.bytes q hqm
      refine (write_walk h at_ s hpos hsM hat hat' hq (at_ - q.ar.at_).toNat (by omega) sp hsp).mono fun e w' hw => ⟨hw.1, done_mid h hqm (length_splice _ _ _ ?_) hc hw.2⟩
      show (at_ - q.ar.at_).toNat + s.data.toList.length ≤ q.bytes.length
      rw [hsl]; omega
end Go.Proofs.YtpgcoceggacplaaGreatDoor
