/- Contracts of Load, Read of a space. -/
import Derived.Test.YtpgcoceggacplaaGreatDoorLpSp3
import Derived.Laws.BytesArg
set_option linter.unusedVariables false
set_option linter.unusedSimpArgs false
set_option maxRecDepth 20000
namespace Go.Lp
/-- the bytes of a range in an area -/
def rangeOf (q : Pt) (at_ size : Int) : List UInt8 := (q.bytes.drop (at_ - q.ar.at_).toNat).take size.toNat
def ofBytes (l : List UInt8) : ByteArray := ⟨l.toArray⟩
theorem ofBytes_size (l : List UInt8) : (ofBytes l).size = l.length := rfl
theorem strOf (l : List UInt8) : strOfNums (l.map fun b => (b.toNat : Int)) = ofBytes l := by
  have h := strOfNums_data (l.map fun b => (b.toNat : Int))
  rw [List.map_map] at h
  have e : (l.map ((fun n : Int => UInt8.ofNat n.toNat) ∘ fun b => (b.toNat : Int))) = l := by
    conv => rhs; rw [← List.map_id l]
    apply List.map_congr_left
    intro b _
    simp
  rw [e] at h
  generalize strOfNums _ = s at h
  obtain ⟨d⟩ := s
  simp only at h
  unfold ofBytes
  rw [← h]
end Go.Lp
namespace Go.Proofs.YtpgcoceggacplaaGreatDoor
open Go.RowKit Go.Lp

theorem ByteAt.conv {w : World} {q : Pt} (h : ByteAt w q) (o n cp : Nat) (hn : o + n ≤ q.bytes.length) :
    (convert 81 9 (.slice (some ⟨q.blk, o, none⟩) n cp)).run Tryz.prog w = .ok (.string (ofBytes ((q.bytes.drop o).take n))) w := by
  obtain ⟨sp, hb, hl, hc⟩ := h
  rw [run_convert_bytes_arg (P := Tryz.prog) (w := w) 81 5 Tryz.underlying81 Tryz.underlying5 q.blk o n cp (((q.bytes.drop o).take n).map fun b => (b.toNat : Int)) (by simp; omega) (fun i hi => ?_) 9 Tryz.underlying9, strOf]
  rw [cell_of_heap hb]
  have h1 : o + i < q.bytes.length := by omega
  rw [List.getElem?_toArray, List.getElem?_append_left (by simpa using h1), List.getElem?_map, List.getElem?_eq_getElem h1]
  simp [bv, List.getD, hi, List.getElem?_eq_getElem h1]

/-- what a load gives -/
def loadI (q : Pt) (at_ size : Int) : Int := getI (rangeOf q at_ size) size.toNat (decide (size = 8))

set_option maxHeartbeats 1000000 in
theorem load_1 {w : World} {p : Nat} {a : Option Nat} {c : Nat} {S : List Pt} (h : SpAt w p a c S) (at_ : Int) (hat : -9223372036854775808 ≤ at_) (hat' : at_ ≤ 9223372036854775807) {q : Pt} (hq : pfind S at_ 1 = some q) :
    Calls Tryz.prog 103 #[.pointer (some ⟨p, 0, none⟩), .int .i64 at_, .int .i64 1] w fun e w' => e = .returned (.tuple #[.int .i64 (loadI q at_ 1), .int .i64 0]) ∧ Below w.heap.size w w' := by
  obtain ⟨hm, b1, b2, b3, b4, b5, b6, b7, b8⟩ := pfind_bounds h.inv hq
  obtain ⟨o, ho⟩ : ∃ o : Nat, at_ - q.ar.at_ = o := ⟨(at_ - q.ar.at_).toNat, by omega⟩
  have hby := h.bytes q hm
  have hcap : q.bytes.length ≤ q.cap ∧ q.cap ≤ 9223372036854775807 := by obtain ⟨sp, _, h1, h2⟩ := hby; unfold maxLen at h2; omega
  obtain ⟨hc1, hc2⟩ := hcap
  have hqb := h.lt.2 q hm
  have HACC := Lib.hid (fun W (hb : Below w.heap.size w W) => ho ▸ access_yes (h.below hb) at_ 1 hat hat' (.inl rfl) hq)
  have HCV := Lib.hid (fun W (hb : Below w.heap.size w W) cp => ((h.below hb).bytes q hm).conv o 1 cp (by omega))
  have hlen : ((q.bytes.drop o).take 1).length = 1 := by simp; omega
  have hfin : loadI q at_ 1 = getI (fieldL (ofBytes ((q.bytes.drop o).take 1)) 0 1) 1 false := by
    unfold loadI rangeOf fieldL
    rw [ho]
    show getI (List.take 1 (List.drop o q.bytes)) 1 _ = getI (List.take 1 (List.take 1 (List.drop o q.bytes))) 1 _
    rw [List.take_of_length_le (l := List.take 1 (List.drop o q.bytes)) (by omega)]
    rfl
  have HF := Lib.hid hfin
  have hon : o + 1 ≤ q.bytes.length := by omega
  have HG : Hid (∀ W, Calls Tryz.prog 35 #[.string (ofBytes ((q.bytes.drop o).take 1)), .int .i64 0, .int .i64 1, .bool false] W fun e w' => e = .returned (.tuple #[.int .i64 (getI (fieldL (ofBytes ((q.bytes.drop o).take 1)) 0 1) 1 false), .bool true]) ∧ W = w') :=
    Lib.hid (fun W => get_any (ofBytes ((q.bytes.drop o).take 1)) 0 1 (by rw [ofBytes_size, hlen]; unfold maxLen; omega) (by omega) (by rw [ofBytes_size, hlen]; omega) false W)
  have hne : ¬ q.cap = o := by omega
  clear hby h hfin hlen hq ho hm
  go_enter Tryz.func103, Tryz.ntmps103
  go_wp2_with (first | (go_at_call 118; refine (HACC.out _ (by (repeat (first | exact Below.refl _ _ | exact below_ext _ _ _ | (refine below_ext' ?_ (by (try simp only [World.size_alloc, size_ext, World.size_setCell, World.size_drew]); omega) _ _) | (refine Below.alloc ?_ (by (try simp only [World.size_alloc, size_ext, World.size_setCell, World.size_drew]); omega) _) | refine Below.drew ?_)))).mono ?_; rintro e w1 ⟨rfl, hb⟩; obtain ⟨objs, d, rfl⟩ := ext_of_below hb; clear hb) | (rw [HCV.out]; rotate_left; focus ((repeat (first | exact Below.refl _ _ | exact below_ext _ _ _ | (refine below_ext' ?_ (by (try simp only [World.size_alloc, size_ext, World.size_setCell, World.size_drew]); omega) _ _) | (refine Below.alloc ?_ (by (try simp only [World.size_alloc, size_ext, World.size_setCell, World.size_drew]); omega) _) | refine Below.drew ?_)))) | (go_at_call 35; refine (HG.out _).mono ?_; rintro e w1 ⟨rfl, rfl⟩))
  go_ret2
  exact ⟨by rw [HF.out]; rfl, by (repeat (first | exact Below.refl _ _ | exact below_ext _ _ _ | (refine below_ext' ?_ (by (try simp only [World.size_alloc, size_ext, World.size_setCell, World.size_drew]); omega) _ _) | (refine Below.alloc ?_ (by (try simp only [World.size_alloc, size_ext, World.size_setCell, World.size_drew]); omega) _) | refine Below.drew ?_))⟩
set_option maxHeartbeats 1000000 in
theorem load_8 {w : World} {p : Nat} {a : Option Nat} {c : Nat} {S : List Pt} (h : SpAt w p a c S) (at_ : Int) (hat : -9223372036854775808 ≤ at_) (hat' : at_ ≤ 9223372036854775807) (h8 : at_ % 8 = 0) {q : Pt} (hq : pfind S at_ 8 = some q) :
    Calls Tryz.prog 103 #[.pointer (some ⟨p, 0, none⟩), .int .i64 at_, .int .i64 8] w fun e w' => e = .returned (.tuple #[.int .i64 (loadI q at_ 8), .int .i64 0]) ∧ Below w.heap.size w w' := by
  obtain ⟨hm, b1, b2, b3, b4, b5, b6, b7, b8⟩ := pfind_bounds h.inv hq
  obtain ⟨o, ho⟩ : ∃ o : Nat, at_ - q.ar.at_ = o := ⟨(at_ - q.ar.at_).toNat, by omega⟩
  have hby := h.bytes q hm
  have hcap : q.bytes.length ≤ q.cap ∧ q.cap ≤ 9223372036854775807 := by obtain ⟨sp, _, h1, h2⟩ := hby; unfold maxLen at h2; omega
  obtain ⟨hc1, hc2⟩ := hcap
  have hqb := h.lt.2 q hm
  have HACC := Lib.hid (fun W (hb : Below w.heap.size w W) => ho ▸ access_yes (h.below hb) at_ 8 hat hat' (.inr ⟨rfl, h8⟩) hq)
  have HCV := Lib.hid (fun W (hb : Below w.heap.size w W) cp => ((h.below hb).bytes q hm).conv o 8 cp (by omega))
  have hlen : ((q.bytes.drop o).take 8).length = 8 := by simp; omega
  have hfin : loadI q at_ 8 = getI (fieldL (ofBytes ((q.bytes.drop o).take 8)) 0 8) 8 true := by
    unfold loadI rangeOf fieldL
    rw [ho]
    show getI (List.take 8 (List.drop o q.bytes)) 8 _ = getI (List.take 8 (List.take 8 (List.drop o q.bytes))) 8 _
    rw [List.take_of_length_le (l := List.take 8 (List.drop o q.bytes)) (by omega)]
    rfl
  have HF := Lib.hid hfin
  have hon : o + 8 ≤ q.bytes.length := by omega
  have HG : Hid (∀ W, Calls Tryz.prog 35 #[.string (ofBytes ((q.bytes.drop o).take 8)), .int .i64 0, .int .i64 8, .bool true] W fun e w' => e = .returned (.tuple #[.int .i64 (getI (fieldL (ofBytes ((q.bytes.drop o).take 8)) 0 8) 8 true), .bool true]) ∧ W = w') :=
    Lib.hid (fun W => get_any (ofBytes ((q.bytes.drop o).take 8)) 0 8 (by rw [ofBytes_size, hlen]; unfold maxLen; omega) (by omega) (by rw [ofBytes_size, hlen]; omega) true W)
  have hne : ¬ q.cap = o := by omega
  clear hby h hfin hlen hq ho hm
  go_enter Tryz.func103, Tryz.ntmps103
  go_wp2_with (first | (go_at_call 118; refine (HACC.out _ (by (repeat (first | exact Below.refl _ _ | exact below_ext _ _ _ | (refine below_ext' ?_ (by (try simp only [World.size_alloc, size_ext, World.size_setCell, World.size_drew]); omega) _ _) | (refine Below.alloc ?_ (by (try simp only [World.size_alloc, size_ext, World.size_setCell, World.size_drew]); omega) _) | refine Below.drew ?_)))).mono ?_; rintro e w1 ⟨rfl, hb⟩; obtain ⟨objs, d, rfl⟩ := ext_of_below hb; clear hb) | (rw [HCV.out]; rotate_left; focus ((repeat (first | exact Below.refl _ _ | exact below_ext _ _ _ | (refine below_ext' ?_ (by (try simp only [World.size_alloc, size_ext, World.size_setCell, World.size_drew]); omega) _ _) | (refine Below.alloc ?_ (by (try simp only [World.size_alloc, size_ext, World.size_setCell, World.size_drew]); omega) _) | refine Below.drew ?_)))) | (go_at_call 35; refine (HG.out _).mono ?_; rintro e w1 ⟨rfl, rfl⟩))
  go_ret2
  exact ⟨by rw [HF.out]; rfl, by (repeat (first | exact Below.refl _ _ | exact below_ext _ _ _ | (refine below_ext' ?_ (by (try simp only [World.size_alloc, size_ext, World.size_setCell, World.size_drew]); omega) _ _) | (refine Below.alloc ?_ (by (try simp only [World.size_alloc, size_ext, World.size_setCell, World.size_drew]); omega) _) | refine Below.drew ?_))⟩

theorem load_no {w : World} {p : Nat} {a : Option Nat} {c : Nat} {S : List Pt} (h : SpAt w p a c S) (at_ size : Int) (hat : -9223372036854775808 ≤ at_) (hat' : at_ ≤ 9223372036854775807) (he : accE S at_ size ≠ 0) :
    Calls Tryz.prog 103 #[.pointer (some ⟨p, 0, none⟩), .int .i64 at_, .int .i64 size] w fun e w' => e = .returned (.tuple #[.int .i64 0, .int .i64 (accE S at_ size)]) ∧ Below w.heap.size w w' := by
  have HACC := Lib.hid (fun W (hb : Below w.heap.size w W) => access_no (h.below hb) at_ size hat hat' he)
  generalize accE S at_ size = E at *
  have hE : (E != 0) = true := by simpa using he
  clear h he
  go_enter Tryz.func103, Tryz.ntmps103
  go_wp2_with (go_at_call 118; refine (HACC.out _ (by (repeat (first | exact Below.refl _ _ | exact below_ext _ _ _ | (refine below_ext' ?_ (by (try simp only [World.size_alloc, size_ext, World.size_setCell, World.size_drew]); omega) _ _) | (refine Below.alloc ?_ (by (try simp only [World.size_alloc, size_ext, World.size_setCell, World.size_drew]); omega) _) | refine Below.drew ?_)))).mono ?_; rintro e w1 ⟨rfl, hb⟩; obtain ⟨objs, d, rfl⟩ := ext_of_below hb; clear hb)
  go_ret2
  exact ⟨rfl, by (repeat (first | exact Below.refl _ _ | exact below_ext _ _ _ | (refine below_ext' ?_ (by (try simp only [World.size_alloc, size_ext, World.size_setCell, World.size_drew]); omega) _ _) | (refine Below.alloc ?_ (by (try simp only [World.size_alloc, size_ext, World.size_setCell, World.size_drew]); omega) _) | refine Below.drew ?_))⟩

/-- the error of a read -/
def readE (S : List Pt) (at_ size : Int) : Int := if size < 0 then 1 else if size = 0 then 0 else if pfind S at_ size = none then 6 else 0

set_option maxHeartbeats 1000000 in
theorem read_yes {w : World} {p : Nat} {a : Option Nat} {c : Nat} {S : List Pt} (h : SpAt w p a c S) (at_ size : Int) (hat : -9223372036854775808 ≤ at_) (hat' : at_ ≤ 9223372036854775807) (hsz : 0 < size) {q : Pt} (hq : pfind S at_ size = some q) :
    Calls Tryz.prog 14 #[.pointer (some ⟨p, 0, none⟩), .int .i64 at_, .int .i64 size] w fun e w' => e = .returned (.tuple #[.string (ofBytes (rangeOf q at_ size)), .int .i64 0]) ∧ Below w.heap.size w w' := by
  obtain ⟨hm, b1, b2, b3, b4, b5, b6, b7, b8⟩ := pfind_bounds h.inv hq
  obtain ⟨o, ho⟩ : ∃ o : Nat, at_ - q.ar.at_ = o := ⟨(at_ - q.ar.at_).toNat, by omega⟩
  obtain ⟨n, rfl⟩ : ∃ n : Nat, size = n := ⟨size.toNat, by omega⟩
  obtain rfl : at_ = q.ar.at_ + o := by omega
  have hby := h.bytes q hm
  have hcap : q.bytes.length ≤ q.cap ∧ q.cap ≤ 9223372036854775807 := by obtain ⟨sp, _, h1, h2⟩ := hby; unfold maxLen at h2; omega
  obtain ⟨hc1, hc2⟩ := hcap
  have hqb := h.lt.2 q hm
  have HFI := Lib.hid (fun W (hb : Below w.heap.size w W) => find_yes (h.below hb) (q.ar.at_ + o) n hat hat' hq)
  have hon : o + n ≤ q.bytes.length := by omega
  have HCV := Lib.hid (fun W (hb : Below w.heap.size w W) cp => ((h.below hb).bytes q hm).conv o n cp hon)
  have hfin : rangeOf q (q.ar.at_ + o) n = (q.bytes.drop o).take n := by
    unfold rangeOf
    rw [show (q.ar.at_ + (o : Int) - q.ar.at_).toNat = o by omega, Int.toNat_natCast]
  have HF := Lib.hid hfin
  have hne : ¬ q.cap = o := by omega
  have hn0 : ((n : Int) == 0) = false := by simp; omega
  have eo : q.ar.at_ + (o : Int) - q.ar.at_ = o := by omega
  clear hby h hfin hq hm
  go_enter Tryz.func14, Tryz.ntmps14
  go_wp2_with (first | (go_at_call 34; refine (HFI.out _ (by (repeat (first | exact Below.refl _ _ | exact below_ext _ _ _ | (refine below_ext' ?_ (by (try simp only [World.size_alloc, size_ext, World.size_setCell, World.size_drew]); omega) _ _) | (refine Below.alloc ?_ (by (try simp only [World.size_alloc, size_ext, World.size_setCell, World.size_drew]); omega) _) | refine Below.drew ?_)))).mono ?_; rintro e w1 ⟨rfl, hb⟩; obtain ⟨objs, d, rfl⟩ := ext_of_below hb; clear hb) | (rw [HCV.out]; rotate_left; focus ((repeat (first | exact Below.refl _ _ | exact below_ext _ _ _ | (refine below_ext' ?_ (by (try simp only [World.size_alloc, size_ext, World.size_setCell, World.size_drew]); omega) _ _) | (refine Below.alloc ?_ (by (try simp only [World.size_alloc, size_ext, World.size_setCell, World.size_drew]); omega) _) | refine Below.drew ?_)))))
  go_ret2
  exact ⟨by rw [HF.out]; rfl, by (repeat (first | exact Below.refl _ _ | exact below_ext _ _ _ | (refine below_ext' ?_ (by (try simp only [World.size_alloc, size_ext, World.size_setCell, World.size_drew]); omega) _ _) | (refine Below.alloc ?_ (by (try simp only [World.size_alloc, size_ext, World.size_setCell, World.size_drew]); omega) _) | refine Below.drew ?_))⟩
theorem read_no {w : World} {p : Nat} {a : Option Nat} {c : Nat} {S : List Pt} (h : SpAt w p a c S) (at_ size : Int) (hat : -9223372036854775808 ≤ at_) (hat' : at_ ≤ 9223372036854775807) (hr : size ≤ 0 ∨ pfind S at_ size = none) :
    Calls Tryz.prog 14 #[.pointer (some ⟨p, 0, none⟩), .int .i64 at_, .int .i64 size] w fun e w' => e = .returned (.tuple #[.string ⟨#[]⟩, .int .i64 (readE S at_ size)]) ∧ Below w.heap.size w w' := by
  have HFN := Lib.hid (fun W (hb : Below w.heap.size w W) hq => find_no (h.below hb) at_ size hat hat' hq)
  clear h
  unfold readE
  by_cases h1 : size < 0
  · rw [if_pos h1]
    go_enter Tryz.func14, Tryz.ntmps14
    go_wp2
    go_ret2
    exact ⟨rfl, by (repeat (first | exact Below.refl _ _ | exact below_ext _ _ _ | (refine below_ext' ?_ (by (try simp only [World.size_alloc, size_ext, World.size_setCell, World.size_drew]); omega) _ _) | (refine Below.alloc ?_ (by (try simp only [World.size_alloc, size_ext, World.size_setCell, World.size_drew]); omega) _) | refine Below.drew ?_))⟩
  · rw [if_neg h1]
    by_cases h0 : size = 0
    · subst h0
      rw [if_pos rfl]
      go_enter Tryz.func14, Tryz.ntmps14
      go_wp2
      go_ret2
      exact ⟨rfl, by (repeat (first | exact Below.refl _ _ | exact below_ext _ _ _ | (refine below_ext' ?_ (by (try simp only [World.size_alloc, size_ext, World.size_setCell, World.size_drew]); omega) _ _) | (refine Below.alloc ?_ (by (try simp only [World.size_alloc, size_ext, World.size_setCell, World.size_drew]); omega) _) | refine Below.drew ?_))⟩
    · have hq := hr.resolve_left (by omega)
      rw [if_neg h0, if_pos hq]
      have h0' : (size == 0) = false := by simp [h0]
      have HQ := Lib.hid hq
      clear hq hr
      go_enter Tryz.func14, Tryz.ntmps14
      go_wp2_with (go_at_call 34; refine (HFN.out _ (by (repeat (first | exact Below.refl _ _ | exact below_ext _ _ _ | (refine below_ext' ?_ (by (try simp only [World.size_alloc, size_ext, World.size_setCell, World.size_drew]); omega) _ _) | (refine Below.alloc ?_ (by (try simp only [World.size_alloc, size_ext, World.size_setCell, World.size_drew]); omega) _) | refine Below.drew ?_))) HQ.out).mono ?_; rintro e w1 ⟨a0, a1, a2, a3, a4, x, n, m, rfl, hb⟩; obtain ⟨objs, d, rfl⟩ := ext_of_below hb; clear hb)
      go_ret2
      exact ⟨rfl, by (repeat (first | exact Below.refl _ _ | exact below_ext _ _ _ | (refine below_ext' ?_ (by (try simp only [World.size_alloc, size_ext, World.size_setCell, World.size_drew]); omega) _ _) | (refine Below.alloc ?_ (by (try simp only [World.size_alloc, size_ext, World.size_setCell, World.size_drew]); omega) _) | refine Below.drew ?_))⟩
end Go.Proofs.YtpgcoceggacplaaGreatDoor
