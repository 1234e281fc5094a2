/- Write of a space. -/
import Derived.Test.YtpgcoceggacplaaGreatDoorLpSp5
import Derived.Deep.AppendSrc
set_option linter.unusedVariables false
set_option linter.unusedSimpArgs false
set_option maxRecDepth 20000
namespace Go.Lp
open Go.RowKit Go.Deep
variable {P : Program}
theorem run_copy_str (w : World) (dT sT ty elem : TypeId) (g o dLen dCap : Nat) (s : ByteArray) (cur : Array Value) (t : TypeId)
    (hu : P.underlying dT = some (.slice elem)) (hs : (P.info? elem).map (·.size) = some 1) (hst : P.underlying sT = some .string)
    (hg : w.heap[g]? = some (.cells cur t (0, 0))) (hn : s.size ≤ dLen) (hfit : o + s.size ≤ cur.size) :
    (Builtin.copy_ #[dT, sT] ty #[.slice (some ⟨g, o, none⟩) dLen dCap, .string s]).run P w = .ok (goInt s.size) (w.setRow g (splice cur.toList o (byteCells s)).toArray) := by
  have hS := Src.ofString (P := P) w hst s
  have hl := hS.newsLen
  have hst' := run_storeCells_at P g o t (byteCells s) 0 cur w hg (by simpa using (by omega : o + (byteCells s).length ≤ cur.size)) hS.one
  have hc := hS.cells
  cases hq : P.info? elem with
  | none => simp [hq] at hs
  | some i =>
    have hi : i.size = 1 := by simpa [hq] using hs
    have hmin : Nat.min s.size dLen = s.size := Nat.min_eq_left hn
    simp [Builtin.copy_, run_underlying hu, Builtin.lenOf, sizeOf, typeInfo, hq, hi, hmin, hc, hst', splice]
theorem byteCells_bv (s : ByteArray) : byteCells s = s.data.toList.map bv := rfl
theorem splice_map {bs l : List UInt8} {o : Nat} (h : o + l.length ≤ bs.length) (sp : List Value) : splice (bs.map bv ++ sp) o (l.map bv) = (splice bs o l).map bv ++ sp := by
  unfold splice
  rw [List.take_append_of_le_length (by simp; omega), List.drop_append_of_le_length (by simp; omega)]
  simp [List.map_take, List.map_drop]
end Go.Lp
namespace Go.Proofs.YtpgcoceggacplaaGreatDoor
open Go.RowKit Go.Lp Go.Deep

theorem info_u8 : (Tryz.prog.info? 5).map (·.size) = some 1 := by kernel_rfl
set_option maxHeartbeats 1000000 in
theorem write_walk {w : World} {p : Nat} {a : Option Nat} {c : Nat} {S : List Pt} (h : SpAt w p a c S) (at_ : Int) (s : ByteArray) (hs0 : 0 < s.size) (hsM : s.size ≤ 9223372036854775807) (hat : -9223372036854775808 ≤ at_) (hat' : at_ ≤ 9223372036854775807) {q : Pt} (hq : pfind S at_ s.size = some q) (o : Nat) (ho : at_ - q.ar.at_ = o) (sp : List Value) (hsp : w.heap[q.blk]? = some (.cells (q.bytes.map bv ++ sp).toArray 5 (0, 0))) :
    Calls Tryz.prog 21 #[.pointer (some ⟨p, 0, none⟩), .int .i64 at_, .string s] w fun e w' => e = .returned (.int .i64 0) ∧ Mid w q (splice q.bytes o s.data.toList) sp w' := by
  obtain ⟨hqm, b1, b2, b3, b4, b5, b6, b7, b8⟩ := pfind_bounds h.inv hq
  have hby := h.bytes q hqm
  have hcap : q.bytes.length ≤ q.cap ∧ q.cap ≤ 9223372036854775807 := by obtain ⟨sp, _, h1, h2⟩ := hby; unfold maxLen at h2; omega
  obtain ⟨hc1, hc2⟩ := hcap
  have hqb := h.lt.2 q hqm
  have HFI := Lib.hid (fun W (hb : Below w.heap.size w W) => find_yes (h.below hb) at_ s.size hat hat' hq)
  have hon : o + s.size ≤ q.bytes.length := by omega
  have hsl : s.data.toList.length = s.size := Array.length_toList
  have hemp : s.toList.isEmpty = false := by
    cases h : s.toList.isEmpty with
    | false => rfl
    | true => rw [List.isEmpty_iff] at h; rw [ByteArray.toList_eq] at h; rw [h] at hsl; simp at hsl; omega
  have hcp : ∀ W, Below w.heap.size w W → ((Builtin.copy_ #[81, 9] 3 #[.slice (some ⟨q.blk, o, none⟩) (q.bytes.length - o) (q.cap - o), .string s]).run Tryz.prog W) = .ok (goInt s.size) (W.setRow q.blk ((splice q.bytes o s.data.toList).map bv ++ sp).toArray) := fun W hW => by
    rw [run_copy_str (P := Tryz.prog) W 81 9 3 5 q.blk o _ _ s _ _ Tryz.underlying81 info_u8 Tryz.underlying9 ((hW.block _ hqb).trans hsp) (by omega) (by simp; omega), byteCells_bv]
    rw [splice_map (by rw [hsl]; omega)]
  have hfin : ∀ W, Below w.heap.size w W → Mid w q (splice q.bytes o s.data.toList) sp (W.setRow q.blk ((splice q.bytes o s.data.toList).map bv ++ sp).toArray) := fun W hW =>
    ⟨(Upd.of_below hW).trans (Upd.setRow W q.blk _), heap_setRow_same _ _ _ _ _ _ ((hW.block _ hqb).trans hsp)⟩
  have HCP := Lib.hid hcp
  have HFN := Lib.hid hfin
  have hne : ¬ q.cap = o := by omega
  clear hby h hq hqm hsp hcp hfin hsl
  go_enter Tryz.func21, Tryz.ntmps21
  go_wp2_with (first | (go_at_call 34; refine (HFI.out _ (by (repeat (first | exact Below.refl _ _ | exact below_ext _ _ _ | (refine below_ext' ?_ (by (try simp only [World.size_alloc, size_ext, World.size_setCell, World.size_drew]); omega) _ _) | (refine Below.alloc ?_ (by (try simp only [World.size_alloc, size_ext, World.size_setCell, World.size_drew]); omega) _) | refine Below.drew ?_)))).mono ?_; rintro e w1 ⟨rfl, hb⟩; obtain ⟨objs, d, rfl⟩ := ext_of_below hb; clear hb) | (rw [HCP.out]; rotate_left; focus ((repeat (first | exact Below.refl _ _ | exact below_ext _ _ _ | (refine below_ext' ?_ (by (try simp only [World.size_alloc, size_ext, World.size_setCell, World.size_drew]); omega) _ _) | (refine Below.alloc ?_ (by (try simp only [World.size_alloc, size_ext, World.size_setCell, World.size_drew]); omega) _) | refine Below.drew ?_)))))
  go_ret
  exact ⟨rfl, HFN.out _ (by (repeat (first | exact Below.refl _ _ | exact below_ext _ _ _ | (refine below_ext' ?_ (by (try simp only [World.size_alloc, size_ext, World.size_setCell, World.size_drew]); omega) _ _) | (refine Below.alloc ?_ (by (try simp only [World.size_alloc, size_ext, World.size_setCell, World.size_drew]); omega) _) | refine Below.drew ?_)))⟩
end Go.Proofs.YtpgcoceggacplaaGreatDoor
