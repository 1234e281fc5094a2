/- Contracts of Store and Write of a space. -/
import Derived.Test.YtpgcoceggacplaaGreatDoorLpSp4
import Derived.Deep.Heap
set_option linter.unusedVariables false
set_option linter.unusedSimpArgs false
set_option maxRecDepth 20000
namespace Go.Lp
open Go.RowKit
/-- the parts, where the bytes at one address are others -/
def updAt (S : List Pt) (t : Int) (bs : List UInt8) : List Pt := S.map fun x => if x.ar.at_ = t then { x with bytes := bs } else x
theorem updAt_length (S : List Pt) (t : Int) (bs : List UInt8) : (updAt S t bs).length = S.length := by simp [updAt]
theorem Inv.uniq {S : List Pt} (h : Inv S) {x y : Pt} (hx : x ∈ S) (hy : y ∈ S) (he : x.ar.at_ = y.ar.at_) : x = y := by
  obtain ⟨i, hi, rfl⟩ := List.getElem_of_mem hx
  obtain ⟨j, hj, rfl⟩ := List.getElem_of_mem hy
  rcases Nat.lt_trichotomy i j with hlt | rfl | hlt
  · have := List.pairwise_iff_getElem.1 h.asc i j hi hj hlt
    have := rightA_iff.1 (h.right _ (List.getElem_mem hi))
    omega
  · rfl
  · have := List.pairwise_iff_getElem.1 h.asc j i hj hi hlt
    have := rightA_iff.1 (h.right _ (List.getElem_mem hj))
    omega
theorem Inv.updAt {S : List Pt} (h : Inv S) {q : Pt} (hq : q ∈ S) {bs : List UInt8} (hb : bs.length = q.bytes.length) : Inv (updAt S q.ar.at_ bs) := by
  refine ⟨fun x hx => ?_, ?_, fun x hx => ?_⟩
  · obtain ⟨y, hy, rfl⟩ := List.mem_map.1 hx
    have := h.right y hy
    split <;> exact this
  · unfold Lp.updAt
    rw [List.pairwise_map]
    refine h.asc.imp fun {x y} hxy => ?_
    split <;> split <;> exact hxy
  · obtain ⟨y, hy, rfl⟩ := List.mem_map.1 hx
    have := h.len y hy
    split
    · rename_i he
      have := h.uniq hy hq he
      subst this
      simp only [hb]; exact this
    · exact this
/-- the n-th byte of a number -/
def nthByte (n : Int) (k : Nat) : UInt8 := UInt8.ofNat ((n / 256 ^ k) % 256).toNat
theorem nthByte_val (n : Int) (k : Nat) : bv (nthByte n k) = .int .u8 ((n / 256 ^ k) % 256) := by
  unfold bv nthByte
  have h1 := Int.emod_nonneg (n / 256 ^ k) (show (256 : Int) ≠ 0 by omega)
  have h2 := Int.emod_lt_of_pos (n / 256 ^ k) (show (0 : Int) < 256 by omega)
  congr 1
  have : (UInt8.ofNat (n / 256 ^ k % 256).toNat).toNat = (n / 256 ^ k % 256).toNat := by
    rw [UInt8.toNat_ofNat']; omega
  rw [this]; omega
def numBytes (n : Int) (k : Nat) : List UInt8 := (List.range k).map (nthByte n)
theorem numBytes_length (n : Int) (k : Nat) : (numBytes n k).length = k := by simp [numBytes]
theorem numBytes_succ (n : Int) (k : Nat) : numBytes n (k + 1) = numBytes n k ++ [nthByte n k] := by simp [numBytes, List.range_succ]
/-- what a store leaves in the area -/
def putAt (q : Pt) (at_ : Int) (l : List UInt8) : List UInt8 := splice q.bytes (at_ - q.ar.at_).toNat l
end Go.Lp
namespace Go.Proofs.YtpgcoceggacplaaGreatDoor
open Go.RowKit Go.Lp Go.Deep

theorem SpAt.upd {w w' : World} {p : Nat} {a : Option Nat} {c : Nat} {S : List Pt} (h : SpAt w p a c S) {q : Pt} (hq : q ∈ S) (hu : Upd q.blk w w') {bs : List UInt8} (hb : bs.length = q.bytes.length) (hbs : ByteAt w' { q with bytes := bs }) : SpAt w' p a c (updAt S q.ar.at_ bs) := by
  have hap := h.apart q hq
  refine ⟨?_, ?_, fun x hx => ?_, ?_, fun x hx => ?_, h.self, h.inv.updAt hq hb, by rw [updAt_length]; exact h.few⟩
  · rw [updAt_length, hu.block p h.plt (Ne.symm hap.1)]; exact h.head
  · have hr := h.row
    cases a with
    | none => obtain ⟨rfl, hc⟩ := hr; exact absurd hq (by simp)
    | some B =>
      obtain ⟨cur, hB, hl, hS, hc, ht⟩ := hr
      refine ⟨cur, ?_, hl, by rw [updAt_length]; exact hS, hc, ?_⟩
      · rw [hu.block B (lt_of_heap hB) (fun e => hap.2 (by rw [e]))]; exact hB
      · rw [updAt_length, ht]
        unfold flat updAt
        rw [List.flatMap_map]
        rw [List.flatMap_def, List.flatMap_def]
        congr 1
        apply List.map_congr_left
        intro y hy
        split
        · rename_i he
          have := h.inv.uniq hy hq he
          subst this
          simp only [Pt.vals, Pt.sl, hb]
        · rfl
  · obtain ⟨y, hy, rfl⟩ := List.mem_map.1 hx
    by_cases he : y.ar.at_ = q.ar.at_
    · rw [if_pos he]
      have := h.inv.uniq hy hq he
      subst this
      exact hbs
    · rw [if_neg he]
      obtain ⟨sp, hyb, r⟩ := h.bytes y hy
      have hne : y.blk ≠ q.blk := fun e => by
        have hnd := h.nodup
        obtain ⟨i, hi, rfl⟩ := List.getElem_of_mem hy
        obtain ⟨j, hj, rfl⟩ := List.getElem_of_mem hq
        have hij : i ≠ j := fun e => he (by subst e; rfl)
        have := (List.nodup_iff_pairwise_ne.1 hnd)
        rw [List.pairwise_map] at this
        rcases Nat.lt_or_ge i j with hlt | hge
        · exact List.pairwise_iff_getElem.1 this i j hi hj hlt e
        · exact List.pairwise_iff_getElem.1 this j i hj hi (by omega) e.symm
      exact ⟨sp, (hu.block _ (lt_of_heap hyb) hne).trans hyb, r⟩
  · have : (updAt S q.ar.at_ bs).map Pt.blk = S.map Pt.blk := by
      unfold updAt
      rw [List.map_map]
      apply List.map_congr_left
      intro y _
      simp only [Function.comp]
      split <;> rfl
    rw [this]; exact h.nodup
  · obtain ⟨y, hy, rfl⟩ := List.mem_map.1 hx
    have := h.apart y hy
    split <;> exact this

theorem splice_bytes {bs : List UInt8} {o : Nat} {l : List UInt8} {b : UInt8} (h : o + l.length < bs.length) (sp : List Value) :
    ((splice bs o l).map bv ++ sp).toArray.setIfInBounds (o + l.length) (bv b) = ((splice bs o (l ++ [b])).map bv ++ sp).toArray := by
  have hl : (splice bs o l).length = bs.length := length_splice _ _ _ (by omega)
  apply Array.ext'
  simp only [List.setIfInBounds_toArray]
  rw [List.set_append_left _ _ (by simp [hl]; omega)]
  congr 1
  rw [← List.map_set]
  congr 1
  unfold splice
  have e1 : (bs.take o).length = o := by simp; omega
  rw [List.set_append_right _ _ (by omega), e1, Nat.add_sub_cancel_left, List.set_append_right _ _ (by omega), Nat.sub_self]
  congr 1
  rw [List.append_assoc]
  congr 1
  rw [List.drop_eq_getElem_cons (by omega), List.set_cons_zero]
  simp [Nat.add_assoc]

/-- what stays when a store is under way -/
structure Mid (w : World) (q : Pt) (bs : List UInt8) (sp : List Value) (wr : World) : Prop where
  upd : Upd q.blk w wr
  blk : wr.heap[q.blk]? = some (.cells (bs.map bv ++ sp).toArray 5 (0, 0))

theorem mid_step {w wr : World} {q : Pt} {o k : Nat} {n : Int} {sp : List Value} (h : Mid w q (splice q.bytes o (numBytes n k)) sp wr) (d : Nat) (hb : o + k < q.bytes.length) (hq : q.blk < w.heap.size) :
    Mid w q (splice q.bytes o (numBytes n (k + 1))) sp ((wr.setCell ⟨q.blk, o + k, none⟩ (.int .u8 (n / 2 ^ (8 * k) % 256))).ext #[] d) := by
  have hr := lt_of_heap h.blk
  have hl := numBytes_length n k
  refine ⟨?_, ?_⟩
  · refine h.upd.trans (Upd.trans (b := wr.setCell ⟨q.blk, o + k, none⟩ (.int .u8 (n / 2 ^ (8 * k) % 256))) ⟨rfl, rfl, rfl, by rw [nblk_setCell]; exact Nat.le_refl _, fun i _ hi => blk_setCell_other _ _ _ _ hi⟩ (Upd.of_below (below_ext _ _ _)))
  · rw [heap_ext _ _ _ (by rw [nblk_setCell]; exact hr)]
    have hv : Value.int .u8 (n / 2 ^ (8 * k) % 256) = bv (nthByte n k) := by
      rw [nthByte_val, Int.pow_mul]; rfl
    rw [hv, numBytes_succ, ← splice_bytes (by omega) sp, hl]
    have := h.blk
    simp only [World.setCell, Array.getElem?_modify, if_pos, this]
    rfl

set_option maxHeartbeats 2000000 in
theorem store_walk {w : World} {p : Nat} {a : Option Nat} {c : Nat} {S : List Pt} (h : SpAt w p a c S) (at_ size n : Int) (hat : -9223372036854775808 ≤ at_) (hat' : at_ ≤ 9223372036854775807) {q : Pt} (hs : size = 1 ∨ size = 8 ∧ at_ % 8 = 0) (hq : pfind S at_ size = some q) (hk : q.ar.kind ≠ 0) (o m : Nat) (ho : at_ - q.ar.at_ = o) (hm : size = m) (sp : List Value) (hsp : w.heap[q.blk]? = some (.cells (q.bytes.map bv ++ sp).toArray 5 (0, 0))) :
    Calls Tryz.prog 104 #[.pointer (some ⟨p, 0, none⟩), .int .i64 at_, .int .i64 size, .int .i64 n] w fun e w' => e = .returned (.int .i64 0) ∧ Mid w q (splice q.bytes o (numBytes n m)) sp w' := by
  obtain ⟨hqm, b1, b2, b3, b4, b5, b6, b7, b8⟩ := pfind_bounds h.inv hq
  have hby := h.bytes q hqm
  have hcap : q.bytes.length ≤ q.cap ∧ q.cap ≤ 9223372036854775807 := by obtain ⟨sp, _, h1, h2⟩ := hby; unfold maxLen at h2; omega
  obtain ⟨hc1, hc2⟩ := hcap
  have hqb := h.lt.2 q hqm
  have HACC := Lib.hid (fun W (hb : Below w.heap.size w W) => ho ▸ access_yes (h.below hb) at_ size hat hat' hs hq)
  have hon : o + m ≤ q.bytes.length := by omega
  have hm8 : m ≤ 8 := by omega
  have hkk : (q.ar.kind == 0) = false := by simpa using hk
  have HSP := Lib.hid hsp
  subst hm
  clear hby h hq hqm hs ho hsp hk
  go_enter Tryz.func104, Tryz.ntmps104
  go_wp2_with (go_at_call 118; refine (HACC.out _ (by (repeat (first | exact Below.refl _ _ | exact below_ext _ _ _ | (refine below_ext' ?_ (by (try simp only [World.size_alloc, size_ext, World.size_setCell, World.size_drew]); omega) _ _) | (refine Below.alloc ?_ (by (try simp only [World.size_alloc, size_ext, World.size_setCell, World.size_drew]); omega) _) | refine Below.drew ?_)))).mono ?_; rintro e w1 ⟨rfl, hb⟩; obtain ⟨objs, d, rfl⟩ := ext_of_below hb; clear hb)
  go_loopw [29] (fun i wr => ∃ k : Nat, k ≤ m ∧ i = .int .i64 k ∧ Mid w q (splice q.bytes o (numBytes n k)) sp wr ∧ wr.cell? ⟨w.heap.size + objs.size, 5, none⟩ = some (.slice (some ⟨q.blk, 0, none⟩) q.bytes.length q.cap) ∧ w.heap.size + objs.size < wr.heap.size) (fun i _ => m - (intOf i).toNat)
  case atStart =>
    refine ⟨0, Nat.zero_le _, rfl, ⟨Upd.of_below (by (repeat (first | exact Below.refl _ _ | exact below_ext _ _ _ | (refine below_ext' ?_ (by (try simp only [World.size_alloc, size_ext, World.size_setCell, World.size_drew]); omega) _ _) | (refine Below.alloc ?_ (by (try simp only [World.size_alloc, size_ext, World.size_setCell, World.size_drew]); omega) _) | refine Below.drew ?_))), ?_⟩, by simp [go_sem], by simp⟩
    have : (w.ext objs d).heap[q.blk]? = _ := (heap_ext _ _ _ hqb).trans HSP.out
    rw [blk_alloc_lt _ _ _ (by rw [size_ext]; omega), this]
    simp [splice, numBytes]
  case round =>
    obtain ⟨k, hk, rfl, hmid, hbox, hsz⟩ := hrel
    by_cases hlt : k < m
    · have hlen := numBytes_length n k
      have hsl : (splice q.bytes o (numBytes n k)).length = q.bytes.length := length_splice _ _ _ (by omega)
      have hcell : ∃ v, wr.cell? ⟨q.blk, o + k, none⟩ = some v := by
        rw [cell_of_heap hmid.blk, Array.getElem?_eq_getElem (by simp [hsl]; omega)]
        exact ⟨_, rfl⟩
      obtain ⟨v0, hcell⟩ := hcell
      have hqr := lt_of_heap hmid.blk
      have hfro : wr.frozen? ⟨q.blk, o + k, none⟩ = false := by unfold World.frozen?; rw [show (⟨q.blk, o + k, none⟩ : Addr).block = q.blk from rfl, hmid.blk]; simp
      have hbs : o + k < q.bytes.length := by omega
      have HSTEP := Lib.hid (fun d2 => mid_step hmid (n := n) d2 hbs hqb)
      clear hmid hsl hlen
      go_upto_region 9 with (fail)
      refine wp_region_st 11 (wr.setCell ⟨q.blk, o + k, none⟩ (.int .u8 (n / 2 ^ (8 * k) % 256))) rfl (by kernel_rfl) (by kernel_rfl) ?_
      repeat
        first
        | (refine T_pick_or rfl rfl rfl rfl rfl (fun K hK => ?_); simp only [Act.put, List.setIfInBounds_toArray, List.set_cons_succ, List.set_cons_zero]; refine hK _ ?_; clear hK K)
        | (refine T_pick_and rfl rfl rfl rfl rfl (fun K hK => ?_); simp only [Act.put, List.setIfInBounds_toArray, List.set_cons_succ, List.set_cons_zero]; refine hK _ ?_; clear hK K)
        | (refine T_lazy_pick_or rfl rfl rfl rfl rfl rfl (fun K hK => ?_); simp only [Act.put, List.setIfInBounds_toArray, List.set_cons_succ, List.set_cons_zero]; refine hK _ ?_; clear hK K)
        | (refine T_lazy_pick_and rfl rfl rfl rfl rfl rfl (fun K hK => ?_); simp only [Act.put, List.setIfInBounds_toArray, List.set_cons_succ, List.set_cons_zero]; refine hK _ ?_; clear hK K)
        | (refine T_quiet rfl rfl rfl (fun K hK => ?_); go_big_quiet_op; refine hK _ ?_; clear hK K)
        | (refine T_lazy (v := undef) rfl rfl rfl rfl (fun hgw => absurd hgw (by decide)) (fun K hK => ?_); (simp only [Act.put, List.setIfInBounds_toArray, List.set_cons_succ, List.set_cons_zero]; refine hK _ ?_; clear hK K))
        | (refine T_lazy2 (v := undef) rfl rfl rfl rfl (fun _ hgw => absurd hgw (by decide)) (fun K hK => ?_); (simp only [Act.put, List.setIfInBounds_toArray, List.set_cons_succ, List.set_cons_zero]; refine hK _ ?_; clear hK K))
        | (refine T_lazy (v := ?_) rfl rfl rfl rfl ?_ (fun K hK => ?_); rotate_left; (rintro hgw w1 ⟨φ1, rfl⟩; unfold Oper.quietAt; (try rw [hgw]); go_simp; (try simp (disch := omega) only [i64_in, w64_in]); exact rfl); (simp only [Act.put, List.setIfInBounds_toArray, List.set_cons_succ, List.set_cons_zero]; refine hK _ ?_; clear hK K))
        | (refine T_lazy (v := ?_) rfl rfl rfl rfl ?_ (fun K hK => ?_); rotate_left; (rintro hgw w1 ⟨φ1, rfl⟩; unfold Oper.quietAt; go_simp; (try simp (disch := omega) only [i64_in, w64_in]); exact rfl); (simp only [Act.put, List.setIfInBounds_toArray, List.set_cons_succ, List.set_cons_zero]; refine hK _ ?_; clear hK K))
        | (refine T_lazy2 (v := ?_) rfl rfl rfl rfl ?_ (fun K hK => ?_); rotate_left; (rintro hgc hgw w1 ⟨φ1, rfl⟩; unfold Oper.quietAt; (try rw [hgc]); (try rw [hgw]); go_simp; (try simp (disch := omega) only [i64_in, w64_in]); exact rfl); (simp only [Act.put, List.setIfInBounds_toArray, List.set_cons_succ, List.set_cons_zero]; refine hK _ ?_; clear hK K))
        | (refine T_store rfl rfl rfl ?_ ?_; (rintro w1 ⟨d1, rfl⟩; go_simp; exact ⟨_, rfl⟩))
      refine T_nil (fun d2 => ?_)
      go_wp2
      refine ⟨⟨k + 1, by omega, by push_cast; rfl, HSTEP.out d2, ?_, ?_⟩, ?_⟩
      · rw [cell_ext _ _ _ (by rw [nblk_setCell]; exact hsz), World.cell?_setCell_other _ _ _ _ (fun e => by injection e; omega)]; exact hbox
      · rw [size_ext, nblk_setCell]; omega
      · simp only [intOf]; omega
    · obtain rfl : k = m := by omega
      go_wp2
      go_ret
      exact ⟨rfl, hmid⟩
end Go.Proofs.YtpgcoceggacplaaGreatDoor
