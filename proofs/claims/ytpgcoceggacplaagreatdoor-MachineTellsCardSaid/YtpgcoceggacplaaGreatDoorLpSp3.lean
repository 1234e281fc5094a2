/- Contracts of Area, access, Load, Read of a space. -/
import Derived.Test.YtpgcoceggacplaaGreatDoorLpSp2
set_option linter.unusedVariables false
set_option linter.unusedSimpArgs false
set_option maxRecDepth 20000
namespace Go.Proofs.YtpgcoceggacplaaGreatDoor
open Go.RowKit Go.Lp

theorem area_yes {w : World} {p : Nat} {a : Option Nat} {c : Nat} {S : List Pt} (h : SpAt w p a c S) (at_ : Int) (hat : -9223372036854775808 ≤ at_) (hat' : at_ ≤ 9223372036854775807) {q : Pt} (hq : pfind S at_ 1 = some q) :
    Calls Tryz.prog 43 #[.pointer (some ⟨p, 0, none⟩), .int .i64 at_] w fun e w' => e = .returned (.tuple #[.agg #[.int .i64 q.ar.at_, .int .i64 q.ar.size, .int .i64 q.ar.kind, .int .i64 q.ar.owner, .int .i64 q.ar.mod], .bool true]) ∧ Below w.heap.size w w' := by
  have H := Lib.hid h
  clear h
  have HQ := Lib.hid hq
  clear hq
  go_enter Tryz.func43, Tryz.ntmps43
  go_wp2_with (go_at_call 34; refine (find_yes (H.out.below (by (repeat (first | exact Below.refl _ _ | exact below_ext _ _ _ | (refine below_ext' ?_ (by (try simp only [World.size_alloc, size_ext, World.size_setCell, World.size_drew]); omega) _ _) | (refine Below.alloc ?_ (by (try simp only [World.size_alloc, size_ext, World.size_setCell, World.size_drew]); omega) _) | refine Below.drew ?_)))) _ _ hat hat' HQ.out).mono ?_; rintro e w1 ⟨rfl, hb⟩; obtain ⟨objs, d, rfl⟩ := ext_of_below hb; clear hb)
  refine bodyPost_ret (v := .tuple #[.agg #[.int .i64 q.ar.at_, .int .i64 q.ar.size, .int .i64 q.ar.kind, .int .i64 q.ar.owner, .int .i64 q.ar.mod], .bool true]) (by simp [results, Tryz.results43, go_sem]) rfl ⟨rfl, ?_⟩
  (repeat (first | exact Below.refl _ _ | exact below_ext _ _ _ | (refine below_ext' ?_ (by (try simp only [World.size_alloc, size_ext, World.size_setCell, World.size_drew]); omega) _ _) | (refine Below.alloc ?_ (by (try simp only [World.size_alloc, size_ext, World.size_setCell, World.size_drew]); omega) _) | refine Below.drew ?_))
theorem area_no {w : World} {p : Nat} {a : Option Nat} {c : Nat} {S : List Pt} (h : SpAt w p a c S) (at_ : Int) (hat : -9223372036854775808 ≤ at_) (hat' : at_ ≤ 9223372036854775807) (hq : pfind S at_ 1 = none) :
    Calls Tryz.prog 43 #[.pointer (some ⟨p, 0, none⟩), .int .i64 at_] w fun e w' => e = .returned (.tuple #[.agg #[.int .i64 0, .int .i64 0, .int .i64 0, .int .i64 0, .int .i64 0], .bool false]) ∧ Below w.heap.size w w' := by
  have H := Lib.hid h
  clear h
  have HQ := Lib.hid hq
  clear hq
  go_enter Tryz.func43, Tryz.ntmps43
  go_wp2_with (go_at_call 34; refine (find_no (H.out.below (by (repeat (first | exact Below.refl _ _ | exact below_ext _ _ _ | (refine below_ext' ?_ (by (try simp only [World.size_alloc, size_ext, World.size_setCell, World.size_drew]); omega) _ _) | (refine Below.alloc ?_ (by (try simp only [World.size_alloc, size_ext, World.size_setCell, World.size_drew]); omega) _) | refine Below.drew ?_)))) _ _ hat hat' HQ.out).mono ?_; rintro e w1 ⟨a0, a1, a2, a3, a4, x, n, m, rfl, hb⟩; obtain ⟨objs, d, rfl⟩ := ext_of_below hb; clear hb)
  refine bodyPost_ret (v := .tuple #[.agg #[.int .i64 0, .int .i64 0, .int .i64 0, .int .i64 0, .int .i64 0], .bool false]) (by simp [results, Tryz.results43, go_sem]) rfl ⟨rfl, ?_⟩
  (repeat (first | exact Below.refl _ _ | exact below_ext _ _ _ | (refine below_ext' ?_ (by (try simp only [World.size_alloc, size_ext, World.size_setCell, World.size_drew]); omega) _ _) | (refine Below.alloc ?_ (by (try simp only [World.size_alloc, size_ext, World.size_setCell, World.size_drew]); omega) _) | refine Below.drew ?_))

/-- the error of an access -/
def accE (S : List Pt) (at_ size : Int) : Int :=
  if size ≠ 1 ∧ size ≠ 8 then 1 else if size = 8 ∧ at_ % 8 ≠ 0 then 6 else if pfind S at_ size = none then 6 else 0

theorem pfind_bounds {S : List Pt} (h : Inv S) {at_ size : Int} {q : Pt} (hq : pfind S at_ size = some q) :
    q ∈ S ∧ 256 ≤ q.ar.at_ ∧ q.ar.at_ < 1099511627776 ∧ q.ar.at_ ≤ at_ ∧ at_ < q.ar.at_ + q.ar.size ∧ size ≤ q.ar.at_ + q.ar.size - at_ ∧ 1 ≤ q.ar.size ∧ q.ar.size ≤ 1048576 ∧ (q.bytes.length : Int) = q.ar.size := by
  have hm := List.mem_of_find?_eq_some hq
  have hh := List.find?_some hq
  have hr := rightA_iff.1 (h.right q hm)
  have hl := h.len q hm
  unfold holds at hh
  simp only [Bool.and_eq_true, decide_eq_true_eq] at hh
  exact ⟨hm, by omega, by omega, by omega, by omega, by omega, by omega, by omega, hl⟩

set_option maxHeartbeats 1000000 in
theorem access_yes {w : World} {p : Nat} {a : Option Nat} {c : Nat} {S : List Pt} (h : SpAt w p a c S) (at_ size : Int) (hat : -9223372036854775808 ≤ at_) (hat' : at_ ≤ 9223372036854775807) {q : Pt} (hs : size = 1 ∨ size = 8 ∧ at_ % 8 = 0) (hq : pfind S at_ size = some q) :
    Calls Tryz.prog 118 #[.pointer (some ⟨p, 0, none⟩), .int .i64 at_, .int .i64 size] w fun e w' => e = .returned (.tuple #[.agg #[.int .i64 q.ar.at_, .int .i64 q.ar.size, .int .i64 q.ar.kind, .int .i64 q.ar.owner, .int .i64 q.ar.mod, .slice (some ⟨q.blk, 0, none⟩) q.bytes.length q.cap], .int .i64 (at_ - q.ar.at_), .int .i64 0]) ∧ Below w.heap.size w w' := by
  obtain ⟨_, b1, b2, b3, b4, b5, b6, b7, b8⟩ := pfind_bounds h.inv hq
  have H := Lib.hid h
  clear h
  have HQ := Lib.hid hq
  clear hq b8
  rcases hs with rfl | ⟨rfl, h8⟩
  · go_enter Tryz.func118, Tryz.ntmps118
    go_upto_region 6 with (go_at_call 34; refine (find_yes (H.out.below (by (repeat (first | exact Below.refl _ _ | exact below_ext _ _ _ | (refine below_ext' ?_ (by (try simp only [World.size_alloc, size_ext, World.size_setCell, World.size_drew]); omega) _ _) | (refine Below.alloc ?_ (by (try simp only [World.size_alloc, size_ext, World.size_setCell, World.size_drew]); omega) _) | refine Below.drew ?_)))) _ _ hat hat' HQ.out).mono ?_; rintro e w1 ⟨rfl, hb⟩; obtain ⟨objs, d, rfl⟩ := ext_of_below hb; clear hb)
    refine wp_region_st 6 (((w.alloc (.cells #[.int .i64 q.ar.at_, .int .i64 q.ar.size, .int .i64 q.ar.kind, .int .i64 q.ar.owner, .int .i64 q.ar.mod, .slice (some ⟨q.blk, 0, none⟩) q.bytes.length q.cap] 83)).ext objs d).alloc (.cells #[.int .i64 q.ar.at_, .int .i64 q.ar.size, .int .i64 q.ar.kind, .int .i64 q.ar.owner, .int .i64 q.ar.mod, .slice (some ⟨q.blk, 0, none⟩) q.bytes.length q.cap] 83)) rfl (by kernel_rfl) (by kernel_rfl) ?_
    repeat
      first
      | (refine T_pick_or rfl rfl rfl rfl rfl (fun K hK => ?_); simp only [Act.put, List.setIfInBounds_toArray, List.set_cons_succ, List.set_cons_zero]; refine hK _ ?_; clear hK K)
      | (refine T_pick_and rfl rfl rfl rfl rfl (fun K hK => ?_); simp only [Act.put, List.setIfInBounds_toArray, List.set_cons_succ, List.set_cons_zero]; refine hK _ ?_; clear hK K)
      | (refine T_lazy_pick_or rfl rfl rfl rfl rfl rfl (fun K hK => ?_); simp only [Act.put, List.setIfInBounds_toArray, List.set_cons_succ, List.set_cons_zero]; refine hK _ ?_; clear hK K)
      | (refine T_lazy_pick_and rfl rfl rfl rfl rfl rfl (fun K hK => ?_); simp only [Act.put, List.setIfInBounds_toArray, List.set_cons_succ, List.set_cons_zero]; refine hK _ ?_; clear hK K)
      | (refine T_quiet rfl rfl rfl (fun K hK => ?_); go_big_quiet_op; refine hK _ ?_; clear hK K)
      | (refine T_lazy (v := undef) rfl rfl rfl rfl (fun hgw => absurd hgw (by decide)) (fun K hK => ?_); (simp only [Act.put, List.setIfInBounds_toArray, List.set_cons_succ, List.set_cons_zero]; refine hK _ ?_; clear hK K))
      | (refine T_lazy2 (v := undef) rfl rfl rfl rfl (fun _ hgw => absurd hgw (by decide)) (fun K hK => ?_); (simp only [Act.put, List.setIfInBounds_toArray, List.set_cons_succ, List.set_cons_zero]; refine hK _ ?_; clear hK K))
      | (refine T_lazy (v := ?_) rfl rfl rfl rfl ?_ (fun K hK => ?_); rotate_left; (rintro hgw w1 ⟨φ1, rfl⟩; unfold Oper.quietAt; (try rw [hgw]); go_simp; (try simp (disch := omega) only [i64_in, w64_in]); exact rfl); (simp only [Act.put, List.setIfInBounds_toArray, List.set_cons_succ, List.set_cons_zero]; refine hK _ ?_; clear hK K))
      | (refine T_lazy (v := ?_) rfl rfl rfl rfl ?_ (fun K hK => ?_); rotate_left; (rintro hgw w1 ⟨φ1, rfl⟩; unfold Oper.quietAt; go_simp; (try simp (disch := omega) only [i64_in, w64_in]); exact rfl); (simp only [Act.put, List.setIfInBounds_toArray, List.set_cons_succ, List.set_cons_zero]; refine hK _ ?_; clear hK K))
      | (refine T_lazy2 (v := ?_) rfl rfl rfl rfl ?_ (fun K hK => ?_); rotate_left; (rintro hgc hgw w1 ⟨φ1, rfl⟩; unfold Oper.quietAt; (try rw [hgc]); (try rw [hgw]); go_simp; (try simp (disch := omega) only [i64_in, w64_in]); exact rfl); (simp only [Act.put, List.setIfInBounds_toArray, List.set_cons_succ, List.set_cons_zero]; refine hK _ ?_; clear hK K))
      | (refine T_store rfl rfl rfl ?_ ?_; (rintro w1 ⟨d1, rfl⟩; go_simp; exact ⟨_, rfl⟩))
    refine T_nil (fun d2 => ?_)
    go_wp2
    refine bodyPost_ret (v := .tuple #[.agg #[.int .i64 q.ar.at_, .int .i64 q.ar.size, .int .i64 q.ar.kind, .int .i64 q.ar.owner, .int .i64 q.ar.mod, .slice (some ⟨q.blk, 0, none⟩) q.bytes.length q.cap], .int .i64 (at_ - q.ar.at_), .int .i64 0]) (by simp [results, Tryz.results118, go_sem]) rfl ⟨rfl, ?_⟩
    (repeat (first | exact Below.refl _ _ | exact below_ext _ _ _ | (refine below_ext' ?_ (by (try simp only [World.size_alloc, size_ext, World.size_setCell, World.size_drew]); omega) _ _) | (refine Below.alloc ?_ (by (try simp only [World.size_alloc, size_ext, World.size_setCell, World.size_drew]); omega) _) | refine Below.drew ?_))
  · have h8' : (at_ % 8 != 0) = false := by simp [h8]
    go_enter Tryz.func118, Tryz.ntmps118
    go_upto_region 6 with (go_at_call 34; refine (find_yes (H.out.below (by (repeat (first | exact Below.refl _ _ | exact below_ext _ _ _ | (refine below_ext' ?_ (by (try simp only [World.size_alloc, size_ext, World.size_setCell, World.size_drew]); omega) _ _) | (refine Below.alloc ?_ (by (try simp only [World.size_alloc, size_ext, World.size_setCell, World.size_drew]); omega) _) | refine Below.drew ?_)))) _ _ hat hat' HQ.out).mono ?_; rintro e w1 ⟨rfl, hb⟩; obtain ⟨objs, d, rfl⟩ := ext_of_below hb; clear hb)
    refine wp_region_st 6 (((w.alloc (.cells #[.int .i64 q.ar.at_, .int .i64 q.ar.size, .int .i64 q.ar.kind, .int .i64 q.ar.owner, .int .i64 q.ar.mod, .slice (some ⟨q.blk, 0, none⟩) q.bytes.length q.cap] 83)).ext objs d).alloc (.cells #[.int .i64 q.ar.at_, .int .i64 q.ar.size, .int .i64 q.ar.kind, .int .i64 q.ar.owner, .int .i64 q.ar.mod, .slice (some ⟨q.blk, 0, none⟩) q.bytes.length q.cap] 83)) rfl (by kernel_rfl) (by kernel_rfl) ?_
    repeat
      first
      | (refine T_pick_or rfl rfl rfl rfl rfl (fun K hK => ?_); simp only [Act.put, List.setIfInBounds_toArray, List.set_cons_succ, List.set_cons_zero]; refine hK _ ?_; clear hK K)
      | (refine T_pick_and rfl rfl rfl rfl rfl (fun K hK => ?_); simp only [Act.put, List.setIfInBounds_toArray, List.set_cons_succ, List.set_cons_zero]; refine hK _ ?_; clear hK K)
      | (refine T_lazy_pick_or rfl rfl rfl rfl rfl rfl (fun K hK => ?_); simp only [Act.put, List.setIfInBounds_toArray, List.set_cons_succ, List.set_cons_zero]; refine hK _ ?_; clear hK K)
      | (refine T_lazy_pick_and rfl rfl rfl rfl rfl rfl (fun K hK => ?_); simp only [Act.put, List.setIfInBounds_toArray, List.set_cons_succ, List.set_cons_zero]; refine hK _ ?_; clear hK K)
      | (refine T_quiet rfl rfl rfl (fun K hK => ?_); go_big_quiet_op; refine hK _ ?_; clear hK K)
      | (refine T_lazy (v := undef) rfl rfl rfl rfl (fun hgw => absurd hgw (by decide)) (fun K hK => ?_); (simp only [Act.put, List.setIfInBounds_toArray, List.set_cons_succ, List.set_cons_zero]; refine hK _ ?_; clear hK K))
      | (refine T_lazy2 (v := undef) rfl rfl rfl rfl (fun _ hgw => absurd hgw (by decide)) (fun K hK => ?_); (simp only [Act.put, List.setIfInBounds_toArray, List.set_cons_succ, List.set_cons_zero]; refine hK _ ?_; clear hK K))
      | (refine T_lazy (v := ?_) rfl rfl rfl rfl ?_ (fun K hK => ?_); rotate_left; (rintro hgw w1 ⟨φ1, rfl⟩; unfold Oper.quietAt; (try rw [hgw]); go_simp; (try simp (disch := omega) only [i64_in, w64_in]); exact rfl); (simp only [Act.put, List.setIfInBounds_toArray, List.set_cons_succ, List.set_cons_zero]; refine hK _ ?_; clear hK K))
      | (refine T_lazy (v := ?_) rfl rfl rfl rfl ?_ (fun K hK => ?_); rotate_left; (rintro hgw w1 ⟨φ1, rfl⟩; unfold Oper.quietAt; go_simp; (try simp (disch := omega) only [i64_in, w64_in]); exact rfl); (simp only [Act.put, List.setIfInBounds_toArray, List.set_cons_succ, List.set_cons_zero]; refine hK _ ?_; clear hK K))
      | (refine T_lazy2 (v := ?_) rfl rfl rfl rfl ?_ (fun K hK => ?_); rotate_left; (rintro hgc hgw w1 ⟨φ1, rfl⟩; unfold Oper.quietAt; (try rw [hgc]); (try rw [hgw]); go_simp; (try simp (disch := omega) only [i64_in, w64_in]); exact rfl); (simp only [Act.put, List.setIfInBounds_toArray, List.set_cons_succ, List.set_cons_zero]; refine hK _ ?_; clear hK K))
      | (refine T_store rfl rfl rfl ?_ ?_; (rintro w1 ⟨d1, rfl⟩; go_simp; exact ⟨_, rfl⟩))
    refine T_nil (fun d2 => ?_)
    go_wp2
    refine bodyPost_ret (v := .tuple #[.agg #[.int .i64 q.ar.at_, .int .i64 q.ar.size, .int .i64 q.ar.kind, .int .i64 q.ar.owner, .int .i64 q.ar.mod, .slice (some ⟨q.blk, 0, none⟩) q.bytes.length q.cap], .int .i64 (at_ - q.ar.at_), .int .i64 0]) (by simp [results, Tryz.results118, go_sem]) rfl ⟨rfl, ?_⟩
    (repeat (first | exact Below.refl _ _ | exact below_ext _ _ _ | (refine below_ext' ?_ (by (try simp only [World.size_alloc, size_ext, World.size_setCell, World.size_drew]); omega) _ _) | (refine Below.alloc ?_ (by (try simp only [World.size_alloc, size_ext, World.size_setCell, World.size_drew]); omega) _) | refine Below.drew ?_))
theorem access_no {w : World} {p : Nat} {a : Option Nat} {c : Nat} {S : List Pt} (h : SpAt w p a c S) (at_ size : Int) (hat : -9223372036854775808 ≤ at_) (hat' : at_ ≤ 9223372036854775807) (he : accE S at_ size ≠ 0) :
    Calls Tryz.prog 118 #[.pointer (some ⟨p, 0, none⟩), .int .i64 at_, .int .i64 size] w fun e w' => e = .returned (.tuple #[.agg #[.int .i64 0, .int .i64 0, .int .i64 0, .int .i64 0, .int .i64 0, .slice none 0 0], .int .i64 0, .int .i64 (accE S at_ size)]) ∧ Below w.heap.size w w' := by
  have HI := Lib.hid h.inv
  have H := Lib.hid h
  clear h
  unfold accE at *
  by_cases h1 : size ≠ 1 ∧ size ≠ 8
  · rw [if_pos h1]
    have e1 : (size != 1) = true := by simp [h1.1]
    have e8 : (size != 8) = true := by simp [h1.2]
    clear he
    go_enter Tryz.func118, Tryz.ntmps118
    go_wp2
    refine bodyPost_ret (v := .tuple #[.agg #[.int .i64 0, .int .i64 0, .int .i64 0, .int .i64 0, .int .i64 0, .slice none 0 0], .int .i64 0, .int .i64 1]) (by simp [results, Tryz.results118, go_sem]) rfl ⟨rfl, ?_⟩
    (repeat (first | exact Below.refl _ _ | exact below_ext _ _ _ | (refine below_ext' ?_ (by (try simp only [World.size_alloc, size_ext, World.size_setCell, World.size_drew]); omega) _ _) | (refine Below.alloc ?_ (by (try simp only [World.size_alloc, size_ext, World.size_setCell, World.size_drew]); omega) _) | refine Below.drew ?_))
  · rw [if_neg h1] at he ⊢
    cases hq : pfind S at_ size with
    | none =>
      have HQ := Lib.hid hq
      clear hq he
      have e6 : (if size = 8 ∧ at_ % 8 ≠ 0 then (6 : Int) else if (none : Option Pt) = none then 6 else 0) = 6 := by simp
      rw [e6]
      clear e6
      rcases (show size = 1 ∨ size = 8 by omega) with rfl | rfl
      · go_enter Tryz.func118, Tryz.ntmps118
        go_wp2_with (go_at_call 34; refine (find_no (H.out.below (by (repeat (first | exact Below.refl _ _ | exact below_ext _ _ _ | (refine below_ext' ?_ (by (try simp only [World.size_alloc, size_ext, World.size_setCell, World.size_drew]); omega) _ _) | (refine Below.alloc ?_ (by (try simp only [World.size_alloc, size_ext, World.size_setCell, World.size_drew]); omega) _) | refine Below.drew ?_)))) _ _ hat hat' HQ.out).mono ?_; rintro e w1 ⟨a0, a1, a2, a3, a4, x, n, m, rfl, hb⟩; obtain ⟨objs, d, rfl⟩ := ext_of_below hb; clear hb)
        refine bodyPost_ret (v := .tuple #[.agg #[.int .i64 0, .int .i64 0, .int .i64 0, .int .i64 0, .int .i64 0, .slice none 0 0], .int .i64 0, .int .i64 6]) (by simp [results, Tryz.results118, go_sem]) rfl ⟨rfl, ?_⟩
        (repeat (first | exact Below.refl _ _ | exact below_ext _ _ _ | (refine below_ext' ?_ (by (try simp only [World.size_alloc, size_ext, World.size_setCell, World.size_drew]); omega) _ _) | (refine Below.alloc ?_ (by (try simp only [World.size_alloc, size_ext, World.size_setCell, World.size_drew]); omega) _) | refine Below.drew ?_))
      · go_enter Tryz.func118, Tryz.ntmps118
        go_wp2_with (go_at_call 34; refine (find_no (H.out.below (by (repeat (first | exact Below.refl _ _ | exact below_ext _ _ _ | (refine below_ext' ?_ (by (try simp only [World.size_alloc, size_ext, World.size_setCell, World.size_drew]); omega) _ _) | (refine Below.alloc ?_ (by (try simp only [World.size_alloc, size_ext, World.size_setCell, World.size_drew]); omega) _) | refine Below.drew ?_)))) _ _ hat hat' HQ.out).mono ?_; rintro e w1 ⟨a0, a1, a2, a3, a4, x, n, m, rfl, hb⟩; obtain ⟨objs, d, rfl⟩ := ext_of_below hb; clear hb)
        refine bodyPost_ret (v := .tuple #[.agg #[.int .i64 0, .int .i64 0, .int .i64 0, .int .i64 0, .int .i64 0, .slice none 0 0], .int .i64 0, .int .i64 6]) (by simp [results, Tryz.results118, go_sem]) rfl ⟨rfl, ?_⟩
        (repeat (first | exact Below.refl _ _ | exact below_ext _ _ _ | (refine below_ext' ?_ (by (try simp only [World.size_alloc, size_ext, World.size_setCell, World.size_drew]); omega) _ _) | (refine Below.alloc ?_ (by (try simp only [World.size_alloc, size_ext, World.size_setCell, World.size_drew]); omega) _) | refine Below.drew ?_))
    | some q =>
      rw [hq] at he
      have h8 : size = 8 ∧ at_ % 8 ≠ 0 := by
        by_cases h8 : size = 8 ∧ at_ % 8 ≠ 0
        · exact h8
        · rw [if_neg h8] at he; simp at he
      rw [if_pos h8]
      obtain ⟨_, b1, b2, b3, b4, b5, b6, b7, b8⟩ := pfind_bounds HI.out hq
      have HQ := Lib.hid hq
      clear hq he b8
      obtain ⟨rfl, h8⟩ := h8
      have h8' : (at_ % 8 != 0) = true := by simp [h8]
      clear h1
      go_enter Tryz.func118, Tryz.ntmps118
      go_wp2_with (go_at_call 34; refine (find_yes (H.out.below (by (repeat (first | exact Below.refl _ _ | exact below_ext _ _ _ | (refine below_ext' ?_ (by (try simp only [World.size_alloc, size_ext, World.size_setCell, World.size_drew]); omega) _ _) | (refine Below.alloc ?_ (by (try simp only [World.size_alloc, size_ext, World.size_setCell, World.size_drew]); omega) _) | refine Below.drew ?_)))) _ _ hat hat' HQ.out).mono ?_; rintro e w1 ⟨rfl, hb⟩; obtain ⟨objs, d, rfl⟩ := ext_of_below hb; clear hb)
      refine bodyPost_ret (v := .tuple #[.agg #[.int .i64 0, .int .i64 0, .int .i64 0, .int .i64 0, .int .i64 0, .slice none 0 0], .int .i64 0, .int .i64 6]) (by simp [results, Tryz.results118, go_sem]) rfl ⟨rfl, ?_⟩
      (repeat (first | exact Below.refl _ _ | exact below_ext _ _ _ | (refine below_ext' ?_ (by (try simp only [World.size_alloc, size_ext, World.size_setCell, World.size_drew]); omega) _ _) | (refine Below.alloc ?_ (by (try simp only [World.size_alloc, size_ext, World.size_setCell, World.size_drew]); omega) _) | refine Below.drew ?_))
end Go.Proofs.YtpgcoceggacplaaGreatDoor
