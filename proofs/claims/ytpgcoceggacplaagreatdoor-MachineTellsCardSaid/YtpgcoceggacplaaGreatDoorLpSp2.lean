/- Contracts of the methods of a space that read. -/
import Derived.Test.YtpgcoceggacplaaGreatDoorLpSp
set_option linter.unusedVariables false
set_option linter.unusedSimpArgs false
set_option maxRecDepth 20000
namespace Go.Proofs.YtpgcoceggacplaaGreatDoor
open Go.RowKit Go.Lp

def Ar.agg (a : Ar) : Value := .agg #[.int .i64 a.at_, .int .i64 a.size, .int .i64 a.kind, .int .i64 a.owner, .int .i64 a.mod]

theorem right_any (a0 a1 a2 a3 a4 : Int) (w : World) :
    Calls Tryz.prog 39 #[.agg #[.int .i64 a0, .int .i64 a1, .int .i64 a2, .int .i64 a3, .int .i64 a4]] w fun e w' => e = .returned (.bool (rightA ⟨a0, a1, a2, a3, a4⟩)) ∧ Below w.heap.size w w' := by
  go_enter Tryz.func39, Tryz.ntmps39
  go_upto_region 1 with (fail)
  refine wp_region_ex (by kernel_rfl) (by kernel_rfl) ?_
  repeat
    first
    | (refine T_pick_or rfl rfl rfl rfl rfl (fun K hK => ?_); simp only [Act.put, List.setIfInBounds_toArray, List.set_cons_succ, List.set_cons_zero]; refine hK _ ?_; clear hK K)
    | (refine T_pick_and rfl rfl rfl rfl rfl (fun K hK => ?_); simp only [Act.put, List.setIfInBounds_toArray, List.set_cons_succ, List.set_cons_zero]; refine hK _ ?_; clear hK K)
    | (refine T_lazy_pick_or rfl rfl rfl rfl rfl rfl (fun K hK => ?_); simp only [Act.put, List.setIfInBounds_toArray, List.set_cons_succ, List.set_cons_zero]; refine hK _ ?_; clear hK K)
    | (refine T_lazy_pick_and rfl rfl rfl rfl rfl rfl (fun K hK => ?_); simp only [Act.put, List.setIfInBounds_toArray, List.set_cons_succ, List.set_cons_zero]; refine hK _ ?_; clear hK K)
    | (refine T_quiet rfl rfl rfl (fun K hK => ?_); go_big_quiet_op; refine hK _ ?_; clear hK K)
    | (refine T_lazy (v := undef) rfl rfl rfl rfl (fun hgw => absurd hgw (by decide)) (fun K hK => ?_); (simp only [Act.put, List.setIfInBounds_toArray, List.set_cons_succ, List.set_cons_zero]; refine hK _ ?_; clear hK K))
    | (refine T_lazy2 (v := undef) rfl rfl rfl rfl (fun _ hgw => absurd hgw (by decide)) (fun K hK => ?_); (simp only [Act.put, List.setIfInBounds_toArray, List.set_cons_succ, List.set_cons_zero]; refine hK _ ?_; clear hK K))
    | (refine T_lazy (v := ?_) rfl rfl rfl rfl ?_ (fun K hK => ?_); rotate_left; (rintro hgw w1 ⟨x1, rfl⟩; unfold Oper.quietAt; (try rw [hgw]); go_simp; (try simp (disch := omega) only [i64_in, w64_in]); exact rfl); (simp only [Act.put, List.setIfInBounds_toArray, List.set_cons_succ, List.set_cons_zero]; refine hK _ ?_; clear hK K))
    | (refine T_lazy (v := ?_) rfl rfl rfl rfl ?_ (fun K hK => ?_); rotate_left; (rintro hgw w1 ⟨x1, rfl⟩; unfold Oper.quietAt; go_simp; (try simp (disch := omega) only [i64_in, w64_in]); exact rfl); (simp only [Act.put, List.setIfInBounds_toArray, List.set_cons_succ, List.set_cons_zero]; refine hK _ ?_; clear hK K))
    | (refine T_lazy2 (v := ?_) rfl rfl rfl rfl ?_ (fun K hK => ?_); rotate_left; (rintro hgc hgw w1 ⟨x1, rfl⟩; unfold Oper.quietAt; (try rw [hgc]); (try rw [hgw]); go_simp; (try simp (disch := omega) only [i64_in, w64_in]); exact rfl); (simp only [Act.put, List.setIfInBounds_toArray, List.set_cons_succ, List.set_cons_zero]; refine hK _ ?_; clear hK K))
    | (refine T_call (v := ?_) rfl rfl ?_ (fun K hK => ?_); rotate_left; (rintro b1 w1 ⟨x1, rfl⟩; unfold Oper.quietAt; go_simp; (try simp (disch := omega) only [i64_in, w64_in]); refine Calls.ex_same (up_any _ _ _) ?_; exact rfl); (simp only [Act.put, List.setIfInBounds_toArray, List.set_cons_succ, List.set_cons_zero]; refine hK _ ?_; clear hK K))
    | (refine T_lazy_call (v := ?_) rfl rfl rfl ?_ (fun K hK => ?_); rotate_left; (rintro hgw b1 w1 ⟨x1, rfl⟩; unfold Oper.quietAt; go_simp; (try simp (disch := omega) only [i64_in, w64_in]); refine Calls.ex_same (up_any _ _ _) ?_; exact rfl); (simp only [Act.put, List.setIfInBounds_toArray, List.set_cons_succ, List.set_cons_zero]; refine hK _ ?_; clear hK K))
    | (refine T_lazy2_call (v := ?_) rfl rfl rfl ?_ (fun K hK => ?_); rotate_left; (rintro hgc hgw b1 w1 ⟨x1, rfl⟩; unfold Oper.quietAt; go_simp; (try simp (disch := omega) only [i64_in, w64_in]); refine Calls.ex_same (up_any _ _ _) ?_; exact rfl); (simp only [Act.put, List.setIfInBounds_toArray, List.set_cons_succ, List.set_cons_zero]; refine hK _ ?_; clear hK K))
  refine T_nil (fun o2 d2 => ?_)
  go_upto_region 2 with (fail)
  refine wp_region_rd0 ?_
  repeat
    first
    | (refine T_pick_or rfl rfl rfl rfl rfl (fun K hK => ?_); simp only [Act.put, List.setIfInBounds_toArray, List.set_cons_succ, List.set_cons_zero]; refine hK _ ?_; clear hK K)
    | (refine T_pick_and rfl rfl rfl rfl rfl (fun K hK => ?_); simp only [Act.put, List.setIfInBounds_toArray, List.set_cons_succ, List.set_cons_zero]; refine hK _ ?_; clear hK K)
    | (refine T_lazy_pick_or rfl rfl rfl rfl rfl rfl (fun K hK => ?_); simp only [Act.put, List.setIfInBounds_toArray, List.set_cons_succ, List.set_cons_zero]; refine hK _ ?_; clear hK K)
    | (refine T_lazy_pick_and rfl rfl rfl rfl rfl rfl (fun K hK => ?_); simp only [Act.put, List.setIfInBounds_toArray, List.set_cons_succ, List.set_cons_zero]; refine hK _ ?_; clear hK K)
    | (refine T_quiet rfl rfl rfl (fun K hK => ?_); go_big_quiet_op; refine hK _ ?_; clear hK K)
    | (refine T_lazy (v := undef) rfl rfl rfl rfl (fun hgw => absurd hgw (by decide)) (fun K hK => ?_); (simp only [Act.put, List.setIfInBounds_toArray, List.set_cons_succ, List.set_cons_zero]; refine hK _ ?_; clear hK K))
    | (refine T_lazy2 (v := undef) rfl rfl rfl rfl (fun _ hgw => absurd hgw (by decide)) (fun K hK => ?_); (simp only [Act.put, List.setIfInBounds_toArray, List.set_cons_succ, List.set_cons_zero]; refine hK _ ?_; clear hK K))
    | (refine T_lazy (v := ?_) rfl rfl rfl rfl ?_ (fun K hK => ?_); rotate_left; (rintro hgw w1 rfl; unfold Oper.quietAt; (try rw [hgw]); go_simp; (try simp (disch := omega) only [i64_in, w64_in]); exact rfl); (simp only [Act.put, List.setIfInBounds_toArray, List.set_cons_succ, List.set_cons_zero]; refine hK _ ?_; clear hK K))
    | (refine T_lazy (v := ?_) rfl rfl rfl rfl ?_ (fun K hK => ?_); rotate_left; (rintro hgw w1 rfl; unfold Oper.quietAt; go_simp; (try simp (disch := omega) only [i64_in, w64_in]); exact rfl); (simp only [Act.put, List.setIfInBounds_toArray, List.set_cons_succ, List.set_cons_zero]; refine hK _ ?_; clear hK K))
    | (refine T_lazy2 (v := ?_) rfl rfl rfl rfl ?_ (fun K hK => ?_); rotate_left; (rintro hgc hgw w1 rfl; unfold Oper.quietAt; (try rw [hgc]); (try rw [hgw]); go_simp; (try simp (disch := omega) only [i64_in, w64_in]); exact rfl); (simp only [Act.put, List.setIfInBounds_toArray, List.set_cons_succ, List.set_cons_zero]; refine hK _ ?_; clear hK K))
  refine T_nil ?_
  go_wp2
  go_ret
  refine ⟨ret_bool ?_, ?_⟩
  · by_cases h : 256 ≤ a0 ∧ a0 < 1099511627776 ∧ 1 ≤ a1 ∧ a1 ≤ 1048576
    · rw [i64_in (n := a0 + a1) (by omega) (by omega)]
      have e : (upI a0 256 == a0) = decide (a0 % 256 = 0) := by
        have e0 : downI a0 256 = a0 - a0 % 256 := by unfold downI; rw [if_neg (by omega)]
        unfold upI
        rw [e0]
        by_cases h0 : a0 % 256 = 0
        · have e1 : a0 - a0 % 256 = a0 := by omega
          rw [if_pos e1]; simp [h0]
        · have := Int.emod_lt_of_pos a0 (show (0 : Int) < 256 by omega)
          have := Int.emod_nonneg a0 (show (256 : Int) ≠ 0 by omega)
          rw [if_neg (by omega)]
          have e2 : (a0 - a0 % 256 + 256 == a0) = false := by simp; omega
          rw [e2]; simp [h0]
      rw [e]; rfl
    · unfold rightA
      rw [Bool.eq_iff_iff]
      simp only [Bool.and_eq_true, decide_eq_true_eq]
      omega
  · (repeat (first | exact Below.refl _ _ | exact below_ext _ _ _ | (refine below_ext' ?_ (by (try simp only [World.size_alloc, size_ext, World.size_setCell, World.size_drew]); omega) _ _) | (refine Below.alloc ?_ (by (try simp only [World.size_alloc, size_ext, World.size_setCell, World.size_drew]); omega) _) | refine Below.drew ?_))

set_option maxHeartbeats 1000000 in
theorem find_any {w : World} {p : Nat} {a : Option Nat} {c : Nat} {S : List Pt} (h : SpAt w p a c S) (at_ size : Int) (hat : -9223372036854775808 ≤ at_) (hat' : at_ ≤ 9223372036854775807) :
    Calls Tryz.prog 34 #[.pointer (some ⟨p, 0, none⟩), .int .i64 at_, .int .i64 size] w fun e w' => ∃ (cs : Array Value) (b : Bool), FoundIs (pfind S at_ size) cs b ∧ e = .returned (.tuple #[.agg cs, .bool b]) ∧ Below w.heap.size w w' := by
  have hplt := h.plt
  have hS := h.few
  have HC := Lib.hid (fun i (hi : i < S.length) => h.cells hi)
  have HI := Lib.hid h.inv
  have hp := h.pcell
  have H := Lib.hid h
  clear h
  go_enter Tryz.func34, Tryz.ntmps34
  go_wp2_with fail
  refine ((H.out.below (by (repeat (first | exact Below.refl _ _ | exact below_ext _ _ _ | (refine below_ext' ?_ (by (try simp only [World.size_alloc, size_ext, World.size_setCell, World.size_drew]); omega) _ _) | (refine Below.alloc ?_ (by (try simp only [World.size_alloc, size_ext, World.size_setCell, World.size_drew]); omega) _) | refine Below.drew ?_)))).search at_).mono ?_
  rintro e w1 ⟨k, hk, rfl, hb⟩
  obtain ⟨objs, d, rfl⟩ := ext_of_below hb
  clear hb
  by_cases hf : k < S.length ∧ ptKey S k = at_
  · rw [decide_eq_true hf]
    obtain ⟨B, rfl, hB, hc⟩ := HC.out k (by omega)
    have hr := rightA_iff.1 (HI.out.rightAt (show k < S.length by omega))
    obtain ⟨hr1, hr2, _, hr4, hr5, hr6, _, _⟩ := hr
    have hle : (S.getD k default).ar.at_ ≤ at_ := by have := hf.2; unfold ptKey at this; omega
    have HL := Lib.hid ((locate (size := size) HI.out hk).1 hf)
    generalize S.getD k default = q at *
    have h0 : w.cell? ⟨B, k * 6, none⟩ = some (.int .i64 q.ar.at_) := hc 0 (by omega)
    have h1 : w.cell? ⟨B, k * 6 + 1, none⟩ = some (.int .i64 q.ar.size) := hc 1 (by omega)
    have h2 : w.cell? ⟨B, k * 6 + 2, none⟩ = some (.int .i64 q.ar.kind) := hc 2 (by omega)
    have h3 : w.cell? ⟨B, k * 6 + 3, none⟩ = some (.int .i64 q.ar.owner) := hc 3 (by omega)
    have h4 : w.cell? ⟨B, k * 6 + 4, none⟩ = some (.int .i64 q.ar.mod) := hc 4 (by omega)
    have h5 : w.cell? ⟨B, k * 6 + 5, none⟩ = some (.slice (some ⟨q.blk, 0, none⟩) q.bytes.length q.cap) := hc 5 (by omega)
    clear hc
    go_upto_region 8 with (fail)
    refine wp_region_st 15 (((w.alloc (.cells #[.int .i64 q.ar.at_, .int .i64 q.ar.size, .int .i64 q.ar.kind, .int .i64 q.ar.owner, .int .i64 q.ar.mod, .slice (some ⟨q.blk, 0, none⟩) q.bytes.length q.cap] 83)).ext objs d).alloc (.cells #[.int .i64 q.ar.at_, .int .i64 q.ar.size, .int .i64 q.ar.kind, .int .i64 q.ar.owner, .int .i64 q.ar.mod, .slice (some ⟨q.blk, 0, none⟩) q.bytes.length q.cap] 83)) rfl (by kernel_rfl) (by kernel_rfl) ?_
    repeat
      first
      | (refine T_pick_or rfl rfl rfl rfl rfl (fun K hK => ?_); simp only [Act.put, List.setIfInBounds_toArray, List.set_cons_succ, List.set_cons_zero]; refine hK _ ?_; clear hK K)
      | (refine T_pick_and rfl rfl rfl rfl rfl (fun K hK => ?_); simp only [Act.put, List.setIfInBounds_toArray, List.set_cons_succ, List.set_cons_zero]; refine hK _ ?_; clear hK K)
      | (refine T_lazy_pick_or rfl rfl rfl rfl rfl rfl (fun K hK => ?_); simp only [Act.put, List.setIfInBounds_toArray, List.set_cons_succ, List.set_cons_zero]; refine hK _ ?_; clear hK K)
      | (refine T_lazy_pick_and rfl rfl rfl rfl rfl rfl (fun K hK => ?_); simp only [Act.put, List.setIfInBounds_toArray, List.set_cons_succ, List.set_cons_zero]; refine hK _ ?_; clear hK K)
      | (refine T_quiet rfl rfl rfl (fun K hK => ?_); go_big_quiet_op; refine hK _ ?_; clear hK K)
      | (refine T_lazy (v := undef) rfl rfl rfl rfl (fun hgw => absurd hgw (by decide)) (fun K hK => ?_); (simp only [Act.put, List.setIfInBounds_toArray, List.set_cons_succ, List.set_cons_zero]; refine hK _ ?_; clear hK K))
      | (refine T_lazy2 (v := undef) rfl rfl rfl rfl (fun _ hgw => absurd hgw (by decide)) (fun K hK => ?_); (simp only [Act.put, List.setIfInBounds_toArray, List.set_cons_succ, List.set_cons_zero]; refine hK _ ?_; clear hK K))
      | (refine T_lazy (v := ?_) rfl rfl rfl rfl ?_ (fun K hK => ?_); rotate_left; (rintro hgw w1 ⟨φ1, rfl⟩; unfold Oper.quietAt; (try rw [hgw]); go_simp; (try simp (disch := omega) only [i64_in, w64_in]); exact rfl); (simp only [Act.put, List.setIfInBounds_toArray, List.set_cons_succ, List.set_cons_zero]; refine hK _ ?_; clear hK K))
      | (refine T_lazy (v := ?_) rfl rfl rfl rfl ?_ (fun K hK => ?_); rotate_left; (rintro hgw w1 ⟨φ1, rfl⟩; unfold Oper.quietAt; go_simp; (try simp (disch := omega) only [i64_in, w64_in]); exact rfl); (simp only [Act.put, List.setIfInBounds_toArray, List.set_cons_succ, List.set_cons_zero]; refine hK _ ?_; clear hK K))
      | (refine T_lazy2 (v := ?_) rfl rfl rfl rfl ?_ (fun K hK => ?_); rotate_left; (rintro hgc hgw w1 ⟨φ1, rfl⟩; unfold Oper.quietAt; (try rw [hgc]); (try rw [hgw]); go_simp; (try simp (disch := omega) only [i64_in, w64_in]); exact rfl); (simp only [Act.put, List.setIfInBounds_toArray, List.set_cons_succ, List.set_cons_zero]; refine hK _ ?_; clear hK K))
      | (refine T_store rfl rfl rfl ?_ ?_; (rintro w1 ⟨d1, rfl⟩; go_simp; exact ⟨_, rfl⟩))
    refine T_nil (fun d2 => ?_)
    go_wp2
    refine bodyPost_ret (v := .tuple #[.agg #[.int .i64 q.ar.at_, .int .i64 q.ar.size, .int .i64 q.ar.kind, .int .i64 q.ar.owner, .int .i64 q.ar.mod, .slice (some ⟨q.blk, 0, none⟩) q.bytes.length q.cap], .bool (decide (at_ - q.ar.at_ < q.ar.size) && decide (size ≤ q.ar.size - (at_ - q.ar.at_)))]) (by simp [results, Tryz.results34, go_sem]) rfl ⟨q.vals.toArray, _, ?_, rfl, ?_⟩
    · rw [HL.out, ← holds_at hle]
      cases holds at_ size q.ar
      · exact ⟨rfl, _, _, _, _, _, _, _, _, rfl⟩
      · exact ⟨rfl, rfl⟩
    · (repeat (first | exact Below.refl _ _ | exact below_ext _ _ _ | (refine below_ext' ?_ (by (try simp only [World.size_alloc, size_ext, World.size_setCell, World.size_drew]); omega) _ _) | (refine Below.alloc ?_ (by (try simp only [World.size_alloc, size_ext, World.size_setCell, World.size_drew]); omega) _) | refine Below.drew ?_))
  · rw [decide_eq_false hf]
    have hkS := hk.1
    by_cases hk0 : k = 0
    · subst hk0
      have HL := Lib.hid (((locate (size := size) HI.out hk).2 hf).1 rfl)
      go_wp2
      refine bodyPost_ret (v := .tuple #[.agg #[.int .i64 0, .int .i64 0, .int .i64 0, .int .i64 0, .int .i64 0, .slice none 0 0], .bool false]) (by simp [results, Tryz.results34, go_sem]) rfl ⟨_, _, ?_, rfl, ?_⟩
      · rw [HL.out]; exact ⟨rfl, _, _, _, _, _, _, _, _, rfl⟩
      · (repeat (first | exact Below.refl _ _ | exact below_ext _ _ _ | (refine below_ext' ?_ (by (try simp only [World.size_alloc, size_ext, World.size_setCell, World.size_drew]); omega) _ _) | (refine Below.alloc ?_ (by (try simp only [World.size_alloc, size_ext, World.size_setCell, World.size_drew]); omega) _) | refine Below.drew ?_))
    · obtain ⟨HP, HJ⟩ := ((locate (size := size) HI.out hk).2 hf).2 (by omega)
      obtain ⟨j, rfl⟩ : ∃ j, k = j + 1 := ⟨k - 1, by omega⟩
      rw [Nat.add_sub_cancel] at HP HJ
      clear hf
      obtain ⟨B, rfl, hB, hc⟩ := HC.out j (by omega)
      have hr := rightA_iff.1 (HI.out.rightAt (show j < S.length by omega))
      obtain ⟨hr1, hr2, _, hr4, hr5, hr6, _, _⟩ := hr
      have hle : (S.getD j default).ar.at_ ≤ at_ := by have := HP; unfold ptKey at this; omega
      have HL := Lib.hid HJ
      generalize S.getD j default = q at *
      have h0 : w.cell? ⟨B, j * 6, none⟩ = some (.int .i64 q.ar.at_) := hc 0 (by omega)
      have h1 : w.cell? ⟨B, j * 6 + 1, none⟩ = some (.int .i64 q.ar.size) := hc 1 (by omega)
      have h2 : w.cell? ⟨B, j * 6 + 2, none⟩ = some (.int .i64 q.ar.kind) := hc 2 (by omega)
      have h3 : w.cell? ⟨B, j * 6 + 3, none⟩ = some (.int .i64 q.ar.owner) := hc 3 (by omega)
      have h4 : w.cell? ⟨B, j * 6 + 4, none⟩ = some (.int .i64 q.ar.mod) := hc 4 (by omega)
      have h5 : w.cell? ⟨B, j * 6 + 5, none⟩ = some (.slice (some ⟨q.blk, 0, none⟩) q.bytes.length q.cap) := hc 5 (by omega)
      clear hc
      go_upto_region 8 with (fail)
      refine wp_region_st 15 (((w.alloc (.cells #[.int .i64 q.ar.at_, .int .i64 q.ar.size, .int .i64 q.ar.kind, .int .i64 q.ar.owner, .int .i64 q.ar.mod, .slice (some ⟨q.blk, 0, none⟩) q.bytes.length q.cap] 83)).ext objs d).alloc (.cells #[.int .i64 q.ar.at_, .int .i64 q.ar.size, .int .i64 q.ar.kind, .int .i64 q.ar.owner, .int .i64 q.ar.mod, .slice (some ⟨q.blk, 0, none⟩) q.bytes.length q.cap] 83)) rfl (by kernel_rfl) (by kernel_rfl) ?_
      repeat
        first
        | (refine T_pick_or rfl rfl rfl rfl rfl (fun K hK => ?_); simp only [Act.put, List.setIfInBounds_toArray, List.set_cons_succ, List.set_cons_zero]; refine hK _ ?_; clear hK K)
        | (refine T_pick_and rfl rfl rfl rfl rfl (fun K hK => ?_); simp only [Act.put, List.setIfInBounds_toArray, List.set_cons_succ, List.set_cons_zero]; refine hK _ ?_; clear hK K)
        | (refine T_lazy_pick_or rfl rfl rfl rfl rfl rfl (fun K hK => ?_); simp only [Act.put, List.setIfInBounds_toArray, List.set_cons_succ, List.set_cons_zero]; refine hK _ ?_; clear hK K)
        | (refine T_lazy_pick_and rfl rfl rfl rfl rfl rfl (fun K hK => ?_); simp only [Act.put, List.setIfInBounds_toArray, List.set_cons_succ, List.set_cons_zero]; refine hK _ ?_; clear hK K)
        | (refine T_quiet rfl rfl rfl (fun K hK => ?_); go_big_quiet_op; refine hK _ ?_; clear hK K)
        | (refine T_lazy (v := undef) rfl rfl rfl rfl (fun hgw => absurd hgw (by decide)) (fun K hK => ?_); (simp only [Act.put, List.setIfInBounds_toArray, List.set_cons_succ, List.set_cons_zero]; refine hK _ ?_; clear hK K))
        | (refine T_lazy2 (v := undef) rfl rfl rfl rfl (fun _ hgw => absurd hgw (by decide)) (fun K hK => ?_); (simp only [Act.put, List.setIfInBounds_toArray, List.set_cons_succ, List.set_cons_zero]; refine hK _ ?_; clear hK K))
        | (refine T_lazy (v := ?_) rfl rfl rfl rfl ?_ (fun K hK => ?_); rotate_left; (rintro hgw w1 ⟨φ1, rfl⟩; unfold Oper.quietAt; (try rw [hgw]); go_simp; (try simp (disch := omega) only [i64_in, w64_in]); exact rfl); (simp only [Act.put, List.setIfInBounds_toArray, List.set_cons_succ, List.set_cons_zero]; refine hK _ ?_; clear hK K))
        | (refine T_lazy (v := ?_) rfl rfl rfl rfl ?_ (fun K hK => ?_); rotate_left; (rintro hgw w1 ⟨φ1, rfl⟩; unfold Oper.quietAt; go_simp; (try simp (disch := omega) only [i64_in, w64_in]); exact rfl); (simp only [Act.put, List.setIfInBounds_toArray, List.set_cons_succ, List.set_cons_zero]; refine hK _ ?_; clear hK K))
        | (refine T_lazy2 (v := ?_) rfl rfl rfl rfl ?_ (fun K hK => ?_); rotate_left; (rintro hgc hgw w1 ⟨φ1, rfl⟩; unfold Oper.quietAt; (try rw [hgc]); (try rw [hgw]); go_simp; (try simp (disch := omega) only [i64_in, w64_in]); exact rfl); (simp only [Act.put, List.setIfInBounds_toArray, List.set_cons_succ, List.set_cons_zero]; refine hK _ ?_; clear hK K))
        | (refine T_store rfl rfl rfl ?_ ?_; (rintro w1 ⟨d1, rfl⟩; go_simp; exact ⟨_, rfl⟩))
      refine T_nil (fun d2 => ?_)
      go_wp2
      refine bodyPost_ret (v := .tuple #[.agg #[.int .i64 q.ar.at_, .int .i64 q.ar.size, .int .i64 q.ar.kind, .int .i64 q.ar.owner, .int .i64 q.ar.mod, .slice (some ⟨q.blk, 0, none⟩) q.bytes.length q.cap], .bool (decide (at_ - q.ar.at_ < q.ar.size) && decide (size ≤ q.ar.size - (at_ - q.ar.at_)))]) (by simp [results, Tryz.results34, go_sem]) rfl ⟨q.vals.toArray, _, ?_, rfl, ?_⟩
      · rw [HL.out, ← holds_at hle]
        cases holds at_ size q.ar
        · exact ⟨rfl, _, _, _, _, _, _, _, _, rfl⟩
        · exact ⟨rfl, rfl⟩
      · (repeat (first | exact Below.refl _ _ | exact below_ext _ _ _ | (refine below_ext' ?_ (by (try simp only [World.size_alloc, size_ext, World.size_setCell, World.size_drew]); omega) _ _) | (refine Below.alloc ?_ (by (try simp only [World.size_alloc, size_ext, World.size_setCell, World.size_drew]); omega) _) | refine Below.drew ?_))


theorem find_yes {w : World} {p : Nat} {a : Option Nat} {c : Nat} {S : List Pt} (h : SpAt w p a c S) (at_ size : Int) (hat : -9223372036854775808 ≤ at_) (hat' : at_ ≤ 9223372036854775807) {q : Pt} (hq : pfind S at_ size = some q) :
    Calls Tryz.prog 34 #[.pointer (some ⟨p, 0, none⟩), .int .i64 at_, .int .i64 size] w fun e w' => e = .returned (.tuple #[.agg #[.int .i64 q.ar.at_, .int .i64 q.ar.size, .int .i64 q.ar.kind, .int .i64 q.ar.owner, .int .i64 q.ar.mod, .slice (some ⟨q.blk, 0, none⟩) q.bytes.length q.cap], .bool true]) ∧ Below w.heap.size w w' :=
  (find_any h at_ size hat hat').mono fun e w' ⟨cs, b, hf, he, hb⟩ => by
    rw [hq] at hf
    obtain ⟨rfl, rfl⟩ := hf
    exact ⟨he, hb⟩
theorem find_no {w : World} {p : Nat} {a : Option Nat} {c : Nat} {S : List Pt} (h : SpAt w p a c S) (at_ size : Int) (hat : -9223372036854775808 ≤ at_) (hat' : at_ ≤ 9223372036854775807) (hq : pfind S at_ size = none) :
    Calls Tryz.prog 34 #[.pointer (some ⟨p, 0, none⟩), .int .i64 at_, .int .i64 size] w fun e w' => ∃ a0 a1 a2 a3 a4 x n m, e = .returned (.tuple #[.agg #[.int .i64 a0, .int .i64 a1, .int .i64 a2, .int .i64 a3, .int .i64 a4, .slice x n m], .bool false]) ∧ Below w.heap.size w w' :=
  (find_any h at_ size hat hat').mono fun e w' ⟨cs, b, hf, he, hb⟩ => by
    rw [hq] at hf
    obtain ⟨rfl, a0, a1, a2, a3, a4, x, n, m, rfl⟩ := hf
    exact ⟨a0, a1, a2, a3, a4, x, n, m, he, hb⟩
end Go.Proofs.YtpgcoceggacplaaGreatDoor
