/- The contracts of word.Down, word.Up, word.field, cmp.Compare at int. No condition beyond the arguments' own kinds. -/
import Derived.Test.YtpgcoceggacplaaGreatDoorChecked
import Derived.Test.YtpgcoceggacplaaGreatDoorLpReg3
set_option linter.unusedVariables false
set_option linter.unusedSimpArgs false
set_option maxRecDepth 20000
namespace Go.Proofs.YtpgcoceggacplaaGreatDoor
open Go.RowKit Go.Lp

theorem isNaN_any (a : Int) (w : World) :
    Calls Tryz.prog 116 #[.int .i64 a] w fun e w' => e = .returned (.bool false) ∧ w = w' := by
  go_enter Tryz.func116, Tryz.ntmps116
  go_wp2
  go_ret
  exact ⟨rfl, rfl⟩

def cmpInt (a b : Int) : Int := if a < b then -1 else if b < a then 1 else 0

theorem compare_any (a b : Int) (w : World) :
    Calls Tryz.prog 100 #[.int .i64 a, .int .i64 b] w fun e w' => e = .returned (.int .i64 (cmpInt a b)) ∧ w = w' := by
  go_enter Tryz.func100, Tryz.ntmps100
  go_wp2
  all_goals go_ret
  all_goals refine ⟨?_, rfl⟩
  all_goals simp [cmpInt, *]
  all_goals (repeat (first | omega | split))

def downI (n t : Int) : Int := if ((t < 1 ∨ 1099511627776 < t) ∨ n < -1152921504606846976) ∨ 1152921504606846976 < n then n else n - n % t
def upI (n t : Int) : Int := if downI n t = n then n else downI n t + t

theorem down_any (n t : Int) (w : World) :
    Calls Tryz.prog 115 #[.int .i64 n, .int .i64 t] w fun e w' => e = .returned (.int .i64 (downI n t)) ∧ w = w' := by
  go_enter Tryz.func115, Tryz.ntmps115
  go_upto_region 1 with (fail)
  refine wp_region_rd0 ?_
  repeat
    first
    | (refine T_pick_or rfl rfl rfl rfl rfl (fun K hK => ?_); simp only [Act.put, List.setIfInBounds_toArray, List.set_cons_succ, List.set_cons_zero]; refine hK _ ?_; clear hK K)
    | (refine T_pick_and rfl rfl rfl rfl rfl (fun K hK => ?_); simp only [Act.put, List.setIfInBounds_toArray, List.set_cons_succ, List.set_cons_zero]; refine hK _ ?_; clear hK K)
    | (refine T_lazy_pick_or rfl rfl rfl rfl rfl rfl (fun K hK => ?_); simp only [Act.put, List.setIfInBounds_toArray, List.set_cons_succ, List.set_cons_zero]; refine hK _ ?_; clear hK K)
    | (refine T_lazy_pick_and rfl rfl rfl rfl rfl rfl (fun K hK => ?_); simp only [Act.put, List.setIfInBounds_toArray, List.set_cons_succ, List.set_cons_zero]; refine hK _ ?_; clear hK K)
    | (refine T_quiet rfl rfl rfl (fun K hK => ?_); go_big_quiet_op; refine hK _ ?_; clear hK K)
    | (refine T_lazy (v := undef) rfl rfl rfl rfl (fun hgw => absurd hgw (by decide)) (fun K hK => ?_); (simp only [Act.put, List.setIfInBounds_toArray, List.set_cons_succ, List.set_cons_zero]; refine hK _ ?_; clear hK K))
    | (refine T_lazy2 (v := undef) rfl rfl rfl rfl (fun _ hgw => absurd hgw (by decide)) (fun K hK => ?_); (simp only [Act.put, List.setIfInBounds_toArray, List.set_cons_succ, List.set_cons_zero]; refine hK _ ?_; clear hK K))
    | (refine T_lazy (v := ?_) rfl rfl rfl rfl ?_ (fun K hK => ?_); rotate_left; (rintro hgw w1 rfl; unfold Oper.quietAt; (try rw [hgw]); go_simp; (try simp (disch := omega) only [i64_in, w64_in]); exact rfl); (simp only [Act.put, List.setIfInBounds_toArray, List.set_cons_succ, List.set_cons_zero]; refine hK _ ?_; clear hK K))
    | (refine T_lazy (v := ?_) rfl rfl rfl rfl ?_ (fun K hK => ?_); rotate_left; (rintro hgw w1 rfl; unfold Oper.quietAt; go_simp; (try simp (disch := omega) only [i64_in, w64_in]); exact rfl); (simp only [Act.put, List.setIfInBounds_toArray, List.set_cons_succ, List.set_cons_zero]; refine hK _ ?_; clear hK K))
    | (refine T_lazy2 (v := ?_) rfl rfl rfl rfl ?_ (fun K hK => ?_); rotate_left; (rintro hgc hgw w1 rfl; unfold Oper.quietAt; (try rw [hgc]); (try rw [hgw]); go_simp; (try simp (disch := omega) only [i64_in, w64_in]); exact rfl); (simp only [Act.put, List.setIfInBounds_toArray, List.set_cons_succ, List.set_cons_zero]; refine hK _ ?_; clear hK K))
  refine T_nil ?_
  go_wp2
  all_goals go_ret
  all_goals refine ⟨ret_int ?_, rfl⟩
  · rename_i h
    simp only [downI, h, if_true]
  · rename_i h1 h2
    have e := tmod_neg (by omega) h2
    have := Int.emod_nonneg n (show t ≠ 0 by omega)
    have := Int.emod_lt_of_pos n (show 0 < t by omega)
    rw [e, w64_in (n := n % t - t + t) (by omega) (by omega), w64_in (by omega) (by omega), downI, if_neg (by omega)]
    omega
  · rename_i h1 h2
    have e := tmod_pos (by omega) h2
    have := Int.emod_nonneg n (show t ≠ 0 by omega)
    have := Int.emod_lt_of_pos n (show 0 < t by omega)
    rw [downI, if_neg (by omega)]
    first | (rw [e, w64_in (by omega) (by omega)]; done) | (rw [e]; done)

theorem downI_le {n t : Int} : downI n t ≤ n ∧ (downI n t = n ∨ (1 ≤ t ∧ t ≤ 1099511627776 ∧ n - t < downI n t ∧ -1152921504606846976 ≤ n ∧ n ≤ 1152921504606846976)) := by
  unfold downI
  split
  · omega
  · have := Int.emod_nonneg n (show t ≠ 0 by omega)
    have := Int.emod_lt_of_pos n (show 0 < t by omega)
    omega

theorem up_any (n t : Int) (w : World) :
    Calls Tryz.prog 97 #[.int .i64 n, .int .i64 t] w fun e w' => e = .returned (.int .i64 (upI n t)) ∧ w = w' := by
  have hd := @downI_le n t
  go_enter Tryz.func97, Tryz.ntmps97
  go_wp2_with (go_at_call 115; refine (down_any _ _ _).mono ?_; rintro e w' ⟨rfl, rfl⟩)
  all_goals go_ret
  all_goals refine ⟨ret_int ?_, rfl⟩
  · rename_i h
    have h' : ¬ downI n t = n := by simpa using h
    rw [upI, if_neg h']
    first | rfl | rw [w64_in (by omega) (by omega)]
  · rename_i h
    have h' : downI n t = n := by simpa using h
    rw [upI, if_pos h']

theorem field_any (s : ByteArray) (at_ size : Int) (hs : s.size ≤ maxLen) (w : World) :
    Calls Tryz.prog 90 #[.string s, .int .i64 at_, .int .i64 size] w fun e w' => e = .returned (.bool (decide (size = 1 ∨ size = 2 ∨ size = 4 ∨ size = 8) && decide (0 ≤ at_) && decide (at_ ≤ s.size - size))) ∧ w = w' := by
  unfold maxLen at hs
  by_cases h : size = 1 ∨ size = 2 ∨ size = 4 ∨ size = 8
  · rcases h with rfl | rfl | rfl | rfl
    all_goals
      go_enter Tryz.func90, Tryz.ntmps90
      go_wp2
      all_goals go_ret
      all_goals refine ⟨ret_bool ?_, rfl⟩
      all_goals simp [*]
      all_goals (try omega)
  · have h1 : (size == 1) = false := by simp; omega
    have h2 : (size == 2) = false := by simp; omega
    have h4 : (size == 4) = false := by simp; omega
    have h8 : (size == 8) = false := by simp; omega
    go_enter Tryz.func90, Tryz.ntmps90
    go_wp2
    all_goals go_ret
    all_goals refine ⟨ret_bool ?_, rfl⟩
    all_goals simp [h]
end Go.Proofs.YtpgcoceggacplaaGreatDoor
