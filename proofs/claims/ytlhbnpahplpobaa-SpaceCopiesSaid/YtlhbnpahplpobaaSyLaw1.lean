/- The contracts of the small helpers of the laws: pick, few, New, Right of the reference. -/
import Derived.Test.YtlhbnpahplpobaaSySp
import Derived.Test.YtlhbnpahplpobaaSyRoom4
set_option linter.unusedVariables false
set_option linter.unusedSimpArgs false
namespace Go.Proofs.Ytlhbnpahplpobaa
open Go.RowKit Go.Lp Go.Sy
theorem pick_fn (n m : Int) (hn : I64 n) (hm : 1 ≤ m ∧ m ≤ 1000) : Con Try.prog 11 [.int .i64 n, .int .i64 m] [] [] fun r _ _ => r = .int .i64 (n % m) := by
  unfold I64 at hn
  have e1 : n.tmod m < 0 → n.tmod m = n % m - m := tmod_neg (by omega)
  have e2 : 0 ≤ n.tmod m → n.tmod m = n % m := tmod_pos (by omega)
  have e3 := Int.emod_nonneg n (show m ≠ 0 by omega)
  have e4 := Int.emod_lt_of_pos n (show 0 < m by omega)
  have e5 : n.tmod m < 0 ∨ 0 ≤ n.tmod m := by omega
  refine Con.enter Try.func11 rfl (by simp [Try.ntmps11]) ?_
  show awp _ _ _ _ ⟨[(0, true, _), (1, true, _)], _, _⟩
  refine awp_seq ?_
  refine awp_region ?_
  refine aL_s true rfl rfl (fun _ => q_assign rfl) ?_
  refine aL_nil ?_
  refine thn_n ?_
  refine awp_seq ?_
  refine awp_region ?_
  refine aL_s true rfl rfl (fun _ => q_move rfl) ?_
  refine aL_s true rfl rfl (fun _ => q_move rfl) ?_
  refine aL_s true rfl rfl (fun _ => q_rem rfl rfl (by omega)) ?_
  refine aL_s true rfl rfl (fun _ => q_assign rfl) ?_
  refine aL_nil ?_
  refine thn_n ?_
  refine awp_seq ?_
  refine awp_seq ?_
  refine awp_region ?_
  refine aL_s true rfl rfl (fun _ => q_move rfl) ?_
  refine aL_s true rfl rfl (fun _ => q_lss rfl rfl) ?_
  refine aL_nil ?_
  refine thn_n ?_
  refine awp_cond _ rfl (fun h1 => ?_) (fun h1 => ?_)
  · skip
    refine awp_region ?_
    refine aL_s true rfl rfl (fun _ => q_move rfl) ?_
    refine aL_s true rfl rfl (fun _ => q_move rfl) ?_
    have e6 := e1 (by simpa using h1)
    refine aL_s true rfl rfl (fun _ => q_addi rfl rfl (by omega)) ?_
    refine aL_s true rfl rfl (fun _ => q_assign rfl) ?_
    refine aL_nil ?_
    refine thn_n ?_
    refine awp_seq ?_
    refine awp_region ?_
    refine aL_s true rfl rfl (fun _ => q_move rfl) ?_
    refine aL_s true rfl rfl (fun _ => q_assign rfl) ?_
    refine aL_nil ?_
    refine thn_n ?_
    refine awp_ret ?_
    refine fin1 [] [] rfl Try.results11 rfl ?_ (.inr rfl)
    have e7 := e1 (by simpa using h1)
    exact congrArg (Value.int .i64) (by omega)
  · skip
    refine awp_skip ?_
    refine thn_n ?_
    refine awp_seq ?_
    refine awp_region ?_
    refine aL_s true rfl rfl (fun _ => q_move rfl) ?_
    refine aL_s true rfl rfl (fun _ => q_assign rfl) ?_
    refine aL_nil ?_
    refine thn_n ?_
    refine awp_ret ?_
    refine fin1 [] [] rfl Try.results11 rfl ?_ (.inr rfl)
    exact congrArg (Value.int .i64) (e2 (by simpa using h1))
theorem ref28Right_fn (A : Ar) (h : I64 A.at_ ∧ I64 A.size) : Con Try.prog 20 [.agg #[.int .i64 A.at_, .int .i64 A.size, .int .i64 A.kind, .int .i64 A.owner, .int .i64 A.mod]] [] [] fun r _ _ => r = .bool (rightA A) := by
  unfold I64 at h
  have h0 : A.at_ < 0 ∨ A.at_.tmod 256 = A.at_ % 256 := by
    by_cases hz : 0 ≤ A.at_
    · exact .inr (Int.tmod_eq_emod_of_nonneg hz)
    · exact .inl (by omega)
  refine Con.enter Try.func20 rfl (by simp [Try.ntmps20]) ?_
  show awp _ _ _ _ ⟨[(0, true, _)], _, _⟩
  refine awp_seq ?_
  refine awp_region ?_
  refine aL_eff (q := true) rfl (e_box rfl rfl rfl (fun b0_0 => ?_))
  simp only [List.cons_append, List.nil_append]
  refine aL_s true rfl rfl (fun _ => q_assign rfl) ?_
  refine aL_nil ?_
  refine thn_n ?_
  refine awp_seq ?_
  refine awp_seq ?_
  refine awp_region ?_
  refine aL_s true rfl rfl (fun _ => q_fieldAddr (off := 0) (by kernel_rfl) rfl) ?_
  refine aL_s true rfl rfl (fun _ => q_load 0 tk3 rfl rfl rfl) ?_
  refine aL_s true rfl rfl (fun _ => q_lss rfl rfl) ?_
  refine aL_s true rfl rfl (fun _ => q_move rfl) ?_
  refine aL_s _ rfl rfl (fun hc => q_fieldAddr (off := 0) (by kernel_rfl) rfl) ?_
  refine aL_s _ rfl rfl (fun hc => q_load 0 tk3 (ev_yes rfl hc) rfl rfl) ?_
  refine aL_s _ rfl rfl (fun hc => q_rem (ev_yes rfl hc) rfl (by decide)) ?_
  refine aL_s _ rfl rfl (fun hc => q_neq (ev_yes rfl hc) rfl) ?_
  refine aL_s true rfl rfl (fun _ => q_or rfl rfl (fun h => gf rfl h)) ?_
  refine aL_s true rfl rfl (fun _ => q_move rfl) ?_
  refine aL_s _ rfl rfl (fun hc => q_fieldAddr (off := 0) (by kernel_rfl) rfl) ?_
  refine aL_s _ rfl rfl (fun hc => q_load 0 tk3 (ev_yes rfl hc) rfl rfl) ?_
  refine aL_s _ rfl rfl (fun hc => q_geq (ev_yes rfl hc) rfl) ?_
  refine aL_s true rfl rfl (fun _ => q_or rfl rfl (fun h => gf rfl h)) ?_
  refine aL_s true rfl rfl (fun _ => q_move rfl) ?_
  refine aL_s _ rfl rfl (fun hc => q_fieldAddr (off := 1) (by kernel_rfl) rfl) ?_
  refine aL_s _ rfl rfl (fun hc => q_load 0 tk3 (ev_yes rfl hc) rfl rfl) ?_
  refine aL_s _ rfl rfl (fun hc => q_lss (ev_yes rfl hc) rfl) ?_
  refine aL_s true rfl rfl (fun _ => q_or rfl rfl (fun h => gf rfl h)) ?_
  refine aL_s true rfl rfl (fun _ => q_move rfl) ?_
  refine aL_s _ rfl rfl (fun hc => q_fieldAddr (off := 1) (by kernel_rfl) rfl) ?_
  refine aL_s _ rfl rfl (fun hc => q_load 0 tk3 (ev_yes rfl hc) rfl rfl) ?_
  refine aL_s _ rfl rfl (fun hc => q_gtr (ev_yes rfl hc) rfl) ?_
  refine aL_s true rfl rfl (fun _ => q_or rfl rfl (fun h => gf rfl h)) ?_
  refine aL_s true rfl rfl (fun _ => q_move rfl) ?_
  refine aL_s _ rfl rfl (fun hc => q_fieldAddr (off := 0) (by kernel_rfl) rfl) ?_
  refine aL_s _ rfl rfl (fun hc => q_load 0 tk3 (ev_yes rfl hc) rfl rfl) ?_
  refine aL_s _ rfl rfl (fun hc => q_fieldAddr (off := 1) (by kernel_rfl) rfl) ?_
  refine aL_s _ rfl rfl (fun hc => q_load 0 tk3 (ev_yes rfl hc) rfl rfl) ?_
  refine aL_s _ rfl rfl (fun hc => q_addi (ev_yes rfl hc) (ev_yes rfl hc) (by (first | omega | (simp at hc; omega)))) ?_
  refine aL_s _ rfl rfl (fun hc => q_gtr (ev_yes rfl hc) rfl) ?_
  refine aL_s true rfl rfl (fun _ => q_or rfl rfl (fun h => gf rfl h)) ?_
  refine aL_nil ?_
  refine thn_n ?_
  refine awp_cond _ rfl (fun h1 => ?_) (fun h1 => ?_)
  · skip
    refine awp_seq ?_
    refine awp_region ?_
    refine aL_s true rfl rfl (fun _ => q_assign rfl) ?_
    refine aL_nil ?_
    refine thn_n ?_
    refine awp_ret ?_
    refine thn_r ?_
    refine fin1 [] [] rfl Try.results20 rfl ?_ (.inr rfl)
    refine congrArg Value.bool ?_
    symm; unfold rightA; rw [Bool.eq_false_iff]; intro hr
    simp at h1 hr; omega
  · skip
    refine awp_skip ?_
    refine thn_n ?_
    refine awp_seq ?_
    refine awp_region ?_
    refine aL_s true rfl rfl (fun _ => q_fieldAddr (off := 2) (by kernel_rfl) rfl) ?_
    refine aL_s true rfl rfl (fun _ => q_load 0 tk3 rfl rfl rfl) ?_
    refine aL_s true rfl rfl (fun _ => q_geq rfl rfl) ?_
    refine aL_s true rfl rfl (fun _ => q_move rfl) ?_
    refine aL_s _ rfl rfl (fun hc => q_fieldAddr (off := 2) (by kernel_rfl) rfl) ?_
    refine aL_s _ rfl rfl (fun hc => q_load 0 tk3 (ev_yes rfl hc) rfl rfl) ?_
    refine aL_s _ rfl rfl (fun hc => q_lss (ev_yes rfl hc) rfl) ?_
    refine aL_s true rfl rfl (fun _ => q_and rfl rfl (fun h => gt rfl h)) ?_
    refine aL_s true rfl rfl (fun _ => q_assign rfl) ?_
    refine aL_nil ?_
    refine thn_n ?_
    refine awp_ret ?_
    refine fin1 [] [] rfl Try.results20 rfl ?_ (.inr rfl)
    refine congrArg Value.bool ?_
    unfold rightA; rw [Bool.eq_iff_iff]
    simp at h1 ⊢; omega
theorem new_fn : Con Try.prog 23 [] [] [] fun r ps' hp' => ps' = [] ∧ ∃ p, r = .pointer (some ⟨p, 0, none⟩) ∧ hp' = [Box p 70 [.slice none 0 0]] := by
  refine Con.enter Try.func23 rfl (by simp [Try.ntmps23]) ?_
  show awp _ _ _ _ ⟨[], _, _⟩
  refine awp_seq ?_
  refine awp_region ?_
  refine aL_s true rfl rfl (fun _ => q_assign rfl) ?_
  refine aL_nil ?_
  refine thn_n ?_
  refine awp_seq ?_
  refine awp_region ?_
  refine aL_s true rfl rfl (fun _ => q_bld (l := []) (zs := [.slice none 0 0]) (pl := [(0, 1)]) (by kernel_rfl) (by kernel_rfl) (by kernel_rfl) rfl rfl rfl) ?_
  refine aL_eff (q := true) rfl (e_box rfl rfl rfl (fun b1_1 => ?_))
  simp only [List.cons_append, List.nil_append]
  refine aL_s true rfl rfl (fun _ => q_assign rfl) ?_
  refine aL_nil ?_
  refine thn_n ?_
  refine awp_ret ?_
  refine fin1 [] [0] rfl Try.results23 rfl ?_ (.inr rfl)
  exact ⟨rfl, _, rfl, rfl⟩
end Go.Proofs.Ytlhbnpahplpobaa
