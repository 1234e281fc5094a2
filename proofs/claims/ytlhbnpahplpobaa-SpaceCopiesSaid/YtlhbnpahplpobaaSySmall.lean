/- The documented examples. -/
import Derived.Test.YtlhbnpahplpobaaSyFree2
import Derived.Test.YtlhbnpahplpobaaSyLaw3
set_option linter.unusedVariables false
set_option linter.unusedSimpArgs false
namespace Go.Proofs.Ytlhbnpahplpobaa
open Go.RowKit Go.Lp Go.Sy
def A1 : Ar := ⟨512, 600, 1, 0, 0⟩
def A2 : Ar := ⟨1024, 8, 0, 0, 0⟩
def M1 : Mem := (mapM [] A1).1
def M2 : Mem := (storeM M1 512 8 (-2)).1
theorem sm_f1 : freeM [] 1 = 512 := by decide +kernel
theorem sm_f2 : freeM [] 600 = 512 := by decide +kernel
theorem sm_m1 : (mapM [] A1).2 = 0 := by decide +kernel
theorem sm_f3 : freeM M1 1 = 1536 := by decide +kernel
theorem sm_s1 : (storeM M1 512 8 (-2)).2 = 0 := by decide +kernel
theorem sm_l1 : loadM M2 513 1 = (255, 0) := by decide +kernel
theorem sm_l2 : loadM M2 512 8 = (-2, 0) := by decide +kernel
theorem sm_l3 : loadM M2 516 8 = (0, 6) := by decide +kernel
theorem sm_s2 : storeM M2 1108 8 1 = (M2, 6) := by decide +kernel
theorem sm_l4 : loadM M2 1104 8 = (0, 0) := by decide +kernel
theorem sm_m2 : mapM M2 A2 = (M2, 4) := by decide +kernel
theorem sm_len : M1.length = 1 ∧ M2.length = 1 := by decide +kernel
theorem ret_eq {P : Program} {f : FuncId} {args : Array Value} {w : World} {v u : Value} (h : Calls P f args w fun e w' => e = .returned v ∧ Below w.heap.size w w') (e : v = u) : Calls P f args w fun e w' => e = .returned u ∧ Below w.heap.size w w' := e ▸ h
theorem small_fn : Con Try.prog 8 [] [] [] fun r _ _ => r = .bool true := by
  have i1 : I64 1 := by unfold I64; omega
  have i2 : I64 600 := by unfold I64; omega
  refine Con.enter Try.func8 rfl (by simp [Try.ntmps8]) ?_
  show awp _ _ _ _ ⟨[], _, _⟩
  refine awp_seq ?_
  refine awp_region ?_
  refine aL_s true rfl rfl (fun _ => q_assign rfl) ?_
  refine aL_nil ?_
  refine thn_n ?_
  refine awp_seq ?_
  refine awp_region ?_
  refine aL_eff (q := true) rfl (e_call [] [] (by kernel_rfl) rfl rfl rfl rfl (new_fn) ?_)
  rintro v ps' hp' ⟨rfl, p, rfl, rfl⟩
  refine aL_s true rfl rfl (fun _ => q_assign rfl) ?_
  refine aL_nil ?_
  refine thn_n ?_
  refine awp_seq ?_
  refine awp_seq ?_
  refine awp_conv 0 (SpR p []) rfl sp_new ?_
  refine awp_region ?_
  refine aL_s true rfl rfl (fun _ => q_move rfl) ?_
  refine aL_s true rfl rfl (fun _ => q_ptrNil (by kernel_rfl) rfl) ?_
  refine aL_s true rfl rfl (fun _ => q_move rfl) ?_
  refine aL_s _ rfl rfl (fun hc => q_move rfl) ?_
  refine aL_s _ rfl rfl (fun hc => q_call (by kernel_rfl) (evs_cons (ev_yes rfl hc) (evs_cons (ev_yes rfl rfl) rfl)) (fun w S fp hst => ret_eq (q_spfree hst 0 rfl 1 i1) (congrArg (Value.int .i64) sm_f1))) ?_
  refine aL_s _ rfl rfl (fun hc => q_neq (ev_yes rfl hc) rfl) ?_
  refine aL_s true rfl rfl (fun _ => q_or rfl rfl (fun h => gf rfl h)) ?_
  refine aL_s true rfl rfl (fun _ => q_move rfl) ?_
  refine aL_s _ rfl rfl (fun hc => q_move rfl) ?_
  refine aL_s _ rfl rfl (fun hc => q_call (by kernel_rfl) (evs_cons (ev_yes rfl hc) (evs_cons (ev_yes rfl rfl) rfl)) (fun w S fp hst => ret_eq (q_spfree hst 0 rfl 600 i2) (congrArg (Value.int .i64) sm_f2))) ?_
  refine aL_s _ rfl rfl (fun hc => q_neq (ev_yes rfl hc) rfl) ?_
  refine aL_s true rfl rfl (fun _ => q_or rfl rfl (fun h => gf rfl h)) ?_
  refine aL_s true rfl rfl (fun _ => q_move rfl) ?_
  refine aL_s _ rfl rfl (fun hc => q_move rfl) ?_
  refine aL_s _ rfl rfl (fun hc => q_bld (l := [(0, .const (.int .i64 512)), (1, .const (.int .i64 600)), (2, .const (.int .i64 1))]) (zs := [.int .i64 0, .int .i64 0, .int .i64 0, .int .i64 0, .int .i64 0]) (pl := [(0, 1), (1, 1), (2, 1), (3, 1), (4, 1)]) (by kernel_rfl) (by kernel_rfl) (by kernel_rfl) rfl rfl rfl) ?_
  refine aL_eff (q := false) rfl (e_call [] [0] (by kernel_rfl) rfl rfl rfl rfl (map_con A1 (by decide)) ?_)
  rintro v ps' hp' ⟨rfl, rfl, rfl⟩; rw [sm_m1]
  refine aL_s _ rfl rfl (fun hc => q_neq (ev_yes rfl hc) rfl) ?_
  refine aL_s true rfl rfl (fun _ => q_or rfl rfl (fun h => gf rfl h)) ?_
  refine aL_s true rfl rfl (fun _ => q_move rfl) ?_
  refine aL_s _ rfl rfl (fun hc => q_move rfl) ?_
  refine aL_s _ rfl rfl (fun hc => q_call (by kernel_rfl) (evs_cons (ev_yes rfl hc) (evs_cons (ev_yes rfl rfl) rfl)) (fun w S fp hst => ret_eq (q_spfree (M := M1) hst 0 rfl 1 i1) (congrArg (Value.int .i64) sm_f3))) ?_
  refine aL_s _ rfl rfl (fun hc => q_neq (ev_yes rfl hc) rfl) ?_
  refine aL_s true rfl rfl (fun _ => q_or rfl rfl (fun h => gf rfl h)) ?_
  refine aL_nil ?_
  refine thn_n ?_
  refine awp_cond _ rfl (fun h1 => ?_) (fun h1 => ?_)
  · skip
    exact absurd h1 (by decide)
  · skip
    refine awp_skip ?_
    refine thn_n ?_
    refine awp_seq ?_
    refine awp_region ?_
    refine aL_s true rfl rfl (fun _ => q_move rfl) ?_
    refine aL_eff (q := false) rfl (e_call [] [0] (by kernel_rfl) rfl rfl rfl rfl (store_con (M := M1) 512 8 (-2) (by omega)) ?_)
    rintro v ps' hp' ⟨rfl, rfl, rfl⟩; rw [sm_s1]
    refine aL_s true rfl rfl (fun _ => q_assign rfl) ?_
    refine aL_nil ?_
    refine thn_n ?_
    refine awp_seq ?_
    refine awp_region ?_
    refine aL_s true rfl rfl (fun _ => q_move rfl) ?_
    refine aL_s true rfl rfl (fun _ => q_call (by kernel_rfl) rfl (fun w S fp hst => ret_eq (q_spload (M := M2) hst 0 rfl 513 1 (by omega)) (by rw [sm_l1]))) ?_
    refine aL_s true rfl rfl (fun _ => q_move rfl) ?_
    refine aL_s true rfl rfl (fun _ => q_extract rfl rfl) ?_
    refine aL_s true rfl rfl (fun _ => q_extract rfl rfl) ?_
    refine aL_s true rfl rfl (fun _ => q_assign rfl) ?_
    refine aL_s true rfl rfl (fun _ => q_assign rfl) ?_
    refine aL_nil ?_
    refine thn_n ?_
    refine awp_seq ?_
    refine awp_region ?_
    refine aL_s true rfl rfl (fun _ => q_move rfl) ?_
    refine aL_s true rfl rfl (fun _ => q_call (by kernel_rfl) rfl (fun w S fp hst => ret_eq (q_spload (M := M2) hst 0 rfl 512 8 (by omega)) (by rw [sm_l2]))) ?_
    refine aL_s true rfl rfl (fun _ => q_move rfl) ?_
    refine aL_s true rfl rfl (fun _ => q_extract rfl rfl) ?_
    refine aL_s true rfl rfl (fun _ => q_extract rfl rfl) ?_
    refine aL_s true rfl rfl (fun _ => q_assign rfl) ?_
    refine aL_s true rfl rfl (fun _ => q_assign rfl) ?_
    refine aL_nil ?_
    refine thn_n ?_
    refine awp_seq ?_
    refine awp_region ?_
    refine aL_s true rfl rfl (fun _ => q_move rfl) ?_
    refine aL_s true rfl rfl (fun _ => q_call (by kernel_rfl) rfl (fun w S fp hst => ret_eq (q_spload (M := M2) hst 0 rfl 516 8 (by omega)) (by rw [sm_l3]))) ?_
    refine aL_s true rfl rfl (fun _ => q_move rfl) ?_
    refine aL_s true rfl rfl (fun _ => q_extract rfl rfl) ?_
    refine aL_s true rfl rfl (fun _ => q_extract rfl rfl) ?_
    refine aL_s true rfl rfl (fun _ => q_assign rfl) ?_
    refine aL_s true rfl rfl (fun _ => q_assign rfl) ?_
    refine aL_nil ?_
    refine thn_n ?_
    refine awp_seq ?_
    refine awp_region ?_
    refine aL_s true rfl rfl (fun _ => q_move rfl) ?_
    refine aL_eff (q := false) rfl (e_call [] [0] (by kernel_rfl) rfl rfl rfl rfl (store_con (M := M2) 1108 8 1 (by omega)) ?_)
    rintro v ps' hp' ⟨rfl, rfl, rfl⟩; rw [sm_s2]
    refine aL_s true rfl rfl (fun _ => q_assign rfl) ?_
    refine aL_nil ?_
    refine thn_n ?_
    refine awp_seq ?_
    refine awp_region ?_
    refine aL_s true rfl rfl (fun _ => q_move rfl) ?_
    refine aL_s true rfl rfl (fun _ => q_call (by kernel_rfl) rfl (fun w S fp hst => ret_eq (q_spload (M := M2) hst 0 rfl 1104 8 (by omega)) (by rw [sm_l4]))) ?_
    refine aL_s true rfl rfl (fun _ => q_move rfl) ?_
    refine aL_s true rfl rfl (fun _ => q_extract rfl rfl) ?_
    refine aL_s true rfl rfl (fun _ => q_extract rfl rfl) ?_
    refine aL_s true rfl rfl (fun _ => q_assign rfl) ?_
    refine aL_s true rfl rfl (fun _ => q_assign rfl) ?_
    refine aL_nil ?_
    refine thn_n ?_
    refine awp_seq ?_
    refine awp_region ?_
    refine aL_s true rfl rfl (fun _ => q_move rfl) ?_
    refine aL_s true rfl rfl (fun _ => q_bld (l := [(0, .const (.int .i64 1024)), (1, .const (.int .i64 8)), (2, .const (.int .i64 0))]) (zs := [.int .i64 0, .int .i64 0, .int .i64 0, .int .i64 0, .int .i64 0]) (pl := [(0, 1), (1, 1), (2, 1), (3, 1), (4, 1)]) (by kernel_rfl) (by kernel_rfl) (by kernel_rfl) rfl rfl rfl) ?_
    refine aL_eff (q := false) rfl (e_call [] [0] (by kernel_rfl) rfl rfl rfl rfl (map_con (M := M2) A2 (by rw [sm_len.2]; decide)) ?_)
    rintro v ps' hp' ⟨rfl, rfl, rfl⟩; rw [sm_m2]
    refine aL_s true rfl rfl (fun _ => q_assign rfl) ?_
    refine aL_nil ?_
    refine thn_n ?_
    refine awp_seq ?_
    refine awp_region ?_
    refine aL_s true rfl rfl (fun _ => q_move rfl) ?_
    refine aL_s true rfl rfl (fun _ => q_eql rfl rfl) ?_
    refine aL_s true rfl rfl (fun _ => q_move rfl) ?_
    refine aL_s _ rfl rfl (fun hc => q_move rfl) ?_
    refine aL_s _ rfl rfl (fun hc => q_eql (ev_yes rfl hc) rfl) ?_
    refine aL_s true rfl rfl (fun _ => q_and rfl rfl (fun h => gt rfl h)) ?_
    refine aL_s true rfl rfl (fun _ => q_move rfl) ?_
    refine aL_s _ rfl rfl (fun hc => q_move rfl) ?_
    refine aL_s _ rfl rfl (fun hc => q_eql (ev_yes rfl hc) rfl) ?_
    refine aL_s true rfl rfl (fun _ => q_and rfl rfl (fun h => gt rfl h)) ?_
    refine aL_s true rfl rfl (fun _ => q_move rfl) ?_
    refine aL_s _ rfl rfl (fun hc => q_move rfl) ?_
    refine aL_s _ rfl rfl (fun hc => q_eql (ev_yes rfl hc) rfl) ?_
    refine aL_s true rfl rfl (fun _ => q_and rfl rfl (fun h => gt rfl h)) ?_
    refine aL_s true rfl rfl (fun _ => q_move rfl) ?_
    refine aL_s _ rfl rfl (fun hc => q_move rfl) ?_
    refine aL_s _ rfl rfl (fun hc => q_eql (ev_yes rfl hc) rfl) ?_
    refine aL_s true rfl rfl (fun _ => q_and rfl rfl (fun h => gt rfl h)) ?_
    refine aL_s true rfl rfl (fun _ => q_move rfl) ?_
    refine aL_s _ rfl rfl (fun hc => q_move rfl) ?_
    refine aL_s _ rfl rfl (fun hc => q_eql (ev_yes rfl hc) rfl) ?_
    refine aL_s true rfl rfl (fun _ => q_and rfl rfl (fun h => gt rfl h)) ?_
    refine aL_s true rfl rfl (fun _ => q_move rfl) ?_
    refine aL_s _ rfl rfl (fun hc => q_move rfl) ?_
    refine aL_s _ rfl rfl (fun hc => q_eql (ev_yes rfl hc) rfl) ?_
    refine aL_s true rfl rfl (fun _ => q_and rfl rfl (fun h => gt rfl h)) ?_
    refine aL_s true rfl rfl (fun _ => q_move rfl) ?_
    refine aL_s _ rfl rfl (fun hc => q_move rfl) ?_
    refine aL_s _ rfl rfl (fun hc => q_eql (ev_yes rfl hc) rfl) ?_
    refine aL_s true rfl rfl (fun _ => q_and rfl rfl (fun h => gt rfl h)) ?_
    refine aL_s true rfl rfl (fun _ => q_move rfl) ?_
    refine aL_s _ rfl rfl (fun hc => q_move rfl) ?_
    refine aL_s _ rfl rfl (fun hc => q_eql (ev_yes rfl hc) rfl) ?_
    refine aL_s true rfl rfl (fun _ => q_and rfl rfl (fun h => gt rfl h)) ?_
    refine aL_s true rfl rfl (fun _ => q_move rfl) ?_
    refine aL_s _ rfl rfl (fun hc => q_move rfl) ?_
    refine aL_s _ rfl rfl (fun hc => q_eql (ev_yes rfl hc) rfl) ?_
    refine aL_s true rfl rfl (fun _ => q_and rfl rfl (fun h => gt rfl h)) ?_
    refine aL_s true rfl rfl (fun _ => q_assign rfl) ?_
    refine aL_nil ?_
    refine thn_n ?_
    refine awp_ret ?_
    refine fin1 [] [] rfl Try.results8 rfl ?_ (.inr rfl)
    rfl
end Go.Proofs.Ytlhbnpahplpobaa
