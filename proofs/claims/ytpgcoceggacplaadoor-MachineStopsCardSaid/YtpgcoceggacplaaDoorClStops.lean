/- Proved: for every setting the law MachineStops of the given program answers true and leaves what it was handed as it was; the card, tied to the program's text. Conditions: none but those in the given statement itself. -/
import Derived.Test.YtpgcoceggacplaaDoorMgC
import Derived.Test.YtpgcoceggacplaaDoorCards
import Derived.Test.YtpgcoceggacplaaDoorTie
import Derived.SevenTiedAt
set_option linter.unusedVariables false
set_option linter.unusedSimpArgs false
set_option maxRecDepth 20000
namespace Go.Lp
open Go.RowKit Go.Proofs.YtpgcoceggacplaaDoor Go.Sy
theorem eqInts_refl (xs : Array Value) (l : List Nat) : eqInts xs xs l = true := by
  unfold eqInts
  refine List.all_eq_true.2 fun o _ => ?_
  cases intAt xs o with
  | none => rfl
  | some a => simp
theorem ofBytes_list (l : List UInt8) : (ofBytes l).toList = l := by rw [ByteArray.toList_eq]; rfl
/-- the code is the beginning of what is read -/
theorem bytes_code {x : Stg} (hf : fewS x = true) {M : Mem} (hM : MemAs (memS x) M) : x.code.size ≤ (bytesM M x).length ∧ (bytesM M x).take x.code.size = x.code.data.toList := by
  have hl : x.code.data.toList.length = x.code.size := by simp
  by_cases h0 : 1 ≤ x.code.size
  · have hI := memAs_inv (memS_inv hf) hM
    have hc := code_kept (memS_inv hf) (memS_code hf h0) hM
    have hr := (code_read hI hc 0 x.code.size h0 (by omega)).1
    have e : (readM M 512 x.code.size).1 = x.code.data.toList := by
      have : readM M 512 x.code.size = readM M (512 + ((0 : Nat) : Int)) x.code.size := rfl
      rw [this, hr]; show List.take _ (List.drop 0 _) = _; rw [List.drop_zero, List.take_of_length_le (by omega)]
    unfold bytesM
    rw [e]
    refine ⟨by simp, ?_⟩
    rw [List.append_assoc, List.take_append_of_le_length (by omega), List.take_of_length_le (by omega)]
  · have e0 : x.code.data.toList = [] := List.eq_nil_of_length_eq_zero (by omega)
    rw [e0, show x.code.size = 0 by omega]
    exact ⟨Nat.zero_le _, rfl⟩
theorem cut_code {x : Stg} (hf : fewS x = true) {M : Mem} (hM : MemAs (memS x) M) : (((ofBytes (bytesM M x)).extract 0 (x.code.size : Int).toNat).toList == x.code.toList) = true := by
  have h := (bytes_code hf hM).2
  have : ((ofBytes (bytesM M x)).extract 0 (x.code.size : Int).toNat).toList = (bytesM M x).take x.code.size := by
    rw [ByteArray.toList_eq]
    simp [ofBytes, ByteArray.data_extract]
  rw [this, h, ByteArray.toList_eq]; simp
end Go.Lp
namespace Go.Proofs.YtpgcoceggacplaaDoor
open Go.RowKit Go.Lp Go.Sy
theorem stops_con (x : Stg) (ad : Option Addr) (c : Nat) (hr : ∀ z ∈ x.regs, I64 z) (hp : I64 x.pc) : Con Tryd.prog 3 [.agg (stgV x ad c).toArray] [Sh (.slice ad x.regs.length c) (.sl (irows x.regs)), formsAt] [] fun r _ _ => r = .bool true := by
  have hok : CpuOk (cpuS x) := cpuK_ok x _ hr hp
  have HK := Lib.hid (step_kind (memS x) (cpuS x))
  have HM := Lib.hid (step_mem (memS x) (cpuS x))
  refine Con.enter Tryd.func3 rfl (by simp [Tryd.ntmps3]) ?_
  show awp _ _ _ _ ⟨[(0, true, _)], _, _⟩
  refine awp_seq ?_
  refine awp_region ?_
  refine aL_eff (q := true) rfl (x_box rfl rfl rfl (fun b0_0 => ?_))
  refine aL_hp (by simp only [List.cons_append, List.nil_append]; rfl) ?_
  refine aL_s true rfl rfl (fun _ => q_assign rfl) ?_
  refine aL_nil ?_
  refine thn_n ?_
  refine awp_seq ?_
  refine awp_region ?_
  refine aL_s true rfl rfl (fun _ => q_call (by kernel_rfl) rfl (fun w S fp hst => small29_fn.quiet1 (psAt 1 rfl) hst)) ?_
  refine aL_s true rfl rfl (fun _ => q_assign rfl) ?_
  refine aL_nil ?_
  refine thn_n ?_
  refine awp_seq ?_
  refine awp_seq ?_
  refine awp_region ?_
  refine aL_s true rfl rfl (fun _ => q_load 0 tk24 rfl rfl rfl) ?_
  refine aL_s true rfl rfl (fun _ => q_call (by kernel_rfl) rfl (fun w S fp hst => (few29_fn x ad c).quiet0 hst)) ?_
  refine aL_s true rfl rfl (fun _ => q_not rfl) ?_
  refine aL_nil ?_
  refine thn_n ?_
  refine awp_cond _ rfl (fun h1 => ?_) (fun h1 => ?_)
  · skip
    refine awp_seq ?_
    refine awp_region ?_
    refine aL_s true rfl rfl (fun _ => q_move rfl) ?_
    refine aL_s true rfl rfl (fun _ => q_assign rfl) ?_
    refine aL_nil ?_
    refine thn_n ?_
    refine awp_ret ?_
    refine thn_r ?_
    refine fin1 [] [] rfl Tryd.results3 rfl ?_ (.inr rfl)
    rfl
  · skip
    have hf : fewS x = true := by simpa using h1
    obtain ⟨f1, f2, f3, f4⟩ := few_of hf
    refine awp_skip ?_
    refine thn_n ?_
    refine awp_seq ?_
    refine awp_region ?_
    refine aL_s true rfl rfl (fun _ => q_load 0 tk24 rfl rfl rfl) ?_
    refine aL_eff (q := true) rfl (e_call [] [] (by kernel_rfl) rfl rfl rfl rfl (memory_fn x ad c (by omega) (by omega)) ?_)
    rintro v ps' hp' ⟨rfl, p, rfl, rfl⟩
    refine aL_st (by (try simp only [List.cons_append, List.nil_append]); rfl) (by (try simp only [putB, place, Nat.reduceBEq, Bool.false_eq_true, if_true, if_false, reduceIte, Option.map_none, Option.map_some, List.getD_cons_zero, List.getD_cons_succ, List.drop_succ_cons, List.drop_zero, List.length_cons, List.length_nil, Nat.reduceAdd, List.drop_nil, beq_self_eq_true, List.set_cons_succ, List.set_cons_zero, List.cons_append, List.nil_append]); rfl) ?_
    refine aL_s true rfl rfl (fun _ => q_assign rfl) ?_
    refine aL_nil ?_
    refine thn_n ?_
    refine awp_seq ?_
    refine awp_seq ?_
    refine awp_region ?_
    refine aL_s true rfl rfl (fun _ => q_move rfl) ?_
    refine aL_s true rfl rfl (fun _ => q_ptrNil (by kernel_rfl) rfl) ?_
    refine aL_nil ?_
    refine thn_n ?_
    refine awp_cond _ rfl (fun h2 => ?_) (fun h2 => ?_)
    · skip
      exact absurd h2 (by simp)
    · skip
      refine awp_skip ?_
      refine thn_n ?_
      refine awp_seq ?_
      refine awp_region ?_
      refine aL_s true rfl rfl (fun _ => q_move rfl) ?_
      refine aL_s true rfl rfl (fun _ => q_load 0 tk24 rfl rfl rfl) ?_
      refine aL_eff (q := false) rfl (e_call [] [1] (by kernel_rfl) rfl rfl rfl rfl (bytes_fn x ad c p (memS x) f1 f2 f3) ?_)
      rintro v ps' hp' ⟨rfl, rfl, rfl⟩
      refine aL_st (by (try simp only [List.cons_append, List.nil_append]); rfl) (by (try simp only [putB, place, Nat.reduceBEq, Bool.false_eq_true, if_true, if_false, reduceIte, Option.map_none, Option.map_some, List.getD_cons_zero, List.getD_cons_succ, List.drop_succ_cons, List.drop_zero, List.length_cons, List.length_nil, Nat.reduceAdd, List.drop_nil, beq_self_eq_true, List.set_cons_succ, List.set_cons_zero, List.cons_append, List.nil_append]); rfl) ?_
      refine aL_s true rfl rfl (fun _ => q_assign rfl) ?_
      refine aL_nil ?_
      refine thn_n ?_
      refine awp_seq ?_
      refine awp_region ?_
      refine aL_s true rfl rfl (fun _ => q_move rfl) ?_
      refine aL_s true rfl rfl (fun _ => q_load 0 tk24 rfl rfl rfl) ?_
      refine aL_s true rfl rfl (fun _ => q_call (by kernel_rfl) rfl (fun w S fp hst => (cpu_fn x ad c).quiet1 (psAt 0 rfl) hst)) ?_
      refine aL_eff (q := false) rfl (e_call [0] [1] (by kernel_rfl) rfl rfl rfl rfl (step_fn p (memS x) (cpuS x) hok) ?_)
      rintro v ps' hp' ⟨rfl, rfl, rfl⟩; generalize hS : stepM (memS x) (cpuS x) = S at HK HM ⊢
      refine aL_st (by (try simp only [List.cons_append, List.nil_append]); rfl) (by (try simp only [putB, place, Nat.reduceBEq, Bool.false_eq_true, if_true, if_false, reduceIte, Option.map_none, Option.map_some, List.getD_cons_zero, List.getD_cons_succ, List.drop_succ_cons, List.drop_zero, List.length_cons, List.length_nil, Nat.reduceAdd, List.drop_nil, beq_self_eq_true, List.set_cons_succ, List.set_cons_zero, List.cons_append, List.nil_append]); rfl) ?_
      refine aL_s true rfl rfl (fun _ => q_move rfl) ?_
      refine aL_s true rfl rfl (fun _ => q_extract rfl rfl) ?_
      refine aL_s true rfl rfl (fun _ => q_extract rfl rfl) ?_
      refine aL_eff (q := true) rfl (x_alloc (zs := [.int .i64 0, .int .i64 0, .int .i64 0, .int .i64 0, .int .i64 0, .int .i64 0, .int .i64 0, .int .i64 0, .int .i64 0, .int .i64 0, .int .i64 0, .int .i64 0, .int .i64 0, .int .i64 0, .int .i64 0, .int .i64 0, .int .i64 0]) (by kernel_rfl) rfl (fun b8_7 => ?_))
      refine aL_hp (by simp only [List.cons_append, List.nil_append]; rfl) ?_
      refine aL_eff (q := true) rfl (x_alloc (zs := [.int .i64 0, .int .i64 0]) (by kernel_rfl) rfl (fun b8_8 => ?_))
      refine aL_hp (by simp only [List.cons_append, List.nil_append]; rfl) ?_
      refine aL_eff rfl (x_store 2 tk32 rfl rfl rfl rfl ?_)
      refine aL_hp (by simp only [List.set_cons_succ, List.set_cons_zero]; rfl) ?_
      refine aL_eff rfl (x_store 3 tk34 rfl rfl rfl rfl ?_)
      refine aL_hp (by simp only [List.set_cons_succ, List.set_cons_zero]; rfl) ?_
      refine aL_nil ?_
      refine thn_n ?_
      refine awp_seq ?_
      refine awp_region ?_
      refine aL_s true rfl rfl (fun _ => q_move rfl) ?_
      refine aL_s true rfl rfl (fun _ => q_load 0 tk24 rfl rfl rfl) ?_
      refine aL_eff (q := false) rfl (e_call [] [1] (by kernel_rfl) rfl rfl rfl rfl (bytes_fn x ad c p S.2.2 f1 f2 f3) ?_)
      rintro v ps' hp' ⟨rfl, rfl, rfl⟩
      refine aL_st (by (try simp only [List.cons_append, List.nil_append]); rfl) (by (try simp only [putB, place, Nat.reduceBEq, Bool.false_eq_true, if_true, if_false, reduceIte, Option.map_none, Option.map_some, List.getD_cons_zero, List.getD_cons_succ, List.drop_succ_cons, List.drop_zero, List.length_cons, List.length_nil, Nat.reduceAdd, List.drop_nil, beq_self_eq_true, List.set_cons_succ, List.set_cons_zero, List.cons_append, List.nil_append]); rfl) ?_
      refine aL_s true rfl rfl (fun _ => q_assign rfl) ?_
      refine aL_nil ?_
      refine thn_n ?_
      refine awp_seq ?_
      refine awp_seq ?_
      have hbl := (bytes_code hf HM.out).1
      refine awp_drawn [] (by kernel_rfl) ?_
      show aB _ _ _ _ _ 16 #[false, false, false, false, false, false, false, false, false, false, false, false, false, false, false, false] _
      refine aB_s 0 rfl (by kernel_rfl) true rfl rfl (fun _ => q_move rfl) ?_
      refine aB_hp (by simp only [List.setIfInBounds_toArray, List.set_cons_succ, List.set_cons_zero]; rfl) rfl ?_
      refine aB_s 1 rfl (by kernel_rfl) true rfl rfl (fun _ => q_lenStr Tryd.underlying9 rfl) ?_
      refine aB_hp (by simp only [List.setIfInBounds_toArray, List.set_cons_succ, List.set_cons_zero]; rfl) rfl ?_
      refine aB_s 2 rfl (by kernel_rfl) true rfl rfl (fun _ => q_fieldAddr (off := 0) (by kernel_rfl) rfl) ?_
      refine aB_hp (by simp only [List.setIfInBounds_toArray, List.set_cons_succ, List.set_cons_zero]; rfl) rfl ?_
      refine aB_s 3 rfl (by kernel_rfl) true rfl rfl (fun _ => q_load 0 tk9 rfl rfl rfl) ?_
      refine aB_hp (by simp only [List.setIfInBounds_toArray, List.set_cons_succ, List.set_cons_zero]; rfl) rfl ?_
      refine aB_s 4 rfl (by kernel_rfl) true rfl rfl (fun _ => q_lenStr Tryd.underlying9 rfl) ?_
      refine aB_hp (by simp only [List.setIfInBounds_toArray, List.set_cons_succ, List.set_cons_zero]; rfl) rfl ?_
      refine aB_s 5 rfl (by kernel_rfl) true rfl rfl (fun _ => q_lss rfl rfl) ?_
      refine aB_hp (by simp only [List.setIfInBounds_toArray, List.set_cons_succ, List.set_cons_zero]; rfl) rfl ?_
      refine aB_s 6 rfl (by kernel_rfl) true rfl rfl (fun _ => q_move rfl) ?_
      refine aB_hp (by simp only [List.setIfInBounds_toArray, List.set_cons_succ, List.set_cons_zero]; rfl) rfl ?_
      refine aB_s 7 rfl (by kernel_rfl) _ rfl rfl (fun hc => q_move rfl) ?_
      refine aB_hp (by simp only [List.setIfInBounds_toArray, List.set_cons_succ, List.set_cons_zero]; rfl) rfl ?_
      refine aB_s 8 rfl (by kernel_rfl) _ rfl rfl (fun hc => q_fieldAddr (off := 0) (by kernel_rfl) rfl) ?_
      refine aB_hp (by simp only [List.setIfInBounds_toArray, List.set_cons_succ, List.set_cons_zero]; rfl) rfl ?_
      refine aB_s 9 rfl (by kernel_rfl) _ rfl rfl (fun hc => q_load 0 tk9 (ev_yes rfl hc) rfl rfl) ?_
      refine aB_hp (by simp only [List.setIfInBounds_toArray, List.set_cons_succ, List.set_cons_zero]; rfl) rfl ?_
      refine aB_s 10 rfl (by kernel_rfl) _ rfl rfl (fun hc => q_lenStr Tryd.underlying9 (ev_yes rfl hc)) ?_
      refine aB_hp (by simp only [List.setIfInBounds_toArray, List.set_cons_succ, List.set_cons_zero]; rfl) rfl ?_
      refine aB_s 11 rfl (by kernel_rfl) _ rfl rfl (fun hc => q_strHi Tryd.underlying9 (ev_yes rfl hc) (ev_yes rfl hc) (by omega) (by rw [ofBytes_size]; omega)) ?_
      refine aB_hp (by simp only [List.setIfInBounds_toArray, List.set_cons_succ, List.set_cons_zero]; rfl) rfl ?_
      refine aB_s 12 rfl (by kernel_rfl) _ rfl rfl (fun hc => q_fieldAddr (off := 0) (by kernel_rfl) rfl) ?_
      refine aB_hp (by simp only [List.setIfInBounds_toArray, List.set_cons_succ, List.set_cons_zero]; rfl) rfl ?_
      refine aB_s 13 rfl (by kernel_rfl) _ rfl rfl (fun hc => q_load 0 tk9 (ev_yes rfl hc) rfl rfl) ?_
      refine aB_hp (by simp only [List.setIfInBounds_toArray, List.set_cons_succ, List.set_cons_zero]; rfl) rfl ?_
      refine aB_s 14 rfl (by kernel_rfl) _ rfl rfl (fun hc => qs_neq (ev_yes rfl hc) (ev_yes rfl hc)) ?_
      refine aB_hp (by simp only [List.setIfInBounds_toArray, List.set_cons_succ, List.set_cons_zero]; rfl) rfl ?_
      refine aB_s 15 rfl (by kernel_rfl) true rfl rfl (fun _ => q_or rfl rfl (fun h => gf rfl h)) ?_
      refine aB_hp (by simp only [List.setIfInBounds_toArray, List.set_cons_succ, List.set_cons_zero]; rfl) rfl ?_
      refine aB_nil (by kernel_rfl) ?_
      refine thn_n ?_
      refine awp_cond _ rfl (fun h3 => ?_) (fun h3 => ?_)
      · skip
        exfalso
        rw [cut_code hf HM.out, ofBytes_size] at h3
        simp at h3; omega
      · skip
        refine awp_skip ?_
        refine thn_n ?_
        refine awp_seq ?_
        refine awp_seq ?_
        refine awp_region ?_
        refine aL_s true rfl rfl (fun _ => q_fieldAddr (off := 0) (by kernel_rfl) rfl) ?_
        refine aL_s true rfl rfl (fun _ => q_load 3 tk3 rfl rfl rfl) ?_
        refine aL_s true rfl rfl (fun _ => q_eql rfl rfl) ?_
        refine aL_s true rfl rfl (fun _ => q_move rfl) ?_
        refine aL_s _ rfl rfl (fun hc => q_fieldAddr (off := 0) (by kernel_rfl) rfl) ?_
        refine aL_s _ rfl rfl (fun hc => q_load 3 tk3 (ev_yes rfl hc) rfl rfl) ?_
        refine aL_s _ rfl rfl (fun hc => q_eql (ev_yes rfl hc) rfl) ?_
        refine aL_s true rfl rfl (fun _ => q_or rfl rfl (fun h => gf rfl h)) ?_
        refine aL_s true rfl rfl (fun _ => q_move rfl) ?_
        refine aL_s _ rfl rfl (fun hc => q_fieldAddr (off := 0) (by kernel_rfl) rfl) ?_
        refine aL_s _ rfl rfl (fun hc => q_load 3 tk3 (ev_yes rfl hc) rfl rfl) ?_
        refine aL_s _ rfl rfl (fun hc => q_eql (ev_yes rfl hc) rfl) ?_
        refine aL_s true rfl rfl (fun _ => q_or rfl rfl (fun h => gf rfl h)) ?_
        refine aL_nil ?_
        refine thn_n ?_
        refine awp_cond _ rfl (fun h4 => ?_) (fun h4 => ?_)
        · skip
          refine awp_seq ?_
          refine awp_region ?_
          refine aL_s true rfl rfl (fun _ => q_move rfl) ?_
          refine aL_s true rfl rfl (fun _ => q_move rfl) ?_
          refine aL_s _ rfl rfl (fun hc => q_fieldAddr (off := 0) (by kernel_rfl) rfl) ?_
          refine aL_s _ rfl rfl (fun hc => q_load 3 tk3 (ev_yes rfl hc) rfl rfl) ?_
          refine aL_s _ rfl rfl (fun hc => q_eql (ev_yes rfl hc) rfl) ?_
          refine aL_s _ rfl rfl (fun hc => q_move (ev_yes rfl hc)) ?_
          refine aL_s _ rfl rfl (fun hc => q_move rfl) ?_
          refine aL_s _ rfl rfl (fun hc => q_move rfl) ?_
          refine aL_s _ rfl rfl (fun hc => qs_eql (ev_yes rfl hc) (ev_yes rfl hc)) ?_
          refine aL_s _ rfl rfl (fun hc => q_or (ev_yes rfl hc) rfl (fun h => gf hc h)) ?_
          refine aL_s true rfl rfl (fun _ => q_and rfl rfl (fun h => gt rfl h)) ?_
          refine aL_s true rfl rfl (fun _ => q_assign rfl) ?_
          refine aL_nil ?_
          refine thn_n ?_
          refine awp_ret ?_
          refine thn_r ?_
          refine fin1 [] [] rfl Tryd.results3 rfl ?_ (.inr rfl)
          refine congrArg Value.bool ?_
          by_cases h0 : S.2.1.1 = 0
          · simp_all
          · obtain ⟨k1, k2⟩ := HK.out h0
            simp only [Bool.or_eq_true, Bool.or_eq_false_iff, decide_eq_true_eq, decide_eq_false_iff_not] at h4
            first
            | (rw [k1]; simp; done)
            | (have hc : S.1 = cpuS x := by
                 rcases k2 with h | h | h
                 · exact absurd h h4.1.2
                 · exact absurd h h4.2
                 · exact h
               rw [k1, hc]
               show (true && eqInts (cpuV (cpuS x)).toArray (cpuV (cpuS x)).toArray _ && _) = true
               rw [eqInts_refl]; simp)
        · skip
          refine awp_skip ?_
          refine thn_n ?_
          refine awp_seq ?_
          refine awp_drawn [] (by kernel_rfl) ?_
          show aB _ _ _ _ _ 13 #[false, false, false, false, false, false, false, false, false, false, false, false, false] _
          refine aB_s 0 rfl (by kernel_rfl) true rfl rfl (fun _ => q_move rfl) ?_
          refine aB_hp (by simp only [List.setIfInBounds_toArray, List.set_cons_succ, List.set_cons_zero]; rfl) rfl ?_
          refine aB_s 1 rfl (by kernel_rfl) true rfl rfl (fun _ => q_move rfl) ?_
          refine aB_hp (by simp only [List.setIfInBounds_toArray, List.set_cons_succ, List.set_cons_zero]; rfl) rfl ?_
          refine aB_s 2 rfl (by kernel_rfl) _ rfl rfl (fun hc => q_load 2 tk32 rfl rfl rfl) ?_
          refine aB_hp (by simp only [List.setIfInBounds_toArray, List.set_cons_succ, List.set_cons_zero]; rfl) rfl ?_
          refine aB_s 3 rfl (by kernel_rfl) _ rfl rfl (fun hc => q_load 0 tk24 rfl rfl rfl) ?_
          refine aB_hp (by simp only [List.setIfInBounds_toArray, List.set_cons_succ, List.set_cons_zero]; rfl) rfl ?_
          refine aB_s 4 rfl (by kernel_rfl) _ rfl rfl (fun hc => q_call (by kernel_rfl) (evs_cons (ev_yes rfl hc) rfl) (fun w S fp hst => (cpu_fn x ad c).quiet1 (psAt 0 rfl) hst)) ?_
          refine aB_hp (by simp only [List.setIfInBounds_toArray, List.set_cons_succ, List.set_cons_zero]; rfl) rfl ?_
          refine aB_s 5 rfl (by kernel_rfl) _ rfl rfl (fun hc => qa_eql (by kernel_rfl) (by kernel_rfl) (by kernel_rfl) (fun w => eqFields_mix 9997 _ _ _ [0, 1, 2, 3, 4, 5, 6, 7, 8, 9, 10, 11, 12, 13, 14, 15, 16] w (by kernel_rfl) (by kernel_rfl) rfl rfl) (ev_yes rfl hc) (ev_yes rfl hc)) ?_
          refine aB_hp (by simp only [List.setIfInBounds_toArray, List.set_cons_succ, List.set_cons_zero]; rfl) rfl ?_
          refine aB_s 6 rfl (by kernel_rfl) true rfl rfl (fun _ => q_and rfl rfl (fun h => gt rfl h)) ?_
          refine aB_hp (by simp only [List.setIfInBounds_toArray, List.set_cons_succ, List.set_cons_zero]; rfl) rfl ?_
          refine aB_s 7 rfl (by kernel_rfl) true rfl rfl (fun _ => q_move rfl) ?_
          refine aB_hp (by simp only [List.setIfInBounds_toArray, List.set_cons_succ, List.set_cons_zero]; rfl) rfl ?_
          refine aB_s 8 rfl (by kernel_rfl) _ rfl rfl (fun hc => q_move rfl) ?_
          refine aB_hp (by simp only [List.setIfInBounds_toArray, List.set_cons_succ, List.set_cons_zero]; rfl) rfl ?_
          refine aB_s 9 rfl (by kernel_rfl) _ rfl rfl (fun hc => q_move rfl) ?_
          refine aB_hp (by simp only [List.setIfInBounds_toArray, List.set_cons_succ, List.set_cons_zero]; rfl) rfl ?_
          refine aB_s 10 rfl (by kernel_rfl) _ rfl rfl (fun hc => qs_eql (ev_yes rfl hc) (ev_yes rfl hc)) ?_
          refine aB_hp (by simp only [List.setIfInBounds_toArray, List.set_cons_succ, List.set_cons_zero]; rfl) rfl ?_
          refine aB_s 11 rfl (by kernel_rfl) true rfl rfl (fun _ => q_and rfl rfl (fun h => gt rfl h)) ?_
          refine aB_hp (by simp only [List.setIfInBounds_toArray, List.set_cons_succ, List.set_cons_zero]; rfl) rfl ?_
          refine aB_s 12 rfl (by kernel_rfl) true rfl rfl (fun _ => q_assign rfl) ?_
          refine aB_hp (by simp only [List.setIfInBounds_toArray, List.set_cons_succ, List.set_cons_zero]; rfl) rfl ?_
          refine aB_nil (by kernel_rfl) ?_
          refine thn_n ?_
          refine awp_ret ?_
          refine fin1 [] [] rfl Tryd.results3 rfl ?_ (.inr rfl)
          refine congrArg Value.bool ?_
          by_cases h0 : S.2.1.1 = 0
          · simp_all
          · obtain ⟨k1, k2⟩ := HK.out h0
            simp only [Bool.or_eq_true, Bool.or_eq_false_iff, decide_eq_true_eq, decide_eq_false_iff_not] at h4
            first
            | (rw [k1]; simp; done)
            | (have hc : S.1 = cpuS x := by
                 rcases k2 with h | h | h
                 · exact absurd h h4.1.2
                 · exact absurd h h4.2
                 · exact h
               rw [k1, hc]
               show (true && eqInts (cpuV (cpuS x)).toArray (cpuV (cpuS x)).toArray _ && _) = true
               rw [eqInts_refl]; simp)
end Go.Proofs.YtpgcoceggacplaaDoor
namespace Go.Proofs.YtpgcoceggacplaaDoor.machineStops
open Go.ChangeShapes Go.WideShapes Go.ChangeAt Go.RowKit
open Go.Lp Go.Sy
open Go.ChangeMaps (open_string shut_string)
/-- what the start-up code leaves -/
theorem door_met (os : Os) (args : Array Value) : laidMetH Tryd.prog Rows.machineStopsRow.laid ((World.doorLaid Tryd.prog 400 os).forCall (fun _ _ => 0) ⟨#[], args, []⟩).memory :=
  laidMetH_of_parts3 (fuel := 8) (laidMet_of_run' 8 (by kernel_rfl) (by kernel_rfl)) (by kernel_rfl) (by kernel_rfl)
theorem of_laid {W : World} (h : laidMetH Tryd.prog Rows.machineStopsRow.laid W) : formsAt.holds W (fun b => b < W.heap.size) := by
  rw [MakeChecks.laidMetH_plain _ _ _ (by kernel_rfl)] at h
  obtain ⟨ps, ⟨g0, t0, cs0, f0, p0, q0, hg0, ht0, hv0, hd0, _, _⟩, _, _⟩ := h
  obtain rfl := Option.some.inj (gForms.symm.trans hg0)
  obtain rfl := Option.some.inj (tForms.symm.trans ht0)
  have hl := lit_rep 3 _ _ _ _ (by kernel_rfl) hd0
  have e : cs0.toList = formsV := Option.some.inj (hl.symm.trans forms_lit)
  exact cells_at (by decide) (fun i => by rw [World.var?_cell hg0 hv0 i, ← e, Array.getElem?_toList]) forms_one
set_option maxRecDepth 100000 in
theorem lifted (os : Os) (started : os.Started) (H : Type) (enc : TypeId × Value → H) :
    ReturnsInHanded {} Tryd.checked os 3 .any (fun w args => (Rows.machineStopsSpec.pre enc Tryd.prog Tryd.f3 [] false w args ∧ laidMetH Tryd.prog Rows.machineStopsRow.laid w) ∧ sizedMet enc Tryd.prog Tryd.f3 (OpenSpec.ofChange Rows.machineStopsSpec) false w args)
      (Rows.machineStopsSpec.post enc Tryd.prog Tryd.f3 false true false false) := by
  refine returnsInHanded_of_change_and (C := Tryd.checked) (X := fun w _ => laidMetH Tryd.prog Rows.machineStopsRow.laid w) (fun _ _ _ hh h => h.of_heap hh) own started (by kernel_rfl) Tryd.func3
    (ChangeSpec.witness_shaped (enc := enc) (C := Tryd.checked) (os := os) (X := fun w _ => laidMetH Tryd.prog Rows.machineStopsRow.laid w) false (World.doorLaid Tryd.prog 400 os) #[.agg #[.string .empty, .string .empty, .int .i64 0, .slice none 0 0, .int .i64 0]] 8 rfl (World.shaped_of_RefB (by kernel_rfl) (by kernel_rfl)) (by kernel_rfl) (by kernel_rfl) (by kernel_rfl) (door_met os _)) ?_
  intro W base args ds gs before hval0 hW _ _ hL _
  have hval : ∀ (j : Nat) t v, Tryd.f3.params[j]? = some t → args[j]? = some v → Value.okWide Tryd.prog W .any base t v := hval0
  have hW' := hW
  obtain ⟨p, q, hA0, hV, rfl, hfz, hnd⟩ := hW
  have hA : DataW.TrodAll enc Tryd.prog W 0 (fun _ => true) true Tryd.f3.params.toList args.toList ds p := hA0
  rw [Tryd.params3] at hA hval
  obtain ⟨v0, d0, rfl, rfl, h0⟩ := trodAll_one hA
  obtain ⟨rfl, rfl⟩ := trodVars_none hV
  obtain ⟨cs0, rfl, hsz0⟩ := okWide_struct Tryd.underlying24 (hval 0 24 v0 rfl rfl)
  have k0 := h0
  have lt0 : ∀ x ∈ p, x.block < W.heap.size := by obtain ⟨m, hm⟩ := k0; exact DataW.trod_lt m _ _ _ hm
  have hforms := of_laid hL
  obtain ⟨fuel, hf⟩ := h0
  obtain ⟨x, ad, c, rfl, w1, w2, w3, w4, w5, hrep⟩ := stg_of hf
  clear hA0 hval0
  have hc := (stops_con x ad c w5 w4).quiet (fun _ h => h) (st_in (w := W) (ps := [Sh (.slice ad x.regs.length c) (.sl (irows x.regs)), formsAt]) fun p hp => by
    rcases List.mem_cons.1 hp with rfl | hp
    · exact hrep
    · rw [List.mem_singleton.1 hp]; exact hforms)
  refine hc.mono fun e W' ⟨he, bel⟩ => ?_
  subst he
  exact ⟨_, rfl, _, _, _, [], _, [], hW', trodAll_mk1 (shut_bool Tryd.underlying4 _), trodAll_mk1 (Below.trod laidOut (by kernel_rfl) (of_decide_eq_true (by kernel_rfl)) k0 bel lt0), rfl, bel.frame _, fun h => by cases h⟩
theorem over : Rows.MachineStopsSaid :=
  OpenClaim.holds_of_wide 3 Tryd.f3 rfl rfl rfl rfl rfl rfl rfl ⟨rfl, rfl, rfl, rfl, rfl⟩ rfl rfl rfl rfl rfl (by kernel_rfl) Tryd.func3 (by kernel_rfl)
    (of_decide_eq_true (by kernel_rfl)) (by unfold Func.isWrapper; first | (rw [if_pos (by decide +kernel)]; kernel_rfl) | (rw [if_neg (by decide +kernel)]; exact ⟨rfl, rfl⟩))
    (fun os started H enc _ => lifted os started H enc)
theorem proved : Rows.MachineStopsCardSaid :=
  Claim7.holds_tied_plain_at .later [] [.widerDeep] true _ false
    over (fun _ h => by cases h) (by kernel_rfl) (fun _ h => by cases h) machineStops_row_tie rfl ⟨rfl, rfl⟩ (by kernel_rfl) rfl
    (fun f fn hf hfn => by
      obtain rfl : f = 3 := Option.some.inj ((show Tryd.prog.funcNamed "linchpin/linchpinlaw29.MachineStops" = some 3 by kernel_rfl).symm.trans hf) |>.symm
      obtain rfl : fn = Tryd.f3 := (Option.some.inj (Tryd.func3.symm.trans hfn)).symm
      exact ⟨by kernel_rfl, fun j t ht => by
        rw [Tryd.params3] at ht
        have hm : t ∈ [24] := by simpa using Array.mem_of_getElem? ht
        have hall : ([24].all fun u => !Tryd.prog.wantsStandIn u) = true := by kernel_rfl
        exact (show Tryd.prog.wantsStandIn t = false by simpa using List.all_eq_true.1 hall t hm)⟩)
    (by kernel_rfl)
end Go.Proofs.YtpgcoceggacplaaDoor.machineStops
