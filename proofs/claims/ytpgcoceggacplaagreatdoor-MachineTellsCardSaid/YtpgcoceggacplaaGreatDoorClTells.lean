/- Proved: for every setting and number of steps the law MachineTells of the given program answers true and leaves what it was handed as it was; the card, tied to the program's text. Conditions: none but those in the given statement itself. -/
import Derived.Test.YtpgcoceggacplaaGreatDoorMgF
import Derived.Test.YtpgcoceggacplaaGreatDoorMgE
import Derived.Test.YtpgcoceggacplaaGreatDoorMgC
import Derived.Test.YtpgcoceggacplaaGreatDoorCards
import Derived.Test.YtpgcoceggacplaaGreatDoorTie
import Derived.SevenTiedAt
set_option linter.unusedVariables false
set_option linter.unusedSimpArgs false
set_option maxRecDepth 20000
namespace Go.Lp
open Go.RowKit Go.Proofs.YtpgcoceggacplaaGreatDoor
section
variable (M : Mem) (c : Cpu) (i : Ins)
theorem insO_mem (h : i.op = 15 ∨ i.op = 16 ∨ i.op = 17 ∨ i.op = 18 ∨ i.op = 27 ∨ i.op = 28) : endO c (memO M c i i.op) = insO M c i := by
  unfold insO; rw [if_neg (by omega), if_neg (by omega), if_neg (by omega), if_neg (by omega), if_pos h]
theorem insO_flow (h : 19 ≤ i.op ∧ i.op ≤ 26) (hn : ¬ ((i.op = 24 ∨ i.op = 25) ∧ emptyO M (w64 (c.pc + i.imm)) = true)) : endO c (flowO M c i i.op) = insO M c i := by
  unfold insO; rw [if_neg (by omega), if_neg (by omega), if_neg (by omega), if_neg (by omega), if_neg (by omega), if_pos h, if_neg hn]
theorem flow_no (h : ((decide ((i.op : Int) = 24) || decide ((i.op : Int) = 25)) && emptyO M (w64 (c.pc + i.imm))) = false) : ¬ ((i.op = 24 ∨ i.op = 25) ∧ emptyO M (w64 (c.pc + i.imm)) = true) := fun ⟨g1, g2⟩ => by
  rw [g2, Bool.and_true] at h
  simp only [Bool.or_eq_false_iff, decide_eq_false_iff_not] at h
  omega
theorem insO_empty (h : i.op = 24 ∨ i.op = 25) (hn : emptyO M (w64 (c.pc + i.imm)) = true) : insO M c i = (c, (3, w64 (c.pc + i.imm)), M) := by
  unfold insO; rw [if_neg (by omega), if_neg (by omega), if_neg (by omega), if_neg (by omega), if_neg (by omega), if_pos (by omega), if_pos ⟨h, hn⟩]
theorem insO_rest (h1 : i.op ≠ 1) (h2 : i.op ≠ 2) (h3 : i.op ≠ 30) (h4 : i.op ≠ 29) (h5 : ¬ (i.op = 15 ∨ i.op = 16 ∨ i.op = 17 ∨ i.op = 18 ∨ i.op = 27 ∨ i.op = 28)) (h6 : ¬ (19 ≤ i.op ∧ i.op ≤ 26)) : endO c (nxO i c, 0, M) = insO M c i := by
  unfold insO; rw [if_neg h1, if_neg h2, if_neg h3, if_neg h4, if_neg h5, if_neg h6]; rfl
theorem insO_1 (h : i.op = 1) : insO M c i = (nxO i c, (0, 0), M) := by unfold insO; rw [if_pos h]
theorem insO_2 (h : i.op = 2) : insO M c i = (nxO i c, (1, 0), M) := by unfold insO; rw [if_neg (by omega), if_pos h]
theorem insO_30 (h : i.op = 30) : insO M c i = (nxO i c, (2, i.imm), M) := by unfold insO; rw [if_neg (by omega), if_neg (by omega), if_pos h]
theorem insO_29 (h : i.op = 29) : insO M c i = (nxO i c, (2, w64 (8 + i.a)), M) := by unfold insO; rw [if_neg (by omega), if_neg (by omega), if_neg (by omega), if_pos h]
end
end Go.Lp
namespace Go.Proofs.YtpgcoceggacplaaGreatDoor
open Go.RowKit Go.Lp Go.Sy
def zeroCpu : List Value := [.int .i64 0, .int .i64 0, .int .i64 0, .int .i64 0, .int .i64 0, .int .i64 0, .int .i64 0, .int .i64 0, .int .i64 0, .int .i64 0, .int .i64 0, .int .i64 0, .int .i64 0, .int .i64 0, .int .i64 0, .int .i64 0, .int .i64 0]
set_option maxHeartbeats 8000000 in
theorem step29_fn (p : Nat) (M : Mem) (c : Cpu) (hc : CpuOk c) : Con Tryz.prog 11 [.pointer (some ⟨p, 0, none⟩), .agg (cpuV c).toArray] [] [RfR p M]
    fun r ps' hp' => r = .tuple #[.agg (cpuV (stepR M c).1).toArray, .agg (evV (stepR M c).2.1.1 (stepR M c).2.1.2).toArray] ∧ ps' = [] ∧ hp' = [RfR p (stepR M c).2.2] := by
  have HC := Lib.hid hc
  clear hc
  refine Con.enter Tryz.func11 rfl (by simp [Tryz.ntmps11]) ?_
  show awp _ _ _ _ ⟨[(0, true, _), (1, true, _)], _, _⟩
  refine awp_seq (awp_region ?_)
  refine aL_eff (q := true) rfl (x_box rfl rfl rfl (fun b0_0 => ?_))
  refine aL_hp (by (try simp only [nM, nN]); rfl) ?_
  refine aL_eff (q := true) rfl (x_alloc (zs := [.int .i64 0, .int .i64 0, .int .i64 0, .int .i64 0, .int .i64 0, .int .i64 0, .int .i64 0, .int .i64 0, .int .i64 0, .int .i64 0, .int .i64 0, .int .i64 0, .int .i64 0, .int .i64 0, .int .i64 0, .int .i64 0, .int .i64 0]) (by kernel_rfl) rfl (fun b0_1 => ?_))
  refine aL_hp (by (try simp only [nM, nN]); rfl) ?_
  refine aL_eff (q := true) rfl (x_alloc (zs := [.int .i64 0, .int .i64 0]) (by kernel_rfl) rfl (fun b0_2 => ?_))
  refine aL_hp (by (try simp only [nM, nN]); rfl) ?_
  refine aL_nil (thn_n (awp_seq (awp_seq (awp_region ?_))))
  refine aL_s true rfl rfl (fun _ => q_fieldAddr (off := 16) (by kernel_rfl) rfl) ?_
  refine aL_s true rfl rfl (fun _ => q_load 1 tk3 rfl rfl rfl) (aL_s true rfl rfl (fun _ => q_eql rfl rfl) (aL_nil (thn_n ?_)))
  refine awp_cond _ rfl (fun h1 => ?_) (fun h1 => ?_)
  ·skip
   refine awp_seq (awp_region (aL_s true rfl rfl (fun _ => q_load 1 tk33 rfl rfl rfl) ?_))
   refine aL_s true rfl rfl (fun _ => q_bld (l := [(0, .const (.int .i64 4))]) (zs := [.int .i64 0, .int .i64 0]) (pl := [(0, 1), (1, 1)]) (by kernel_rfl) (by kernel_rfl) (by kernel_rfl) rfl rfl rfl) ?_
   refine aL_eff rfl (x_store 2 tk33 rfl rfl rfl rfl ?_)
   refine aL_hp (by simp only [nK, nL]; rfl) ?_
   refine aL_eff rfl (x_store 3 tk36 rfl rfl rfl rfl ?_)
   refine aL_hp (by simp only [nK, nL]; rfl) ?_
   refine aL_nil (thn_n (awp_ret (thn_r ?_)))
   refine finR2 [] [0] rfl Tryz.results11 (rv_cell 2 tk33 rfl rfl rfl) (rv_cell 3 tk36 rfl rfl rfl) ?_ (.inr rfl)
   have e : stepR M c = (c, (4, 0), M) := by unfold stepR; rw [if_pos (of_decide_eq_true h1)]
   rw [e]; exact ⟨rfl, rfl, rfl⟩
  ·skip
   refine awp_skip (thn_n (awp_seq (awp_region (aL_s true rfl rfl (fun _ => q_move rfl) ?_))))
   refine aL_s true rfl rfl (fun _ => q_fieldAddr (off := 16) (by kernel_rfl) rfl) ?_
   refine aL_s true rfl rfl (fun _ => q_load 1 tk3 rfl rfl rfl) ?_
   refine aL_eff (q := false) rfl (e_call [] [0] (by kernel_rfl) rfl rfl rfl rfl (fetch29_fn p M c.pc HC.out.pc) ?_)
   rintro v ps' hp' ⟨rfl, rfl, rfl⟩
   refine aL_st (by (try simp only [nM, nN]); rfl) (by (try simp only [putB, place, Nat.reduceBEq, nA, if_true, if_false, reduceIte, nB, nC, nD, nE, nF, nG, nH, nI, Nat.reduceAdd, nJ, beq_self_eq_true, nK, nL, nM, nN]); rfl) ?_
   refine aL_s true rfl rfl (fun _ => q_move rfl) (aL_s true rfl rfl (fun _ => q_extract rfl rfl) (aL_s true rfl rfl (fun _ => q_extract rfl rfl) ?_))
   refine aL_eff (q := true) rfl (x_alloc (zs := [.int .i64 0, .int .i64 0, .int .i64 0, .int .i64 0, .int .i64 0]) (by kernel_rfl) rfl (fun b3_7 => ?_))
   refine aL_hp (by (try simp only [nM, nN]); rfl) ?_
   refine aL_eff rfl (x_store 4 tk46 rfl rfl rfl rfl ?_)
   refine aL_hp (by simp only [nK, nL]; rfl) ?_
   refine aL_s true rfl rfl (fun _ => q_assign rfl) (aL_nil (thn_n (awp_seq (awp_seq (awp_region (aL_s true rfl rfl (fun _ => q_move rfl) (aL_s true rfl rfl (fun _ => q_neq rfl rfl) ?_)))))))
   refine aL_nil (thn_n ?_)
   refine awp_cond _ rfl (fun h2 => ?_) (fun h2 => ?_)
   ·skip
    refine awp_seq ?_
    refine awp_drawnC [3, 4] [3, 4] [b0_0] (by kernel_rfl) ?_
    show aC _ _ _ _ _ _ _ 5 #[false, false, false, false, false] _
    refine aC_box 0 1 rfl (by kernel_rfl) true rfl rfl (by simp) tk33 (fun _ => rfl) rfl rfl ?_
    refine aC_f 1 rfl (by kernel_rfl) true rfl rfl (fun _ => q_move rfl) ?_
    refine aC_f 2 rfl (by kernel_rfl) true rfl rfl (fun _ => q_call (by kernel_rfl) rfl (fun w S fp hst => (fault_fn _).quiet0 hst)) ?_
    refine aC_arms 3 [] (by kernel_rfl) (arms_cons ?_ arms_nil)
    refine aC_arm 3 rfl rfl (Eff.wild (q := false) ?_)
    refine id (x_store 2 tk33 rfl rfl rfl rfl ?_)
    refine aC_st (by (try simp only [nO, nK, nL]); rfl) (by (try simp only [nM, nN]); rfl) (by (try simp only [keepH, nQ, nR, putB, place, Nat.reduceBEq, nA, if_true, if_false, reduceIte, nB, nC, nD, nE, nF, nG, nH, nI, Nat.reduceAdd, nJ, beq_self_eq_true, nK, nL, nM, nN]); rfl) ?_
    refine aC_arms 4 [] (by kernel_rfl) (arms_cons ?_ arms_nil)
    refine aC_arm 4 rfl rfl (Eff.wild (q := false) ?_)
    refine id (x_store 3 tk36 rfl rfl rfl rfl ?_)
    refine aC_st (by (try simp only [nO, nK, nL]); rfl) (by (try simp only [nM, nN]); rfl) (by (try simp only [keepH, nQ, nR, putB, place, Nat.reduceBEq, nA, if_true, if_false, reduceIte, nB, nC, nD, nE, nF, nG, nH, nI, Nat.reduceAdd, nJ, beq_self_eq_true, nK, nL, nM, nN]); rfl) ?_
    refine aC_nil (by kernel_rfl) ?_
    refine thn_n (awp_ret (thn_r ?_))
    refine finR2 [] [0] rfl Tryz.results11 (rv_cell 2 tk33 rfl rfl rfl) (rv_cell 3 tk36 rfl rfl rfl) ?_ (.inr rfl)
    have e : stepR M c = (c, (5, (fetchM M c.pc).2), M) := by
      unfold stepR
      rw [if_neg (of_decide_eq_false h1)]
      cases hf : fetchM M c.pc with
      | mk o e =>
        cases o with
        | none => rfl
        | some i => have := (fetch_some hf).1; subst this; rw [hf] at h2; simp at h2
    rw [e]; exact ⟨rfl, rfl, rfl⟩
   ·skip
    obtain ⟨i, hi⟩ : ∃ i, fetchM M c.pc = (some i, 0) := by
      cases hf : fetchM M c.pc with
      | mk o e =>
        have he : e = 0 := by rw [hf] at h2; simpa using h2
        subst he
        cases o with
        | none => have := fetch_none hf; omega
        | some i => exact ⟨i, rfl⟩
    have hri := (fetch_some hi).2.1
    have him := decI_imm (fetch_some hi).2.2.1
    obtain ⟨⟨o1, o2⟩, _, _⟩ := rightB_iff.1 hri
    have ha := (right_abc hri).1
    have hR : stepR M c = insO M c i := by unfold stepR; rw [if_neg (of_decide_eq_false h1), hi]
    rw [hi, hR]
    clear hR hi
    refine awp_skip (thn_n (awp_seq (awp_region (aL_s true rfl rfl (fun _ => q_load 1 tk33 rfl rfl rfl) ?_))))
    refine aL_eff (q := true) rfl (x_alloc (zs := [.int .i64 0, .int .i64 0, .int .i64 0, .int .i64 0, .int .i64 0, .int .i64 0, .int .i64 0, .int .i64 0, .int .i64 0, .int .i64 0, .int .i64 0, .int .i64 0, .int .i64 0, .int .i64 0, .int .i64 0, .int .i64 0, .int .i64 0]) (by kernel_rfl) rfl (fun b6_1 => ?_))
    refine aL_hp (by (try simp only [nM, nN]); rfl) ?_
    refine aL_eff rfl (x_store 5 tk33 rfl rfl rfl rfl ?_)
    refine aL_hp (by simp only [nK, nL]; rfl) ?_
    refine aL_nil (thn_n (awp_seq (awp_region ?_)))
    refine aL_s true rfl rfl (fun _ => q_fieldAddr (off := 16) (by kernel_rfl) rfl) ?_
    refine aL_s true rfl rfl (fun _ => q_load 1 tk3 rfl rfl rfl) (aL_s true rfl rfl (fun _ => q_add rfl rfl) ?_)
    refine aL_s true rfl rfl (fun _ => q_fieldAddr (off := 16) (by kernel_rfl) rfl) ?_
    refine aL_eff rfl (x_store 5 tk3 rfl rfl rfl rfl ?_)
    refine aL_hp (by simp only [nK, nL]; rfl) ?_
    refine aL_nil (thn_n (awp_seq (awp_region (aL_s true rfl rfl (fun _ => q_load 4 tk46 rfl rfl rfl) (aL_s true rfl rfl (fun _ => q_load 1 tk33 rfl rfl rfl) ?_)))))
    refine aL_s true rfl rfl (fun _ => q_call (by kernel_rfl) rfl (fun w S fp hst => (val29_fn i c hri).quiet0 hst)) ?_
    refine aL_s true rfl rfl (fun _ => q_move rfl) (aL_s true rfl rfl (fun _ => q_extract rfl rfl) (aL_s true rfl rfl (fun _ => q_extract rfl rfl) (aL_s true rfl rfl (fun _ => q_assign rfl) (aL_s true rfl rfl (fun _ => q_assign rfl) (aL_nil (thn_n (awp_seq ?_)))))))
    refine awp_join (X := Unit) (fun _ => ⟨[(0, true, .pointer (some ⟨p, 0, none⟩)), (3, true, .pointer (some ⟨b0_0, 0, none⟩)), (4, true, .pointer (some ⟨b0_1, 0, none⟩)), (5, true, .pointer (some ⟨b0_2, 0, none⟩)), (6, true, .pointer (some ⟨b3_7, 0, none⟩)), (7, true, .int .i64 0), (8, true, .pointer (some ⟨b6_1, 0, none⟩))], [], [RfR p M, Box b0_0 33 (cpuV c), Box b0_1 33 zeroCpu, Box b0_2 36 [.int .i64 0, .int .i64 0], Box b3_7 46 (insV i), Box b6_1 33 (cpuV (nxO i c))]⟩) ?_ ?_
    ·skip
     refine awp_seq (awp_region (aL_s true rfl rfl (fun _ => q_move rfl) (aL_nil (thn_n ?_))))
     refine awp_cond _ rfl (fun h3 => ?_) (fun h3 => ?_)
     ·skip
      have hnx : nxO i c = (pc8 c).set i.a ((valO i c i.op).getD 0) := by
        unfold nxO
        cases hv : valO i c i.op with
        | none => rw [hv] at h3; cases h3
        | some n => rfl
      rw [hnx]
      refine awp_region ?_
      refine aL_s true rfl rfl (fun _ => q_fieldAddr (off := 1) (by kernel_rfl) rfl) ?_
      refine aL_s true rfl rfl (fun _ => q_load 4 tk3 rfl rfl rfl) (aL_s true rfl rfl (fun _ => q_move rfl) ?_)
      refine aL_s true rfl rfl (fun _ => q_fieldAddr (off := 0) (by kernel_rfl) rfl) ?_
      refine aL_s true rfl rfl (fun _ => q_idxArr (i.a) Tryz.underlying31 tk3 rfl rfl (rfl) (ha)) ?_
      refine aL_eff rfl (e_storeW 5 ([.int .i64 ((valO i c i.op).getD 0)]) (cpuV ((pc8 c).set i.a ((valO i c i.op).getD 0))) tk3 rfl rfl rfl rfl rfl (fun v hv => by rw [List.mem_singleton.1 hv]; rfl) (by show _ ≤ 17; omega) (cpu_wr (pc8 c) _ ha) ?_)
      refine aL_hp (by simp only [nK, nL]; rfl) ?_
      refine aL_nil (thn_n ?_)
      exact ⟨[0, 3, 4, 5, 6, 7, 8], [], [0, 1, 2, 3, 4, 5], (), rfl, rfl⟩
     ·skip
      have hnx : nxO i c = pc8 c := by
        unfold nxO
        cases hv : valO i c i.op with
        | none => rfl
        | some n => rw [hv] at h3; cases h3
      rw [hnx]
      refine awp_skip (thn_n ?_)
      exact ⟨[0, 3, 4, 5, 6, 7, 8], [], [0, 1, 2, 3, 4, 5], (), rfl, rfl⟩
    ·skip
     rintro ⟨⟩
     refine awp_seq ?_
     refine awp_join (X := {q : Cpu × Int × Mem // endO c q = insO M c i}) (fun q => ⟨[(0, true, .pointer (some ⟨p, 0, none⟩)), (3, true, .pointer (some ⟨b0_0, 0, none⟩)), (4, true, .pointer (some ⟨b0_1, 0, none⟩)), (5, true, .pointer (some ⟨b0_2, 0, none⟩)), (7, true, .int .i64 q.1.2.1), (8, true, .pointer (some ⟨b6_1, 0, none⟩))], [], [RfR p q.1.2.2, Box b0_0 33 (cpuV c), Box b0_1 33 zeroCpu, Box b0_2 36 [.int .i64 0, .int .i64 0], Box b6_1 33 (cpuV q.1.1)]⟩) ?_ ?_
     ·skip
      refine awp_seq (awp_region ?_)
      refine aL_s true rfl rfl (fun _ => q_fieldAddr (off := 0) (by kernel_rfl) rfl) ?_
      refine aL_s true rfl rfl (fun _ => q_load 4 tk3 rfl rfl rfl) (aL_nil (thn_n (awp_block (awp_seq (awp_region (aL_s true rfl rfl (fun _ => q_eql rfl rfl) (aL_s true rfl rfl (fun _ => q_assign rfl) ?_)))))))
      refine aL_nil (thn_n ?_)
      refine awp_cond _ rfl (fun h4 => ?_) (fun h4 => ?_)
      ·skip
       refine awp_seq (awp_region (aL_s true rfl rfl (fun _ => q_load 5 tk33 rfl rfl rfl) ?_))
       refine aL_s true rfl rfl (fun _ => q_bld (l := []) (zs := [.int .i64 0, .int .i64 0]) (pl := [(0, 1), (1, 1)]) (by kernel_rfl) (by kernel_rfl) (by kernel_rfl) rfl rfl rfl) ?_
       refine aL_eff rfl (x_store 2 tk33 rfl rfl rfl rfl ?_)
       refine aL_hp (by simp only [nK, nL]; rfl) ?_
       refine aL_eff rfl (x_store 3 tk36 rfl rfl rfl rfl ?_)
       refine aL_hp (by simp only [nK, nL]; rfl) ?_
       refine aL_nil (thn_n (awp_ret (blk_r (thn_r ?_))))
       refine finR2 [] [0] rfl Tryz.results11 (rv_cell 2 tk33 rfl rfl rfl) (rv_cell 3 tk36 rfl rfl rfl) ?_ (.inr rfl)
       first
       | (rw [insO_1 M c i (by simp only [decide_eq_true_eq, decide_eq_false_iff_not, Bool.and_eq_true, Bool.or_eq_true] at *; omega)]; exact ⟨rfl, rfl, rfl⟩)
       | (rw [insO_2 M c i (by simp only [decide_eq_true_eq, decide_eq_false_iff_not, Bool.and_eq_true, Bool.or_eq_true] at *; omega)]; exact ⟨rfl, rfl, rfl⟩)
       | (rw [insO_30 M c i (by simp only [decide_eq_true_eq, decide_eq_false_iff_not, Bool.and_eq_true, Bool.or_eq_true] at *; omega)]; exact ⟨rfl, rfl, rfl⟩)
       | (rw [insO_29 M c i (by simp only [decide_eq_true_eq, decide_eq_false_iff_not, Bool.and_eq_true, Bool.or_eq_true] at *; omega)]; exact ⟨rfl, rfl, rfl⟩)
       | (rw [← hq]; unfold endO; rw [if_pos (by have h := ‹(!decide (q.2.1 = 0)) = false›; simpa using h)]; exact ⟨rfl, rfl, rfl⟩)
       | (rw [← hq]; unfold endO; rw [if_neg (by have h := ‹(!decide (q.2.1 = 0)) = true›; simpa using h)]; exact ⟨rfl, rfl, rfl⟩)
       | (have he : ((decide ((i.op : Int) = 24) || decide ((i.op : Int) = 25)) && emptyO M (w64 (c.pc + i.imm))) = true := by assumption
          rw [Bool.and_eq_true, Bool.or_eq_true, decide_eq_true_eq, decide_eq_true_eq] at he
          rw [insO_empty M c i (by have := he.1; omega) he.2]; exact ⟨rfl, rfl, rfl⟩)
       | (trace_state; sorry)
      ·skip
       refine awp_seq (awp_region (aL_s true rfl rfl (fun _ => q_eql rfl rfl) (aL_s true rfl rfl (fun _ => q_assign rfl) (aL_nil (thn_n ?_)))))
       refine awp_cond _ rfl (fun h5 => ?_) (fun h5 => ?_)
       ·skip
        refine awp_seq (awp_region (aL_s true rfl rfl (fun _ => q_load 5 tk33 rfl rfl rfl) ?_))
        refine aL_s true rfl rfl (fun _ => q_bld (l := [(0, .const (.int .i64 1))]) (zs := [.int .i64 0, .int .i64 0]) (pl := [(0, 1), (1, 1)]) (by kernel_rfl) (by kernel_rfl) (by kernel_rfl) rfl rfl rfl) ?_
        refine aL_eff rfl (x_store 2 tk33 rfl rfl rfl rfl ?_)
        refine aL_hp (by simp only [nK, nL]; rfl) ?_
        refine aL_eff rfl (x_store 3 tk36 rfl rfl rfl rfl ?_)
        refine aL_hp (by simp only [nK, nL]; rfl) ?_
        refine aL_nil (thn_n (awp_ret (blk_r (thn_r ?_))))
        refine finR2 [] [0] rfl Tryz.results11 (rv_cell 2 tk33 rfl rfl rfl) (rv_cell 3 tk36 rfl rfl rfl) ?_ (.inr rfl)
        first
        | (rw [insO_1 M c i (by simp only [decide_eq_true_eq, decide_eq_false_iff_not, Bool.and_eq_true, Bool.or_eq_true] at *; omega)]; exact ⟨rfl, rfl, rfl⟩)
        | (rw [insO_2 M c i (by simp only [decide_eq_true_eq, decide_eq_false_iff_not, Bool.and_eq_true, Bool.or_eq_true] at *; omega)]; exact ⟨rfl, rfl, rfl⟩)
        | (rw [insO_30 M c i (by simp only [decide_eq_true_eq, decide_eq_false_iff_not, Bool.and_eq_true, Bool.or_eq_true] at *; omega)]; exact ⟨rfl, rfl, rfl⟩)
        | (rw [insO_29 M c i (by simp only [decide_eq_true_eq, decide_eq_false_iff_not, Bool.and_eq_true, Bool.or_eq_true] at *; omega)]; exact ⟨rfl, rfl, rfl⟩)
        | (rw [← hq]; unfold endO; rw [if_pos (by have h := ‹(!decide (q.2.1 = 0)) = false›; simpa using h)]; exact ⟨rfl, rfl, rfl⟩)
        | (rw [← hq]; unfold endO; rw [if_neg (by have h := ‹(!decide (q.2.1 = 0)) = true›; simpa using h)]; exact ⟨rfl, rfl, rfl⟩)
        | (have he : ((decide ((i.op : Int) = 24) || decide ((i.op : Int) = 25)) && emptyO M (w64 (c.pc + i.imm))) = true := by assumption
           rw [Bool.and_eq_true, Bool.or_eq_true, decide_eq_true_eq, decide_eq_true_eq] at he
           rw [insO_empty M c i (by have := he.1; omega) he.2]; exact ⟨rfl, rfl, rfl⟩)
        | (trace_state; sorry)
       ·skip
        refine awp_seq (awp_region (aL_s true rfl rfl (fun _ => q_eql rfl rfl) (aL_s true rfl rfl (fun _ => q_assign rfl) (aL_nil (thn_n ?_)))))
        refine awp_cond _ rfl (fun h6 => ?_) (fun h6 => ?_)
        ·skip
         refine awp_seq ?_
         refine awp_drawnC [4, 5] [4, 5] [b3_7, b6_1] (by kernel_rfl) ?_
         show aC _ _ _ _ _ _ _ 6 #[false, false, false, false, false, false] _
         refine aC_box 0 5 rfl (by kernel_rfl) true rfl rfl (by simp) tk33 (fun _ => rfl) rfl rfl ?_
         refine aC_f 1 rfl (by kernel_rfl) true rfl rfl (fun _ => q_fieldAddr (off := 4) (by kernel_rfl) rfl) ?_
         refine aC_arms 2 [4] (by kernel_rfl) (arms_cons ?_ (arms_cons ?_ arms_nil))
         ·skip
          refine aC_arm 2 rfl rfl (Eff.x (Quiet.eff (q_load 4 tk3 rfl rfl rfl) rfl ?_))
          refine aC_st (by (try simp only [nO, nK, nL]); rfl) (by (try simp only [nM, nN]); rfl) (by (try simp only [keepH, nQ, nR, putB, place, Nat.reduceBEq, nA, if_true, if_false, reduceIte, nB, nC, nD, nE, nF, nG, nH, nI, Nat.reduceAdd, nJ, beq_self_eq_true, nK, nL, nM, nN]); rfl) ?_
          refine aC_f 3 rfl (by kernel_rfl) true rfl rfl (fun _ => q_bld (l := [(0, .const (.int .i64 2)), (1, .tmp 60)]) (zs := [.int .i64 0, .int .i64 0]) (pl := [(0, 1), (1, 1)]) (by kernel_rfl) (by kernel_rfl) (by kernel_rfl) rfl rfl rfl) ?_
          refine aC_arms 4 [] (by kernel_rfl) (arms_cons ?_ arms_nil)
          refine aC_arm 4 rfl rfl (Eff.wild (q := false) ?_)
          refine id (x_store 2 tk33 rfl rfl rfl rfl ?_)
          refine aC_st (by (try simp only [nO, nK, nL]); rfl) (by (try simp only [nM, nN]); rfl) (by (try simp only [keepH, nQ, nR, putB, place, Nat.reduceBEq, nA, if_true, if_false, reduceIte, nB, nC, nD, nE, nF, nG, nH, nI, Nat.reduceAdd, nJ, beq_self_eq_true, nK, nL, nM, nN]); rfl) ?_
          refine aC_arms 5 [] (by kernel_rfl) (arms_cons ?_ arms_nil)
          refine aC_arm 5 rfl rfl (Eff.wild (q := false) ?_)
          refine id (x_store 3 tk36 rfl rfl rfl rfl ?_)
          refine aC_st (by (try simp only [nO, nK, nL]); rfl) (by (try simp only [nM, nN]); rfl) (by (try simp only [keepH, nQ, nR, putB, place, Nat.reduceBEq, nA, if_true, if_false, reduceIte, nB, nC, nD, nE, nF, nG, nH, nI, Nat.reduceAdd, nJ, beq_self_eq_true, nK, nL, nM, nN]); rfl) ?_
          refine aC_nil (by kernel_rfl) ?_
          refine thn_n (awp_ret (blk_r (thn_r ?_)))
          refine finR2 [] [0] rfl Tryz.results11 (rv_cell 2 tk33 rfl rfl rfl) (rv_cell 3 tk36 rfl rfl rfl) ?_ (.inr rfl)
          first
          | (rw [insO_1 M c i (by simp only [decide_eq_true_eq, decide_eq_false_iff_not, Bool.and_eq_true, Bool.or_eq_true] at *; omega)]; exact ⟨rfl, rfl, rfl⟩)
          | (rw [insO_2 M c i (by simp only [decide_eq_true_eq, decide_eq_false_iff_not, Bool.and_eq_true, Bool.or_eq_true] at *; omega)]; exact ⟨rfl, rfl, rfl⟩)
          | (rw [insO_30 M c i (by simp only [decide_eq_true_eq, decide_eq_false_iff_not, Bool.and_eq_true, Bool.or_eq_true] at *; omega)]; exact ⟨rfl, rfl, rfl⟩)
          | (rw [insO_29 M c i (by simp only [decide_eq_true_eq, decide_eq_false_iff_not, Bool.and_eq_true, Bool.or_eq_true] at *; omega)]; exact ⟨rfl, rfl, rfl⟩)
          | (rw [← hq]; unfold endO; rw [if_pos (by have h := ‹(!decide (q.2.1 = 0)) = false›; simpa using h)]; exact ⟨rfl, rfl, rfl⟩)
          | (rw [← hq]; unfold endO; rw [if_neg (by have h := ‹(!decide (q.2.1 = 0)) = true›; simpa using h)]; exact ⟨rfl, rfl, rfl⟩)
          | (have he : ((decide ((i.op : Int) = 24) || decide ((i.op : Int) = 25)) && emptyO M (w64 (c.pc + i.imm))) = true := by assumption
             rw [Bool.and_eq_true, Bool.or_eq_true, decide_eq_true_eq, decide_eq_true_eq] at he
             rw [insO_empty M c i (by have := he.1; omega) he.2]; exact ⟨rfl, rfl, rfl⟩)
          | (trace_state; sorry)
         ·skip
          refine aC_arm 4 rfl rfl (Eff.wild (q := false) ?_)
          refine id (x_store 2 tk33 rfl rfl rfl rfl ?_)
          refine aC_st (by (try simp only [nO, nK, nL]); rfl) (by (try simp only [nM, nN]); rfl) (by (try simp only [keepH, nQ, nR, putB, place, Nat.reduceBEq, nA, if_true, if_false, reduceIte, nB, nC, nD, nE, nF, nG, nH, nI, Nat.reduceAdd, nJ, beq_self_eq_true, nK, nL, nM, nN]); rfl) ?_
          refine aC_box 2 4 rfl (by kernel_rfl) true rfl rfl (by simp) tk3 (fun _ => rfl) rfl rfl ?_
          refine aC_f 3 rfl (by kernel_rfl) true rfl rfl (fun _ => q_bld (l := [(0, .const (.int .i64 2)), (1, .tmp 60)]) (zs := [.int .i64 0, .int .i64 0]) (pl := [(0, 1), (1, 1)]) (by kernel_rfl) (by kernel_rfl) (by kernel_rfl) rfl rfl rfl) ?_
          refine aC_arms 5 [] (by kernel_rfl) (arms_cons ?_ arms_nil)
          refine aC_arm 5 rfl rfl (Eff.wild (q := false) ?_)
          refine id (x_store 3 tk36 rfl rfl rfl rfl ?_)
          refine aC_st (by (try simp only [nO, nK, nL]); rfl) (by (try simp only [nM, nN]); rfl) (by (try simp only [keepH, nQ, nR, putB, place, Nat.reduceBEq, nA, if_true, if_false, reduceIte, nB, nC, nD, nE, nF, nG, nH, nI, Nat.reduceAdd, nJ, beq_self_eq_true, nK, nL, nM, nN]); rfl) ?_
          refine aC_nil (by kernel_rfl) ?_
          refine thn_n (awp_ret (blk_r (thn_r ?_)))
          refine finR2 [] [0] rfl Tryz.results11 (rv_cell 2 tk33 rfl rfl rfl) (rv_cell 3 tk36 rfl rfl rfl) ?_ (.inr rfl)
          first
          | (rw [insO_1 M c i (by simp only [decide_eq_true_eq, decide_eq_false_iff_not, Bool.and_eq_true, Bool.or_eq_true] at *; omega)]; exact ⟨rfl, rfl, rfl⟩)
          | (rw [insO_2 M c i (by simp only [decide_eq_true_eq, decide_eq_false_iff_not, Bool.and_eq_true, Bool.or_eq_true] at *; omega)]; exact ⟨rfl, rfl, rfl⟩)
          | (rw [insO_30 M c i (by simp only [decide_eq_true_eq, decide_eq_false_iff_not, Bool.and_eq_true, Bool.or_eq_true] at *; omega)]; exact ⟨rfl, rfl, rfl⟩)
          | (rw [insO_29 M c i (by simp only [decide_eq_true_eq, decide_eq_false_iff_not, Bool.and_eq_true, Bool.or_eq_true] at *; omega)]; exact ⟨rfl, rfl, rfl⟩)
          | (rw [← hq]; unfold endO; rw [if_pos (by have h := ‹(!decide (q.2.1 = 0)) = false›; simpa using h)]; exact ⟨rfl, rfl, rfl⟩)
          | (rw [← hq]; unfold endO; rw [if_neg (by have h := ‹(!decide (q.2.1 = 0)) = true›; simpa using h)]; exact ⟨rfl, rfl, rfl⟩)
          | (have he : ((decide ((i.op : Int) = 24) || decide ((i.op : Int) = 25)) && emptyO M (w64 (c.pc + i.imm))) = true := by assumption
             rw [Bool.and_eq_true, Bool.or_eq_true, decide_eq_true_eq, decide_eq_true_eq] at he
             rw [insO_empty M c i (by have := he.1; omega) he.2]; exact ⟨rfl, rfl, rfl⟩)
          | (trace_state; sorry)
        ·skip
         refine awp_seq (awp_region (aL_s true rfl rfl (fun _ => q_eql rfl rfl) (aL_s true rfl rfl (fun _ => q_assign rfl) (aL_nil (thn_n ?_)))))
         refine awp_cond _ rfl (fun h7 => ?_) (fun h7 => ?_)
         ·skip
          refine awp_seq ?_
          refine awp_drawnC [5, 6] [5, 6] [b3_7, b6_1] (by kernel_rfl) ?_
          show aC _ _ _ _ _ _ _ 7 #[false, false, false, false, false, false, false] _
          refine aC_box 0 5 rfl (by kernel_rfl) true rfl rfl (by simp) tk33 (fun _ => rfl) rfl rfl ?_
          refine aC_f 1 rfl (by kernel_rfl) true rfl rfl (fun _ => q_fieldAddr (off := 1) (by kernel_rfl) rfl) ?_
          refine aC_arms 2 [5] (by kernel_rfl) (arms_cons ?_ (arms_cons ?_ arms_nil))
          ·skip
           refine aC_arm 2 rfl rfl (Eff.x (Quiet.eff (q_load 4 tk3 rfl rfl rfl) rfl ?_))
           refine aC_st (by (try simp only [nO, nK, nL]); rfl) (by (try simp only [nM, nN]); rfl) (by (try simp only [keepH, nQ, nR, putB, place, Nat.reduceBEq, nA, if_true, if_false, reduceIte, nB, nC, nD, nE, nF, nG, nH, nI, Nat.reduceAdd, nJ, beq_self_eq_true, nK, nL, nM, nN]); rfl) ?_
           refine aC_f 3 rfl (by kernel_rfl) true rfl rfl (fun _ => q_add rfl rfl) ?_
           refine aC_f 4 rfl (by kernel_rfl) true rfl rfl (fun _ => q_bld (l := [(0, .const (.int .i64 2)), (1, .tmp 67)]) (zs := [.int .i64 0, .int .i64 0]) (pl := [(0, 1), (1, 1)]) (by kernel_rfl) (by kernel_rfl) (by kernel_rfl) rfl rfl rfl) ?_
           refine aC_arms 5 [] (by kernel_rfl) (arms_cons ?_ arms_nil)
           refine aC_arm 5 rfl rfl (Eff.wild (q := false) ?_)
           refine id (x_store 2 tk33 rfl rfl rfl rfl ?_)
           refine aC_st (by (try simp only [nO, nK, nL]); rfl) (by (try simp only [nM, nN]); rfl) (by (try simp only [keepH, nQ, nR, putB, place, Nat.reduceBEq, nA, if_true, if_false, reduceIte, nB, nC, nD, nE, nF, nG, nH, nI, Nat.reduceAdd, nJ, beq_self_eq_true, nK, nL, nM, nN]); rfl) ?_
           refine aC_arms 6 [] (by kernel_rfl) (arms_cons ?_ arms_nil)
           refine aC_arm 6 rfl rfl (Eff.wild (q := false) ?_)
           refine id (x_store 3 tk36 rfl rfl rfl rfl ?_)
           refine aC_st (by (try simp only [nO, nK, nL]); rfl) (by (try simp only [nM, nN]); rfl) (by (try simp only [keepH, nQ, nR, putB, place, Nat.reduceBEq, nA, if_true, if_false, reduceIte, nB, nC, nD, nE, nF, nG, nH, nI, Nat.reduceAdd, nJ, beq_self_eq_true, nK, nL, nM, nN]); rfl) ?_
           refine aC_nil (by kernel_rfl) ?_
           refine thn_n (awp_ret (blk_r (thn_r ?_)))
           refine finR2 [] [0] rfl Tryz.results11 (rv_cell 2 tk33 rfl rfl rfl) (rv_cell 3 tk36 rfl rfl rfl) ?_ (.inr rfl)
           first
           | (rw [insO_1 M c i (by simp only [decide_eq_true_eq, decide_eq_false_iff_not, Bool.and_eq_true, Bool.or_eq_true] at *; omega)]; exact ⟨rfl, rfl, rfl⟩)
           | (rw [insO_2 M c i (by simp only [decide_eq_true_eq, decide_eq_false_iff_not, Bool.and_eq_true, Bool.or_eq_true] at *; omega)]; exact ⟨rfl, rfl, rfl⟩)
           | (rw [insO_30 M c i (by simp only [decide_eq_true_eq, decide_eq_false_iff_not, Bool.and_eq_true, Bool.or_eq_true] at *; omega)]; exact ⟨rfl, rfl, rfl⟩)
           | (rw [insO_29 M c i (by simp only [decide_eq_true_eq, decide_eq_false_iff_not, Bool.and_eq_true, Bool.or_eq_true] at *; omega)]; exact ⟨rfl, rfl, rfl⟩)
           | (rw [← hq]; unfold endO; rw [if_pos (by have h := ‹(!decide (q.2.1 = 0)) = false›; simpa using h)]; exact ⟨rfl, rfl, rfl⟩)
           | (rw [← hq]; unfold endO; rw [if_neg (by have h := ‹(!decide (q.2.1 = 0)) = true›; simpa using h)]; exact ⟨rfl, rfl, rfl⟩)
           | (have he : ((decide ((i.op : Int) = 24) || decide ((i.op : Int) = 25)) && emptyO M (w64 (c.pc + i.imm))) = true := by assumption
              rw [Bool.and_eq_true, Bool.or_eq_true, decide_eq_true_eq, decide_eq_true_eq] at he
              rw [insO_empty M c i (by have := he.1; omega) he.2]; exact ⟨rfl, rfl, rfl⟩)
           | (trace_state; sorry)
          ·skip
           refine aC_arm 5 rfl rfl (Eff.wild (q := false) ?_)
           refine id (x_store 2 tk33 rfl rfl rfl rfl ?_)
           refine aC_st (by (try simp only [nO, nK, nL]); rfl) (by (try simp only [nM, nN]); rfl) (by (try simp only [keepH, nQ, nR, putB, place, Nat.reduceBEq, nA, if_true, if_false, reduceIte, nB, nC, nD, nE, nF, nG, nH, nI, Nat.reduceAdd, nJ, beq_self_eq_true, nK, nL, nM, nN]); rfl) ?_
           refine aC_box 2 4 rfl (by kernel_rfl) true rfl rfl (by simp) tk3 (fun _ => rfl) rfl rfl ?_
           refine aC_f 3 rfl (by kernel_rfl) true rfl rfl (fun _ => q_add rfl rfl) ?_
           refine aC_f 4 rfl (by kernel_rfl) true rfl rfl (fun _ => q_bld (l := [(0, .const (.int .i64 2)), (1, .tmp 67)]) (zs := [.int .i64 0, .int .i64 0]) (pl := [(0, 1), (1, 1)]) (by kernel_rfl) (by kernel_rfl) (by kernel_rfl) rfl rfl rfl) ?_
           refine aC_arms 6 [] (by kernel_rfl) (arms_cons ?_ arms_nil)
           refine aC_arm 6 rfl rfl (Eff.wild (q := false) ?_)
           refine id (x_store 3 tk36 rfl rfl rfl rfl ?_)
           refine aC_st (by (try simp only [nO, nK, nL]); rfl) (by (try simp only [nM, nN]); rfl) (by (try simp only [keepH, nQ, nR, putB, place, Nat.reduceBEq, nA, if_true, if_false, reduceIte, nB, nC, nD, nE, nF, nG, nH, nI, Nat.reduceAdd, nJ, beq_self_eq_true, nK, nL, nM, nN]); rfl) ?_
           refine aC_nil (by kernel_rfl) ?_
           refine thn_n (awp_ret (blk_r (thn_r ?_)))
           refine finR2 [] [0] rfl Tryz.results11 (rv_cell 2 tk33 rfl rfl rfl) (rv_cell 3 tk36 rfl rfl rfl) ?_ (.inr rfl)
           first
           | (rw [insO_1 M c i (by simp only [decide_eq_true_eq, decide_eq_false_iff_not, Bool.and_eq_true, Bool.or_eq_true] at *; omega)]; exact ⟨rfl, rfl, rfl⟩)
           | (rw [insO_2 M c i (by simp only [decide_eq_true_eq, decide_eq_false_iff_not, Bool.and_eq_true, Bool.or_eq_true] at *; omega)]; exact ⟨rfl, rfl, rfl⟩)
           | (rw [insO_30 M c i (by simp only [decide_eq_true_eq, decide_eq_false_iff_not, Bool.and_eq_true, Bool.or_eq_true] at *; omega)]; exact ⟨rfl, rfl, rfl⟩)
           | (rw [insO_29 M c i (by simp only [decide_eq_true_eq, decide_eq_false_iff_not, Bool.and_eq_true, Bool.or_eq_true] at *; omega)]; exact ⟨rfl, rfl, rfl⟩)
           | (rw [← hq]; unfold endO; rw [if_pos (by have h := ‹(!decide (q.2.1 = 0)) = false›; simpa using h)]; exact ⟨rfl, rfl, rfl⟩)
           | (rw [← hq]; unfold endO; rw [if_neg (by have h := ‹(!decide (q.2.1 = 0)) = true›; simpa using h)]; exact ⟨rfl, rfl, rfl⟩)
           | (have he : ((decide ((i.op : Int) = 24) || decide ((i.op : Int) = 25)) && emptyO M (w64 (c.pc + i.imm))) = true := by assumption
              rw [Bool.and_eq_true, Bool.or_eq_true, decide_eq_true_eq, decide_eq_true_eq] at he
              rw [insO_empty M c i (by have := he.1; omega) he.2]; exact ⟨rfl, rfl, rfl⟩)
           | (trace_state; sorry)
         ·skip
          refine awp_seq ?_
          refine awp_join (X := {b : Bool // b = true ↔ (i.op = 15 ∨ i.op = 16 ∨ i.op = 17 ∨ i.op = 18 ∨ i.op = 27 ∨ i.op = 28)}) (fun b => ⟨[(0, true, .pointer (some ⟨p, 0, none⟩)), (3, true, .pointer (some ⟨b0_0, 0, none⟩)), (4, true, .pointer (some ⟨b0_1, 0, none⟩)), (5, true, .pointer (some ⟨b0_2, 0, none⟩)), (6, true, .pointer (some ⟨b3_7, 0, none⟩)), (7, true, .int .i64 0), (8, true, .pointer (some ⟨b6_1, 0, none⟩)), (47, true, .int .i64 i.op), (69, true, .bool b.1)], [], [RfR p M, Box b0_0 33 (cpuV c), Box b0_1 33 zeroCpu, Box b0_2 36 [.int .i64 0, .int .i64 0], Box b3_7 46 (insV i), Box b6_1 33 (cpuV (nxO i c))]⟩) ?_ ?_
          ·skip
           refine awp_seq (awp_region (aL_s true rfl rfl (fun _ => q_eql rfl rfl) (aL_s true rfl rfl (fun _ => q_assign rfl) (aL_nil (thn_n ?_)))))
           refine awp_cond _ rfl (fun h8 => ?_) (fun h8 => ?_)
           ·skip
            refine awp_skip (thn_n ?_)
            first
            | exact ⟨[0, 3, 4, 5, 6, 7, 8, 47, 69], [], [0, 1, 2, 3, 4, 5], ⟨decide ((i.op : Int) = 15), by simp only [decide_eq_true_eq, decide_eq_false_iff_not] at *; omega⟩, rfl, rfl⟩
            | exact ⟨[0, 3, 4, 5, 6, 7, 8, 47, 69], [], [0, 1, 2, 3, 4, 5], ⟨decide ((i.op : Int) = 16), by simp only [decide_eq_true_eq, decide_eq_false_iff_not] at *; omega⟩, rfl, rfl⟩
            | exact ⟨[0, 3, 4, 5, 6, 7, 8, 47, 69], [], [0, 1, 2, 3, 4, 5], ⟨decide ((i.op : Int) = 17), by simp only [decide_eq_true_eq, decide_eq_false_iff_not] at *; omega⟩, rfl, rfl⟩
            | exact ⟨[0, 3, 4, 5, 6, 7, 8, 47, 69], [], [0, 1, 2, 3, 4, 5], ⟨decide ((i.op : Int) = 18), by simp only [decide_eq_true_eq, decide_eq_false_iff_not] at *; omega⟩, rfl, rfl⟩
            | exact ⟨[0, 3, 4, 5, 6, 7, 8, 47, 69], [], [0, 1, 2, 3, 4, 5], ⟨decide ((i.op : Int) = 27), by simp only [decide_eq_true_eq, decide_eq_false_iff_not] at *; omega⟩, rfl, rfl⟩
            | exact ⟨[0, 3, 4, 5, 6, 7, 8, 47, 69], [], [0, 1, 2, 3, 4, 5], ⟨decide ((i.op : Int) = 28), by simp only [decide_eq_true_eq, decide_eq_false_iff_not] at *; omega⟩, rfl, rfl⟩
           ·skip
            refine awp_seq (awp_region (aL_s true rfl rfl (fun _ => q_eql rfl rfl) (aL_s true rfl rfl (fun _ => q_assign rfl) (aL_nil (thn_n ?_)))))
            refine awp_cond _ rfl (fun h9 => ?_) (fun h9 => ?_)
            ·skip
             refine awp_skip (thn_n ?_)
             first
             | exact ⟨[0, 3, 4, 5, 6, 7, 8, 47, 69], [], [0, 1, 2, 3, 4, 5], ⟨decide ((i.op : Int) = 15), by simp only [decide_eq_true_eq, decide_eq_false_iff_not] at *; omega⟩, rfl, rfl⟩
             | exact ⟨[0, 3, 4, 5, 6, 7, 8, 47, 69], [], [0, 1, 2, 3, 4, 5], ⟨decide ((i.op : Int) = 16), by simp only [decide_eq_true_eq, decide_eq_false_iff_not] at *; omega⟩, rfl, rfl⟩
             | exact ⟨[0, 3, 4, 5, 6, 7, 8, 47, 69], [], [0, 1, 2, 3, 4, 5], ⟨decide ((i.op : Int) = 17), by simp only [decide_eq_true_eq, decide_eq_false_iff_not] at *; omega⟩, rfl, rfl⟩
             | exact ⟨[0, 3, 4, 5, 6, 7, 8, 47, 69], [], [0, 1, 2, 3, 4, 5], ⟨decide ((i.op : Int) = 18), by simp only [decide_eq_true_eq, decide_eq_false_iff_not] at *; omega⟩, rfl, rfl⟩
             | exact ⟨[0, 3, 4, 5, 6, 7, 8, 47, 69], [], [0, 1, 2, 3, 4, 5], ⟨decide ((i.op : Int) = 27), by simp only [decide_eq_true_eq, decide_eq_false_iff_not] at *; omega⟩, rfl, rfl⟩
             | exact ⟨[0, 3, 4, 5, 6, 7, 8, 47, 69], [], [0, 1, 2, 3, 4, 5], ⟨decide ((i.op : Int) = 28), by simp only [decide_eq_true_eq, decide_eq_false_iff_not] at *; omega⟩, rfl, rfl⟩
            ·skip
             refine awp_seq (awp_region (aL_s true rfl rfl (fun _ => q_eql rfl rfl) (aL_s true rfl rfl (fun _ => q_assign rfl) (aL_nil (thn_n ?_)))))
             refine awp_cond _ rfl (fun h10 => ?_) (fun h10 => ?_)
             ·skip
              refine awp_skip (thn_n ?_)
              first
              | exact ⟨[0, 3, 4, 5, 6, 7, 8, 47, 69], [], [0, 1, 2, 3, 4, 5], ⟨decide ((i.op : Int) = 15), by simp only [decide_eq_true_eq, decide_eq_false_iff_not] at *; omega⟩, rfl, rfl⟩
              | exact ⟨[0, 3, 4, 5, 6, 7, 8, 47, 69], [], [0, 1, 2, 3, 4, 5], ⟨decide ((i.op : Int) = 16), by simp only [decide_eq_true_eq, decide_eq_false_iff_not] at *; omega⟩, rfl, rfl⟩
              | exact ⟨[0, 3, 4, 5, 6, 7, 8, 47, 69], [], [0, 1, 2, 3, 4, 5], ⟨decide ((i.op : Int) = 17), by simp only [decide_eq_true_eq, decide_eq_false_iff_not] at *; omega⟩, rfl, rfl⟩
              | exact ⟨[0, 3, 4, 5, 6, 7, 8, 47, 69], [], [0, 1, 2, 3, 4, 5], ⟨decide ((i.op : Int) = 18), by simp only [decide_eq_true_eq, decide_eq_false_iff_not] at *; omega⟩, rfl, rfl⟩
              | exact ⟨[0, 3, 4, 5, 6, 7, 8, 47, 69], [], [0, 1, 2, 3, 4, 5], ⟨decide ((i.op : Int) = 27), by simp only [decide_eq_true_eq, decide_eq_false_iff_not] at *; omega⟩, rfl, rfl⟩
              | exact ⟨[0, 3, 4, 5, 6, 7, 8, 47, 69], [], [0, 1, 2, 3, 4, 5], ⟨decide ((i.op : Int) = 28), by simp only [decide_eq_true_eq, decide_eq_false_iff_not] at *; omega⟩, rfl, rfl⟩
             ·skip
              refine awp_seq (awp_region (aL_s true rfl rfl (fun _ => q_eql rfl rfl) (aL_s true rfl rfl (fun _ => q_assign rfl) (aL_nil (thn_n ?_)))))
              refine awp_cond _ rfl (fun h11 => ?_) (fun h11 => ?_)
              ·skip
               refine awp_skip (thn_n ?_)
               first
               | exact ⟨[0, 3, 4, 5, 6, 7, 8, 47, 69], [], [0, 1, 2, 3, 4, 5], ⟨decide ((i.op : Int) = 15), by simp only [decide_eq_true_eq, decide_eq_false_iff_not] at *; omega⟩, rfl, rfl⟩
               | exact ⟨[0, 3, 4, 5, 6, 7, 8, 47, 69], [], [0, 1, 2, 3, 4, 5], ⟨decide ((i.op : Int) = 16), by simp only [decide_eq_true_eq, decide_eq_false_iff_not] at *; omega⟩, rfl, rfl⟩
               | exact ⟨[0, 3, 4, 5, 6, 7, 8, 47, 69], [], [0, 1, 2, 3, 4, 5], ⟨decide ((i.op : Int) = 17), by simp only [decide_eq_true_eq, decide_eq_false_iff_not] at *; omega⟩, rfl, rfl⟩
               | exact ⟨[0, 3, 4, 5, 6, 7, 8, 47, 69], [], [0, 1, 2, 3, 4, 5], ⟨decide ((i.op : Int) = 18), by simp only [decide_eq_true_eq, decide_eq_false_iff_not] at *; omega⟩, rfl, rfl⟩
               | exact ⟨[0, 3, 4, 5, 6, 7, 8, 47, 69], [], [0, 1, 2, 3, 4, 5], ⟨decide ((i.op : Int) = 27), by simp only [decide_eq_true_eq, decide_eq_false_iff_not] at *; omega⟩, rfl, rfl⟩
               | exact ⟨[0, 3, 4, 5, 6, 7, 8, 47, 69], [], [0, 1, 2, 3, 4, 5], ⟨decide ((i.op : Int) = 28), by simp only [decide_eq_true_eq, decide_eq_false_iff_not] at *; omega⟩, rfl, rfl⟩
              ·skip
               refine awp_seq (awp_region (aL_s true rfl rfl (fun _ => q_eql rfl rfl) (aL_s true rfl rfl (fun _ => q_assign rfl) (aL_nil (thn_n ?_)))))
               refine awp_cond _ rfl (fun h12 => ?_) (fun h12 => ?_)
               ·skip
                refine awp_skip (thn_n ?_)
                first
                | exact ⟨[0, 3, 4, 5, 6, 7, 8, 47, 69], [], [0, 1, 2, 3, 4, 5], ⟨decide ((i.op : Int) = 15), by simp only [decide_eq_true_eq, decide_eq_false_iff_not] at *; omega⟩, rfl, rfl⟩
                | exact ⟨[0, 3, 4, 5, 6, 7, 8, 47, 69], [], [0, 1, 2, 3, 4, 5], ⟨decide ((i.op : Int) = 16), by simp only [decide_eq_true_eq, decide_eq_false_iff_not] at *; omega⟩, rfl, rfl⟩
                | exact ⟨[0, 3, 4, 5, 6, 7, 8, 47, 69], [], [0, 1, 2, 3, 4, 5], ⟨decide ((i.op : Int) = 17), by simp only [decide_eq_true_eq, decide_eq_false_iff_not] at *; omega⟩, rfl, rfl⟩
                | exact ⟨[0, 3, 4, 5, 6, 7, 8, 47, 69], [], [0, 1, 2, 3, 4, 5], ⟨decide ((i.op : Int) = 18), by simp only [decide_eq_true_eq, decide_eq_false_iff_not] at *; omega⟩, rfl, rfl⟩
                | exact ⟨[0, 3, 4, 5, 6, 7, 8, 47, 69], [], [0, 1, 2, 3, 4, 5], ⟨decide ((i.op : Int) = 27), by simp only [decide_eq_true_eq, decide_eq_false_iff_not] at *; omega⟩, rfl, rfl⟩
                | exact ⟨[0, 3, 4, 5, 6, 7, 8, 47, 69], [], [0, 1, 2, 3, 4, 5], ⟨decide ((i.op : Int) = 28), by simp only [decide_eq_true_eq, decide_eq_false_iff_not] at *; omega⟩, rfl, rfl⟩
               ·skip
                refine awp_region (aL_s true rfl rfl (fun _ => q_eql rfl rfl) (aL_s true rfl rfl (fun _ => q_assign rfl) (aL_nil (thn_n ?_))))
                first
                | exact ⟨[0, 3, 4, 5, 6, 7, 8, 47, 69], [], [0, 1, 2, 3, 4, 5], ⟨decide ((i.op : Int) = 15), by simp only [decide_eq_true_eq, decide_eq_false_iff_not] at *; omega⟩, rfl, rfl⟩
                | exact ⟨[0, 3, 4, 5, 6, 7, 8, 47, 69], [], [0, 1, 2, 3, 4, 5], ⟨decide ((i.op : Int) = 16), by simp only [decide_eq_true_eq, decide_eq_false_iff_not] at *; omega⟩, rfl, rfl⟩
                | exact ⟨[0, 3, 4, 5, 6, 7, 8, 47, 69], [], [0, 1, 2, 3, 4, 5], ⟨decide ((i.op : Int) = 17), by simp only [decide_eq_true_eq, decide_eq_false_iff_not] at *; omega⟩, rfl, rfl⟩
                | exact ⟨[0, 3, 4, 5, 6, 7, 8, 47, 69], [], [0, 1, 2, 3, 4, 5], ⟨decide ((i.op : Int) = 18), by simp only [decide_eq_true_eq, decide_eq_false_iff_not] at *; omega⟩, rfl, rfl⟩
                | exact ⟨[0, 3, 4, 5, 6, 7, 8, 47, 69], [], [0, 1, 2, 3, 4, 5], ⟨decide ((i.op : Int) = 27), by simp only [decide_eq_true_eq, decide_eq_false_iff_not] at *; omega⟩, rfl, rfl⟩
                | exact ⟨[0, 3, 4, 5, 6, 7, 8, 47, 69], [], [0, 1, 2, 3, 4, 5], ⟨decide ((i.op : Int) = 28), by simp only [decide_eq_true_eq, decide_eq_false_iff_not] at *; omega⟩, rfl, rfl⟩
          ·skip
           rintro ⟨bm, hbm⟩
           refine awp_cond _ rfl (fun h13 => ?_) (fun h13 => ?_)
           ·skip
            refine awp_region (aL_s true rfl rfl (fun _ => q_move rfl) (aL_s true rfl rfl (fun _ => q_load 1 tk33 rfl rfl rfl) (aL_s true rfl rfl (fun _ => q_load 4 tk46 rfl rfl rfl) ?_)))
            refine aL_eff (q := false) rfl (e_call [] [0] (by kernel_rfl) rfl rfl rfl rfl (mem29_fn p M c i HC.out hri (hbm.1 h13)) ?_)
            rintro v ps' hp' ⟨rfl, rfl, rfl⟩
            refine aL_st (by (try simp only [nM, nN]); rfl) (by (try simp only [putB, place, Nat.reduceBEq, nA, if_true, if_false, reduceIte, nB, nC, nD, nE, nF, nG, nH, nI, Nat.reduceAdd, nJ, beq_self_eq_true, nK, nL, nM, nN]); rfl) ?_
            refine aL_s true rfl rfl (fun _ => q_move rfl) (aL_s true rfl rfl (fun _ => q_extract rfl rfl) (aL_s true rfl rfl (fun _ => q_extract rfl rfl) ?_))
            refine aL_eff rfl (x_store 5 tk33 rfl rfl rfl rfl ?_)
            refine aL_hp (by simp only [nK, nL]; rfl) ?_
            refine aL_s true rfl rfl (fun _ => q_assign rfl) (aL_nil (blk_n (thn_n ?_)))
            first
            | exact ⟨[0, 3, 4, 5, 7, 8], [], [0, 1, 2, 3, 5], ⟨memO M c i i.op, insO_mem M c i (hbm.1 h13)⟩, rfl, rfl⟩
            | exact ⟨[0, 3, 4, 5, 7, 8], [], [0, 1, 2, 3, 5], ⟨flowO M c i i.op, insO_flow M c i (hbf.1 h21) (flow_no M c i ‹((decide ((i.op : Int) = 24) || decide ((i.op : Int) = 25)) && emptyO M (w64 (c.pc + i.imm))) = false›)⟩, rfl, rfl⟩
            | exact ⟨[0, 3, 4, 5, 7, 8], [], [0, 1, 2, 3, 5], ⟨(nxO i c, 0, M), insO_rest M c i (by simp only [decide_eq_true_eq, decide_eq_false_iff_not, Bool.and_eq_true, Bool.or_eq_true] at *; omega) (by simp only [decide_eq_true_eq, decide_eq_false_iff_not, Bool.and_eq_true, Bool.or_eq_true] at *; omega) (by simp only [decide_eq_true_eq, decide_eq_false_iff_not, Bool.and_eq_true, Bool.or_eq_true] at *; omega) (by simp only [decide_eq_true_eq, decide_eq_false_iff_not, Bool.and_eq_true, Bool.or_eq_true] at *; omega) (fun h => Bool.noConfusion ((hbm.2 h).symm.trans h13)) (fun h => Bool.noConfusion ((hbf.2 h).symm.trans h21))⟩, rfl, rfl⟩
           ·skip
            refine awp_seq ?_
            refine awp_join (X := {b : Bool // b = true ↔ (19 ≤ i.op ∧ i.op ≤ 26)}) (fun b => ⟨[(0, true, .pointer (some ⟨p, 0, none⟩)), (3, true, .pointer (some ⟨b0_0, 0, none⟩)), (4, true, .pointer (some ⟨b0_1, 0, none⟩)), (5, true, .pointer (some ⟨b0_2, 0, none⟩)), (6, true, .pointer (some ⟨b3_7, 0, none⟩)), (7, true, .int .i64 0), (8, true, .pointer (some ⟨b6_1, 0, none⟩)), (47, true, .int .i64 i.op), (83, true, .bool b.1)], [], [RfR p M, Box b0_0 33 (cpuV c), Box b0_1 33 zeroCpu, Box b0_2 36 [.int .i64 0, .int .i64 0], Box b3_7 46 (insV i), Box b6_1 33 (cpuV (nxO i c))]⟩) ?_ ?_
            ·skip
             refine awp_seq (awp_region (aL_s true rfl rfl (fun _ => q_eql rfl rfl) (aL_s true rfl rfl (fun _ => q_assign rfl) (aL_nil (thn_n ?_)))))
             refine awp_cond _ rfl (fun h14 => ?_) (fun h14 => ?_)
             ·skip
              refine awp_skip (thn_n ?_)
              first
              | exact ⟨[0, 3, 4, 5, 6, 7, 8, 47, 83], [], [0, 1, 2, 3, 4, 5], ⟨decide ((i.op : Int) = 19), by simp only [decide_eq_true_eq, decide_eq_false_iff_not] at *; omega⟩, rfl, rfl⟩
              | exact ⟨[0, 3, 4, 5, 6, 7, 8, 47, 83], [], [0, 1, 2, 3, 4, 5], ⟨decide ((i.op : Int) = 20), by simp only [decide_eq_true_eq, decide_eq_false_iff_not] at *; omega⟩, rfl, rfl⟩
              | exact ⟨[0, 3, 4, 5, 6, 7, 8, 47, 83], [], [0, 1, 2, 3, 4, 5], ⟨decide ((i.op : Int) = 21), by simp only [decide_eq_true_eq, decide_eq_false_iff_not] at *; omega⟩, rfl, rfl⟩
              | exact ⟨[0, 3, 4, 5, 6, 7, 8, 47, 83], [], [0, 1, 2, 3, 4, 5], ⟨decide ((i.op : Int) = 22), by simp only [decide_eq_true_eq, decide_eq_false_iff_not] at *; omega⟩, rfl, rfl⟩
              | exact ⟨[0, 3, 4, 5, 6, 7, 8, 47, 83], [], [0, 1, 2, 3, 4, 5], ⟨decide ((i.op : Int) = 23), by simp only [decide_eq_true_eq, decide_eq_false_iff_not] at *; omega⟩, rfl, rfl⟩
              | exact ⟨[0, 3, 4, 5, 6, 7, 8, 47, 83], [], [0, 1, 2, 3, 4, 5], ⟨decide ((i.op : Int) = 24), by simp only [decide_eq_true_eq, decide_eq_false_iff_not] at *; omega⟩, rfl, rfl⟩
              | exact ⟨[0, 3, 4, 5, 6, 7, 8, 47, 83], [], [0, 1, 2, 3, 4, 5], ⟨decide ((i.op : Int) = 25), by simp only [decide_eq_true_eq, decide_eq_false_iff_not] at *; omega⟩, rfl, rfl⟩
              | exact ⟨[0, 3, 4, 5, 6, 7, 8, 47, 83], [], [0, 1, 2, 3, 4, 5], ⟨decide ((i.op : Int) = 26), by simp only [decide_eq_true_eq, decide_eq_false_iff_not] at *; omega⟩, rfl, rfl⟩
             ·skip
              refine awp_seq (awp_region (aL_s true rfl rfl (fun _ => q_eql rfl rfl) (aL_s true rfl rfl (fun _ => q_assign rfl) (aL_nil (thn_n ?_)))))
              refine awp_cond _ rfl (fun h15 => ?_) (fun h15 => ?_)
              ·skip
               refine awp_skip (thn_n ?_)
               first
               | exact ⟨[0, 3, 4, 5, 6, 7, 8, 47, 83], [], [0, 1, 2, 3, 4, 5], ⟨decide ((i.op : Int) = 19), by simp only [decide_eq_true_eq, decide_eq_false_iff_not] at *; omega⟩, rfl, rfl⟩
               | exact ⟨[0, 3, 4, 5, 6, 7, 8, 47, 83], [], [0, 1, 2, 3, 4, 5], ⟨decide ((i.op : Int) = 20), by simp only [decide_eq_true_eq, decide_eq_false_iff_not] at *; omega⟩, rfl, rfl⟩
               | exact ⟨[0, 3, 4, 5, 6, 7, 8, 47, 83], [], [0, 1, 2, 3, 4, 5], ⟨decide ((i.op : Int) = 21), by simp only [decide_eq_true_eq, decide_eq_false_iff_not] at *; omega⟩, rfl, rfl⟩
               | exact ⟨[0, 3, 4, 5, 6, 7, 8, 47, 83], [], [0, 1, 2, 3, 4, 5], ⟨decide ((i.op : Int) = 22), by simp only [decide_eq_true_eq, decide_eq_false_iff_not] at *; omega⟩, rfl, rfl⟩
               | exact ⟨[0, 3, 4, 5, 6, 7, 8, 47, 83], [], [0, 1, 2, 3, 4, 5], ⟨decide ((i.op : Int) = 23), by simp only [decide_eq_true_eq, decide_eq_false_iff_not] at *; omega⟩, rfl, rfl⟩
               | exact ⟨[0, 3, 4, 5, 6, 7, 8, 47, 83], [], [0, 1, 2, 3, 4, 5], ⟨decide ((i.op : Int) = 24), by simp only [decide_eq_true_eq, decide_eq_false_iff_not] at *; omega⟩, rfl, rfl⟩
               | exact ⟨[0, 3, 4, 5, 6, 7, 8, 47, 83], [], [0, 1, 2, 3, 4, 5], ⟨decide ((i.op : Int) = 25), by simp only [decide_eq_true_eq, decide_eq_false_iff_not] at *; omega⟩, rfl, rfl⟩
               | exact ⟨[0, 3, 4, 5, 6, 7, 8, 47, 83], [], [0, 1, 2, 3, 4, 5], ⟨decide ((i.op : Int) = 26), by simp only [decide_eq_true_eq, decide_eq_false_iff_not] at *; omega⟩, rfl, rfl⟩
              ·skip
               refine awp_seq (awp_region (aL_s true rfl rfl (fun _ => q_eql rfl rfl) (aL_s true rfl rfl (fun _ => q_assign rfl) (aL_nil (thn_n ?_)))))
               refine awp_cond _ rfl (fun h16 => ?_) (fun h16 => ?_)
               ·skip
                refine awp_skip (thn_n ?_)
                first
                | exact ⟨[0, 3, 4, 5, 6, 7, 8, 47, 83], [], [0, 1, 2, 3, 4, 5], ⟨decide ((i.op : Int) = 19), by simp only [decide_eq_true_eq, decide_eq_false_iff_not] at *; omega⟩, rfl, rfl⟩
                | exact ⟨[0, 3, 4, 5, 6, 7, 8, 47, 83], [], [0, 1, 2, 3, 4, 5], ⟨decide ((i.op : Int) = 20), by simp only [decide_eq_true_eq, decide_eq_false_iff_not] at *; omega⟩, rfl, rfl⟩
                | exact ⟨[0, 3, 4, 5, 6, 7, 8, 47, 83], [], [0, 1, 2, 3, 4, 5], ⟨decide ((i.op : Int) = 21), by simp only [decide_eq_true_eq, decide_eq_false_iff_not] at *; omega⟩, rfl, rfl⟩
                | exact ⟨[0, 3, 4, 5, 6, 7, 8, 47, 83], [], [0, 1, 2, 3, 4, 5], ⟨decide ((i.op : Int) = 22), by simp only [decide_eq_true_eq, decide_eq_false_iff_not] at *; omega⟩, rfl, rfl⟩
                | exact ⟨[0, 3, 4, 5, 6, 7, 8, 47, 83], [], [0, 1, 2, 3, 4, 5], ⟨decide ((i.op : Int) = 23), by simp only [decide_eq_true_eq, decide_eq_false_iff_not] at *; omega⟩, rfl, rfl⟩
                | exact ⟨[0, 3, 4, 5, 6, 7, 8, 47, 83], [], [0, 1, 2, 3, 4, 5], ⟨decide ((i.op : Int) = 24), by simp only [decide_eq_true_eq, decide_eq_false_iff_not] at *; omega⟩, rfl, rfl⟩
                | exact ⟨[0, 3, 4, 5, 6, 7, 8, 47, 83], [], [0, 1, 2, 3, 4, 5], ⟨decide ((i.op : Int) = 25), by simp only [decide_eq_true_eq, decide_eq_false_iff_not] at *; omega⟩, rfl, rfl⟩
                | exact ⟨[0, 3, 4, 5, 6, 7, 8, 47, 83], [], [0, 1, 2, 3, 4, 5], ⟨decide ((i.op : Int) = 26), by simp only [decide_eq_true_eq, decide_eq_false_iff_not] at *; omega⟩, rfl, rfl⟩
               ·skip
                refine awp_seq (awp_region (aL_s true rfl rfl (fun _ => q_eql rfl rfl) (aL_s true rfl rfl (fun _ => q_assign rfl) (aL_nil (thn_n ?_)))))
                refine awp_cond _ rfl (fun h17 => ?_) (fun h17 => ?_)
                ·skip
                 refine awp_skip (thn_n ?_)
                 first
                 | exact ⟨[0, 3, 4, 5, 6, 7, 8, 47, 83], [], [0, 1, 2, 3, 4, 5], ⟨decide ((i.op : Int) = 19), by simp only [decide_eq_true_eq, decide_eq_false_iff_not] at *; omega⟩, rfl, rfl⟩
                 | exact ⟨[0, 3, 4, 5, 6, 7, 8, 47, 83], [], [0, 1, 2, 3, 4, 5], ⟨decide ((i.op : Int) = 20), by simp only [decide_eq_true_eq, decide_eq_false_iff_not] at *; omega⟩, rfl, rfl⟩
                 | exact ⟨[0, 3, 4, 5, 6, 7, 8, 47, 83], [], [0, 1, 2, 3, 4, 5], ⟨decide ((i.op : Int) = 21), by simp only [decide_eq_true_eq, decide_eq_false_iff_not] at *; omega⟩, rfl, rfl⟩
                 | exact ⟨[0, 3, 4, 5, 6, 7, 8, 47, 83], [], [0, 1, 2, 3, 4, 5], ⟨decide ((i.op : Int) = 22), by simp only [decide_eq_true_eq, decide_eq_false_iff_not] at *; omega⟩, rfl, rfl⟩
                 | exact ⟨[0, 3, 4, 5, 6, 7, 8, 47, 83], [], [0, 1, 2, 3, 4, 5], ⟨decide ((i.op : Int) = 23), by simp only [decide_eq_true_eq, decide_eq_false_iff_not] at *; omega⟩, rfl, rfl⟩
                 | exact ⟨[0, 3, 4, 5, 6, 7, 8, 47, 83], [], [0, 1, 2, 3, 4, 5], ⟨decide ((i.op : Int) = 24), by simp only [decide_eq_true_eq, decide_eq_false_iff_not] at *; omega⟩, rfl, rfl⟩
                 | exact ⟨[0, 3, 4, 5, 6, 7, 8, 47, 83], [], [0, 1, 2, 3, 4, 5], ⟨decide ((i.op : Int) = 25), by simp only [decide_eq_true_eq, decide_eq_false_iff_not] at *; omega⟩, rfl, rfl⟩
                 | exact ⟨[0, 3, 4, 5, 6, 7, 8, 47, 83], [], [0, 1, 2, 3, 4, 5], ⟨decide ((i.op : Int) = 26), by simp only [decide_eq_true_eq, decide_eq_false_iff_not] at *; omega⟩, rfl, rfl⟩
                ·skip
                 refine awp_seq (awp_region (aL_s true rfl rfl (fun _ => q_eql rfl rfl) (aL_s true rfl rfl (fun _ => q_assign rfl) (aL_nil (thn_n ?_)))))
                 refine awp_cond _ rfl (fun h18 => ?_) (fun h18 => ?_)
                 ·skip
                  refine awp_skip (thn_n ?_)
                  first
                  | exact ⟨[0, 3, 4, 5, 6, 7, 8, 47, 83], [], [0, 1, 2, 3, 4, 5], ⟨decide ((i.op : Int) = 19), by simp only [decide_eq_true_eq, decide_eq_false_iff_not] at *; omega⟩, rfl, rfl⟩
                  | exact ⟨[0, 3, 4, 5, 6, 7, 8, 47, 83], [], [0, 1, 2, 3, 4, 5], ⟨decide ((i.op : Int) = 20), by simp only [decide_eq_true_eq, decide_eq_false_iff_not] at *; omega⟩, rfl, rfl⟩
                  | exact ⟨[0, 3, 4, 5, 6, 7, 8, 47, 83], [], [0, 1, 2, 3, 4, 5], ⟨decide ((i.op : Int) = 21), by simp only [decide_eq_true_eq, decide_eq_false_iff_not] at *; omega⟩, rfl, rfl⟩
                  | exact ⟨[0, 3, 4, 5, 6, 7, 8, 47, 83], [], [0, 1, 2, 3, 4, 5], ⟨decide ((i.op : Int) = 22), by simp only [decide_eq_true_eq, decide_eq_false_iff_not] at *; omega⟩, rfl, rfl⟩
                  | exact ⟨[0, 3, 4, 5, 6, 7, 8, 47, 83], [], [0, 1, 2, 3, 4, 5], ⟨decide ((i.op : Int) = 23), by simp only [decide_eq_true_eq, decide_eq_false_iff_not] at *; omega⟩, rfl, rfl⟩
                  | exact ⟨[0, 3, 4, 5, 6, 7, 8, 47, 83], [], [0, 1, 2, 3, 4, 5], ⟨decide ((i.op : Int) = 24), by simp only [decide_eq_true_eq, decide_eq_false_iff_not] at *; omega⟩, rfl, rfl⟩
                  | exact ⟨[0, 3, 4, 5, 6, 7, 8, 47, 83], [], [0, 1, 2, 3, 4, 5], ⟨decide ((i.op : Int) = 25), by simp only [decide_eq_true_eq, decide_eq_false_iff_not] at *; omega⟩, rfl, rfl⟩
                  | exact ⟨[0, 3, 4, 5, 6, 7, 8, 47, 83], [], [0, 1, 2, 3, 4, 5], ⟨decide ((i.op : Int) = 26), by simp only [decide_eq_true_eq, decide_eq_false_iff_not] at *; omega⟩, rfl, rfl⟩
                 ·skip
                  refine awp_seq (awp_region (aL_s true rfl rfl (fun _ => q_eql rfl rfl) (aL_s true rfl rfl (fun _ => q_assign rfl) (aL_nil (thn_n ?_)))))
                  refine awp_cond _ rfl (fun h19 => ?_) (fun h19 => ?_)
                  ·skip
                   refine awp_skip (thn_n ?_)
                   first
                   | exact ⟨[0, 3, 4, 5, 6, 7, 8, 47, 83], [], [0, 1, 2, 3, 4, 5], ⟨decide ((i.op : Int) = 19), by simp only [decide_eq_true_eq, decide_eq_false_iff_not] at *; omega⟩, rfl, rfl⟩
                   | exact ⟨[0, 3, 4, 5, 6, 7, 8, 47, 83], [], [0, 1, 2, 3, 4, 5], ⟨decide ((i.op : Int) = 20), by simp only [decide_eq_true_eq, decide_eq_false_iff_not] at *; omega⟩, rfl, rfl⟩
                   | exact ⟨[0, 3, 4, 5, 6, 7, 8, 47, 83], [], [0, 1, 2, 3, 4, 5], ⟨decide ((i.op : Int) = 21), by simp only [decide_eq_true_eq, decide_eq_false_iff_not] at *; omega⟩, rfl, rfl⟩
                   | exact ⟨[0, 3, 4, 5, 6, 7, 8, 47, 83], [], [0, 1, 2, 3, 4, 5], ⟨decide ((i.op : Int) = 22), by simp only [decide_eq_true_eq, decide_eq_false_iff_not] at *; omega⟩, rfl, rfl⟩
                   | exact ⟨[0, 3, 4, 5, 6, 7, 8, 47, 83], [], [0, 1, 2, 3, 4, 5], ⟨decide ((i.op : Int) = 23), by simp only [decide_eq_true_eq, decide_eq_false_iff_not] at *; omega⟩, rfl, rfl⟩
                   | exact ⟨[0, 3, 4, 5, 6, 7, 8, 47, 83], [], [0, 1, 2, 3, 4, 5], ⟨decide ((i.op : Int) = 24), by simp only [decide_eq_true_eq, decide_eq_false_iff_not] at *; omega⟩, rfl, rfl⟩
                   | exact ⟨[0, 3, 4, 5, 6, 7, 8, 47, 83], [], [0, 1, 2, 3, 4, 5], ⟨decide ((i.op : Int) = 25), by simp only [decide_eq_true_eq, decide_eq_false_iff_not] at *; omega⟩, rfl, rfl⟩
                   | exact ⟨[0, 3, 4, 5, 6, 7, 8, 47, 83], [], [0, 1, 2, 3, 4, 5], ⟨decide ((i.op : Int) = 26), by simp only [decide_eq_true_eq, decide_eq_false_iff_not] at *; omega⟩, rfl, rfl⟩
                  ·skip
                   refine awp_seq (awp_region (aL_s true rfl rfl (fun _ => q_eql rfl rfl) (aL_s true rfl rfl (fun _ => q_assign rfl) (aL_nil (thn_n ?_)))))
                   refine awp_cond _ rfl (fun h20 => ?_) (fun h20 => ?_)
                   ·skip
                    refine awp_skip (thn_n ?_)
                    first
                    | exact ⟨[0, 3, 4, 5, 6, 7, 8, 47, 83], [], [0, 1, 2, 3, 4, 5], ⟨decide ((i.op : Int) = 19), by simp only [decide_eq_true_eq, decide_eq_false_iff_not] at *; omega⟩, rfl, rfl⟩
                    | exact ⟨[0, 3, 4, 5, 6, 7, 8, 47, 83], [], [0, 1, 2, 3, 4, 5], ⟨decide ((i.op : Int) = 20), by simp only [decide_eq_true_eq, decide_eq_false_iff_not] at *; omega⟩, rfl, rfl⟩
                    | exact ⟨[0, 3, 4, 5, 6, 7, 8, 47, 83], [], [0, 1, 2, 3, 4, 5], ⟨decide ((i.op : Int) = 21), by simp only [decide_eq_true_eq, decide_eq_false_iff_not] at *; omega⟩, rfl, rfl⟩
                    | exact ⟨[0, 3, 4, 5, 6, 7, 8, 47, 83], [], [0, 1, 2, 3, 4, 5], ⟨decide ((i.op : Int) = 22), by simp only [decide_eq_true_eq, decide_eq_false_iff_not] at *; omega⟩, rfl, rfl⟩
                    | exact ⟨[0, 3, 4, 5, 6, 7, 8, 47, 83], [], [0, 1, 2, 3, 4, 5], ⟨decide ((i.op : Int) = 23), by simp only [decide_eq_true_eq, decide_eq_false_iff_not] at *; omega⟩, rfl, rfl⟩
                    | exact ⟨[0, 3, 4, 5, 6, 7, 8, 47, 83], [], [0, 1, 2, 3, 4, 5], ⟨decide ((i.op : Int) = 24), by simp only [decide_eq_true_eq, decide_eq_false_iff_not] at *; omega⟩, rfl, rfl⟩
                    | exact ⟨[0, 3, 4, 5, 6, 7, 8, 47, 83], [], [0, 1, 2, 3, 4, 5], ⟨decide ((i.op : Int) = 25), by simp only [decide_eq_true_eq, decide_eq_false_iff_not] at *; omega⟩, rfl, rfl⟩
                    | exact ⟨[0, 3, 4, 5, 6, 7, 8, 47, 83], [], [0, 1, 2, 3, 4, 5], ⟨decide ((i.op : Int) = 26), by simp only [decide_eq_true_eq, decide_eq_false_iff_not] at *; omega⟩, rfl, rfl⟩
                   ·skip
                    refine awp_region (aL_s true rfl rfl (fun _ => q_eql rfl rfl) (aL_s true rfl rfl (fun _ => q_assign rfl) (aL_nil (thn_n ?_))))
                    first
                    | exact ⟨[0, 3, 4, 5, 6, 7, 8, 47, 83], [], [0, 1, 2, 3, 4, 5], ⟨decide ((i.op : Int) = 19), by simp only [decide_eq_true_eq, decide_eq_false_iff_not] at *; omega⟩, rfl, rfl⟩
                    | exact ⟨[0, 3, 4, 5, 6, 7, 8, 47, 83], [], [0, 1, 2, 3, 4, 5], ⟨decide ((i.op : Int) = 20), by simp only [decide_eq_true_eq, decide_eq_false_iff_not] at *; omega⟩, rfl, rfl⟩
                    | exact ⟨[0, 3, 4, 5, 6, 7, 8, 47, 83], [], [0, 1, 2, 3, 4, 5], ⟨decide ((i.op : Int) = 21), by simp only [decide_eq_true_eq, decide_eq_false_iff_not] at *; omega⟩, rfl, rfl⟩
                    | exact ⟨[0, 3, 4, 5, 6, 7, 8, 47, 83], [], [0, 1, 2, 3, 4, 5], ⟨decide ((i.op : Int) = 22), by simp only [decide_eq_true_eq, decide_eq_false_iff_not] at *; omega⟩, rfl, rfl⟩
                    | exact ⟨[0, 3, 4, 5, 6, 7, 8, 47, 83], [], [0, 1, 2, 3, 4, 5], ⟨decide ((i.op : Int) = 23), by simp only [decide_eq_true_eq, decide_eq_false_iff_not] at *; omega⟩, rfl, rfl⟩
                    | exact ⟨[0, 3, 4, 5, 6, 7, 8, 47, 83], [], [0, 1, 2, 3, 4, 5], ⟨decide ((i.op : Int) = 24), by simp only [decide_eq_true_eq, decide_eq_false_iff_not] at *; omega⟩, rfl, rfl⟩
                    | exact ⟨[0, 3, 4, 5, 6, 7, 8, 47, 83], [], [0, 1, 2, 3, 4, 5], ⟨decide ((i.op : Int) = 25), by simp only [decide_eq_true_eq, decide_eq_false_iff_not] at *; omega⟩, rfl, rfl⟩
                    | exact ⟨[0, 3, 4, 5, 6, 7, 8, 47, 83], [], [0, 1, 2, 3, 4, 5], ⟨decide ((i.op : Int) = 26), by simp only [decide_eq_true_eq, decide_eq_false_iff_not] at *; omega⟩, rfl, rfl⟩
            ·skip
             rintro ⟨bf, hbf⟩
             refine awp_cond _ rfl (fun h21 => ?_) (fun h21 => ?_)
             ·skip
              refine awp_seq (awp_region ?_)
              refine aL_s true rfl rfl (fun _ => q_fieldAddr (off := 0) (by kernel_rfl) rfl) ?_
              refine aL_s true rfl rfl (fun _ => q_load 4 tk3 rfl rfl rfl) (aL_s true rfl rfl (fun _ => q_eql rfl rfl) (aL_s true rfl rfl (fun _ => q_move rfl) ?_))
              refine aL_s _ rfl rfl (fun hc => q_fieldAddr (off := 0) (by kernel_rfl) rfl) ?_
              refine aL_s _ rfl rfl (fun hc => q_load 4 tk3 (ev_yes rfl hc) rfl rfl) (aL_s _ rfl rfl (fun hc => q_eql (ev_yes rfl hc) rfl) (aL_s true rfl rfl (fun _ => q_or rfl rfl (fun h => gf rfl h)) (aL_s true rfl rfl (fun _ => q_assign rfl) (aL_nil (thn_n (awp_seq (awp_seq ?_)))))))
              refine awp_region (aL_s true rfl rfl (fun _ => q_move rfl) (aL_s true rfl rfl (fun _ => q_move rfl) (aL_s _ rfl rfl (fun hc => q_move rfl) ?_)))
              refine aL_s _ rfl rfl (fun hc => q_fieldAddr (off := 16) (by kernel_rfl) rfl) ?_
              refine aL_s _ rfl rfl (fun hc => q_load 1 tk3 (ev_yes rfl hc) rfl rfl) ?_
              refine aL_s _ rfl rfl (fun hc => q_fieldAddr (off := 4) (by kernel_rfl) rfl) ?_
              refine aL_s _ rfl rfl (fun hc => q_load 4 tk3 (ev_yes rfl hc) rfl rfl) (aL_s _ rfl rfl (fun hc => q_add (ev_yes rfl hc) (ev_yes rfl hc)) ?_)
              refine aL_s _ rfl rfl (fun hc => q_call (by kernel_rfl) (evs_cons (ev_yes rfl hc) (evs_cons (ev_yes rfl hc) rfl)) (fun w S fp hst => q_lendR (fun dA dB cA cB hI hl => empty29_fn p M dA dB cA cB hI hl (w64 (c.pc + i.imm)) (wrI _)) hst 0 rfl)) ?_
              refine aL_s true rfl rfl (fun _ => q_and rfl rfl (fun h => gt rfl h)) (aL_nil (thn_n ?_))
              refine awp_cond _ rfl (fun h22 => ?_) (fun h22 => ?_)
              ·skip
               refine awp_seq ?_
               refine awp_drawnC [7, 8] [7, 8] [b0_0, b3_7] (by kernel_rfl) ?_
               show aC _ _ _ _ _ _ _ 9 #[false, false, false, false, false, false, false, false, false] _
               refine aC_box 0 1 rfl (by kernel_rfl) true rfl rfl (by simp) tk33 (fun _ => rfl) rfl rfl ?_
               refine aC_f 1 rfl (by kernel_rfl) true rfl rfl (fun _ => q_fieldAddr (off := 16) (by kernel_rfl) rfl) ?_
               refine aC_f 3 rfl (by kernel_rfl) true rfl rfl (fun _ => q_fieldAddr (off := 4) (by kernel_rfl) rfl) ?_
               refine aC_arms 2 [4, 7] (by kernel_rfl) (arms_cons ?_ (arms_cons ?_ (arms_cons ?_ arms_nil)))
               ·skip
                refine aC_arm 2 rfl rfl (Eff.x (Quiet.eff (q_load 1 tk3 rfl rfl rfl) rfl ?_))
                refine aC_st (by (try simp only [nO, nK, nL]); rfl) (by (try simp only [nM, nN]); rfl) (by (try simp only [keepH, nQ, nR, putB, place, Nat.reduceBEq, nA, if_true, if_false, reduceIte, nB, nC, nD, nE, nF, nG, nH, nI, Nat.reduceAdd, nJ, beq_self_eq_true, nK, nL, nM, nN]); rfl) ?_
                refine aC_arms 4 [7] (by kernel_rfl) (arms_cons ?_ (arms_cons ?_ arms_nil))
                ·skip
                 refine aC_arm 4 rfl rfl (Eff.x (Quiet.eff (q_load 4 tk3 rfl rfl rfl) rfl ?_))
                 refine aC_st (by (try simp only [nO, nK, nL]); rfl) (by (try simp only [nM, nN]); rfl) (by (try simp only [keepH, nQ, nR, putB, place, Nat.reduceBEq, nA, if_true, if_false, reduceIte, nB, nC, nD, nE, nF, nG, nH, nI, Nat.reduceAdd, nJ, beq_self_eq_true, nK, nL, nM, nN]); rfl) ?_
                 refine aC_f 5 rfl (by kernel_rfl) true rfl rfl (fun _ => q_add rfl rfl) ?_
                 refine aC_f 6 rfl (by kernel_rfl) true rfl rfl (fun _ => q_bld (l := [(0, .const (.int .i64 3)), (1, .tmp 115)]) (zs := [.int .i64 0, .int .i64 0]) (pl := [(0, 1), (1, 1)]) (by kernel_rfl) (by kernel_rfl) (by kernel_rfl) rfl rfl rfl) ?_
                 refine aC_arms 7 [] (by kernel_rfl) (arms_cons ?_ arms_nil)
                 refine aC_arm 7 rfl rfl (Eff.wild (q := false) ?_)
                 refine id (x_store 2 tk33 rfl rfl rfl rfl ?_)
                 refine aC_st (by (try simp only [nO, nK, nL]); rfl) (by (try simp only [nM, nN]); rfl) (by (try simp only [keepH, nQ, nR, putB, place, Nat.reduceBEq, nA, if_true, if_false, reduceIte, nB, nC, nD, nE, nF, nG, nH, nI, Nat.reduceAdd, nJ, beq_self_eq_true, nK, nL, nM, nN]); rfl) ?_
                 refine aC_arms 8 [] (by kernel_rfl) (arms_cons ?_ arms_nil)
                 refine aC_arm 8 rfl rfl (Eff.wild (q := false) ?_)
                 refine id (x_store 3 tk36 rfl rfl rfl rfl ?_)
                 refine aC_st (by (try simp only [nO, nK, nL]); rfl) (by (try simp only [nM, nN]); rfl) (by (try simp only [keepH, nQ, nR, putB, place, Nat.reduceBEq, nA, if_true, if_false, reduceIte, nB, nC, nD, nE, nF, nG, nH, nI, Nat.reduceAdd, nJ, beq_self_eq_true, nK, nL, nM, nN]); rfl) ?_
                 refine aC_nil (by kernel_rfl) ?_
                 refine thn_n (awp_ret (thn_r (blk_r (thn_r ?_))))
                 refine finR2 [] [0] rfl Tryz.results11 (rv_cell 2 tk33 rfl rfl rfl) (rv_cell 3 tk36 rfl rfl rfl) ?_ (.inr rfl)
                 first
                 | (rw [insO_1 M c i (by simp only [decide_eq_true_eq, decide_eq_false_iff_not, Bool.and_eq_true, Bool.or_eq_true] at *; omega)]; exact ⟨rfl, rfl, rfl⟩)
                 | (rw [insO_2 M c i (by simp only [decide_eq_true_eq, decide_eq_false_iff_not, Bool.and_eq_true, Bool.or_eq_true] at *; omega)]; exact ⟨rfl, rfl, rfl⟩)
                 | (rw [insO_30 M c i (by simp only [decide_eq_true_eq, decide_eq_false_iff_not, Bool.and_eq_true, Bool.or_eq_true] at *; omega)]; exact ⟨rfl, rfl, rfl⟩)
                 | (rw [insO_29 M c i (by simp only [decide_eq_true_eq, decide_eq_false_iff_not, Bool.and_eq_true, Bool.or_eq_true] at *; omega)]; exact ⟨rfl, rfl, rfl⟩)
                 | (rw [← hq]; unfold endO; rw [if_pos (by have h := ‹(!decide (q.2.1 = 0)) = false›; simpa using h)]; exact ⟨rfl, rfl, rfl⟩)
                 | (rw [← hq]; unfold endO; rw [if_neg (by have h := ‹(!decide (q.2.1 = 0)) = true›; simpa using h)]; exact ⟨rfl, rfl, rfl⟩)
                 | (have he : ((decide ((i.op : Int) = 24) || decide ((i.op : Int) = 25)) && emptyO M (w64 (c.pc + i.imm))) = true := by assumption
                    rw [Bool.and_eq_true, Bool.or_eq_true, decide_eq_true_eq, decide_eq_true_eq] at he
                    rw [insO_empty M c i (by have := he.1; omega) he.2]; exact ⟨rfl, rfl, rfl⟩)
                 | (trace_state; sorry)
                ·skip
                 refine aC_arm 7 rfl rfl (Eff.wild (q := false) ?_)
                 refine id (x_store 2 tk33 rfl rfl rfl rfl ?_)
                 refine aC_st (by (try simp only [nO, nK, nL]); rfl) (by (try simp only [nM, nN]); rfl) (by (try simp only [keepH, nQ, nR, putB, place, Nat.reduceBEq, nA, if_true, if_false, reduceIte, nB, nC, nD, nE, nF, nG, nH, nI, Nat.reduceAdd, nJ, beq_self_eq_true, nK, nL, nM, nN]); rfl) ?_
                 refine aC_box 4 4 rfl (by kernel_rfl) true rfl rfl (by simp) tk3 (fun _ => rfl) rfl rfl ?_
                 refine aC_f 5 rfl (by kernel_rfl) true rfl rfl (fun _ => q_add rfl rfl) ?_
                 refine aC_f 6 rfl (by kernel_rfl) true rfl rfl (fun _ => q_bld (l := [(0, .const (.int .i64 3)), (1, .tmp 115)]) (zs := [.int .i64 0, .int .i64 0]) (pl := [(0, 1), (1, 1)]) (by kernel_rfl) (by kernel_rfl) (by kernel_rfl) rfl rfl rfl) ?_
                 refine aC_arms 8 [] (by kernel_rfl) (arms_cons ?_ arms_nil)
                 refine aC_arm 8 rfl rfl (Eff.wild (q := false) ?_)
                 refine id (x_store 3 tk36 rfl rfl rfl rfl ?_)
                 refine aC_st (by (try simp only [nO, nK, nL]); rfl) (by (try simp only [nM, nN]); rfl) (by (try simp only [keepH, nQ, nR, putB, place, Nat.reduceBEq, nA, if_true, if_false, reduceIte, nB, nC, nD, nE, nF, nG, nH, nI, Nat.reduceAdd, nJ, beq_self_eq_true, nK, nL, nM, nN]); rfl) ?_
                 refine aC_nil (by kernel_rfl) ?_
                 refine thn_n (awp_ret (thn_r (blk_r (thn_r ?_))))
                 refine finR2 [] [0] rfl Tryz.results11 (rv_cell 2 tk33 rfl rfl rfl) (rv_cell 3 tk36 rfl rfl rfl) ?_ (.inr rfl)
                 first
                 | (rw [insO_1 M c i (by simp only [decide_eq_true_eq, decide_eq_false_iff_not, Bool.and_eq_true, Bool.or_eq_true] at *; omega)]; exact ⟨rfl, rfl, rfl⟩)
                 | (rw [insO_2 M c i (by simp only [decide_eq_true_eq, decide_eq_false_iff_not, Bool.and_eq_true, Bool.or_eq_true] at *; omega)]; exact ⟨rfl, rfl, rfl⟩)
                 | (rw [insO_30 M c i (by simp only [decide_eq_true_eq, decide_eq_false_iff_not, Bool.and_eq_true, Bool.or_eq_true] at *; omega)]; exact ⟨rfl, rfl, rfl⟩)
                 | (rw [insO_29 M c i (by simp only [decide_eq_true_eq, decide_eq_false_iff_not, Bool.and_eq_true, Bool.or_eq_true] at *; omega)]; exact ⟨rfl, rfl, rfl⟩)
                 | (rw [← hq]; unfold endO; rw [if_pos (by have h := ‹(!decide (q.2.1 = 0)) = false›; simpa using h)]; exact ⟨rfl, rfl, rfl⟩)
                 | (rw [← hq]; unfold endO; rw [if_neg (by have h := ‹(!decide (q.2.1 = 0)) = true›; simpa using h)]; exact ⟨rfl, rfl, rfl⟩)
                 | (have he : ((decide ((i.op : Int) = 24) || decide ((i.op : Int) = 25)) && emptyO M (w64 (c.pc + i.imm))) = true := by assumption
                    rw [Bool.and_eq_true, Bool.or_eq_true, decide_eq_true_eq, decide_eq_true_eq] at he
                    rw [insO_empty M c i (by have := he.1; omega) he.2]; exact ⟨rfl, rfl, rfl⟩)
                 | (trace_state; sorry)
               ·skip
                refine aC_arm 4 rfl rfl (Eff.x (Quiet.eff (q_load 4 tk3 rfl rfl rfl) rfl ?_))
                refine aC_st (by (try simp only [nO, nK, nL]); rfl) (by (try simp only [nM, nN]); rfl) (by (try simp only [keepH, nQ, nR, putB, place, Nat.reduceBEq, nA, if_true, if_false, reduceIte, nB, nC, nD, nE, nF, nG, nH, nI, Nat.reduceAdd, nJ, beq_self_eq_true, nK, nL, nM, nN]); rfl) ?_
                refine aC_arms 2 [7] (by kernel_rfl) (arms_cons ?_ (arms_cons ?_ arms_nil))
                ·skip
                 refine aC_arm 2 rfl rfl (Eff.x (Quiet.eff (q_load 1 tk3 rfl rfl rfl) rfl ?_))
                 refine aC_st (by (try simp only [nO, nK, nL]); rfl) (by (try simp only [nM, nN]); rfl) (by (try simp only [keepH, nQ, nR, putB, place, Nat.reduceBEq, nA, if_true, if_false, reduceIte, nB, nC, nD, nE, nF, nG, nH, nI, Nat.reduceAdd, nJ, beq_self_eq_true, nK, nL, nM, nN]); rfl) ?_
                 refine aC_f 5 rfl (by kernel_rfl) true rfl rfl (fun _ => q_add rfl rfl) ?_
                 refine aC_f 6 rfl (by kernel_rfl) true rfl rfl (fun _ => q_bld (l := [(0, .const (.int .i64 3)), (1, .tmp 115)]) (zs := [.int .i64 0, .int .i64 0]) (pl := [(0, 1), (1, 1)]) (by kernel_rfl) (by kernel_rfl) (by kernel_rfl) rfl rfl rfl) ?_
                 refine aC_arms 7 [] (by kernel_rfl) (arms_cons ?_ arms_nil)
                 refine aC_arm 7 rfl rfl (Eff.wild (q := false) ?_)
                 refine id (x_store 2 tk33 rfl rfl rfl rfl ?_)
                 refine aC_st (by (try simp only [nO, nK, nL]); rfl) (by (try simp only [nM, nN]); rfl) (by (try simp only [keepH, nQ, nR, putB, place, Nat.reduceBEq, nA, if_true, if_false, reduceIte, nB, nC, nD, nE, nF, nG, nH, nI, Nat.reduceAdd, nJ, beq_self_eq_true, nK, nL, nM, nN]); rfl) ?_
                 refine aC_arms 8 [] (by kernel_rfl) (arms_cons ?_ arms_nil)
                 refine aC_arm 8 rfl rfl (Eff.wild (q := false) ?_)
                 refine id (x_store 3 tk36 rfl rfl rfl rfl ?_)
                 refine aC_st (by (try simp only [nO, nK, nL]); rfl) (by (try simp only [nM, nN]); rfl) (by (try simp only [keepH, nQ, nR, putB, place, Nat.reduceBEq, nA, if_true, if_false, reduceIte, nB, nC, nD, nE, nF, nG, nH, nI, Nat.reduceAdd, nJ, beq_self_eq_true, nK, nL, nM, nN]); rfl) ?_
                 refine aC_nil (by kernel_rfl) ?_
                 refine thn_n (awp_ret (thn_r (blk_r (thn_r ?_))))
                 refine finR2 [] [0] rfl Tryz.results11 (rv_cell 2 tk33 rfl rfl rfl) (rv_cell 3 tk36 rfl rfl rfl) ?_ (.inr rfl)
                 first
                 | (rw [insO_1 M c i (by simp only [decide_eq_true_eq, decide_eq_false_iff_not, Bool.and_eq_true, Bool.or_eq_true] at *; omega)]; exact ⟨rfl, rfl, rfl⟩)
                 | (rw [insO_2 M c i (by simp only [decide_eq_true_eq, decide_eq_false_iff_not, Bool.and_eq_true, Bool.or_eq_true] at *; omega)]; exact ⟨rfl, rfl, rfl⟩)
                 | (rw [insO_30 M c i (by simp only [decide_eq_true_eq, decide_eq_false_iff_not, Bool.and_eq_true, Bool.or_eq_true] at *; omega)]; exact ⟨rfl, rfl, rfl⟩)
                 | (rw [insO_29 M c i (by simp only [decide_eq_true_eq, decide_eq_false_iff_not, Bool.and_eq_true, Bool.or_eq_true] at *; omega)]; exact ⟨rfl, rfl, rfl⟩)
                 | (rw [← hq]; unfold endO; rw [if_pos (by have h := ‹(!decide (q.2.1 = 0)) = false›; simpa using h)]; exact ⟨rfl, rfl, rfl⟩)
                 | (rw [← hq]; unfold endO; rw [if_neg (by have h := ‹(!decide (q.2.1 = 0)) = true›; simpa using h)]; exact ⟨rfl, rfl, rfl⟩)
                 | (have he : ((decide ((i.op : Int) = 24) || decide ((i.op : Int) = 25)) && emptyO M (w64 (c.pc + i.imm))) = true := by assumption
                    rw [Bool.and_eq_true, Bool.or_eq_true, decide_eq_true_eq, decide_eq_true_eq] at he
                    rw [insO_empty M c i (by have := he.1; omega) he.2]; exact ⟨rfl, rfl, rfl⟩)
                 | (trace_state; sorry)
                ·skip
                 refine aC_arm 7 rfl rfl (Eff.wild (q := false) ?_)
                 refine id (x_store 2 tk33 rfl rfl rfl rfl ?_)
                 refine aC_st (by (try simp only [nO, nK, nL]); rfl) (by (try simp only [nM, nN]); rfl) (by (try simp only [keepH, nQ, nR, putB, place, Nat.reduceBEq, nA, if_true, if_false, reduceIte, nB, nC, nD, nE, nF, nG, nH, nI, Nat.reduceAdd, nJ, beq_self_eq_true, nK, nL, nM, nN]); rfl) ?_
                 refine aC_box 2 1 rfl (by kernel_rfl) true rfl rfl (by simp) tk3 (fun _ => rfl) rfl rfl ?_
                 refine aC_f 5 rfl (by kernel_rfl) true rfl rfl (fun _ => q_add rfl rfl) ?_
                 refine aC_f 6 rfl (by kernel_rfl) true rfl rfl (fun _ => q_bld (l := [(0, .const (.int .i64 3)), (1, .tmp 115)]) (zs := [.int .i64 0, .int .i64 0]) (pl := [(0, 1), (1, 1)]) (by kernel_rfl) (by kernel_rfl) (by kernel_rfl) rfl rfl rfl) ?_
                 refine aC_arms 8 [] (by kernel_rfl) (arms_cons ?_ arms_nil)
                 refine aC_arm 8 rfl rfl (Eff.wild (q := false) ?_)
                 refine id (x_store 3 tk36 rfl rfl rfl rfl ?_)
                 refine aC_st (by (try simp only [nO, nK, nL]); rfl) (by (try simp only [nM, nN]); rfl) (by (try simp only [keepH, nQ, nR, putB, place, Nat.reduceBEq, nA, if_true, if_false, reduceIte, nB, nC, nD, nE, nF, nG, nH, nI, Nat.reduceAdd, nJ, beq_self_eq_true, nK, nL, nM, nN]); rfl) ?_
                 refine aC_nil (by kernel_rfl) ?_
                 refine thn_n (awp_ret (thn_r (blk_r (thn_r ?_))))
                 refine finR2 [] [0] rfl Tryz.results11 (rv_cell 2 tk33 rfl rfl rfl) (rv_cell 3 tk36 rfl rfl rfl) ?_ (.inr rfl)
                 first
                 | (rw [insO_1 M c i (by simp only [decide_eq_true_eq, decide_eq_false_iff_not, Bool.and_eq_true, Bool.or_eq_true] at *; omega)]; exact ⟨rfl, rfl, rfl⟩)
                 | (rw [insO_2 M c i (by simp only [decide_eq_true_eq, decide_eq_false_iff_not, Bool.and_eq_true, Bool.or_eq_true] at *; omega)]; exact ⟨rfl, rfl, rfl⟩)
                 | (rw [insO_30 M c i (by simp only [decide_eq_true_eq, decide_eq_false_iff_not, Bool.and_eq_true, Bool.or_eq_true] at *; omega)]; exact ⟨rfl, rfl, rfl⟩)
                 | (rw [insO_29 M c i (by simp only [decide_eq_true_eq, decide_eq_false_iff_not, Bool.and_eq_true, Bool.or_eq_true] at *; omega)]; exact ⟨rfl, rfl, rfl⟩)
                 | (rw [← hq]; unfold endO; rw [if_pos (by have h := ‹(!decide (q.2.1 = 0)) = false›; simpa using h)]; exact ⟨rfl, rfl, rfl⟩)
                 | (rw [← hq]; unfold endO; rw [if_neg (by have h := ‹(!decide (q.2.1 = 0)) = true›; simpa using h)]; exact ⟨rfl, rfl, rfl⟩)
                 | (have he : ((decide ((i.op : Int) = 24) || decide ((i.op : Int) = 25)) && emptyO M (w64 (c.pc + i.imm))) = true := by assumption
                    rw [Bool.and_eq_true, Bool.or_eq_true, decide_eq_true_eq, decide_eq_true_eq] at he
                    rw [insO_empty M c i (by have := he.1; omega) he.2]; exact ⟨rfl, rfl, rfl⟩)
                 | (trace_state; sorry)
               ·skip
                refine aC_arm 7 rfl rfl (Eff.wild (q := false) ?_)
                refine id (x_store 2 tk33 rfl rfl rfl rfl ?_)
                refine aC_st (by (try simp only [nO, nK, nL]); rfl) (by (try simp only [nM, nN]); rfl) (by (try simp only [keepH, nQ, nR, putB, place, Nat.reduceBEq, nA, if_true, if_false, reduceIte, nB, nC, nD, nE, nF, nG, nH, nI, Nat.reduceAdd, nJ, beq_self_eq_true, nK, nL, nM, nN]); rfl) ?_
                refine aC_box 2 1 rfl (by kernel_rfl) true rfl rfl (by simp) tk3 (fun _ => rfl) rfl rfl ?_
                refine aC_box 4 4 rfl (by kernel_rfl) true rfl rfl (by simp) tk3 (fun _ => rfl) rfl rfl ?_
                refine aC_f 5 rfl (by kernel_rfl) true rfl rfl (fun _ => q_add rfl rfl) ?_
                refine aC_f 6 rfl (by kernel_rfl) true rfl rfl (fun _ => q_bld (l := [(0, .const (.int .i64 3)), (1, .tmp 115)]) (zs := [.int .i64 0, .int .i64 0]) (pl := [(0, 1), (1, 1)]) (by kernel_rfl) (by kernel_rfl) (by kernel_rfl) rfl rfl rfl) ?_
                refine aC_arms 8 [] (by kernel_rfl) (arms_cons ?_ arms_nil)
                refine aC_arm 8 rfl rfl (Eff.wild (q := false) ?_)
                refine id (x_store 3 tk36 rfl rfl rfl rfl ?_)
                refine aC_st (by (try simp only [nO, nK, nL]); rfl) (by (try simp only [nM, nN]); rfl) (by (try simp only [keepH, nQ, nR, putB, place, Nat.reduceBEq, nA, if_true, if_false, reduceIte, nB, nC, nD, nE, nF, nG, nH, nI, Nat.reduceAdd, nJ, beq_self_eq_true, nK, nL, nM, nN]); rfl) ?_
                refine aC_nil (by kernel_rfl) ?_
                refine thn_n (awp_ret (thn_r (blk_r (thn_r ?_))))
                refine finR2 [] [0] rfl Tryz.results11 (rv_cell 2 tk33 rfl rfl rfl) (rv_cell 3 tk36 rfl rfl rfl) ?_ (.inr rfl)
                first
                | (rw [insO_1 M c i (by simp only [decide_eq_true_eq, decide_eq_false_iff_not, Bool.and_eq_true, Bool.or_eq_true] at *; omega)]; exact ⟨rfl, rfl, rfl⟩)
                | (rw [insO_2 M c i (by simp only [decide_eq_true_eq, decide_eq_false_iff_not, Bool.and_eq_true, Bool.or_eq_true] at *; omega)]; exact ⟨rfl, rfl, rfl⟩)
                | (rw [insO_30 M c i (by simp only [decide_eq_true_eq, decide_eq_false_iff_not, Bool.and_eq_true, Bool.or_eq_true] at *; omega)]; exact ⟨rfl, rfl, rfl⟩)
                | (rw [insO_29 M c i (by simp only [decide_eq_true_eq, decide_eq_false_iff_not, Bool.and_eq_true, Bool.or_eq_true] at *; omega)]; exact ⟨rfl, rfl, rfl⟩)
                | (rw [← hq]; unfold endO; rw [if_pos (by have h := ‹(!decide (q.2.1 = 0)) = false›; simpa using h)]; exact ⟨rfl, rfl, rfl⟩)
                | (rw [← hq]; unfold endO; rw [if_neg (by have h := ‹(!decide (q.2.1 = 0)) = true›; simpa using h)]; exact ⟨rfl, rfl, rfl⟩)
                | (have he : ((decide ((i.op : Int) = 24) || decide ((i.op : Int) = 25)) && emptyO M (w64 (c.pc + i.imm))) = true := by assumption
                   rw [Bool.and_eq_true, Bool.or_eq_true, decide_eq_true_eq, decide_eq_true_eq] at he
                   rw [insO_empty M c i (by have := he.1; omega) he.2]; exact ⟨rfl, rfl, rfl⟩)
                | (trace_state; sorry)
              ·skip
               refine awp_skip (thn_n (awp_region (aL_s true rfl rfl (fun _ => q_move rfl) (aL_s true rfl rfl (fun _ => q_load 1 tk33 rfl rfl rfl) (aL_s true rfl rfl (fun _ => q_load 4 tk46 rfl rfl rfl) ?_)))))
               refine aL_eff (q := false) rfl (e_call [] [0] (by kernel_rfl) rfl rfl rfl rfl (flow29_fn p M c i HC.out hri (hbf.1 h21).1 (hbf.1 h21).2) ?_)
               rintro v ps' hp' ⟨rfl, rfl, rfl⟩
               refine aL_st (by (try simp only [nM, nN]); rfl) (by (try simp only [putB, place, Nat.reduceBEq, nA, if_true, if_false, reduceIte, nB, nC, nD, nE, nF, nG, nH, nI, Nat.reduceAdd, nJ, beq_self_eq_true, nK, nL, nM, nN]); rfl) ?_
               refine aL_s true rfl rfl (fun _ => q_move rfl) (aL_s true rfl rfl (fun _ => q_extract rfl rfl) (aL_s true rfl rfl (fun _ => q_extract rfl rfl) ?_))
               refine aL_eff rfl (x_store 5 tk33 rfl rfl rfl rfl ?_)
               refine aL_hp (by simp only [nK, nL]; rfl) ?_
               refine aL_s true rfl rfl (fun _ => q_assign rfl) (aL_nil (blk_n (thn_n ?_)))
               first
               | exact ⟨[0, 3, 4, 5, 7, 8], [], [0, 1, 2, 3, 5], ⟨memO M c i i.op, insO_mem M c i (hbm.1 h13)⟩, rfl, rfl⟩
               | exact ⟨[0, 3, 4, 5, 7, 8], [], [0, 1, 2, 3, 5], ⟨flowO M c i i.op, insO_flow M c i (hbf.1 h21) (flow_no M c i ‹((decide ((i.op : Int) = 24) || decide ((i.op : Int) = 25)) && emptyO M (w64 (c.pc + i.imm))) = false›)⟩, rfl, rfl⟩
               | exact ⟨[0, 3, 4, 5, 7, 8], [], [0, 1, 2, 3, 5], ⟨(nxO i c, 0, M), insO_rest M c i (by simp only [decide_eq_true_eq, decide_eq_false_iff_not, Bool.and_eq_true, Bool.or_eq_true] at *; omega) (by simp only [decide_eq_true_eq, decide_eq_false_iff_not, Bool.and_eq_true, Bool.or_eq_true] at *; omega) (by simp only [decide_eq_true_eq, decide_eq_false_iff_not, Bool.and_eq_true, Bool.or_eq_true] at *; omega) (by simp only [decide_eq_true_eq, decide_eq_false_iff_not, Bool.and_eq_true, Bool.or_eq_true] at *; omega) (fun h => Bool.noConfusion ((hbm.2 h).symm.trans h13)) (fun h => Bool.noConfusion ((hbf.2 h).symm.trans h21))⟩, rfl, rfl⟩
             ·skip
              refine awp_skip (blk_n (thn_n ?_))
              first
              | exact ⟨[0, 3, 4, 5, 7, 8], [], [0, 1, 2, 3, 5], ⟨memO M c i i.op, insO_mem M c i (hbm.1 h13)⟩, rfl, rfl⟩
              | exact ⟨[0, 3, 4, 5, 7, 8], [], [0, 1, 2, 3, 5], ⟨flowO M c i i.op, insO_flow M c i (hbf.1 h21) (flow_no M c i ‹((decide ((i.op : Int) = 24) || decide ((i.op : Int) = 25)) && emptyO M (w64 (c.pc + i.imm))) = false›)⟩, rfl, rfl⟩
              | exact ⟨[0, 3, 4, 5, 7, 8], [], [0, 1, 2, 3, 5], ⟨(nxO i c, 0, M), insO_rest M c i (by simp only [decide_eq_true_eq, decide_eq_false_iff_not, Bool.and_eq_true, Bool.or_eq_true] at *; omega) (by simp only [decide_eq_true_eq, decide_eq_false_iff_not, Bool.and_eq_true, Bool.or_eq_true] at *; omega) (by simp only [decide_eq_true_eq, decide_eq_false_iff_not, Bool.and_eq_true, Bool.or_eq_true] at *; omega) (by simp only [decide_eq_true_eq, decide_eq_false_iff_not, Bool.and_eq_true, Bool.or_eq_true] at *; omega) (fun h => Bool.noConfusion ((hbm.2 h).symm.trans h13)) (fun h => Bool.noConfusion ((hbf.2 h).symm.trans h21))⟩, rfl, rfl⟩
     ·skip
      rintro ⟨q, hq⟩
      dsimp only
      refine awp_seq (awp_seq (awp_region (aL_s true rfl rfl (fun _ => q_move rfl) (aL_s true rfl rfl (fun _ => q_neq rfl rfl) (aL_nil (thn_n ?_))))))
      refine awp_cond _ rfl (fun h23 => ?_) (fun h23 => ?_)
      ·skip
       refine awp_seq ?_
       refine awp_drawnC [2, 3] [2, 3] [b0_0] (by kernel_rfl) ?_
       show aC _ _ _ _ _ _ _ 4 #[false, false, false, false] _
       refine aC_box 0 1 rfl (by kernel_rfl) true rfl rfl (by simp) tk33 (fun _ => rfl) rfl rfl ?_
       refine aC_f 1 rfl (by kernel_rfl) true rfl rfl (fun _ => q_call (by kernel_rfl) rfl (fun w S fp hst => (fault_fn _).quiet0 hst)) ?_
       refine aC_arms 2 [] (by kernel_rfl) (arms_cons ?_ arms_nil)
       refine aC_arm 2 rfl rfl (Eff.wild (q := false) ?_)
       refine id (x_store 2 tk33 rfl rfl rfl rfl ?_)
       refine aC_st (by (try simp only [nO, nK, nL]); rfl) (by (try simp only [nM, nN]); rfl) (by (try simp only [keepH, nQ, nR, putB, place, Nat.reduceBEq, nA, if_true, if_false, reduceIte, nB, nC, nD, nE, nF, nG, nH, nI, Nat.reduceAdd, nJ, beq_self_eq_true, nK, nL, nM, nN]); rfl) ?_
       refine aC_arms 3 [] (by kernel_rfl) (arms_cons ?_ arms_nil)
       refine aC_arm 3 rfl rfl (Eff.wild (q := false) ?_)
       refine id (x_store 3 tk36 rfl rfl rfl rfl ?_)
       refine aC_st (by (try simp only [nO, nK, nL]); rfl) (by (try simp only [nM, nN]); rfl) (by (try simp only [keepH, nQ, nR, putB, place, Nat.reduceBEq, nA, if_true, if_false, reduceIte, nB, nC, nD, nE, nF, nG, nH, nI, Nat.reduceAdd, nJ, beq_self_eq_true, nK, nL, nM, nN]); rfl) ?_
       refine aC_nil (by kernel_rfl) ?_
       refine thn_n (awp_ret (thn_r ?_))
       refine finR2 [] [0] rfl Tryz.results11 (rv_cell 2 tk33 rfl rfl rfl) (rv_cell 3 tk36 rfl rfl rfl) ?_ (.inr rfl)
       first
       | (rw [insO_1 M c i (by simp only [decide_eq_true_eq, decide_eq_false_iff_not, Bool.and_eq_true, Bool.or_eq_true] at *; omega)]; exact ⟨rfl, rfl, rfl⟩)
       | (rw [insO_2 M c i (by simp only [decide_eq_true_eq, decide_eq_false_iff_not, Bool.and_eq_true, Bool.or_eq_true] at *; omega)]; exact ⟨rfl, rfl, rfl⟩)
       | (rw [insO_30 M c i (by simp only [decide_eq_true_eq, decide_eq_false_iff_not, Bool.and_eq_true, Bool.or_eq_true] at *; omega)]; exact ⟨rfl, rfl, rfl⟩)
       | (rw [insO_29 M c i (by simp only [decide_eq_true_eq, decide_eq_false_iff_not, Bool.and_eq_true, Bool.or_eq_true] at *; omega)]; exact ⟨rfl, rfl, rfl⟩)
       | (rw [← hq]; unfold endO; rw [if_pos (by have h := ‹(!decide (q.2.1 = 0)) = false›; simpa using h)]; exact ⟨rfl, rfl, rfl⟩)
       | (rw [← hq]; unfold endO; rw [if_neg (by have h := ‹(!decide (q.2.1 = 0)) = true›; simpa using h)]; exact ⟨rfl, rfl, rfl⟩)
       | (have he : ((decide ((i.op : Int) = 24) || decide ((i.op : Int) = 25)) && emptyO M (w64 (c.pc + i.imm))) = true := by assumption
          rw [Bool.and_eq_true, Bool.or_eq_true, decide_eq_true_eq, decide_eq_true_eq] at he
          rw [insO_empty M c i (by have := he.1; omega) he.2]; exact ⟨rfl, rfl, rfl⟩)
       | (trace_state; sorry)
      ·skip
       refine awp_skip (thn_n (awp_seq (awp_region (aL_s true rfl rfl (fun _ => q_load 4 tk33 rfl rfl rfl) ?_))))
       refine aL_s true rfl rfl (fun _ => q_bld (l := []) (zs := [.int .i64 0, .int .i64 0]) (pl := [(0, 1), (1, 1)]) (by kernel_rfl) (by kernel_rfl) (by kernel_rfl) rfl rfl rfl) ?_
       refine aL_eff rfl (x_store 2 tk33 rfl rfl rfl rfl ?_)
       refine aL_hp (by simp only [nK, nL]; rfl) ?_
       refine aL_eff rfl (x_store 3 tk36 rfl rfl rfl rfl ?_)
       refine aL_hp (by simp only [nK, nL]; rfl) ?_
       refine aL_nil (thn_n (awp_ret ?_))
       refine finR2 [] [0] rfl Tryz.results11 (rv_cell 2 tk33 rfl rfl rfl) (rv_cell 3 tk36 rfl rfl rfl) ?_ (.inr rfl)
       first
       | (rw [insO_1 M c i (by simp only [decide_eq_true_eq, decide_eq_false_iff_not, Bool.and_eq_true, Bool.or_eq_true] at *; omega)]; exact ⟨rfl, rfl, rfl⟩)
       | (rw [insO_2 M c i (by simp only [decide_eq_true_eq, decide_eq_false_iff_not, Bool.and_eq_true, Bool.or_eq_true] at *; omega)]; exact ⟨rfl, rfl, rfl⟩)
       | (rw [insO_30 M c i (by simp only [decide_eq_true_eq, decide_eq_false_iff_not, Bool.and_eq_true, Bool.or_eq_true] at *; omega)]; exact ⟨rfl, rfl, rfl⟩)
       | (rw [insO_29 M c i (by simp only [decide_eq_true_eq, decide_eq_false_iff_not, Bool.and_eq_true, Bool.or_eq_true] at *; omega)]; exact ⟨rfl, rfl, rfl⟩)
       | (rw [← hq]; unfold endO; rw [if_pos (by have h := ‹(!decide (q.2.1 = 0)) = false›; simpa using h)]; exact ⟨rfl, rfl, rfl⟩)
       | (rw [← hq]; unfold endO; rw [if_neg (by have h := ‹(!decide (q.2.1 = 0)) = true›; simpa using h)]; exact ⟨rfl, rfl, rfl⟩)
       | (have he : ((decide ((i.op : Int) = 24) || decide ((i.op : Int) = 25)) && emptyO M (w64 (c.pc + i.imm))) = true := by assumption
          rw [Bool.and_eq_true, Bool.or_eq_true, decide_eq_true_eq, decide_eq_true_eq] at he
          rw [insO_empty M c i (by have := he.1; omega) he.2]; exact ⟨rfl, rfl, rfl⟩)
       | (trace_state; sorry)
end Go.Proofs.YtpgcoceggacplaaGreatDoor
namespace Go.Lp
open Go.RowKit Go.Proofs.YtpgcoceggacplaaGreatDoor Go.Sy
theorem eqInts_refl (xs : Array Value) (l : List Nat) : eqInts xs xs l = true := by
  unfold eqInts
  refine List.all_eq_true.2 fun o _ => ?_
  cases intAt xs o with
  | none => rfl
  | some a => simp
theorem neq_same (xs : Array Value) (l : List Nat) : (.bool (!eqInts xs xs l) : Value) = .bool false := by rw [eqInts_refl]; rfl
/-- the memory still holds the code -/
structure CodeOk (x : Stg) (M : Mem) : Prop where
  inv : MInv M
  code : 1 ≤ x.code.size → CodeIn M x.code.data.toList
theorem good_start {x : Stg} (hf : fewS x = true) : CodeOk x (memS x) := ⟨memS_inv hf, memS_code hf⟩
theorem CodeOk.step {x : Stg} {M : Mem} (h : CodeOk x M) (c : Cpu) : CodeOk x (stepM M c).2.2 :=
  ⟨memAs_inv h.inv (step_mem M c), fun h0 => code_kept h.inv (h.code h0) (step_mem M c)⟩
theorem CodeOk.read {x : Stg} {M : Mem} (h : CodeOk x M) : (readM M 512 x.code.size).1 = x.code.data.toList := by
  have hl : x.code.data.toList.length = x.code.size := by simp
  by_cases h0 : 1 ≤ x.code.size
  · have hr := (code_read h.inv (h.code h0) 0 x.code.size h0 (by omega)).1
    have : readM M 512 x.code.size = readM M (512 + ((0 : Nat) : Int)) x.code.size := rfl
    rw [this, hr]; show List.take _ (List.drop 0 _) = _; rw [List.drop_zero, List.take_of_length_le (by omega)]
  · have e0 : x.code.data.toList = [] := List.eq_nil_of_length_eq_zero (by omega)
    have e1 : x.code.size = 0 := by omega
    rw [e0, e1]
    rfl
theorem CodeOk.same {x : Stg} {M : Mem} (h : CodeOk x M) : (.bool (!((ofBytes (bytesM M x)).toList == ((x.code ++ ofBytes (readM M 1024 x.data.size).1) ++ ofBytes (readM M 2048 x.stack).1).toList)) : Value) = .bool false := by
  have e : ofBytes (bytesM M x) = (x.code ++ ofBytes (readM M 1024 x.data.size).1) ++ ofBytes (readM M 2048 x.stack).1 := by
    unfold bytesM ofBytes
    rw [h.read]
    apply ByteArray.ext
    simp
  rw [e]; simp
end Go.Lp
namespace Go.Sy
theorem Quiet.cast {P : Program} {n : Nat} {s : Sta} {o : Oper} {v v' : Value} (h : Quiet P n o s v) (e : v = v') : Quiet P n o s v' := e ▸ h
end Go.Sy
namespace Go.Proofs.YtpgcoceggacplaaGreatDoor
open Go.RowKit Go.Lp Go.Sy
theorem right28_fn (A : Ar) (h : I64 A.at_ ∧ I64 A.size) : Con Tryz.prog 42 [.agg A.vals.toArray] [] [] fun r _ _ => r = .bool (rightA A) := by
  unfold I64 at h
  have h0 : A.at_ < 0 ∨ A.at_.tmod 256 = A.at_ % 256 := by
    by_cases hz : 0 ≤ A.at_
    · exact .inr (Int.tmod_eq_emod_of_nonneg hz)
    · exact .inl (by omega)
  refine Con.enter Tryz.func42 rfl (by simp [Tryz.ntmps42]) ?_
  show awp _ _ _ _ ⟨[(0, true, _)], _, _⟩
  refine awp_seq (awp_region ?_)
  refine aL_eff (q := true) rfl (e_box rfl rfl rfl (fun b0_0 => ?_))
  simp only [nM, nN]
  refine aL_s true rfl rfl (fun _ => q_assign rfl) (aL_nil (thn_n (awp_seq (awp_seq (awp_region ?_)))))
  refine aL_s true rfl rfl (fun _ => q_fieldAddr (off := 0) (by kernel_rfl) rfl) ?_
  refine aL_s true rfl rfl (fun _ => q_load 0 tk3 rfl rfl rfl) (aL_s true rfl rfl (fun _ => q_lss rfl rfl) (aL_s true rfl rfl (fun _ => q_move rfl) ?_))
  refine aL_s _ rfl rfl (fun hc => q_fieldAddr (off := 0) (by kernel_rfl) rfl) ?_
  refine aL_s _ rfl rfl (fun hc => q_load 0 tk3 (ev_yes rfl hc) rfl rfl) ?_
  refine aL_s _ rfl rfl (fun hc => q_rem (ev_yes rfl hc) rfl (by decide)) ?_
  refine aL_s _ rfl rfl (fun hc => q_neq (ev_yes rfl hc) rfl) (aL_s true rfl rfl (fun _ => q_or rfl rfl (fun h => gf rfl h)) (aL_s true rfl rfl (fun _ => q_move rfl) ?_))
  refine aL_s _ rfl rfl (fun hc => q_fieldAddr (off := 0) (by kernel_rfl) rfl) ?_
  refine aL_s _ rfl rfl (fun hc => q_load 0 tk3 (ev_yes rfl hc) rfl rfl) (aL_s _ rfl rfl (fun hc => q_geq (ev_yes rfl hc) rfl) (aL_s true rfl rfl (fun _ => q_or rfl rfl (fun h => gf rfl h)) (aL_s true rfl rfl (fun _ => q_move rfl) ?_)))
  refine aL_s _ rfl rfl (fun hc => q_fieldAddr (off := 1) (by kernel_rfl) rfl) ?_
  refine aL_s _ rfl rfl (fun hc => q_load 0 tk3 (ev_yes rfl hc) rfl rfl) (aL_s _ rfl rfl (fun hc => q_lss (ev_yes rfl hc) rfl) (aL_s true rfl rfl (fun _ => q_or rfl rfl (fun h => gf rfl h)) (aL_s true rfl rfl (fun _ => q_move rfl) ?_)))
  refine aL_s _ rfl rfl (fun hc => q_fieldAddr (off := 1) (by kernel_rfl) rfl) ?_
  refine aL_s _ rfl rfl (fun hc => q_load 0 tk3 (ev_yes rfl hc) rfl rfl) (aL_s _ rfl rfl (fun hc => q_gtr (ev_yes rfl hc) rfl) (aL_s true rfl rfl (fun _ => q_or rfl rfl (fun h => gf rfl h)) (aL_s true rfl rfl (fun _ => q_move rfl) ?_)))
  refine aL_s _ rfl rfl (fun hc => q_fieldAddr (off := 0) (by kernel_rfl) rfl) ?_
  refine aL_s _ rfl rfl (fun hc => q_load 0 tk3 (ev_yes rfl hc) rfl rfl) ?_
  refine aL_s _ rfl rfl (fun hc => q_fieldAddr (off := 1) (by kernel_rfl) rfl) ?_
  refine aL_s _ rfl rfl (fun hc => q_load 0 tk3 (ev_yes rfl hc) rfl rfl) ?_
  refine aL_s _ rfl rfl (fun hc => q_addi (ev_yes rfl hc) (ev_yes rfl hc) (by (first | omega | (simp at hc; omega)))) ?_
  refine aL_s _ rfl rfl (fun hc => q_gtr (ev_yes rfl hc) rfl) (aL_s true rfl rfl (fun _ => q_or rfl rfl (fun h => gf rfl h)) (aL_nil (thn_n ?_)))
  refine awp_cond _ rfl (fun h1 => ?_) (fun h1 => ?_)
  ·skip
   refine awp_seq (awp_region (aL_s true rfl rfl (fun _ => q_assign rfl) (aL_nil (thn_n (awp_ret (thn_r ?_))))))
   refine fin1 [] [] rfl Tryz.results42 rfl ?_ (.inr rfl)
   refine congrArg Value.bool ?_
   symm; unfold rightA; rw [Bool.eq_false_iff]; intro hr
   simp at h1 hr; omega
  ·skip
   refine awp_skip (thn_n (awp_seq (awp_region ?_)))
   refine aL_s true rfl rfl (fun _ => q_fieldAddr (off := 2) (by kernel_rfl) rfl) ?_
   refine aL_s true rfl rfl (fun _ => q_load 0 tk3 rfl rfl rfl) (aL_s true rfl rfl (fun _ => q_geq rfl rfl) (aL_s true rfl rfl (fun _ => q_move rfl) ?_))
   refine aL_s _ rfl rfl (fun hc => q_fieldAddr (off := 2) (by kernel_rfl) rfl) ?_
   refine aL_s _ rfl rfl (fun hc => q_load 0 tk3 (ev_yes rfl hc) rfl rfl) (aL_s _ rfl rfl (fun hc => q_lss (ev_yes rfl hc) rfl) (aL_s true rfl rfl (fun _ => q_and rfl rfl (fun h => gt rfl h)) (aL_s true rfl rfl (fun _ => q_assign rfl) (aL_nil (thn_n (awp_ret ?_))))))
   refine fin1 [] [] rfl Tryz.results42 rfl ?_ (.inr rfl)
   refine congrArg Value.bool ?_
   unfold rightA; rw [Bool.eq_iff_iff]
   simp at h1 ⊢; omega
theorem model_fn (x : Stg) (ad : Option Addr) (c : Nat) (hc : x.code.size ≤ 400) (hd : x.data.size ≤ 400) (hs : I64 x.stack) : Con Tryz.prog 8 [.agg (stgV x ad c).toArray] [] [] fun r ps' hp' => ps' = [] ∧ ∃ q, r = .pointer (some ⟨q, 0, none⟩) ∧ hp' = [RfR q (memS x)] := by
  have i5 : I64 512 := by unfold I64; omega
  have i10 : I64 1024 := by unfold I64; omega
  have i20 : I64 2048 := by unfold I64; omega
  refine Con.enter Tryz.func8 rfl (by simp [Tryz.ntmps8]) ?_
  show awp _ _ _ _ ⟨[(0, true, _)], _, _⟩
  refine awp_seq (awp_region ?_)
  refine aL_eff (q := true) rfl (x_box rfl rfl rfl (fun b0_0 => ?_))
  refine aL_hp (by (try simp only [nM, nN]); rfl) ?_
  refine aL_s true rfl rfl (fun _ => q_assign rfl) (aL_nil (thn_n (awp_seq (awp_region ?_))))
  refine aL_eff (q := true) rfl (e_call [] [] (by kernel_rfl) rfl rfl rfl rfl (new28_fn) ?_)
  rintro v ps' hp' ⟨rfl, q, rfl, rfl⟩
  refine aL_st (by (try simp only [nM, nN]); rfl) (by (try simp only [putB, place, Nat.reduceBEq, nA, if_true, if_false, reduceIte, nB, nC, nD, nE, nF, nG, nH, nI, Nat.reduceAdd, nJ, beq_self_eq_true, nK, nL, nM, nN]); rfl) ?_
  refine aL_s true rfl rfl (fun _ => q_assign rfl) (aL_nil (thn_n (awp_seq (awp_region (aL_s true rfl rfl (fun _ => q_move rfl) ?_)))))
  refine aL_s true rfl rfl (fun _ => q_fieldAddr (off := 0) (by kernel_rfl) rfl) ?_
  refine aL_s true rfl rfl (fun _ => q_load 0 tk9 rfl rfl rfl) (aL_s true rfl rfl (fun _ => q_lenStr Tryz.underlying9 rfl) ?_)
  refine aL_s true rfl rfl (fun _ => q_bld (l := [(0, .const (.int .i64 512)), (1, .tmp 8), (2, .const (.int .i64 0))]) (zs := [.int .i64 0, .int .i64 0, .int .i64 0, .int .i64 0, .int .i64 0]) (pl := [(0, 1), (1, 1), (2, 1), (3, 1), (4, 1)]) (by kernel_rfl) (by kernel_rfl) (by kernel_rfl) rfl rfl rfl) ?_
  refine aL_eff (q := false) rfl (e_call [] [1] (by kernel_rfl) rfl rfl rfl rfl (map28_fn q [] ⟨512, x.code.size, 0, 0, 0⟩ (right28_fn _ ⟨i5, by show I64 (x.code.size : Int); unfold I64; omega⟩)) ?_)
  rintro v ps' hp' ⟨rfl, rfl, rfl⟩
  refine aL_st (by (try simp only [nM, nN]); rfl) (by (try simp only [putB, place, Nat.reduceBEq, nA, if_true, if_false, reduceIte, nB, nC, nD, nE, nF, nG, nH, nI, Nat.reduceAdd, nJ, beq_self_eq_true, nK, nL, nM, nN]); rfl) ?_
  refine aL_nil (thn_n (awp_seq (awp_region (aL_s true rfl rfl (fun _ => q_move rfl) ?_))))
  refine aL_s true rfl rfl (fun _ => q_fieldAddr (off := 1) (by kernel_rfl) rfl) ?_
  refine aL_s true rfl rfl (fun _ => q_load 0 tk9 rfl rfl rfl) (aL_s true rfl rfl (fun _ => q_lenStr Tryz.underlying9 rfl) ?_)
  refine aL_s true rfl rfl (fun _ => q_bld (l := [(0, .const (.int .i64 1024)), (1, .tmp 14), (2, .const (.int .i64 1))]) (zs := [.int .i64 0, .int .i64 0, .int .i64 0, .int .i64 0, .int .i64 0]) (pl := [(0, 1), (1, 1), (2, 1), (3, 1), (4, 1)]) (by kernel_rfl) (by kernel_rfl) (by kernel_rfl) rfl rfl rfl) ?_
  refine aL_eff (q := false) rfl (e_call [] [1] (by kernel_rfl) rfl rfl rfl rfl (map28_fn q _ ⟨1024, x.data.size, 1, 0, 0⟩ (right28_fn _ ⟨i10, by show I64 (x.data.size : Int); unfold I64; omega⟩)) ?_)
  rintro v ps' hp' ⟨rfl, rfl, rfl⟩
  refine aL_st (by (try simp only [nM, nN]); rfl) (by (try simp only [putB, place, Nat.reduceBEq, nA, if_true, if_false, reduceIte, nB, nC, nD, nE, nF, nG, nH, nI, Nat.reduceAdd, nJ, beq_self_eq_true, nK, nL, nM, nN]); rfl) ?_
  refine aL_nil (thn_n (awp_seq (awp_region (aL_s true rfl rfl (fun _ => q_move rfl) ?_))))
  refine aL_s true rfl rfl (fun _ => q_fieldAddr (off := 2) (by kernel_rfl) rfl) ?_
  refine aL_s true rfl rfl (fun _ => q_load 0 tk3 rfl rfl rfl) ?_
  refine aL_s true rfl rfl (fun _ => q_bld (l := [(0, .const (.int .i64 2048)), (1, .tmp 19), (2, .const (.int .i64 2))]) (zs := [.int .i64 0, .int .i64 0, .int .i64 0, .int .i64 0, .int .i64 0]) (pl := [(0, 1), (1, 1), (2, 1), (3, 1), (4, 1)]) (by kernel_rfl) (by kernel_rfl) (by kernel_rfl) rfl rfl rfl) ?_
  refine aL_eff (q := false) rfl (e_call [] [1] (by kernel_rfl) rfl rfl rfl rfl (map28_fn q _ ⟨2048, x.stack, 2, 0, 0⟩ (right28_fn _ ⟨i20, hs⟩)) ?_)
  rintro v ps' hp' ⟨rfl, rfl, rfl⟩
  refine aL_st (by (try simp only [nM, nN]); rfl) (by (try simp only [putB, place, Nat.reduceBEq, nA, if_true, if_false, reduceIte, nB, nC, nD, nE, nF, nG, nH, nI, Nat.reduceAdd, nJ, beq_self_eq_true, nK, nL, nM, nN]); rfl) ?_
  refine aL_nil (thn_n (awp_seq (awp_region (aL_s true rfl rfl (fun _ => q_move rfl) ?_))))
  refine aL_s true rfl rfl (fun _ => q_fieldAddr (off := 0) (by kernel_rfl) rfl) ?_
  refine aL_s true rfl rfl (fun _ => q_load 0 tk9 rfl rfl rfl) ?_
  refine aL_eff (q := false) rfl (e_call [] [1] (by kernel_rfl) rfl rfl rfl rfl (write28_fn q _ 512 x.code i5 (by omega)) ?_)
  rintro v ps' hp' ⟨rfl, rfl, rfl⟩
  refine aL_st (by (try simp only [nM, nN]); rfl) (by (try simp only [putB, place, Nat.reduceBEq, nA, if_true, if_false, reduceIte, nB, nC, nD, nE, nF, nG, nH, nI, Nat.reduceAdd, nJ, beq_self_eq_true, nK, nL, nM, nN]); rfl) ?_
  refine aL_nil (thn_n (awp_seq (awp_region (aL_s true rfl rfl (fun _ => q_move rfl) ?_))))
  refine aL_s true rfl rfl (fun _ => q_fieldAddr (off := 1) (by kernel_rfl) rfl) ?_
  refine aL_s true rfl rfl (fun _ => q_load 0 tk9 rfl rfl rfl) ?_
  refine aL_eff (q := false) rfl (e_call [] [1] (by kernel_rfl) rfl rfl rfl rfl (write28_fn q _ 1024 x.data i10 (by omega)) ?_)
  rintro v ps' hp' ⟨rfl, rfl, rfl⟩
  refine aL_st (by (try simp only [nM, nN]); rfl) (by (try simp only [putB, place, Nat.reduceBEq, nA, if_true, if_false, reduceIte, nB, nC, nD, nE, nF, nG, nH, nI, Nat.reduceAdd, nJ, beq_self_eq_true, nK, nL, nM, nN]); rfl) ?_
  refine aL_nil (thn_n (awp_seq (awp_region (aL_s true rfl rfl (fun _ => q_move rfl) (aL_s true rfl rfl (fun _ => q_assign rfl) (aL_nil (thn_n ?_)))))))
  refine awp_ret ?_
  refine fin1 [] [1] rfl Tryz.results8 rfl ?_ (.inr rfl)
  exact ⟨rfl, q, rfl, rfl⟩
theorem step29M_fn (p : Nat) (M : Mem) (c : Cpu) (hc : CpuOk c) : Con Tryz.prog 11 [.pointer (some ⟨p, 0, none⟩), .agg (cpuV c).toArray] [] [RfR p M]
    fun r ps' hp' => r = .tuple #[.agg (cpuV (stepM M c).1).toArray, .agg (evV (stepM M c).2.1.1 (stepM M c).2.1.2).toArray] ∧ ps' = [] ∧ hp' = [RfR p (stepM M c).2.2] := by
  have h := step29_fn p M c hc
  rw [stepR_eq] at h
  exact h
theorem tells_con (x : Stg) (ad : Option Addr) (c : Nat) (steps : Int) (hr : ∀ z ∈ x.regs, I64 z) (hp : I64 x.pc) (hst0 : I64 x.stack) : Con Tryz.prog 3 [.agg (stgV x ad c).toArray, .int .i64 steps] [Sh (.slice ad x.regs.length c) (.sl (irows x.regs)), formsAt] [] fun r _ _ => r = .bool true := by
  have hok0 : CpuOk (cpuS x) := cpuK_ok x _ hr hp
  have i10 : I64 1024 := by unfold I64; omega
  have i20 : I64 2048 := by unfold I64; omega
  refine Con.enter Tryz.func3 rfl (by simp [Tryz.ntmps3]) ?_
  show awp _ _ _ _ ⟨[(0, true, _), (1, true, _)], _, _⟩
  refine awp_seq (awp_region ?_)
  refine aL_eff (q := true) rfl (x_box rfl rfl rfl (fun b0_0 => ?_))
  refine aL_hp (by (try simp only [nM, nN]); rfl) ?_
  refine aL_s true rfl rfl (fun _ => q_assign rfl) (aL_nil (thn_n (awp_seq (awp_region ?_))))
  refine aL_s true rfl rfl (fun _ => q_call (by kernel_rfl) rfl (fun w S fp hst => small29_fn.quiet1 (by simp) hst)) ?_
  refine aL_s true rfl rfl (fun _ => q_assign rfl) (aL_nil (thn_n (awp_seq (awp_seq (awp_region (aL_s true rfl rfl (fun _ => q_load 0 tk24 rfl rfl rfl) ?_))))))
  refine aL_s true rfl rfl (fun _ => q_call (by kernel_rfl) rfl (fun w S fp hst => (few29_fn x ad c).quiet0 hst)) ?_
  refine aL_s true rfl rfl (fun _ => q_not rfl) (aL_s true rfl rfl (fun _ => q_move rfl) (aL_s _ rfl rfl (fun hc => q_move rfl) (aL_s _ rfl rfl (fun hc => q_gtr (ev_yes rfl hc) rfl) (aL_s true rfl rfl (fun _ => q_or rfl rfl (fun h => gf rfl h)) (aL_nil (thn_n ?_))))))
  refine awp_cond _ rfl (fun h1 => ?_) (fun h1 => ?_)
  ·skip
   refine awp_seq (awp_region (aL_s true rfl rfl (fun _ => q_move rfl) (aL_s true rfl rfl (fun _ => q_assign rfl) (aL_nil (thn_n (awp_ret (thn_r ?_)))))))
   refine fin1 [] [] rfl Tryz.results3 rfl ?_ (.inr rfl)
   rfl
  ·skip
   simp only [Bool.or_eq_false_iff, Bool.not_eq_false', decide_eq_false_iff_not] at h1
   obtain ⟨hf, hs60⟩ := h1
   obtain ⟨f1, f2, f3, f4⟩ := few_of hf
   refine awp_skip (thn_n (awp_seq (awp_region (aL_s true rfl rfl (fun _ => q_load 0 tk24 rfl rfl rfl) ?_))))
   refine aL_eff (q := true) rfl (e_call [] [] (by kernel_rfl) rfl rfl rfl rfl (memory_fn x ad c (by omega) (by omega)) ?_)
   rintro w ps' hp' ⟨rfl, p, rfl, rfl⟩
   refine aL_st (by (try simp only [nM, nN]); rfl) (by (try simp only [putB, place, Nat.reduceBEq, nA, if_true, if_false, reduceIte, nB, nC, nD, nE, nF, nG, nH, nI, Nat.reduceAdd, nJ, beq_self_eq_true, nK, nL, nM, nN]); rfl) ?_
   refine aL_s true rfl rfl (fun _ => q_assign rfl) (aL_nil (thn_n (awp_seq (awp_region (aL_s true rfl rfl (fun _ => q_load 0 tk24 rfl rfl rfl) ?_)))))
   refine aL_eff (q := true) rfl (e_call [] [] (by kernel_rfl) rfl rfl rfl rfl (model_fn x ad c f1 f2 hst0) ?_)
   rintro w ps' hp' ⟨rfl, q, rfl, rfl⟩
   refine aL_st (by (try simp only [nM, nN]); rfl) (by (try simp only [putB, place, Nat.reduceBEq, nA, if_true, if_false, reduceIte, nB, nC, nD, nE, nF, nG, nH, nI, Nat.reduceAdd, nJ, beq_self_eq_true, nK, nL, nM, nN]); rfl) ?_
   refine aL_s true rfl rfl (fun _ => q_assign rfl) (aL_nil (thn_n (awp_seq (awp_seq (awp_region (aL_s true rfl rfl (fun _ => q_move rfl) ?_))))))
   refine aL_s true rfl rfl (fun _ => q_ptrNil (by kernel_rfl) rfl) ?_
   refine aL_nil (thn_n ?_)
   refine awp_cond _ rfl (fun h2 => ?_) (fun h2 => ?_)
   ·skip
    exact absurd h2 (by simp)
   ·skip
    refine awp_skip (thn_n (awp_seq (awp_region (aL_s true rfl rfl (fun _ => q_load 0 tk24 rfl rfl rfl) ?_))))
    refine aL_s true rfl rfl (fun _ => q_call (by kernel_rfl) rfl (fun w S fp hst => (cpu_fn x ad c).quiet1 (by simp) hst)) ?_
    refine aL_eff (q := true) rfl (x_alloc (zs := [.int .i64 0, .int .i64 0, .int .i64 0, .int .i64 0, .int .i64 0, .int .i64 0, .int .i64 0, .int .i64 0, .int .i64 0, .int .i64 0, .int .i64 0, .int .i64 0, .int .i64 0, .int .i64 0, .int .i64 0, .int .i64 0, .int .i64 0]) (by kernel_rfl) rfl (fun b8_2 => ?_))
    refine aL_hp (by (try simp only [nM, nN]); rfl) ?_
    refine aL_eff rfl (x_store 3 tk33 rfl rfl rfl rfl ?_)
    refine aL_hp (by simp only [nK, nL]; rfl) ?_
    refine aL_nil (thn_n (awp_seq (awp_seq (awp_region (aL_s true rfl rfl (fun _ => q_assign rfl) (aL_nil (thn_n ?_)))))))
    refine awp_block (awp_loopK [1, 2, 5, 6, 7, 8, 9] [0] [0, 1, 2, 3] (fun (y : Nat × Cpu × Mem) s => (y.1 ≤ 60 ∧ CpuOk y.2.1 ∧ CodeOk x y.2.2) ∧ s = ⟨[(1, true, .int .i64 steps), (2, true, .pointer (some ⟨b0_0, 0, none⟩)), (5, true, .bool true), (6, true, .pointer (some ⟨p, 0, none⟩)), (7, true, .pointer (some ⟨q, 0, none⟩)), (8, true, .pointer (some ⟨b8_2, 0, none⟩)), (9, true, .int .i64 y.1)], [formsAt], [Box b0_0 24 (stgV x ad c), SpR p y.2.2, RfR q y.2.2, Box b8_2 33 (cpuV y.2.1)]⟩) (fun y => 60 - y.1) rfl (⟨(0, cpuS x, memS x), ⟨Nat.zero_le _, hok0, good_start hf⟩, rfl⟩) ?_)
    rintro ⟨k, C, M⟩ s ⟨⟨hk, hok, hg⟩, rfl⟩
    dsimp only at hk hok hg ⊢
    refine awp_seq (awp_seq (awp_region (aL_s true rfl rfl (fun _ => q_move rfl) (aL_s true rfl rfl (fun _ => q_move rfl) (aL_s true rfl rfl (fun _ => q_lss rfl rfl) (aL_nil (thn_n ?_)))))))
    refine awp_cond _ rfl (fun h3 => ?_) (fun h3 => ?_)
    ·skip
     have hk' : k < 60 := by have := of_decide_eq_true h3; omega
     refine awp_skip (thn_n (awp_seq (awp_block (awp_seq (awp_region (aL_s true rfl rfl (fun _ => q_move rfl) (aL_s true rfl rfl (fun _ => q_load 3 tk33 rfl rfl rfl) ?_)))))))
     refine aL_eff (q := false) rfl (e_call [0] [1] (by kernel_rfl) rfl rfl rfl rfl (step_fn p M C hok) ?_)
     rintro w ps' hp' ⟨rfl, rfl, rfl⟩
     refine aL_st (by (try simp only [nM, nN]); rfl) (by (try simp only [putB, place, Nat.reduceBEq, nA, if_true, if_false, reduceIte, nB, nC, nD, nE, nF, nG, nH, nI, Nat.reduceAdd, nJ, beq_self_eq_true, nK, nL, nM, nN]); rfl) ?_
     refine aL_s true rfl rfl (fun _ => q_move rfl) (aL_s true rfl rfl (fun _ => q_extract rfl rfl) (aL_s true rfl rfl (fun _ => q_extract rfl rfl) ?_))
     refine aL_eff (q := true) rfl (x_alloc (zs := [.int .i64 0, .int .i64 0, .int .i64 0, .int .i64 0, .int .i64 0, .int .i64 0, .int .i64 0, .int .i64 0, .int .i64 0, .int .i64 0, .int .i64 0, .int .i64 0, .int .i64 0, .int .i64 0, .int .i64 0, .int .i64 0, .int .i64 0]) (by kernel_rfl) rfl (fun b12_6 => ?_))
     refine aL_hp (by (try simp only [nM, nN]); rfl) ?_
     refine aL_eff (q := true) rfl (x_alloc (zs := [.int .i64 0, .int .i64 0]) (by kernel_rfl) rfl (fun b12_7 => ?_))
     refine aL_hp (by (try simp only [nM, nN]); rfl) ?_
     refine aL_eff rfl (x_store 4 tk33 rfl rfl rfl rfl ?_)
     refine aL_hp (by simp only [nK, nL]; rfl) ?_
     refine aL_eff rfl (x_store 5 tk36 rfl rfl rfl rfl ?_)
     refine aL_hp (by simp only [nK, nL]; rfl) ?_
     refine aL_nil (thn_n (awp_seq (awp_region (aL_s true rfl rfl (fun _ => q_move rfl) (aL_s true rfl rfl (fun _ => q_load 3 tk33 rfl rfl rfl) ?_)))))
     refine aL_eff (q := false) rfl (e_call [] [2] (by kernel_rfl) rfl rfl rfl rfl (step29M_fn q M C hok) ?_)
     rintro w ps' hp' ⟨rfl, rfl, rfl⟩; have hg2 := hg.step C; have hok2 := step_ok hok M; generalize hS : stepM M C = S at hg2 hok2 ⊢; obtain ⟨C2, E2, M2⟩ := S; dsimp only at hg2 hok2 ⊢
     refine aL_st (by (try simp only [nM, nN]); rfl) (by (try simp only [putB, place, Nat.reduceBEq, nA, if_true, if_false, reduceIte, nB, nC, nD, nE, nF, nG, nH, nI, Nat.reduceAdd, nJ, beq_self_eq_true, nK, nL, nM, nN]); rfl) ?_
     refine aL_s true rfl rfl (fun _ => q_move rfl) (aL_s true rfl rfl (fun _ => q_extract rfl rfl) (aL_s true rfl rfl (fun _ => q_extract rfl rfl) ?_))
     refine aL_eff (q := true) rfl (x_alloc (zs := [.int .i64 0, .int .i64 0, .int .i64 0, .int .i64 0, .int .i64 0, .int .i64 0, .int .i64 0, .int .i64 0, .int .i64 0, .int .i64 0, .int .i64 0, .int .i64 0, .int .i64 0, .int .i64 0, .int .i64 0, .int .i64 0, .int .i64 0]) (by kernel_rfl) rfl (fun b13_6 => ?_))
     refine aL_hp (by (try simp only [nM, nN]); rfl) ?_
     refine aL_eff (q := true) rfl (x_alloc (zs := [.int .i64 0, .int .i64 0]) (by kernel_rfl) rfl (fun b13_7 => ?_))
     refine aL_hp (by (try simp only [nM, nN]); rfl) ?_
     refine aL_eff rfl (x_store 6 tk33 rfl rfl rfl rfl ?_)
     refine aL_hp (by simp only [nK, nL]; rfl) ?_
     refine aL_eff rfl (x_store 7 tk36 rfl rfl rfl rfl ?_)
     refine aL_hp (by simp only [nK, nL]; rfl) ?_
     refine aL_nil (thn_n (awp_seq (awp_region (aL_s true rfl rfl (fun _ => q_move rfl) ?_))))
     refine aL_s true rfl rfl (fun _ => q_fieldAddr (off := 1) (by kernel_rfl) rfl) ?_
     refine aL_s true rfl rfl (fun _ => q_load 0 tk9 rfl rfl rfl) (aL_s true rfl rfl (fun _ => q_lenStr Tryz.underlying9 rfl) ?_)
     refine aL_s true rfl rfl (fun _ => q_call (by kernel_rfl) rfl (fun w S fp hst => q_lendR (fun dA dB cA cB hI hl => read28_fn q M2 dA dB cA cB hI hl 1024 x.data.size i10 (by unfold I64; omega)) hst 2 rfl)) ?_
     refine aL_s true rfl rfl (fun _ => q_move rfl) (aL_s true rfl rfl (fun _ => q_extract rfl rfl) (aL_s true rfl rfl (fun _ => q_extract rfl rfl) (aL_s true rfl rfl (fun _ => q_assign rfl) (aL_s true rfl rfl (fun _ => q_assign rfl) (aL_nil (thn_n (awp_seq ?_)))))))
     refine awp_region (aL_s true rfl rfl (fun _ => q_move rfl) ?_)
     refine aL_s true rfl rfl (fun _ => q_fieldAddr (off := 2) (by kernel_rfl) rfl) ?_
     refine aL_s true rfl rfl (fun _ => q_load 0 tk3 rfl rfl rfl) ?_
     refine aL_s true rfl rfl (fun _ => q_call (by kernel_rfl) rfl (fun w S fp hst => q_lendR (fun dA dB cA cB hI hl => read28_fn q M2 dA dB cA cB hI hl 2048 x.stack i20 hst0) hst 2 rfl)) ?_
     refine aL_s true rfl rfl (fun _ => q_move rfl) (aL_s true rfl rfl (fun _ => q_extract rfl rfl) (aL_s true rfl rfl (fun _ => q_extract rfl rfl) (aL_s true rfl rfl (fun _ => q_assign rfl) (aL_s true rfl rfl (fun _ => q_assign rfl) (aL_nil (thn_n (awp_seq ?_)))))))
     refine awp_seq ?_
     have l1 := readM_len M2 1024 x.data.size
     have l2 := readM_len M2 2048 x.stack
     refine awp_drawnC [11] [] [b0_0, b12_6, b12_7, b13_6, b13_7] (by kernel_rfl) ?_
     show aC _ _ _ _ _ _ _ 20 #[false, false, false, false, false, false, false, false, false, false, false, false, false, false, false, false, false, false, false, false] _
     refine aC_box 0 4 rfl (by kernel_rfl) true rfl rfl (by simp) tk33 (fun _ => rfl) rfl rfl ?_
     refine aC_box 1 6 rfl (by kernel_rfl) true rfl rfl (by simp) tk33 (fun _ => rfl) rfl rfl ?_
     refine aC_f 2 rfl (by kernel_rfl) true rfl rfl (fun _ => (qa_neq (by kernel_rfl) (by kernel_rfl) (by kernel_rfl) (fun w => eqFields_mix 9997 _ _ _ [0, 1, 2, 3, 4, 5, 6, 7, 8, 9, 10, 11, 12, 13, 14, 15, 16] w (by kernel_rfl) (by kernel_rfl) rfl rfl) rfl rfl).cast (neq_same _ _)) ?_
     refine aC_f 3 rfl (by kernel_rfl) true rfl rfl (fun _ => q_move rfl) ?_
     refine aC_box 4 5 rfl (by kernel_rfl) true rfl rfl (by simp) tk36 (fun _ => rfl) rfl rfl ?_
     refine aC_box 5 7 rfl (by kernel_rfl) true rfl rfl (by simp) tk36 (fun _ => rfl) rfl rfl ?_
     refine aC_f 6 rfl (by kernel_rfl) true rfl rfl (fun _ => (qa_neq (by kernel_rfl) (by kernel_rfl) (by kernel_rfl) (fun w => eqFields_mix 9997 _ _ _ [0, 1] w (by kernel_rfl) (by kernel_rfl) rfl rfl) rfl rfl).cast (neq_same _ _)) ?_
     refine aC_f 7 rfl (by kernel_rfl) true rfl rfl (fun _ => q_or rfl rfl (fun _ => rfl)) ?_
     refine aC_f 8 rfl (by kernel_rfl) true rfl rfl (fun _ => q_move rfl) ?_
     refine aC_f 9 rfl (by kernel_rfl) true rfl rfl (fun _ => q_move rfl) ?_
     refine aC_box 10 0 rfl (by kernel_rfl) true rfl rfl (by simp) tk24 (fun _ => rfl) rfl rfl ?_
     refine aC_f 12 rfl (by kernel_rfl) true rfl rfl (fun _ => q_fieldAddr (off := 0) (by kernel_rfl) rfl) ?_
     refine aC_box 13 0 rfl (by kernel_rfl) true rfl rfl (by simp) tk9 (fun _ => rfl) rfl rfl ?_
     refine aC_f 14 rfl (by kernel_rfl) true rfl rfl (fun _ => q_move rfl) ?_
     refine aC_f 15 rfl (by kernel_rfl) true rfl rfl (fun _ => qs_add rfl rfl (by rw [ofBytes_size]; omega)) ?_
     refine aC_f 16 rfl (by kernel_rfl) true rfl rfl (fun _ => q_move rfl) ?_
     refine aC_f 17 rfl (by kernel_rfl) true rfl rfl (fun _ => qs_add rfl rfl (by rw [ByteArray.size_append, ofBytes_size, ofBytes_size]; omega)) ?_
     refine aC_arms 11 [] (by kernel_rfl) (arms_cons ?_ arms_nil)
     refine aC_arm 11 rfl rfl (Eff.framed (q := false) [1] rfl rfl (zcons 0 rfl rfl (zcons 4 rfl rfl (zcons 5 rfl rfl (zcons 6 rfl rfl (zcons 7 rfl rfl znil))))) ?_)
     refine id (e_call [] [0] (by kernel_rfl) rfl rfl rfl rfl (bytes_fn x ad c p M2 f1 f2 f3) ?_)
     rintro w ps' hp' ⟨rfl, rfl, rfl⟩
     refine fr_mk ?_
     refine aC_st (by (try simp only [nO, nK, nL]); rfl) (by (try simp only [nM, nN]); rfl) (by (try simp only [keepH, nQ, nR, putB, place, Nat.reduceBEq, nA, if_true, if_false, reduceIte, nB, nC, nD, nE, nF, nG, nH, nI, Nat.reduceAdd, nJ, beq_self_eq_true, nK, nL, nM, nN]); rfl) ?_
     refine aC_f 18 rfl (by kernel_rfl) true rfl rfl (fun _ => (qs_neq rfl rfl).cast (v' := .bool false) hg2.same) ?_
     refine aC_f 19 rfl (by kernel_rfl) true rfl rfl (fun _ => q_or rfl rfl (fun _ => rfl)) ?_
     refine aC_nil (by kernel_rfl) ?_
     refine thn_n ?_
     refine awp_cond _ rfl (fun h4 => ?_) (fun h4 => ?_)
     ·skip
      exact absurd h4 (by simp)
     ·skip
      refine awp_skip (thn_n (awp_region (aL_s true rfl rfl (fun _ => q_load 4 tk33 rfl rfl rfl) ?_)))
      refine aL_eff rfl (x_store 3 tk33 rfl rfl rfl rfl ?_)
      refine aL_hp (by simp only [nK, nL]; rfl) ?_
      refine aL_nil (blk_n (thn_n (awp_region (aL_s true rfl rfl (fun _ => q_move rfl) ?_))))
      refine aL_s true rfl rfl (fun _ => q_addi rfl rfl (by omega)) ?_
      refine aL_s true rfl rfl (fun _ => q_assign rfl) (aL_nil (thn_n ?_))
      refine ⟨[1, 2, 5, 6, 7, 8, 9], [0], [0, 1, 2, 3], rfl, ?_⟩
      refine ⟨(k + 1, C2, M2), ⟨⟨by dsimp only; omega, hok2, hg2⟩, rfl⟩, by dsimp only; omega⟩
    ·skip
     refine awp_exit (thn_e (thn_e (blk_hit (thn_n (awp_seq (awp_region (aL_s true rfl rfl (fun _ => q_move rfl) ?_)))))))
     refine aL_s true rfl rfl (fun _ => q_assign rfl) (aL_nil (thn_n (awp_ret ?_)))
     refine fin1 [] [] rfl Tryz.results3 rfl ?_ (.inr rfl)
     rfl
end Go.Proofs.YtpgcoceggacplaaGreatDoor
namespace Go.Proofs.YtpgcoceggacplaaGreatDoor.machineTells
open Go.ChangeShapes Go.WideShapes Go.ChangeAt Go.RowKit
open Go.Lp Go.Sy
open Go.ChangeMaps (open_string shut_string)
/-- what the start-up code leaves -/
theorem door_met (os : Os) (args : Array Value) : laidMetH Tryz.prog Rows.machineTellsRow.laid ((World.doorLaid Tryz.prog 400 os).forCall (fun _ _ => 0) ⟨#[], args, []⟩).memory :=
  laidMetH_of_parts3 (fuel := 8) (laidMet_of_run' 8 (by kernel_rfl) (by kernel_rfl)) (by kernel_rfl) (by kernel_rfl)
theorem of_laid {W : World} (h : laidMetH Tryz.prog Rows.machineTellsRow.laid W) : formsAt.holds W (fun b => b < W.heap.size) := by
  rw [MakeChecks.laidMetH_plain _ _ _ (by kernel_rfl)] at h
  obtain ⟨ps, ⟨g0, t0, cs0, f0, p0, q0, hg0, ht0, hv0, hd0, _, _⟩, _, _⟩ := h
  obtain rfl := Option.some.inj (gForms.symm.trans hg0)
  obtain rfl := Option.some.inj (tForms.symm.trans ht0)
  have hl := lit_rep 3 _ _ _ _ (by kernel_rfl) hd0
  have e : cs0.toList = formsV := Option.some.inj (hl.symm.trans forms_lit)
  exact cells_at (by decide) (fun i => by rw [World.var?_cell hg0 hv0 i, ← e, Array.getElem?_toList]) forms_one
set_option maxRecDepth 100000 in
theorem lifted (os : Os) (started : os.Started) (H : Type) (enc : TypeId × Value → H) :
    ReturnsInHanded {} Tryz.checked os 3 .any (fun w args => (Rows.machineTellsSpec.pre enc Tryz.prog Tryz.f3 [] false w args ∧ laidMetH Tryz.prog Rows.machineTellsRow.laid w) ∧ sizedMet enc Tryz.prog Tryz.f3 (OpenSpec.ofChange Rows.machineTellsSpec) false w args)
      (Rows.machineTellsSpec.post enc Tryz.prog Tryz.f3 false true false false) := by
  refine returnsInHanded_of_change_and (C := Tryz.checked) (X := fun w _ => laidMetH Tryz.prog Rows.machineTellsRow.laid w) (fun _ _ _ hh h => h.of_heap hh) own started (by kernel_rfl) Tryz.func3
    (ChangeSpec.witness_shaped (enc := enc) (C := Tryz.checked) (os := os) (X := fun w _ => laidMetH Tryz.prog Rows.machineTellsRow.laid w) false (World.doorLaid Tryz.prog 400 os) #[.agg #[.string .empty, .string .empty, .int .i64 0, .slice none 0 0, .int .i64 0], .int .i64 0] 8 rfl (World.shaped_of_RefB (by kernel_rfl) (by kernel_rfl)) (by kernel_rfl) (by kernel_rfl) (by kernel_rfl) (door_met os _)) ?_
  intro W base args ds gs before hval0 hW _ _ hL _
  have hval : ∀ (j : Nat) t v, Tryz.f3.params[j]? = some t → args[j]? = some v → Value.okWide Tryz.prog W .any base t v := hval0
  have hW' := hW
  obtain ⟨p, q, hA0, hV, rfl, hfz, hnd⟩ := hW
  have hA : DataW.TrodAll enc Tryz.prog W 0 (fun _ => true) true Tryz.f3.params.toList args.toList ds p := hA0
  rw [Tryz.params3] at hA hval
  obtain ⟨v0, vs0, d0, ds0, p0, q0, hargs, rfl, rfl, h0, r0⟩ := trodAll_cons hA
  obtain ⟨v1, vs1, d1, ds1, p1, q1, rfl, rfl, rfl, h1, r1⟩ := trodAll_cons r0
  obtain ⟨rfl, rfl, rfl⟩ := trodAll_nil r1
  obtain rfl : args = #[v0, v1] := by cases args; simp_all
  obtain ⟨rfl, rfl⟩ := trodVars_none hV
  have hforms := of_laid hL
  obtain ⟨cs0, rfl, hsz0⟩ := okWide_struct Tryz.underlying24 (hval 0 24 v0 rfl rfl)
  have k0 := h0
  have lt0 : ∀ x ∈ p0, x.block < W.heap.size := by obtain ⟨m, hm⟩ := k0; exact DataW.trod_lt m _ _ _ hm
  obtain ⟨fuel, hf⟩ := h0
  obtain ⟨x, ad, c, rfl, w1', w2', w3', w4', w5', hrep⟩ := stg_of hf
  obtain ⟨a1, rfl, rfl, rfl, w1⟩ := open_int Tryz.underlying3 (hval 1 3 v1 rfl rfl) h1
  clear hA0 hval0
  have hc := (tells_con x ad c a1 w5' w4' w3').quiet (fun _ h => h) (st_in (w := W) (ps := [Sh (.slice ad x.regs.length c) (.sl (irows x.regs)), formsAt]) fun p hp => by
    rcases List.mem_cons.1 hp with rfl | hp
    · exact hrep
    · rw [List.mem_singleton.1 hp]; exact hforms)
  refine hc.mono fun e W' ⟨he, bel⟩ => ?_
  subst he
  exact ⟨_, rfl, _, _, _, [], _, [], hW', trodAll_mk1 (shut_bool Tryz.underlying4 _), (trodAll_cons_mk (Below.trod laidOut (by kernel_rfl) (of_decide_eq_true (by kernel_rfl)) k0 bel lt0) (trodAll_cons_mk (shut_int Tryz.underlying3 w1) trodAll_mk0)), rfl, bel.frame _, fun h => by cases h⟩
theorem over : Rows.MachineTellsSaid :=
  OpenClaim.holds_of_wide 3 Tryz.f3 rfl rfl rfl rfl rfl rfl rfl ⟨rfl, rfl, rfl, rfl, rfl⟩ rfl rfl rfl rfl rfl (by kernel_rfl) Tryz.func3 (by kernel_rfl)
    (of_decide_eq_true (by kernel_rfl)) (by unfold Func.isWrapper; first | (rw [if_pos (by decide +kernel)]; kernel_rfl) | (rw [if_neg (by decide +kernel)]; exact ⟨rfl, rfl⟩))
    (fun os started H enc _ => lifted os started H enc)
theorem proved : Rows.MachineTellsCardSaid :=
  Claim7.holds_tied_plain_at .later [] [.widerDeep] true _ false
    over (fun _ h => by cases h) (by kernel_rfl) (fun _ h => by cases h) machineTells_row_tie rfl ⟨rfl, rfl⟩ (by kernel_rfl) rfl
    (fun f fn hf hfn => by
      obtain rfl : f = 3 := Option.some.inj ((show Tryz.prog.funcNamed "linchpin/linchpinlaw29.MachineTells" = some 3 by kernel_rfl).symm.trans hf) |>.symm
      obtain rfl : fn = Tryz.f3 := (Option.some.inj (Tryz.func3.symm.trans hfn)).symm
      exact ⟨by kernel_rfl, fun j t ht => by
        rw [Tryz.params3] at ht
        have hm : t ∈ [24, 3] := by simpa using Array.mem_of_getElem? ht
        have hall : ([24, 3].all fun u => !Tryz.prog.wantsStandIn u) = true := by kernel_rfl
        exact (show Tryz.prog.wantsStandIn t = false by simpa using List.all_eq_true.1 hall t (by simpa using hm))⟩)
    (by kernel_rfl)
end Go.Proofs.YtpgcoceggacplaaGreatDoor.machineTells
