/- live: kepts. No condition. -/
import Derived.Test.YtnbochlghdkfkaaBlG
import Derived.Test.YtnbochlghdkfkaaBlE
import Derived.MapKept
set_option linter.unusedVariables false
set_option linter.unusedSimpArgs false
set_option maxRecDepth 20000
namespace Go.Proofs.Ytnbochlghdkfkaa
open Go.RowKit Go.Lp Go.Sy
open Go.Proofs.Try
attribute [local irreducible] aL aB awp aC fwp
theorem keptF_spec (os : List GObject) (kp : List (Sl Bool)) (o s : Int) : keptF os kp o s = (decide (0 ≤ o ∧ o < os.length ∧ 0 ≤ s ∧ s < (elt os o).secs.l.length ∧ o < kp.length ∧ s < (elt kp o).l.length) && elt (elt kp o).l s) := by
  unfold keptF indexF
  congr 1
  simp only [ge_iff_le, Bool.decide_and, Bool.and_assoc]
theorem con_rkept (x : GLink) (o s : Int) : Con Try.prog 16 [x.objs.val, x.keep.val, .int .i64 o, .int .i64 s] [x.ok] [] fun r _ _ => r = .bool (keptF x.objs.l x.keep.l o s) := by
  refine Con.enter Try.func16 rfl (by simp [Try.ntmps16]) ?_
  show awp _ _ _ _ ⟨[(0, true, _), (1, true, _), (2, true, _), (3, true, _)], _, _⟩
  refine awp_seq (awp_region (aL_s true rfl rfl (fun _ => q_assign rfl) (aL_nil (thn_n (awp_seq (awp_seq (awp_region ?_)))))))
  refine aL_s true rfl rfl (fun _ => q_move rfl) (aL_s true rfl rfl (fun _ => q_lss rfl rfl) (aL_s true rfl rfl (fun _ => q_move rfl) (aL_s _ rfl rfl (fun hc => q_move rfl) (aL_s _ rfl rfl (fun hc => q_move rfl) (aL_s _ rfl rfl (fun hc => q_lenS Try.underlying26 (ev_yes rfl hc)) (aL_s _ rfl rfl (fun hc => q_geq (ev_yes rfl hc) (ev_yes rfl hc)) (aL_s true rfl rfl (fun _ => q_or rfl rfl (fun h => gf rfl h)) ?_)))))))
  refine aL_s true rfl rfl (fun _ => q_move rfl) (aL_s _ rfl rfl (fun hc => q_move rfl) (aL_s _ rfl rfl (fun hc => q_lss (ev_yes rfl hc) rfl) (aL_s true rfl rfl (fun _ => q_or rfl rfl (fun h => gf rfl h)) (aL_s true rfl rfl (fun _ => q_move rfl) (aL_s _ rfl rfl (fun hc => q_move rfl) (aL_s _ rfl rfl (fun hc => q_move rfl) (aL_s _ rfl rfl (fun hc => q_move rfl) ?_)))))))
  refine aL_E _ rfl rfl (fun hc => q_indexAddrG Try.underlying26 tk53 (ev_yes rfl hc) ((GLink.f_objs (.of (psAt 0 rfl)))) (ev_yes rfl hc) (rows_elt (i := o) (by simp at hc; omega) (by simp at hc; omega)) (by simp at hc; omega) rfl) (fun _ => ⟨(0, 0)⟩) (fun ⟨b1_16, o1_16⟩ => ?_)
  refine aL_s _ rfl rfl (fun hc => q_fieldAddr (off := 1) (by kernel_rfl) (ev_yes rfl hc)) ?_
  refine aL_s _ rfl rfl (fun hc => q_loadD (o := 1) tk42 (ev_yes rfl hc) (psAt 0 rfl) hc rfl) (aL_s _ rfl rfl (fun hc => q_lenS Try.underlying42 (ev_yes rfl hc)) (aL_s _ rfl rfl (fun hc => q_geq (ev_yes rfl hc) (ev_yes rfl hc)) (aL_s true rfl rfl (fun _ => q_or rfl rfl (fun h => gf rfl h)) (aL_s true rfl rfl (fun _ => q_move rfl) (aL_s _ rfl rfl (fun hc => q_move rfl) (aL_s _ rfl rfl (fun hc => q_move rfl) (aL_s _ rfl rfl (fun hc => q_lenS Try.underlying27 (ev_yes rfl hc)) ?_)))))))
  refine aL_s _ rfl rfl (fun hc => q_geq (ev_yes rfl hc) (ev_yes rfl hc)) (aL_s true rfl rfl (fun _ => q_or rfl rfl (fun h => gf rfl h)) (aL_s true rfl rfl (fun _ => q_move rfl) (aL_s _ rfl rfl (fun hc => q_move rfl) (aL_s _ rfl rfl (fun hc => q_move rfl) (aL_s _ rfl rfl (fun hc => q_move rfl) ?_)))))
  refine aL_E _ rfl rfl (fun hc => q_indexAddrG Try.underlying27 tk54 (ev_yes rfl hc) ((GLink.f_keep (.of (psAt 1 rfl)))) (ev_yes rfl hc) (rows_elt (i := o) (by simp at hc; omega) (by simp at hc; omega)) (by simp at hc; omega) rfl) (fun _ => ⟨(0, 0)⟩) (fun ⟨b1_32, o1_32⟩ => ?_)
  refine aL_s _ rfl rfl (fun hc => q_loadD (o := 0) tk54 (ev_yes rfl hc) (psAt 0 rfl) hc rfl) (aL_s _ rfl rfl (fun hc => q_lenS Try.underlying54 (ev_yes rfl hc)) (aL_s _ rfl rfl (fun hc => q_geq (ev_yes rfl hc) (ev_yes rfl hc)) (aL_s true rfl rfl (fun _ => q_or rfl rfl (fun h => gf rfl h)) (aL_nil (thn_n ?_)))))
  refine awp_cond _ rfl (fun h1 => ?_) (fun h1 => ?_)
  ·skip
   have hno : ¬ (0 ≤ o ∧ o < x.objs.l.length ∧ 0 ≤ s ∧ s < (elt x.objs.l o).secs.l.length ∧ o < x.keep.l.length ∧ s < (elt x.keep.l o).l.length) := by simp at h1; omega
   refine awp_seq (awp_region (aL_s true rfl rfl (fun _ => q_assign rfl) (aL_nil (thn_n (awp_ret (thn_r ?_))))))
   refine fin1 [] [] rfl Try.results16 rfl ?_ (.inr rfl)
   rw [keptF_spec, decide_eq_false hno]; rfl
  ·skip
   have hyes : 0 ≤ o ∧ o < x.objs.l.length ∧ 0 ≤ s ∧ s < (elt x.objs.l o).secs.l.length ∧ o < x.keep.l.length ∧ s < (elt x.keep.l o).l.length := by simp at h1; omega
   refine awp_skip (thn_n (awp_seq (awp_region (aL_s true rfl rfl (fun _ => q_move rfl) (aL_s true rfl rfl (fun _ => q_move rfl) ?_)))))
   refine aL_E true rfl rfl (fun _ => q_indexAddrG Try.underlying27 tk54 rfl ((GLink.f_keep (.of (psAt 2 rfl)))) rfl (rows_elt (i := o) (by omega) (by omega)) (by omega) rfl) (fun h => absurd h (by decide)) (fun ⟨b3_2, o3_2⟩ => ?_)
   refine aL_s true rfl rfl (fun _ => q_loadD (o := 0) tk54 rfl (psAt 0 rfl) rfl rfl) (aL_s true rfl rfl (fun _ => q_move rfl) ?_)
   refine aL_E true rfl rfl (fun _ => q_indexAddrG Try.underlying54 tk4 rfl (((GLink.f_keepA (.of (psAt 3 rfl))).elt (i := o) (by omega) (by omega))) rfl (rows_elt (i := s) (by omega) (by omega)) (by omega) rfl) (fun h => absurd h (by decide)) (fun ⟨b3_5, o3_5⟩ => ?_)
   refine aL_s true rfl rfl (fun _ => q_loadD (o := 0) tk4 rfl (psAt 0 rfl) rfl rfl) (aL_s true rfl rfl (fun _ => q_assign rfl) (aL_nil (thn_n (awp_ret ?_))))
   refine fin1 [] [] rfl Try.results16 rfl ?_ (.inr rfl)
   rw [keptF_spec, decide_eq_true hyes]; rfl
theorem con_rchoice (x : GLink) (o k : Int) : Con Try.prog 43 [x.choices.val, .int .i64 o, .int .i64 k] [x.ok] [] fun r _ _ => r = (choiceF x.choices.l o k).val := by
  refine Con.enter Try.func43 rfl (by simp [Try.ntmps43]) ?_
  show awp _ _ _ _ ⟨[(0, true, _), (1, true, _), (2, true, _)], _, _⟩
  refine awp_seq (awp_region ?_)
  refine aL_eff (q := true) rfl (x_alloc (zs := [.int .i64 0, .int .i64 0, .int .i64 0, .int .i64 0, .int .i64 0, .bool false]) (by kernel_rfl) rfl (fun b0_0 => ?_))
  refine aL_hp (by (try simp only [nM, nN]); rfl) ?_
  refine aL_nil (thn_n (awp_seq (awp_seq (awp_region (aL_s true rfl rfl (fun _ => q_move rfl) (aL_s true rfl rfl (fun _ => q_lss rfl rfl) (aL_s true rfl rfl (fun _ => q_move rfl) ?_)))))))
  refine aL_s _ rfl rfl (fun hc => q_move rfl) (aL_s _ rfl rfl (fun hc => q_move rfl) (aL_s _ rfl rfl (fun hc => q_lenS Try.underlying28 (ev_yes rfl hc)) (aL_s _ rfl rfl (fun hc => q_geq (ev_yes rfl hc) (ev_yes rfl hc)) (aL_s true rfl rfl (fun _ => q_or rfl rfl (fun h => gf rfl h)) (aL_s true rfl rfl (fun _ => q_move rfl) (aL_s _ rfl rfl (fun hc => q_move rfl) (aL_s _ rfl rfl (fun hc => q_lss (ev_yes rfl hc) rfl) ?_)))))))
  refine aL_s true rfl rfl (fun _ => q_or rfl rfl (fun h => gf rfl h)) (aL_s true rfl rfl (fun _ => q_move rfl) (aL_s _ rfl rfl (fun hc => q_move rfl) (aL_s _ rfl rfl (fun hc => q_move rfl) (aL_s _ rfl rfl (fun hc => q_move rfl) ?_))))
  refine aL_E _ rfl rfl (fun hc => q_indexAddrG Try.underlying28 tk69 (ev_yes rfl hc) ((GLink.f_choices (.of (psAt 0 rfl)))) (ev_yes rfl hc) (rows_elt (i := o) (by simp at hc; omega) (by simp at hc; omega)) (by simp at hc; omega) rfl) (fun _ => ⟨(0, 0)⟩) (fun ⟨b1_16, o1_16⟩ => ?_)
  refine aL_s _ rfl rfl (fun hc => q_loadD (o := 0) tk69 (ev_yes rfl hc) (psAt 0 rfl) hc rfl) (aL_s _ rfl rfl (fun hc => q_lenS Try.underlying69 (ev_yes rfl hc)) (aL_s _ rfl rfl (fun hc => q_geq (ev_yes rfl hc) (ev_yes rfl hc)) (aL_s true rfl rfl (fun _ => q_or rfl rfl (fun h => gf rfl h)) (aL_nil (thn_n ?_)))))
  refine awp_cond _ rfl (fun h1 => ?_) (fun h1 => ?_)
  ·skip
   have hno : ¬ (0 ≤ o ∧ o < x.choices.l.length ∧ 0 ≤ k ∧ k < (elt x.choices.l o).l.length) := by simp at h1; omega
   refine awp_seq (awp_region ?_)
   refine aL_s true rfl rfl (fun _ => q_bld (l := []) (zs := [.int .i64 0, .int .i64 0, .int .i64 0, .int .i64 0, .int .i64 0, .bool false]) (pl := [(0, 1), (1, 1), (2, 1), (3, 1), (4, 1), (5, 1)]) (by kernel_rfl) (by kernel_rfl) (by kernel_rfl) rfl rfl rfl) ?_
   refine aL_eff rfl (x_store 0 tk68 rfl rfl rfl rfl ?_)
   refine aL_hp (by simp only [nK, nL]; rfl) ?_
   refine aL_nil (thn_n (awp_ret (thn_r ?_)))
   refine finR1 [] [] rfl Try.results43 (rv_cell 0 tk68 rfl rfl rfl) ?_ (.inr rfl)
   rw [show choiceF x.choices.l o k = default from if_neg (by simp [indexF]; omega)]; rfl
  ·skip
   have hyes : 0 ≤ o ∧ o < x.choices.l.length ∧ 0 ≤ k ∧ k < (elt x.choices.l o).l.length := by simp at h1; omega
   refine awp_skip (thn_n (awp_seq (awp_region (aL_s true rfl rfl (fun _ => q_move rfl) (aL_s true rfl rfl (fun _ => q_move rfl) ?_)))))
   refine aL_E true rfl rfl (fun _ => q_indexAddrG Try.underlying28 tk69 rfl ((GLink.f_choices (.of (psAt 1 rfl)))) rfl (rows_elt (i := o) (by omega) (by omega)) (by omega) rfl) (fun h => absurd h (by decide)) (fun ⟨b3_2, o3_2⟩ => ?_)
   refine aL_s true rfl rfl (fun _ => q_loadD (o := 0) tk69 rfl (psAt 0 rfl) rfl rfl) (aL_s true rfl rfl (fun _ => q_move rfl) ?_)
   refine aL_E true rfl rfl (fun _ => q_indexAddrG Try.underlying69 tk68 rfl (((GLink.f_choicesA (.of (psAt 2 rfl))).elt (i := o) (by omega) (by omega))) rfl (rows_elt (i := k) (by omega) (by omega)) (by omega) rfl) (fun h => absurd h (by decide)) (fun ⟨b3_5, o3_5⟩ => ?_)
   refine aL_s true rfl rfl (fun _ => q_loadD (o := 0) tk68 rfl (psAt 0 rfl) rfl rfl) ?_
   refine aL_eff rfl (x_store 0 tk68 rfl rfl rfl rfl ?_)
   refine aL_hp (by simp only [nK, nL]; rfl) ?_
   refine aL_nil (thn_n (awp_ret ?_))
   refine finR1 [] [] rfl Try.results43 (rv_cell 0 tk68 rfl rfl rfl) ?_ (.inr rfl)
   rw [show choiceF x.choices.l o k = elt (elt x.choices.l o).l k from if_pos (by simp [indexF]; omega)]
/-- the section of a choice, by object and place -/
def refBad (x : GLink) (o k : Int) : Bool :=
  decide ((choiceF x.choices.l o k).kind ≠ 1) && decide ((choiceF x.choices.l o k).kind ≠ 2) || !decide (0 ≤ (choiceF x.choices.l o k).obj ∧ (choiceF x.choices.l o k).obj < x.objs.l.length ∧ 0 ≤ (choiceF x.choices.l o k).sym ∧ (choiceF x.choices.l o k).sym < (elt x.objs.l (choiceF x.choices.l o k).obj).syms.l.length)
def refSec (x : GLink) (o k : Int) : Int × Int × Bool := if refBad x o k then (0, 0, false) else ((choiceF x.choices.l o k).obj, secOf x o k, keptF x.objs.l x.keep.l (choiceF x.choices.l o k).obj (secOf x o k))
theorem con_rsection (x : GLink) (o k : Int) : Con Try.prog 44 [x.objs.val, x.keep.val, x.choices.val, .int .i64 o, .int .i64 k] [x.ok] [] fun r _ _ => r = .tuple #[.int .i64 (refSec x o k).1, .int .i64 (refSec x o k).2.1, .bool (refSec x o k).2.2] := by
  refine Con.enter Try.func44 rfl (by simp [Try.ntmps44]) ?_
  show awp _ _ _ _ ⟨[(0, true, _), (1, true, _), (2, true, _), (3, true, _), (4, true, _)], _, _⟩
  obtain ⟨c, hcc⟩ : ∃ c, choiceF x.choices.l o k = c := ⟨_, rfl⟩
  have hrc := con_rchoice x o k
  rw [hcc] at hrc
  refine awp_seq (awp_region (aL_s true rfl rfl (fun _ => q_assign rfl) (aL_s true rfl rfl (fun _ => q_assign rfl) (aL_s true rfl rfl (fun _ => q_assign rfl) (aL_nil (thn_n (awp_seq ?_)))))))
  refine awp_region (aL_s true rfl rfl (fun _ => q_move rfl) (aL_s true rfl rfl (fun _ => q_move rfl) (aL_s true rfl rfl (fun _ => q_move rfl) ?_)))
  refine aL_s true rfl rfl (fun _ => q_call (by kernel_rfl) rfl (fun w S fp hst => hrc.quiet1 (psAt 0 rfl) hst)) ?_
  refine aL_eff (q := true) rfl (x_alloc (zs := [.int .i64 0, .int .i64 0, .int .i64 0, .int .i64 0, .int .i64 0, .bool false]) (by kernel_rfl) rfl (fun b1_4 => ?_))
  refine aL_hp (by (try simp only [nM, nN]); rfl) ?_
  refine aL_eff rfl (x_store 0 tk68 rfl rfl rfl rfl ?_)
  refine aL_hp (by simp only [nK, nL]; rfl) ?_
  refine aL_nil (thn_n (awp_seq (awp_seq ?_)))
  refine awp_drawnC [] [] [b1_4] (by kernel_rfl) ?_
  show aC _ _ _ _ _ _ _ 37 #[false, false, false, false, false, false, false, false, false, false, false, false, false, false, false, false, false, false, false, false, false, false, false, false, false, false, false, false, false, false, false, false, false, false, false, false, false] _
  refine aC_f 0 rfl (by kernel_rfl) true rfl rfl (fun _ => q_fieldAddr (off := 0) (by kernel_rfl) rfl) ?_
  refine aC_box 1 0 rfl (by kernel_rfl) true rfl rfl (by simp) tk3 (fun _ => rfl) rfl rfl ?_
  refine aC_f 2 rfl (by kernel_rfl) true rfl rfl (fun _ => q_neq rfl rfl) ?_
  refine aC_f 3 rfl (by kernel_rfl) true rfl rfl (fun _ => q_move rfl) ?_
  refine aC_f 4 rfl (by kernel_rfl) _ rfl rfl (fun hc => q_fieldAddr (off := 0) (by kernel_rfl) rfl) ?_
  refine aC_box 5 0 rfl (by kernel_rfl) _ rfl rfl (by simp) tk3 (fun hc => (ev_yes rfl hc)) rfl rfl ?_
  refine aC_f 6 rfl (by kernel_rfl) _ rfl rfl (fun hc => q_neq (ev_yes rfl hc) rfl) ?_
  refine aC_f 7 rfl (by kernel_rfl) true rfl rfl (fun _ => q_and rfl rfl (fun h => gt rfl h)) ?_
  refine aC_f 8 rfl (by kernel_rfl) true rfl rfl (fun _ => q_move rfl) ?_
  refine aC_f 9 rfl (by kernel_rfl) _ rfl rfl (fun hc => q_fieldAddr (off := 1) (by kernel_rfl) rfl) ?_
  refine aC_box 10 0 rfl (by kernel_rfl) _ rfl rfl (by simp) tk3 (fun hc => (ev_yes rfl hc)) rfl rfl ?_
  refine aC_f 11 rfl (by kernel_rfl) _ rfl rfl (fun hc => q_lss (ev_yes rfl hc) rfl) ?_
  refine aC_f 12 rfl (by kernel_rfl) true rfl rfl (fun _ => q_or rfl rfl (fun h => gf rfl h)) ?_
  refine aC_f 13 rfl (by kernel_rfl) true rfl rfl (fun _ => q_move rfl) ?_
  refine aC_f 14 rfl (by kernel_rfl) _ rfl rfl (fun hc => q_fieldAddr (off := 1) (by kernel_rfl) rfl) ?_
  refine aC_box 15 0 rfl (by kernel_rfl) _ rfl rfl (by simp) tk3 (fun hc => (ev_yes rfl hc)) rfl rfl ?_
  refine aC_f 16 rfl (by kernel_rfl) _ rfl rfl (fun hc => q_move rfl) ?_
  refine aC_f 17 rfl (by kernel_rfl) _ rfl rfl (fun hc => q_lenS Try.underlying26 (ev_yes rfl hc)) ?_
  refine aC_f 18 rfl (by kernel_rfl) _ rfl rfl (fun hc => q_geq (ev_yes rfl hc) (ev_yes rfl hc)) ?_
  refine aC_f 19 rfl (by kernel_rfl) true rfl rfl (fun _ => q_or rfl rfl (fun h => gf rfl h)) ?_
  refine aC_f 20 rfl (by kernel_rfl) true rfl rfl (fun _ => q_move rfl) ?_
  refine aC_f 21 rfl (by kernel_rfl) _ rfl rfl (fun hc => q_fieldAddr (off := 2) (by kernel_rfl) rfl) ?_
  refine aC_box 22 0 rfl (by kernel_rfl) _ rfl rfl (by simp) tk3 (fun hc => (ev_yes rfl hc)) rfl rfl ?_
  refine aC_f 23 rfl (by kernel_rfl) _ rfl rfl (fun hc => q_lss (ev_yes rfl hc) rfl) ?_
  refine aC_f 24 rfl (by kernel_rfl) true rfl rfl (fun _ => q_or rfl rfl (fun h => gf rfl h)) ?_
  refine aC_f 25 rfl (by kernel_rfl) true rfl rfl (fun _ => q_move rfl) ?_
  refine aC_f 26 rfl (by kernel_rfl) _ rfl rfl (fun hc => q_fieldAddr (off := 2) (by kernel_rfl) rfl) ?_
  refine aC_box 27 0 rfl (by kernel_rfl) _ rfl rfl (by simp) tk3 (fun hc => (ev_yes rfl hc)) rfl rfl ?_
  refine aC_f 28 rfl (by kernel_rfl) _ rfl rfl (fun hc => q_move rfl) ?_
  refine aC_f 29 rfl (by kernel_rfl) _ rfl rfl (fun hc => q_fieldAddr (off := 1) (by kernel_rfl) rfl) ?_
  refine aC_box 30 0 rfl (by kernel_rfl) _ rfl rfl (by simp) tk3 (fun hc => (ev_yes rfl hc)) rfl rfl ?_
  refine aC_R 31 rfl (by kernel_rfl) _ rfl rfl (fun hc => q_indexAddrGR Try.underlying26 tk53 (ev_yes rfl hc) ((GLink.f_objs (.of (psAt 0 rfl)))) (ev_yes rfl hc) (rows_elt (i := c.obj) (by simp at hc; omega) (by simp at hc; omega)) (by simp at hc; omega) rfl) (fun _ => ⟨(0, 0)⟩) (fun ⟨b2_31, o2_31⟩ => ?_)
  refine aC_f 32 rfl (by kernel_rfl) _ rfl rfl (fun hc => q_fieldAddr (off := 2) (by kernel_rfl) (ev_yes rfl hc)) ?_
  refine aC_f 33 rfl (by kernel_rfl) _ rfl rfl (fun hc => q_loadD (o := 2) tk43 (ev_yes rfl hc) (psAt 0 rfl) hc rfl) ?_
  refine aC_f 34 rfl (by kernel_rfl) _ rfl rfl (fun hc => q_lenS Try.underlying43 (ev_yes rfl hc)) ?_
  refine aC_f 35 rfl (by kernel_rfl) _ rfl rfl (fun hc => q_geq (ev_yes rfl hc) (ev_yes rfl hc)) ?_
  refine aC_f 36 rfl (by kernel_rfl) true rfl rfl (fun _ => q_or rfl rfl (fun h => gf rfl h)) ?_
  refine aC_nil (by kernel_rfl) ?_
  refine thn_n ?_
  refine awp_cond _ rfl (fun h1 => ?_) (fun h1 => ?_)
  ·skip
   have hb : refBad x o k = true := by unfold refBad; rw [hcc]; simp at h1; simp; omega
   refine awp_seq (awp_region (aL_s true rfl rfl (fun _ => q_assign rfl) (aL_s true rfl rfl (fun _ => q_assign rfl) (aL_s true rfl rfl (fun _ => q_assign rfl) (aL_nil (thn_n (awp_ret ?_)))))))
   refine thn_r ?_
   refine fin3 [] [] rfl Try.results44 rfl rfl rfl ?_ (.inr rfl)
   rw [show refSec x o k = (0, 0, false) from if_pos hb]
  ·skip
   have hb : refBad x o k = false := by unfold refBad; rw [hcc]; simp at h1; simp; omega
   have hyes : 0 ≤ c.obj ∧ c.obj < x.objs.l.length ∧ 0 ≤ c.sym ∧ c.sym < (elt x.objs.l c.obj).syms.l.length := by simp at h1; omega
   refine awp_skip (thn_n (awp_seq ?_))
   refine awp_drawnC [] [] [b1_4] (by kernel_rfl) ?_
   show aC _ _ _ _ _ _ _ 12 #[false, false, false, false, false, false, false, false, false, false, false, false] _
   refine aC_f 0 rfl (by kernel_rfl) true rfl rfl (fun _ => q_move rfl) ?_
   refine aC_f 1 rfl (by kernel_rfl) true rfl rfl (fun _ => q_fieldAddr (off := 1) (by kernel_rfl) rfl) ?_
   refine aC_box 2 0 rfl (by kernel_rfl) true rfl rfl (by simp) tk3 (fun _ => rfl) rfl rfl ?_
   refine aC_R1 3 rfl (by kernel_rfl) rfl rfl (q_indexAddrGR Try.underlying26 tk53 rfl ((GLink.f_objs (.of (psAt 1 rfl)))) rfl (rows_elt (i := c.obj) (by omega) (by omega)) (by omega) rfl) (fun ⟨b4_3, o4_3⟩ => ?_)
   refine aC_f 4 rfl (by kernel_rfl) true rfl rfl (fun _ => q_fieldAddr (off := 2) (by kernel_rfl) rfl) ?_
   refine aC_f 5 rfl (by kernel_rfl) true rfl rfl (fun _ => q_loadDE (o := 2) tk43 rfl (.of (psAt 0 rfl)) rfl) ?_
   refine aC_f 6 rfl (by kernel_rfl) true rfl rfl (fun _ => q_fieldAddr (off := 2) (by kernel_rfl) rfl) ?_
   refine aC_box 7 0 rfl (by kernel_rfl) true rfl rfl (by simp) tk3 (fun _ => rfl) rfl rfl ?_
   refine aC_R1 8 rfl (by kernel_rfl) rfl rfl (q_indexAddrGR Try.underlying43 tk88 rfl ((GObject.f_syms ((GLink.f_objsA (.of (psAt 2 rfl))).elt (i := c.obj) (by omega) (by omega)))) rfl (rows_elt (i := c.sym) (by omega) (by omega)) (by omega) rfl) (fun ⟨b4_8, o4_8⟩ => ?_)
   refine aC_f 9 rfl (by kernel_rfl) true rfl rfl (fun _ => q_fieldAddr (off := 6) (by kernel_rfl) rfl) ?_
   refine aC_f 10 rfl (by kernel_rfl) true rfl rfl (fun _ => q_loadDE (o := 6) tk3 rfl (.of (psAt 0 rfl)) rfl) ?_
   refine aC_f 11 rfl (by kernel_rfl) true rfl rfl (fun _ => q_assign rfl) ?_
   refine aC_nil (by kernel_rfl) ?_
   refine thn_n (awp_seq ?_)
   refine awp_drawnC [] [] [b1_4] (by kernel_rfl) ?_
   show aC _ _ _ _ _ _ _ 12 #[false, false, false, false, false, false, false, false, false, false, false, false] _
   refine aC_f 0 rfl (by kernel_rfl) true rfl rfl (fun _ => q_fieldAddr (off := 1) (by kernel_rfl) rfl) ?_
   refine aC_box 1 0 rfl (by kernel_rfl) true rfl rfl (by simp) tk3 (fun _ => rfl) rfl rfl ?_
   refine aC_f 2 rfl (by kernel_rfl) true rfl rfl (fun _ => q_move rfl) ?_
   refine aC_f 3 rfl (by kernel_rfl) true rfl rfl (fun _ => q_move rfl) ?_
   refine aC_f 4 rfl (by kernel_rfl) true rfl rfl (fun _ => q_move rfl) ?_
   refine aC_f 5 rfl (by kernel_rfl) true rfl rfl (fun _ => q_fieldAddr (off := 1) (by kernel_rfl) rfl) ?_
   refine aC_box 6 0 rfl (by kernel_rfl) true rfl rfl (by simp) tk3 (fun _ => rfl) rfl rfl ?_
   refine aC_f 7 rfl (by kernel_rfl) true rfl rfl (fun _ => q_move rfl) ?_
   refine aC_f 8 rfl (by kernel_rfl) true rfl rfl (fun _ => q_call (by kernel_rfl) rfl (fun w S fp hst => (con_rkept x _ _).quiet1 (psAt 3 rfl) hst)) ?_
   refine aC_f 9 rfl (by kernel_rfl) true rfl rfl (fun _ => q_assign rfl) ?_
   refine aC_f 10 rfl (by kernel_rfl) true rfl rfl (fun _ => q_assign rfl) ?_
   refine aC_f 11 rfl (by kernel_rfl) true rfl rfl (fun _ => q_assign rfl) ?_
   refine aC_nil (by kernel_rfl) ?_
   refine thn_n (awp_ret ?_)
   refine fin3 [] [] rfl Try.results44 rfl rfl rfl ?_ (.inr rfl)
   rw [show refSec x o k = _ from if_neg (by rw [hb]; decide)]; unfold secOf; rw [hcc]
theorem con_rchosen (x : GLink) (o k : Int) : Con Try.prog 29 [x.choices.val, .int .i64 o, .int .i64 k] [x.ok] [] fun r _ _ => r = .bool (decide ((choiceF x.choices.l o k).kind = 2) && decide ((choiceF x.choices.l o k).obj = o) && decide ((choiceF x.choices.l o k).sym = k)) := by
  refine Con.enter Try.func29 rfl (by simp [Try.ntmps29]) ?_
  show awp _ _ _ _ ⟨[(0, true, _), (1, true, _), (2, true, _)], _, _⟩
  obtain ⟨c, hcc⟩ : ∃ c, choiceF x.choices.l o k = c := ⟨_, rfl⟩
  have hrc := con_rchoice x o k
  rw [hcc] at hrc ⊢
  refine awp_seq (awp_region (aL_s true rfl rfl (fun _ => q_assign rfl) (aL_nil (thn_n (awp_seq (awp_region (aL_s true rfl rfl (fun _ => q_move rfl) ?_)))))))
  refine aL_s true rfl rfl (fun _ => q_move rfl) (aL_s true rfl rfl (fun _ => q_move rfl) ?_)
  refine aL_s true rfl rfl (fun _ => q_call (by kernel_rfl) rfl (fun w S fp hst => hrc.quiet1 (psAt 0 rfl) hst)) ?_
  refine aL_eff (q := true) rfl (x_alloc (zs := [.int .i64 0, .int .i64 0, .int .i64 0, .int .i64 0, .int .i64 0, .bool false]) (by kernel_rfl) rfl (fun b1_4 => ?_))
  refine aL_hp (by (try simp only [nM, nN]); rfl) ?_
  refine aL_eff rfl (x_store 0 tk68 rfl rfl rfl rfl ?_)
  refine aL_hp (by simp only [nK, nL]; rfl) ?_
  refine aL_nil (thn_n (awp_seq (awp_region ?_)))
  refine aL_s true rfl rfl (fun _ => q_fieldAddr (off := 0) (by kernel_rfl) rfl) ?_
  refine aL_s true rfl rfl (fun _ => q_load 0 tk3 rfl rfl rfl) (aL_s true rfl rfl (fun _ => q_eql rfl rfl) (aL_s true rfl rfl (fun _ => q_move rfl) ?_))
  refine aL_s _ rfl rfl (fun hc => q_fieldAddr (off := 1) (by kernel_rfl) rfl) ?_
  refine aL_s _ rfl rfl (fun hc => q_load 0 tk3 (ev_yes rfl hc) rfl rfl) (aL_s _ rfl rfl (fun hc => q_move rfl) (aL_s _ rfl rfl (fun hc => q_eql (ev_yes rfl hc) (ev_yes rfl hc)) (aL_s true rfl rfl (fun _ => q_and rfl rfl (fun h => gt rfl h)) (aL_s true rfl rfl (fun _ => q_move rfl) ?_))))
  refine aL_s _ rfl rfl (fun hc => q_fieldAddr (off := 2) (by kernel_rfl) rfl) ?_
  refine aL_s _ rfl rfl (fun hc => q_load 0 tk3 (ev_yes rfl hc) rfl rfl) (aL_s _ rfl rfl (fun hc => q_move rfl) (aL_s _ rfl rfl (fun hc => q_eql (ev_yes rfl hc) (ev_yes rfl hc)) (aL_s true rfl rfl (fun _ => q_and rfl rfl (fun h => gt rfl h)) (aL_s true rfl rfl (fun _ => q_assign rfl) (aL_nil (thn_n (awp_ret ?_)))))))
  refine fin1 [] [] rfl Try.results29 rfl ?_ (.inr rfl)
  rfl
def hiddenSym (nm : ByteArray) (y : GSymbol) : Bool := decide (y.name.toList = nm.toList) && decide (y.bind ≠ 0) && decide (y.vis = 2)
def hiddenF (os : List GObject) (nm : ByteArray) : Bool := os.any fun o => o.syms.l.any (hiddenSym nm)
theorem con_rhidden (x : GLink) (nm : ByteArray) : Con Try.prog 31 [x.objs.val, .string nm] [x.ok] [] fun r _ _ => r = .bool (hiddenF x.objs.l nm) := by
  refine Con.enter Try.func31 rfl (by simp [Try.ntmps31]) ?_
  show awp _ _ _ _ ⟨[(0, true, _), (1, true, _)], _, _⟩
  refine awp_lenE (GLink.f_objs (.of (psAt 0 rfl))) (fun hlen => ?_)
  refine awp_seq (awp_region (aL_s true rfl rfl (fun _ => q_assign rfl) (aL_nil (thn_n (awp_seq (awp_seq (awp_region ?_)))))))
  refine aL_s true rfl rfl (fun _ => q_assign rfl) (aL_nil (thn_n (awp_block (awp_loopK [0, 1, 4, 5] [0] [] (fun (k : Nat) s => (k ≤ x.objs.l.length ∧ (x.objs.l.take k).any (fun o => o.syms.l.any (hiddenSym nm)) = false) ∧ s = ⟨[(0, true, x.objs.val), (1, true, .string nm), (4, true, .bool false), (5, true, .int .i64 k)], [x.ok], []⟩) (fun k => x.objs.l.length - k) rfl (⟨0, ⟨Nat.zero_le _, rfl⟩, rfl⟩) ?_))))
  rintro k s ⟨⟨hk, hno⟩, rfl⟩
  refine awp_seq (awp_seq (awp_region (aL_s true rfl rfl (fun _ => q_move rfl) (aL_s true rfl rfl (fun _ => q_move rfl) (aL_s true rfl rfl (fun _ => q_lenS Try.underlying26 rfl) (aL_s true rfl rfl (fun _ => q_lss rfl rfl) (aL_nil ?_)))))))
  refine thn_n ?_
  refine awp_cond _ rfl (fun h1 => ?_) (fun h1 => ?_)
  ·skip
   have hk' : k < x.objs.l.length := by simp at h1; omega
   obtain ⟨o, ho⟩ : ∃ o, x.objs.l[k]? = some o := ⟨_, List.getElem?_eq_getElem hk'⟩
   refine awp_lenE (GObject.f_syms ((GLink.f_objsA (.of (psAt 0 rfl))).all ho)) (fun hlen2 => ?_)
   refine awp_skip (thn_n (awp_seq (awp_block (awp_seq (awp_region (aL_s true rfl rfl (fun _ => q_assign rfl) (aL_nil ?_)))))))
   refine thn_n (awp_block (awp_loopK [0, 1, 4, 5, 6] [0] [] (fun (j : Nat) s => (j ≤ o.syms.l.length ∧ (o.syms.l.take j).any (hiddenSym nm) = false) ∧ s = ⟨[(0, true, x.objs.val), (1, true, .string nm), (4, true, .bool false), (5, true, .int .i64 k), (6, true, .int .i64 j)], [x.ok], []⟩) (fun j => o.syms.l.length - j) rfl (⟨0, ⟨Nat.zero_le _, rfl⟩, rfl⟩) ?_))
   rintro j s ⟨⟨hj, hnj⟩, rfl⟩
   refine awp_seq (awp_seq (awp_region (aL_s true rfl rfl (fun _ => q_move rfl) (aL_s true rfl rfl (fun _ => q_move rfl) (aL_s true rfl rfl (fun _ => q_move rfl) ?_)))))
   refine aL_E true rfl rfl (fun _ => q_indexAddrG Try.underlying26 tk53 rfl ((GLink.f_objs (.of (psAt 0 rfl)))) rfl (rows_get ho) rfl rfl) (fun h => absurd h (by decide)) (fun ⟨b5_3, o5_3⟩ => ?_)
   refine aL_s true rfl rfl (fun _ => q_fieldAddr (off := 2) (by kernel_rfl) rfl) ?_
   refine aL_s true rfl rfl (fun _ => q_loadD (o := 2) tk43 rfl (psAt 0 rfl) rfl rfl) (aL_s true rfl rfl (fun _ => q_lenS Try.underlying43 rfl) (aL_s true rfl rfl (fun _ => q_lss rfl rfl) (aL_nil (thn_n ?_))))
   refine awp_cond _ rfl (fun h2 => ?_) (fun h2 => ?_)
   ·skip
    have hj' : j < o.syms.l.length := by simp at h2; omega
    obtain ⟨y, hy⟩ : ∃ y, o.syms.l[j]? = some y := ⟨_, List.getElem?_eq_getElem hj'⟩
    refine awp_skip (thn_n (awp_seq (awp_block (awp_seq (awp_region (aL_s true rfl rfl (fun _ => q_move rfl) (aL_s true rfl rfl (fun _ => q_move rfl) ?_)))))))
    refine aL_E true rfl rfl (fun _ => q_indexAddrG Try.underlying26 tk53 rfl ((GLink.f_objs (.of (psAt 1 rfl)))) rfl (rows_get ho) rfl rfl) (fun h => absurd h (by decide)) (fun ⟨b7_2, o7_2⟩ => ?_)
    refine aL_s true rfl rfl (fun _ => q_fieldAddr (off := 2) (by kernel_rfl) rfl) ?_
    refine aL_s true rfl rfl (fun _ => q_loadD (o := 2) tk43 rfl (psAt 0 rfl) rfl rfl) (aL_s true rfl rfl (fun _ => q_move rfl) ?_)
    refine aL_E true rfl rfl (fun _ => q_indexAddrG Try.underlying43 tk88 rfl ((GObject.f_syms ((GLink.f_objsA (.of (psAt 2 rfl))).all ho))) rfl (rows_get hy) rfl rfl) (fun h => absurd h (by decide)) (fun ⟨b7_6, o7_6⟩ => ?_)
    refine aL_s true rfl rfl (fun _ => q_loadD (o := 0) tk88 rfl (psAt 0 rfl) rfl rfl) ?_
    refine aL_eff (q := true) rfl (x_alloc (zs := [.string .empty, .string .empty, .bool false, .int .i64 0, .int .i64 0, .int .i64 0, .int .i64 0, .int .i64 0, .int .i64 0, .int .i64 0]) (by kernel_rfl) rfl (fun b7_8 => ?_))
    refine aL_hp (by (try simp only [nM, nN]); rfl) ?_
    refine aL_eff rfl (x_store 0 tk88 rfl rfl rfl rfl ?_)
    refine aL_hp (by simp only [nK, nL]; rfl) ?_
    refine aL_nil (thn_n (awp_seq (awp_region ?_)))
    refine aL_s true rfl rfl (fun _ => q_fieldAddr (off := 0) (by kernel_rfl) rfl) ?_
    refine aL_s true rfl rfl (fun _ => q_load 0 tk9 rfl rfl rfl) (aL_s true rfl rfl (fun _ => q_move rfl) (aL_s true rfl rfl (fun _ => qs_eql rfl rfl) (aL_s true rfl rfl (fun _ => q_move rfl) ?_)))
    refine aL_s _ rfl rfl (fun hc => q_fieldAddr (off := 3) (by kernel_rfl) rfl) ?_
    refine aL_s _ rfl rfl (fun hc => q_load 0 tk3 (ev_yes rfl hc) rfl rfl) (aL_s _ rfl rfl (fun hc => q_neq (ev_yes rfl hc) rfl) (aL_s true rfl rfl (fun _ => q_and rfl rfl (fun h => gt rfl h)) (aL_s true rfl rfl (fun _ => q_move rfl) ?_)))
    refine aL_s _ rfl rfl (fun hc => q_fieldAddr (off := 4) (by kernel_rfl) rfl) ?_
    refine aL_s _ rfl rfl (fun hc => q_load 0 tk3 (ev_yes rfl hc) rfl rfl) (aL_s _ rfl rfl (fun hc => q_eql (ev_yes rfl hc) rfl) (aL_s true rfl rfl (fun _ => q_and rfl rfl (fun h => gt rfl h)) (aL_nil (thn_n ?_))))
    refine awp_cond _ rfl (fun h3 => ?_) (fun h3 => ?_)
    ·skip
     have hyes : hiddenSym nm y = true := by simpa [hiddenSym] using h3
     refine awp_seq (awp_region (aL_s true rfl rfl (fun _ => q_assign rfl) (aL_nil (thn_n (awp_ret (blk_r (thn_r ?_)))))))
     refine thn_r (blk_r (blk_r (thn_r (thn_r (blk_r (thn_r ?_))))))
     refine fin1 [] [] rfl Try.results31 rfl ?_ (.inr rfl)
     rw [show hiddenF x.objs.l nm = true from List.any_eq_true.2 ⟨o, List.mem_of_getElem? ho, List.any_eq_true.2 ⟨y, List.mem_of_getElem? hy, hyes⟩⟩]
    ·skip
     have hyes : hiddenSym nm y = false := by simpa [hiddenSym] using h3
     refine awp_skip (blk_n (thn_n (awp_region (aL_s true rfl rfl (fun _ => q_move rfl) ?_))))
     refine aL_s true rfl rfl (fun _ => q_addi rfl rfl (by omega)) ?_
     refine aL_s true rfl rfl (fun _ => q_assign rfl) (aL_nil (thn_n ?_))
     refine ⟨[0, 1, 4, 5, 6], [0], [], rfl, ?_⟩
     refine ⟨j + 1, ⟨⟨by omega, ?_⟩, rfl⟩, by omega⟩
     rw [List.take_add_one, hy, List.any_append, hnj]; simp [hyes]
   ·skip
    have hjl : o.syms.l.take j = o.syms.l := List.take_of_length_le (by simp at h2; omega)
    refine awp_exit (thn_e (thn_e (blk_hit (blk_n (thn_n (awp_region (aL_s true rfl rfl (fun _ => q_move rfl) ?_)))))))
    refine aL_s true rfl rfl (fun _ => q_addi rfl rfl (by omega)) ?_
    refine aL_s true rfl rfl (fun _ => q_assign rfl) (aL_nil (thn_n ?_))
    refine ⟨[0, 1, 4, 5], [0], [], rfl, ?_⟩
    refine ⟨k + 1, ⟨⟨by omega, ?_⟩, rfl⟩, by omega⟩
    rw [List.take_add_one, ho, List.any_append, hno]; rw [hjl] at hnj; simp [hnj]
  ·skip
   have hkl : x.objs.l.take k = x.objs.l := List.take_of_length_le (by simp at h1; omega)
   refine awp_exit (thn_e (thn_e (blk_hit (thn_n (awp_seq (awp_region (aL_s true rfl rfl (fun _ => q_assign rfl) ?_)))))))
   refine aL_nil (thn_n (awp_ret ?_))
   refine fin1 [] [] rfl Try.results31 rfl ?_ (.inr rfl)
   rw [hkl] at hno; rw [show hiddenF x.objs.l nm = false from hno]
def leadsF (x : GLink) (o k a b : Int) : Bool := decide (0 ≤ k ∧ k < (elt x.objs.l o).syms.l.length) && ((refSec x o k).2.2 && decide ((refSec x o k).1 = a) && decide ((refSec x o k).2.1 = b))
theorem con_rleads (x : GLink) (o k a b : Int) (ho : 0 ≤ o ∧ o < x.objs.l.length) : Con Try.prog 30 [x.objs.val, x.keep.val, x.choices.val, .int .i64 o, .int .i64 k, .int .i64 a, .int .i64 b] [x.ok] [] fun r _ _ => r = .bool (leadsF x o k a b) := by
  refine Con.enter Try.func30 rfl (by simp [Try.ntmps30]) ?_
  show awp _ _ _ _ ⟨[(0, true, _), (1, true, _), (2, true, _), (3, true, _), (4, true, _), (5, true, _), (6, true, _)], _, _⟩
  obtain ⟨c, hcc⟩ : ∃ c, refSec x o k = c := ⟨_, rfl⟩
  have hrs := con_rsection x o k
  rw [hcc] at hrs
  have hle : leadsF x o k a b = (decide (0 ≤ k ∧ k < (elt x.objs.l o).syms.l.length) && (c.2.2 && decide (c.1 = a) && decide (c.2.1 = b))) := by unfold leadsF; rw [hcc]
  rw [hle]
  refine awp_seq (awp_region (aL_s true rfl rfl (fun _ => q_assign rfl) (aL_nil (thn_n (awp_seq (awp_seq (awp_region ?_)))))))
  refine aL_s true rfl rfl (fun _ => q_move rfl) (aL_s true rfl rfl (fun _ => q_lss rfl rfl) (aL_s true rfl rfl (fun _ => q_move rfl) (aL_s _ rfl rfl (fun hc => q_move rfl) (aL_s _ rfl rfl (fun hc => q_move rfl) (aL_s _ rfl rfl (fun hc => q_move rfl) ?_)))))
  refine aL_E _ rfl rfl (fun hc => q_indexAddrG Try.underlying26 tk53 (ev_yes rfl hc) ((GLink.f_objs (.of (psAt 0 rfl)))) (ev_yes rfl hc) (rows_elt (i := o) (by omega) (by omega)) (by omega) rfl) (fun _ => ⟨(0, 0)⟩) (fun ⟨b1_6, o1_6⟩ => ?_)
  refine aL_s _ rfl rfl (fun hc => q_fieldAddr (off := 2) (by kernel_rfl) (ev_yes rfl hc)) ?_
  refine aL_s _ rfl rfl (fun hc => q_loadD (o := 2) tk43 (ev_yes rfl hc) (psAt 0 rfl) hc rfl) (aL_s _ rfl rfl (fun hc => q_lenS Try.underlying43 (ev_yes rfl hc)) (aL_s _ rfl rfl (fun hc => q_geq (ev_yes rfl hc) (ev_yes rfl hc)) (aL_s true rfl rfl (fun _ => q_or rfl rfl (fun h => gf rfl h)) (aL_nil (thn_n ?_)))))
  refine awp_cond _ rfl (fun h1 => ?_) (fun h1 => ?_)
  ·skip
   have hno : ¬ (0 ≤ k ∧ k < (elt x.objs.l o).syms.l.length) := by simp at h1; omega
   refine awp_seq (awp_region (aL_s true rfl rfl (fun _ => q_assign rfl) (aL_nil (thn_n (awp_ret (thn_r ?_))))))
   refine fin1 [] [] rfl Try.results30 rfl ?_ (.inr rfl)
   rw [decide_eq_false hno]; rfl
  ·skip
   have hyes : 0 ≤ k ∧ k < (elt x.objs.l o).syms.l.length := by simp at h1; omega
   refine awp_skip (thn_n (awp_seq (awp_region (aL_s true rfl rfl (fun _ => q_move rfl) (aL_s true rfl rfl (fun _ => q_move rfl) (aL_s true rfl rfl (fun _ => q_move rfl) (aL_s true rfl rfl (fun _ => q_move rfl) ?_)))))))
   refine aL_s true rfl rfl (fun _ => q_move rfl) ?_
   refine aL_s true rfl rfl (fun _ => q_call (by kernel_rfl) rfl (fun w S fp hst => hrs.quiet1 (psAt 1 rfl) hst)) ?_
   refine aL_s true rfl rfl (fun _ => q_move rfl) (aL_s true rfl rfl (fun _ => q_extract rfl rfl) (aL_s true rfl rfl (fun _ => q_extract rfl rfl) (aL_s true rfl rfl (fun _ => q_extract rfl rfl) (aL_s true rfl rfl (fun _ => q_assign rfl) (aL_s true rfl rfl (fun _ => q_assign rfl) (aL_s true rfl rfl (fun _ => q_assign rfl) (aL_nil ?_)))))))
   refine thn_n (awp_seq (awp_region (aL_s true rfl rfl (fun _ => q_move rfl) (aL_s true rfl rfl (fun _ => q_move rfl) (aL_s _ rfl rfl (fun hc => q_move rfl) (aL_s _ rfl rfl (fun hc => q_move rfl) (aL_s _ rfl rfl (fun hc => q_eql (ev_yes rfl hc) (ev_yes rfl hc)) ?_)))))))
   refine aL_s true rfl rfl (fun _ => q_and rfl rfl (fun h => gt rfl h)) (aL_s true rfl rfl (fun _ => q_move rfl) (aL_s _ rfl rfl (fun hc => q_move rfl) (aL_s _ rfl rfl (fun hc => q_move rfl) (aL_s _ rfl rfl (fun hc => q_eql (ev_yes rfl hc) (ev_yes rfl hc)) (aL_s true rfl rfl (fun _ => q_and rfl rfl (fun h => gt rfl h)) (aL_s true rfl rfl (fun _ => q_assign rfl) (aL_nil ?_)))))))
   refine thn_n (awp_ret ?_)
   refine fin1 [] [] rfl Try.results30 rfl ?_ (.inr rfl)
   rw [decide_eq_true hyes]; rfl
end Go.Proofs.Ytnbochlghdkfkaa
namespace Go.Sy
open Go.RowKit Go.Lp Go.MapKept
/-- keys of one kind -/
structure KeyOK {α : Type} (P : Program) (kt : TypeId) (κ : α → Value) : Prop where
  inj : ∀ a b, κ a = κ b → a = b
  check : ∀ (w : World) (em : Bool) (a : α), (Instr.checkKey em 10000 kt (κ a)).run P w = .ok () w
  find : ∀ (w : World) (x : α) (es : List MapEntry), (∀ e ∈ es, ∃ a, e.key = κ a) →
    ((Instr.findKey kt (κ x) es).run P w = .ok none w ∧ ∀ e ∈ es, e.key ≠ κ x) ∨ ∃ j e, (Instr.findKey kt (κ x) es).run P w = .ok (some (j, e.val)) w ∧ es[j]? = some e ∧ e.key = κ x
  stays : ∀ (w : World) (a : α), (Instr.keyThatStays (κ a) (κ a)).run P w = .ok (κ a) w
theorem keyOK_basic {α : Type} {P : Program} {kt : TypeId} {d : TypeDesc} {κ : α → Value} (hd : P.underlying kt = some d) (hk : ∀ a, IsKey d (κ a)) (inj : ∀ a b, κ a = κ b → a = b) : KeyOK P kt κ where
  inj := inj
  check w em a := run_checkKey hd (hk a) em 9999
  find w x es hes := by
    rcases findNow_spec (hk x) es 0 (fun e he => by obtain ⟨a, ha⟩ := hes e he; rw [ha]; exact hk a) with ⟨h1, h2⟩ | ⟨j, e, h1, h2, h3⟩
    · exact .inl ⟨run_findKey hd h1, h2⟩
    · exact .inr ⟨j, e, by rw [Nat.zero_add] at h1; exact run_findKey hd h1, h2, h3⟩
  stays w a := run_keyThatStays (hk a)
theorem keyStr {P : Program} {kt : TypeId} (hd : P.underlying kt = some .string) : KeyOK P kt (fun s : ByteArray => Value.string s) := keyOK_basic hd (fun _ => trivial) (fun _ _ h => by injection h)
theorem keyInt {P : Program} {kt : TypeId} (hd : P.underlying kt = some (.int .i64)) : KeyOK P kt (fun z : Int => Value.int .i64 z) := keyOK_basic hd (fun _ => rfl) (fun _ _ h => by injection h)
section
variable {α β : Type}
/-- these entries are this map -/
structure Ents (κ : α → Value) (ν : β → Value) (m : α → Option β) (es : List MapEntry) : Prop where
  of : ∀ e ∈ es, ∃ a v, e.key = κ a ∧ e.val = ν v ∧ m a = some v
  mem : ∀ a v, m a = some v → ∃ e ∈ es, e.key = κ a ∧ e.val = ν v
  apart : es.Pairwise fun e e' => e.key ≠ e'.key
/-- an own map -/
def MapR (b : Nat) (κ : α → Value) (ν : β → Value) (m : α → Option β) : Res :=
  ⟨fun w _ F => (∃ es clock, w.heap[b]? = some (.map es clock) ∧ Ents κ ν m es.toList) ∧ ∀ k, F k ↔ k = b, fun ⟨⟨es, clock, h, he⟩, hF⟩ h1 _ _ => ⟨⟨es, clock, (h1 b ((hF b).2 rfl)).trans h, he⟩, hF⟩⟩
def mput [DecidableEq α] (m : α → Option β) (k : α) (v : β) : α → Option β := fun a => if a = k then some v else m a
variable {κ : α → Value} {ν : β → Value} {m : α → Option β} {P : Program} {kt : TypeId}
theorem Ents.put [DecidableEq α] (K : KeyOK P kt κ) {es : Array MapEntry} (h : Ents κ ν m es.toList) (k : α) (v : β) {clock : Nat} (h0 : ∀ e ∈ es.toList, e.key ≠ κ k) : Ents κ ν (mput m k v) (es.push { key := κ k, val := ν v, born := clock }).toList where
  of e he := by
    rw [Array.toList_push, List.mem_append, List.mem_singleton] at he
    rcases he with he | rfl
    · obtain ⟨a, u, h1, h2, h3⟩ := h.of e he
      refine ⟨a, u, h1, h2, ?_⟩
      have : a ≠ k := fun e' => h0 e he (by rw [h1, e'])
      simp [mput, this, h3]
    · exact ⟨k, v, rfl, rfl, by simp [mput]⟩
  mem a u ha := by
    unfold mput at ha
    split at ha
    · rename_i hak
      simp only [Option.some.injEq] at ha
      subst hak ha
      exact ⟨_, by rw [Array.toList_push]; exact List.mem_append_right _ (List.mem_singleton.2 rfl), rfl, rfl⟩
    · obtain ⟨e, he, h1, h2⟩ := h.mem a u ha
      exact ⟨e, by rw [Array.toList_push]; exact List.mem_append_left _ he, h1, h2⟩
  apart := by
    rw [Array.toList_push, List.pairwise_append]
    exact ⟨h.apart, List.pairwise_singleton _ _, fun e he e' he' => by rw [List.mem_singleton.1 he']; exact h0 e he⟩
theorem Ents.turn [DecidableEq α] (K : KeyOK P kt κ) {es : Array MapEntry} (h : Ents κ ν m es.toList) (k : α) (v : β) {j : Nat} {e0 : MapEntry} (hj : es.toList[j]? = some e0) (h0 : e0.key = κ k) :
    Ents κ ν (mput m k v) (es.modify j fun e => { e with key := κ k, val := ν v }).toList := by
  have hjl : j < es.toList.length := (List.getElem?_eq_some_iff.1 hj).1
  have hg : ∀ i, (es.modify j fun e => { e with key := κ k, val := ν v }).toList[i]? = if i = j then some { e0 with key := κ k, val := ν v } else es.toList[i]? := fun i => by
    rw [Array.getElem?_toList, Array.getElem?_modify]
    by_cases hij : i = j
    · subst hij
      rw [if_pos rfl, if_pos rfl, ← Array.getElem?_toList, hj]; rfl
    · rw [if_neg hij, if_neg (Ne.symm hij), Array.getElem?_toList]
  have hpw := List.pairwise_iff_getElem.1 h.apart
  have hne : ∀ i e, es.toList[i]? = some e → i ≠ j → e.key ≠ κ k := fun i e hi hij hk => by
    obtain ⟨hil, rfl⟩ := List.getElem?_eq_some_iff.1 hi
    obtain ⟨_, rfl⟩ := List.getElem?_eq_some_iff.1 hj
    rcases Nat.lt_or_gt_of_ne hij with hlt | hlt
    · exact hpw i j hil hjl hlt (by rw [hk, h0])
    · exact hpw j i hjl hil hlt (by rw [hk, h0])
  refine ⟨fun e he => ?_, fun a u ha => ?_, ?_⟩
  · obtain ⟨i, hi⟩ := List.mem_iff_getElem?.1 he
    rw [hg] at hi
    split at hi
    · simp only [Option.some.injEq] at hi
      subst hi
      exact ⟨k, v, rfl, rfl, by simp [mput]⟩
    · rename_i hij
      obtain ⟨a, u, h1, h2, h3⟩ := h.of e (List.mem_of_getElem? hi)
      refine ⟨a, u, h1, h2, ?_⟩
      have : a ≠ k := fun e' => hne i e hi hij (by rw [h1, e'])
      simp [mput, this, h3]
  · unfold mput at ha
    split at ha
    · rename_i hak
      simp only [Option.some.injEq] at ha
      subst hak ha
      exact ⟨_, List.mem_of_getElem? (by rw [hg, if_pos rfl]), rfl, rfl⟩
    · rename_i hak
      obtain ⟨e, he, h1, h2⟩ := h.mem a u ha
      obtain ⟨i, hi⟩ := List.mem_iff_getElem?.1 he
      have hij : i ≠ j := fun hij => by
        rw [hij, hj] at hi
        simp only [Option.some.injEq] at hi
        subst hi
        exact hak (K.inj _ _ (by rw [← h1, h0]))
      exact ⟨e, List.mem_of_getElem? (i := i) (by rw [hg, if_neg hij, hi]), h1, h2⟩
  · rw [List.pairwise_iff_getElem]
    intro i i' hi hi' hlt
    have l1 := List.getElem?_eq_getElem hi
    have l2 := List.getElem?_eq_getElem hi'
    rw [hg] at l1 l2
    split at l1
    · rename_i hij
      rw [if_neg (by omega)] at l2
      simp only [Option.some.injEq] at l1
      rw [← l1]
      exact fun e => hne i' _ l2 (by omega) e.symm
    · rename_i hij
      split at l2
      · simp only [Option.some.injEq] at l2
        rw [← l2]
        exact hne i _ l1 hij
      · obtain ⟨q1, e1⟩ := List.getElem?_eq_some_iff.1 l1
        obtain ⟨q2, e2⟩ := List.getElem?_eq_some_iff.1 l2
        rw [← e1, ← e2]
        exact hpw i i' q1 q2 hlt
variable {n : Fr} {env : Env} {ps : List Per} {hp : List Res} {ty : TypeId} {pos : String} {af : Array Edge} {gd : Option (Nat × Bool)} {K : Sta → Prop} {d : Option Tmp} {q : Bool}
theorem e_makeMap {t : Nat} {T : TypeId} (κ : α → Value) (ν : β → Value) (ht : fits n (some t) = true) (hK : ∀ b, K ⟨(t, true, .map (some b)) :: env, ps, hp ++ [MapR b κ ν fun _ => none]⟩) :
    Eff P n ⟨some t, .makeMap T none, ty, pos, af, gd⟩ ⟨env, ps, hp⟩ q K := .push fun w S fp a hst he hn => by
  have : (execOp a.eval ⟨some t, .makeMap T none, ty, pos, af, gd⟩).run P w = .ok (.value (.map (some w.heap.size))) (w.alloc (.map #[] 0)) := by
    show ((Instr.makeMap T none).bind fun r => Sem.pure (Next.value r)).run P w = _
    rw [Sem.run_bind']
    have : (Instr.makeMap T none).run P w = .ok (.map (some w.heap.size)) (w.alloc (.map #[] 0)) := by
      simp [Instr.makeMap, Sem.run_bind, Result.andThen, newObj, Sem.run]
    rw [this]; rfl
  rw [this]
  refine ⟨MapR w.heap.size κ ν fun _ => none, fun b => b = w.heap.size, _, hK w.heap.size, rfl, rfl, he.put (g := true) (by rw [hn]; simpa [fits] using ht) _, below_new _ _, ⟨⟨#[], 0, heap_new _ _, ⟨fun e he => (by simp at he), fun a v h => (by cases h), List.Pairwise.nil⟩⟩, fun _ => Iff.rfl⟩, fun b hb => ?_⟩
  subst hb
  exact ⟨Nat.le_refl _, by rw [World.size_alloc]; omega⟩
theorem e_mapUpdate [DecidableEq α] {T E : TypeId} {x y z : Operand} {b : Nat} {k : α} {v : β} (i : Nat) (hT : P.underlying T = some (.map kt E)) (KO : KeyOK P kt κ) (hx : ev env x = some (true, .map (some b))) (hy : ev env y = some (true, κ k)) (hz : ev env z = some (true, ν v)) (hi : hp[i]? = some (MapR b κ ν m))
    (hK : K ⟨env, ps, hp.set i (MapR b κ ν (mput m k v))⟩) : Eff P n ⟨none, .mapUpdate T x y z, ty, pos, af, gd⟩ ⟨env, ps, hp⟩ false K := .change i hi fun w S fp a hst he hn ⟨⟨es, clock, hb, hes⟩, hF⟩ => by
  have h1 := he.val hx rfl
  have h2 := he.val hy rfl
  have h3 := he.val hz rfl
  have key : ∃ es' clock', (Instr.mapUpdate T (.map (some b)) (κ k) (ν v)).run P w = .ok () (w.putObj b (.map es' clock')) ∧ Ents κ ν (mput m k v) es'.toList := by
    rcases KO.find w k es.toList (fun e he => let ⟨a, _, h, _⟩ := hes.of e he; ⟨a, h⟩) with ⟨f1, f2⟩ | ⟨j, e0, f1, f2, f3⟩
    · refine ⟨es.push { key := κ k, val := ν v, born := clock }, clock + 1, ?_, hes.put KO k v f2⟩
      simp only [Instr.mapUpdate, Sem.run_bind, run_underlying hT, Result.andThen, Go.MapKept.run_getObj_map hb, KO.check, f1, Go.MapKept.run_setObj_map _ hb]
      rfl
    · refine ⟨es.modify j fun e => { e with key := κ k, val := ν v }, clock, ?_, hes.turn KO k v f2 f3⟩
      have f2' : es[j]? = some e0 := by rw [← Array.getElem?_toList]; exact f2
      simp only [Instr.mapUpdate, Sem.run_bind, run_underlying hT, Result.andThen, Go.MapKept.run_getObj_map hb, KO.check, f1, f2', Option.map_some, Option.getD_some, f3, KO.stays, Go.MapKept.run_setObj_map _ hb]
      rfl
  obtain ⟨es', clock', hrun, hes'⟩ := key
  have : (execOp a.eval ⟨none, .mapUpdate T x y z, ty, pos, af, gd⟩).run P w = .ok .skip (w.putObj b (.map es' clock')) := by
    unfold execOp; dsimp only; rw [h1, h2, h3]
    show ((Instr.mapUpdate T (.map (some b)) (κ k) (ν v)).bind fun _ => Sem.pure Next.skip).run P w = _
    rw [Sem.run_bind', hrun]; rfl
  rw [this]
  have hbl := (Array.getElem?_eq_some_iff.1 hb).1
  exact ⟨MapR b κ ν (mput m k v), _, hK, rfl, rfl, he, ⟨⟨es', clock', World.putObj_heap_same hbl, hes'⟩, hF⟩, rfl, rfl, rfl, by rw [World.putObj_size]; exact Nat.le_refl _, fun b' _ hb' => World.putObj_heap_other (fun e => hb' ((hF b').2 e))⟩
theorem q_lookup {T E : TypeId} {x y : Operand} {b : Nat} {k : α} {v0 : β} (i : Nat) (ok : Bool) (hT : P.underlying T = some (.map kt E)) (KO : KeyOK P kt κ) (hz : (P.info? E).bind (·.zero) = some (ν v0)) (hx : ev env x = some (true, .map (some b))) (hy : ev env y = some (true, κ k)) (hi : hp[i]? = some (MapR b κ ν m)) :
    Quiet P n ⟨d, .lookup T x y ok, ty, pos, af, gd⟩ ⟨env, ps, hp⟩ (bif ok then .tuple #[ν ((m k).getD v0), .bool (m k).isSome] else ν ((m k).getD v0)) := fun w S fp a hst he hn => by
  have h1 := he.val hx rfl
  have h2 := he.val hy rfl
  obtain ⟨⟨es, clock, hb, hes⟩, hF⟩ := hst.res i _ hi
  have hzr : (zeroValue E).run P w = .ok (ν v0) w := by
    cases hE : P.info? E with
    | none => rw [hE] at hz; cases hz
    | some it =>
      rw [hE, Option.bind_some] at hz
      simp [zeroValue, typeInfo, hE, hz]
  have hrun : (Instr.lookup T (.map (some b)) (κ k) ok).run P w = .ok (bif ok then .tuple #[ν ((m k).getD v0), .bool (m k).isSome] else ν ((m k).getD v0)) w := by
    rcases KO.find w k es.toList (fun e he => let ⟨a, _, h, _⟩ := hes.of e he; ⟨a, h⟩) with ⟨f1, f2⟩ | ⟨j, e0, f1, f2, f3⟩
    · have hm : m k = none := by
        cases hmk : m k with
        | none => rfl
        | some u => obtain ⟨e, he, g1, _⟩ := hes.mem k u hmk; exact (f2 e he g1).elim
      rw [hm]
      simp only [Instr.lookup, Sem.run_bind, run_underlying hT, Result.andThen, Go.MapKept.run_getObj_map hb, KO.check, f1, hzr, Sem.run_pure]
      cases ok <;> rfl
    · obtain ⟨a, u, g1, g2, g3⟩ := hes.of e0 (List.mem_of_getElem? f2)
      obtain rfl : a = k := KO.inj _ _ (by rw [← g1, f3])
      rw [g3]
      simp only [Instr.lookup, Sem.run_bind, run_underlying hT, Result.andThen, Go.MapKept.run_getObj_map hb, KO.check, f1, Sem.run_pure, g2]
      cases ok <;> rfl
  have : (execOp a.eval ⟨d, .lookup T x y ok, ty, pos, af, gd⟩).run P w = .ok (.value (bif ok then .tuple #[ν ((m k).getD v0), .bool (m k).isSome] else ν ((m k).getD v0))) w := by
    unfold execOp; dsimp only; rw [h1, h2]
    show ((Instr.lookup T (.map (some b)) (κ k) ok).bind fun r => Sem.pure (Next.value r)).run P w = _
    rw [Sem.run_bind', hrun]; rfl
  rw [this]; exact uponQ_ok _ _
theorem q_look {T E : TypeId} {x y : Operand} {b : Nat} {k : α} {v0 : β} (i : Nat) (hT : P.underlying T = some (.map kt E)) (KO : KeyOK P kt κ) (hz : (P.info? E).bind (·.zero) = some (ν v0)) (hx : ev env x = some (true, .map (some b))) (hy : ev env y = some (true, κ k)) (hi : hp[i]? = some (MapR b κ ν m)) :
    Quiet P n ⟨d, .lookup T x y false, ty, pos, af, gd⟩ ⟨env, ps, hp⟩ (ν ((m k).getD v0)) := q_lookup i false hT KO hz hx hy hi
theorem q_lookOk {T E : TypeId} {x y : Operand} {b : Nat} {k : α} {v0 : β} (i : Nat) (hT : P.underlying T = some (.map kt E)) (KO : KeyOK P kt κ) (hz : (P.info? E).bind (·.zero) = some (ν v0)) (hx : ev env x = some (true, .map (some b))) (hy : ev env y = some (true, κ k)) (hi : hp[i]? = some (MapR b κ ν m)) :
    Quiet P n ⟨d, .lookup T x y true, ty, pos, af, gd⟩ ⟨env, ps, hp⟩ (.tuple #[ν ((m k).getD v0), .bool (m k).isSome]) := q_lookup i true hT KO hz hx hy hi
end
end Go.Sy
namespace Go.Proofs.Ytnbochlghdkfkaa
open Go.RowKit Go.Lp Go.Sy
open Go.Proofs.Try
attribute [local irreducible] aL aB awp aC fwp
def hidOne (m : ByteArray → Option Bool) (x : GSymbol) : ByteArray → Option Bool := if x.bind ≠ 0 ∧ x.vis = 2 then mput m x.name true else m
def hidSyms (m : ByteArray → Option Bool) (l : List GSymbol) : ByteArray → Option Bool := l.foldl hidOne m
def hidF (os : List GObject) : ByteArray → Option Bool := os.foldl (fun m o => hidSyms m o.syms.l) fun _ => none
def kS (s : ByteArray) : Value := .string s
def vB (b : Bool) : Value := .bool b
theorem keyS : KeyOK Try.prog 9 kS := keyStr Try.underlying9
theorem con_hidden (x : GLink) (lb : Nat) : Con Try.prog 40 [.pointer (some ⟨lb, 0, none⟩)] [At lb 0 x.row, x.ok] [] fun r ps hp => ps = [] ∧ ∃ b, r = .map (some b) ∧ hp = [MapR b kS vB (hidF x.objs.l)] := by
  refine Con.enter Try.func40 rfl (by simp [Try.ntmps40]) ?_
  show awp _ _ _ _ ⟨[(0, true, _)], _, _⟩
  refine awp_lenE (GLink.f_objs (.of (psAt 1 rfl))) (fun hlen => ?_)
  refine awp_seq (awp_region (aL_s true rfl rfl (fun _ => q_assign rfl) (aL_nil (thn_n (awp_seq (awp_region ?_))))))
  refine aL_eff (q := true) rfl (e_makeMap (kS) (vB) rfl (fun b1_0 => ?_))
  refine aL_hp (by (try simp only [nM, nN]); rfl) ?_
  refine aL_s true rfl rfl (fun _ => q_assign rfl) (aL_nil (thn_n (awp_seq (awp_seq (awp_region (aL_s true rfl rfl (fun _ => q_move rfl) (aL_s true rfl rfl (fun _ => q_nilCheck rfl) ?_)))))))
  refine aL_s true rfl rfl (fun _ => q_fieldAddr (off := 7) (by kernel_rfl) rfl) ?_
  refine aL_s true rfl rfl (fun _ => q_loadDE (o := 7) tk26 rfl (.of (psAt 0 rfl)) rfl) (aL_s true rfl rfl (fun _ => q_lenS Try.underlying26 rfl) (aL_s true rfl rfl (fun _ => q_move rfl) (aL_nil (thn_n (awp_block (awp_loopK [3, 12, 13, 14] [1, 0] [0] (fun (k : Nat) s => k ≤ x.objs.l.length ∧ s = ⟨[(3, true, .map (some b1_0)), (12, true, x.objs.val), (13, true, .int .i64 x.objs.l.length), (14, true, .int .i64 k)], [At lb 0 x.row, x.ok], [MapR b1_0 kS vB (hidF (x.objs.l.take k))]⟩) (fun k => x.objs.l.length - k) rfl (⟨0, Nat.zero_le _, rfl⟩) ?_))))))
  rintro k s ⟨hk, rfl⟩
  refine awp_seq (awp_region (aL_s true rfl rfl (fun _ => q_lss rfl rfl) (aL_nil (thn_n (awp_seq ?_)))))
  refine awp_cond _ rfl (fun h1 => ?_) (fun h1 => ?_)
  ·skip
   have hk' : k < x.objs.l.length := by simpa using h1
   obtain ⟨o, ho⟩ : ∃ o, x.objs.l[k]? = some o := ⟨x.objs.l[k]'hk', by simp⟩
   refine awp_lenE (GObject.f_syms ((GLink.f_objsA (.of (psAt 1 rfl))).all ho)) (fun hlen2 => ?_)
   refine awp_skip (thn_n (awp_seq (awp_block (awp_seq (awp_region ?_)))))
   refine aL_E true rfl rfl (fun _ => q_indexAddrG Try.underlying26 tk53 rfl ((GLink.f_objs (.of (psAt 1 rfl)))) rfl (rows_get ho) rfl rfl) (fun h => absurd h (by decide)) (fun ⟨b4_0, o4_0⟩ => ?_)
   refine aL_s true rfl rfl (fun _ => q_loadD (o := 0) tk53 rfl (psAt 0 rfl) rfl rfl) ?_
   refine aL_eff (q := true) rfl (x_alloc (zs := [.string .empty, .slice none 0 0, .slice none 0 0, .slice none 0 0, .slice none 0 0, .slice none 0 0, .slice none 0 0, .slice none 0 0, .slice none 0 0, .slice none 0 0, .slice none 0 0]) (by kernel_rfl) rfl (fun b4_2 => ?_))
   refine aL_hp (by (try simp only [nM, nN]); rfl) ?_
   refine aL_eff rfl (x_store 1 tk53 rfl rfl rfl rfl ?_)
   refine aL_hp (by simp only [nK, nL]; rfl) ?_
   refine aL_nil (thn_n (awp_seq (awp_region ?_)))
   refine aL_s true rfl rfl (fun _ => q_fieldAddr (off := 2) (by kernel_rfl) rfl) ?_
   refine aL_s true rfl rfl (fun _ => q_load 1 tk43 rfl rfl rfl) (aL_s true rfl rfl (fun _ => q_lenS Try.underlying43 rfl) (aL_s true rfl rfl (fun _ => q_move rfl) (aL_nil (thn_n (awp_block (awp_loopK [3, 12, 13, 14, 19, 20, 21] [1, 0] [0] (fun (j : Nat) s => j ≤ o.syms.l.length ∧ s = ⟨[(3, true, .map (some b1_0)), (12, true, x.objs.val), (13, true, .int .i64 x.objs.l.length), (14, true, .int .i64 k), (19, true, o.syms.val), (20, true, .int .i64 o.syms.l.length), (21, true, .int .i64 j)], [At lb 0 x.row, x.ok], [MapR b1_0 kS vB (hidSyms (hidF (x.objs.l.take k)) (o.syms.l.take j))]⟩) (fun j => o.syms.l.length - j) rfl (⟨0, Nat.zero_le _, rfl⟩) ?_))))))
   rintro j s ⟨hj, rfl⟩
   refine awp_seq (awp_region (aL_s true rfl rfl (fun _ => q_lss rfl rfl) (aL_nil (thn_n (awp_seq ?_)))))
   refine awp_cond _ rfl (fun h2 => ?_) (fun h2 => ?_)
   ·skip
    have hj' : j < o.syms.l.length := by simpa using h2
    obtain ⟨y, hy⟩ : ∃ y, o.syms.l[j]? = some y := ⟨o.syms.l[j]'hj', by simp⟩
    have hstep : hidSyms (hidF (x.objs.l.take k)) (o.syms.l.take (j + 1)) = hidOne (hidSyms (hidF (x.objs.l.take k)) (o.syms.l.take j)) y := by
      unfold hidSyms; rw [List.take_add_one, hy, List.foldl_append]; rfl
    refine awp_skip (thn_n (awp_seq (awp_block (awp_seq (awp_region ?_)))))
    refine aL_E true rfl rfl (fun _ => q_indexAddrG Try.underlying43 tk88 rfl ((GObject.f_syms ((GLink.f_objsA (.of (psAt 1 rfl))).all ho))) rfl (rows_get hy) rfl rfl) (fun h => absurd h (by decide)) (fun ⟨b7_0, o7_0⟩ => ?_)
    refine aL_s true rfl rfl (fun _ => q_loadD (o := 0) tk88 rfl (psAt 0 rfl) rfl rfl) ?_
    refine aL_eff (q := true) rfl (x_alloc (zs := [.string .empty, .string .empty, .bool false, .int .i64 0, .int .i64 0, .int .i64 0, .int .i64 0, .int .i64 0, .int .i64 0, .int .i64 0]) (by kernel_rfl) rfl (fun b7_2 => ?_))
    refine aL_hp (by (try simp only [nM, nN]); rfl) ?_
    refine aL_eff rfl (x_store 1 tk88 rfl rfl rfl rfl ?_)
    refine aL_hp (by simp only [nK, nL]; rfl) ?_
    refine aL_nil (thn_n (awp_seq (awp_region ?_)))
    refine aL_s true rfl rfl (fun _ => q_fieldAddr (off := 3) (by kernel_rfl) rfl) ?_
    refine aL_s true rfl rfl (fun _ => q_load 1 tk3 rfl rfl rfl) (aL_s true rfl rfl (fun _ => q_neq rfl rfl) (aL_s true rfl rfl (fun _ => q_move rfl) ?_))
    refine aL_s _ rfl rfl (fun hc => q_fieldAddr (off := 4) (by kernel_rfl) rfl) ?_
    refine aL_s _ rfl rfl (fun hc => q_load 1 tk3 (ev_yes rfl hc) rfl rfl) (aL_s _ rfl rfl (fun hc => q_eql (ev_yes rfl hc) rfl) (aL_s true rfl rfl (fun _ => q_and rfl rfl (fun h => gt rfl h)) (aL_nil (thn_n ?_))))
    refine awp_cond _ rfl (fun h3 => ?_) (fun h3 => ?_)
    ·skip
     refine awp_region (aL_s true rfl rfl (fun _ => q_move rfl) ?_)
     refine aL_s true rfl rfl (fun _ => q_fieldAddr (off := 0) (by kernel_rfl) rfl) ?_
     refine aL_s true rfl rfl (fun _ => q_load 1 tk9 rfl rfl rfl) ?_
     refine aL_eff rfl (e_mapUpdate (k := y.name) (v := true) 0 Try.underlying103 (keyS) rfl rfl rfl rfl ?_)
     refine aL_hp (by simp only [nK, nL]; rfl) ?_
     refine aL_nil (blk_n (thn_n (awp_region ?_)))
     refine aL_s true rfl rfl (fun _ => q_addi rfl rfl (by omega)) ?_
     refine aL_s true rfl rfl (fun _ => q_move rfl) (aL_nil (thn_n ?_))
     refine ⟨[3, 12, 13, 14, 19, 20, 21], [1, 0], [0], rfl, ?_⟩
     refine ⟨j + 1, ⟨by omega, ?_⟩, by omega⟩
     rw [hstep]
     first
     | (rw [show hidOne (hidSyms (hidF (x.objs.l.take k)) (o.syms.l.take j)) y = mput (hidSyms (hidF (x.objs.l.take k)) (o.syms.l.take j)) y.name true from if_pos (by simpa using h3)]; rfl)
     | (rw [show hidOne (hidSyms (hidF (x.objs.l.take k)) (o.syms.l.take j)) y = hidSyms (hidF (x.objs.l.take k)) (o.syms.l.take j) from if_neg (by simpa using h3)]; rfl)
    ·skip
     refine awp_skip (blk_n (thn_n (awp_region ?_)))
     refine aL_s true rfl rfl (fun _ => q_addi rfl rfl (by omega)) ?_
     refine aL_s true rfl rfl (fun _ => q_move rfl) (aL_nil (thn_n ?_))
     refine ⟨[3, 12, 13, 14, 19, 20, 21], [1, 0], [0], rfl, ?_⟩
     refine ⟨j + 1, ⟨by omega, ?_⟩, by omega⟩
     rw [hstep]
     first
     | (rw [show hidOne (hidSyms (hidF (x.objs.l.take k)) (o.syms.l.take j)) y = mput (hidSyms (hidF (x.objs.l.take k)) (o.syms.l.take j)) y.name true from if_pos (by simpa using h3)]; rfl)
     | (rw [show hidOne (hidSyms (hidF (x.objs.l.take k)) (o.syms.l.take j)) y = hidSyms (hidF (x.objs.l.take k)) (o.syms.l.take j) from if_neg (by simpa using h3)]; rfl)
   ·skip
    refine awp_exit (thn_e (thn_e (blk_hit (blk_n (thn_n (awp_region ?_))))))
    refine aL_s true rfl rfl (fun _ => q_addi rfl rfl (by omega)) ?_
    refine aL_s true rfl rfl (fun _ => q_move rfl) (aL_nil (thn_n ?_))
    refine ⟨[3, 12, 13, 14], [1, 0], [0], rfl, ?_⟩
    refine ⟨k + 1, ⟨by omega, ?_⟩, by omega⟩
    rw [show hidF (x.objs.l.take (k + 1)) = hidSyms (hidF (x.objs.l.take k)) (o.syms.l.take j) by
      rw [List.take_of_length_le (l := o.syms.l) (by simpa using h2)]
      unfold hidF; rw [List.take_add_one, ho, List.foldl_append]; rfl]
    rfl
  ·skip
   refine awp_exit (thn_e (thn_e (blk_hit (thn_n (awp_seq (awp_region (aL_s true rfl rfl (fun _ => q_move rfl) ?_)))))))
   refine aL_s true rfl rfl (fun _ => q_assign rfl) (aL_nil (thn_n (awp_ret ?_)))
   refine fin1 [] [0] rfl Try.results40 rfl ?_ (.inr rfl)
   refine ⟨rfl, _, rfl, ?_⟩
   rw [List.take_of_length_le (by simpa using h1)]; rfl
end Go.Proofs.Ytnbochlghdkfkaa
namespace Go.Proofs.Ytnbochlghdkfkaa
open Go.RowKit Go.Lp Go.Sy
open Go.Proofs.Try
attribute [local irreducible] aL aB awp aC fwp
def iR (l : List Int) : List (List D) := l.map fun z => [.v (.int .i64 z)]
theorem iR_len (l : List Int) : (iR l).length = l.length := List.length_map ..
theorem iR_snoc (l : List Int) (z : Int) : iR (l ++ [z]) = iR l ++ [[.v (.int .i64 z)]] := by simp [iR]
theorem con_roots1 (x : GLink) (hx : LkOk x) (bl lb bo : Nat) (o k : Int) (ho : 0 ≤ o ∧ o < x.objs.l.length) (v : Value) (acc : List Int) (hacc : acc.length ≤ 1000000) :
    Con Try.prog 39 [.int .i64 o, .int .i64 k, .pointer (some ⟨bl, 0, none⟩), .pointer (some ⟨bo, 0, none⟩)] [At bl 0 [.v (.pointer (some ⟨lb, 0, none⟩))], At lb 0 x.row, x.ok] [Box bo 37 [v], OwnS v 3 1 (iR acc)]
      fun _ ps hp => ps = [] ∧ ∃ v', hp = [Box bo 37 [v'], OwnS v' 3 1 (iR (acc ++ (sectionF x o k).toList))] := by
  refine Con.enter Try.func39 rfl (by simp [Try.ntmps39]) ?_
  show awp _ _ _ _ ⟨[(0, true, _), (1, true, _), (2, true, _), (3, true, _)], _, _⟩
  refine awp_seq (awp_region (aL_s true rfl rfl (fun _ => q_loadDE (o := 0) tk70 rfl (.of (psAt 0 rfl)) rfl) (aL_s true rfl rfl (fun _ => q_move rfl) (aL_s true rfl rfl (fun _ => q_move rfl) ?_))))
  refine aL_s true rfl rfl (fun _ => q_call (by kernel_rfl) rfl (fun w S fp hst => (con_section x hx lb o k ho).quiet2 (psAt 1 rfl) (psAt 2 rfl) hst)) ?_
  refine aL_s true rfl rfl (fun _ => q_move rfl) (aL_s true rfl rfl (fun _ => q_extract rfl rfl) (aL_s true rfl rfl (fun _ => q_extract rfl rfl) (aL_s true rfl rfl (fun _ => q_assign rfl) (aL_s true rfl rfl (fun _ => q_assign rfl) (aL_nil (thn_n (awp_seq ?_)))))))
  refine awp_region (aL_s true rfl rfl (fun _ => q_move rfl) (aL_nil (thn_n ?_)))
  refine awp_cond _ rfl (fun h1 => ?_) (fun h1 => ?_)
  ·skip
   obtain ⟨z, hz⟩ := Option.isSome_iff_exists.1 h1
   rw [hz]
   refine awp_region (aL_s true rfl rfl (fun _ => q_load 0 tk37 rfl rfl rfl) (aL_s true rfl rfl (fun _ => q_move rfl) ?_))
   refine aL_eff (q := true) rfl (w_lit (zs := [.int .i64 0]) (l := [(0, .tmp 17)]) el37 (by kernel_rfl) (by decide) (by decide) (by decide) rfl rfl rfl (.more rfl (.v rfl .nil) .nil) rfl rfl (fun v2_2 => ?_))
   refine aL_hp (by (try simp only [nM, nN]); rfl) ?_
   refine aL_eff rfl (w_append 1 el37 rfl rfl rfl rfl (w_srcO 2 el37 rfl (by simp)) (by first | assumption | simp) (by simp [iR_len]; omega) _ rfl (fun v2_3 c2_3 => ?_))
   refine aL_hp (by simp only [nK, nL]; rfl) ?_
   refine aL_eff rfl (x_store 0 tk37 rfl rfl rfl rfl ?_)
   refine aL_hp (by simp only [nK, nL]; rfl) ?_
   refine aL_nil ?_
   refine fin0 [] [0, 1] rfl Try.results39 ?_ (.inl rfl)
   exact ⟨rfl, _, by rw [show acc ++ (some z).toList = acc ++ [z] from rfl, iR_snoc]; rfl⟩
  ·skip
   have hz : sectionF x o k = none := by simpa using h1
   refine awp_skip ?_
   refine fin0 [] [0, 1] rfl Try.results39 ?_ (.inl rfl)
   exact ⟨rfl, _, by rw [hz, show acc ++ (none : Option Int).toList = acc by simp]; rfl⟩
def arcOf (x : GLink) (o s k : Int) : List GArc :=
  if (sectionF x o k).isSome && keptF x.objs.l x.keep.l o s then [⟨elt x.first.l o + s, (sectionF x o k).getD 0⟩] else []
theorem con_arcs1 (x : GLink) (hx : LkOk x) (bl lb bo : Nat) (o s k : Int) (ho : 0 ≤ o ∧ o < x.objs.l.length) (v : Value) (acc : List GArc) (hacc : acc.length ≤ 1000000) :
    Con Try.prog 37 [.int .i64 o, .int .i64 s, .int .i64 k, .pointer (some ⟨bl, 0, none⟩), .pointer (some ⟨bo, 0, none⟩)] [At bl 0 [.v (.pointer (some ⟨lb, 0, none⟩))], At lb 0 x.row, x.ok] [Box bo 80 [v], OwnS v 100 2 (acc.map GArc.row)]
      fun _ ps hp => ps = [] ∧ ∃ v', hp = [Box bo 80 [v'], OwnS v' 100 2 ((acc ++ arcOf x o s k).map GArc.row)] := by
  refine Con.enter Try.func37 rfl (by simp [Try.ntmps37]) ?_
  show awp _ _ _ _ ⟨[(0, true, _), (1, true, _), (2, true, _), (3, true, _), (4, true, _)], _, _⟩
  refine awp_seq (awp_region (aL_s true rfl rfl (fun _ => q_loadDE (o := 0) tk70 rfl (.of (psAt 0 rfl)) rfl) (aL_s true rfl rfl (fun _ => q_move rfl) (aL_s true rfl rfl (fun _ => q_move rfl) ?_))))
  refine aL_s true rfl rfl (fun _ => q_call (by kernel_rfl) rfl (fun w S fp hst => (con_section x hx lb o k ho).quiet2 (psAt 1 rfl) (psAt 2 rfl) hst)) ?_
  refine aL_s true rfl rfl (fun _ => q_move rfl) (aL_s true rfl rfl (fun _ => q_extract rfl rfl) (aL_s true rfl rfl (fun _ => q_extract rfl rfl) (aL_s true rfl rfl (fun _ => q_assign rfl) (aL_s true rfl rfl (fun _ => q_assign rfl) (aL_nil (thn_n (awp_seq ?_)))))))
  refine awp_region (aL_s true rfl rfl (fun _ => q_move rfl) (aL_s true rfl rfl (fun _ => q_move rfl) (aL_s _ rfl rfl (fun hc => q_loadDE (o := 0) tk70 rfl (.of (psAt 0 rfl)) rfl) (aL_s _ rfl rfl (fun hc => q_move rfl) (aL_s _ rfl rfl (fun hc => q_move rfl) ?_)))))
  refine aL_s _ rfl rfl (fun hc => q_bld (l := [(0, .tmp 20), (1, .tmp 21)]) (zs := [.int .i64 0, .int .i64 0]) (pl := [(0, 1), (1, 1)]) (by kernel_rfl) (by kernel_rfl) (by kernel_rfl) rfl (evs_cons (ev_yes rfl hc) (evs_cons (ev_yes rfl hc) rfl)) rfl) ?_
  refine aL_s _ rfl rfl (fun hc => q_call (by kernel_rfl) (evs_cons (ev_yes rfl hc) (evs_cons (ev_yes rfl hc) rfl)) (fun w S fp hst => (con_kept x lb _ _).quiet2 (psAt 1 rfl) (psAt 2 rfl) hst)) ?_
  refine aL_s true rfl rfl (fun _ => q_and rfl rfl (fun h => gt rfl h)) (aL_nil (thn_n ?_))
  refine awp_cond _ rfl (fun h1 => ?_) (fun h1 => ?_)
  ·skip
   have hc1 : ((sectionF x o k).isSome && keptF x.objs.l x.keep.l o s) = true := by simpa using h1
   have hl := hx.len
   have hb := hx.bound o s (by simp at h1; exact h1.2)
   have hkk := keptF_iff (by simp at h1; exact h1.2 : keptF x.objs.l x.keep.l o s = true)
   refine awp_drawnC [13, 14] [14] [bo] (by kernel_rfl) ?_
   show aC _ _ _ _ _ _ _ 15 #[false, false, false, false, false, false, false, false, false, false, false, false, false, false, false] _
   refine aC_box 0 0 rfl (by kernel_rfl) true rfl rfl (by simp) tk80 (fun _ => rfl) rfl rfl ?_
   refine aC_f 1 rfl (by kernel_rfl) true rfl rfl (fun _ => q_loadDE (o := 0) tk70 rfl (.of (psAt 0 rfl)) rfl) ?_
   refine aC_f 2 rfl (by kernel_rfl) true rfl rfl (fun _ => q_nilCheck rfl) ?_
   refine aC_f 3 rfl (by kernel_rfl) true rfl rfl (fun _ => q_fieldAddr (off := 10) (by kernel_rfl) rfl) ?_
   refine aC_f 4 rfl (by kernel_rfl) true rfl rfl (fun _ => q_loadDE (o := 10) tk37 rfl (.of (psAt 1 rfl)) rfl) ?_
   refine aC_f 5 rfl (by kernel_rfl) true rfl rfl (fun _ => q_move rfl) ?_
   refine aC_R1 6 rfl (by kernel_rfl) rfl rfl (q_indexAddrGR Try.underlying37 tk3 rfl ((GLink.f_first (.of (psAt 2 rfl)))) rfl (rows_elt (i := o) (by omega) (by omega)) (by omega) rfl) (fun ⟨b2_6, o2_6⟩ => ?_)
   refine aC_f 7 rfl (by kernel_rfl) true rfl rfl (fun _ => q_loadDE (o := 0) tk3 rfl (.of (psAt 0 rfl)) rfl) ?_
   refine aC_f 8 rfl (by kernel_rfl) true rfl rfl (fun _ => q_move rfl) ?_
   refine aC_f 9 rfl (by kernel_rfl) true rfl rfl (fun _ => q_addi rfl rfl (by omega)) ?_
   refine aC_f 10 rfl (by kernel_rfl) true rfl rfl (fun _ => q_move rfl) ?_
   refine aC_f 11 rfl (by kernel_rfl) true rfl rfl (fun _ => q_bld (l := [(0, .tmp 34), (1, .tmp 35)]) (zs := [.int .i64 0, .int .i64 0]) (pl := [(0, 1), (1, 1)]) (by kernel_rfl) (by kernel_rfl) (by kernel_rfl) rfl rfl rfl) ?_
   refine aC_arms 12 [] (by kernel_rfl) (arms_cons ?_ arms_nil)
   refine aC_arm 12 rfl rfl (Eff.x ?_)
   refine id (w_lit (zs := [.int .i64 0, .int .i64 0]) (l := [(0, .tmp 36)]) el80 (by kernel_rfl) (by decide) (by decide) (by decide) rfl rfl rfl (.more rfl (.v rfl (.v rfl .nil)) .nil) rfl rfl (fun v2_12 => ?_))
   refine aC_st (by (try simp only [nO, nK, nL]); rfl) (by (try simp only [nM, nN]); rfl) (by (try simp only [keepH, nQ, nR, putB, place, Nat.reduceBEq, nA, if_true, if_false, reduceIte, nB, nC, nD, nE, nF, nG, nH, nI, Nat.reduceAdd, nJ, beq_self_eq_true, nK, nL, nM, nN]); rfl) ?_
   refine aC_arms 13 [] (by kernel_rfl) (arms_cons ?_ arms_nil)
   refine aC_arm 13 rfl rfl (Eff.framed (q := false) [1, 2] rfl rfl (zcons 0 rfl rfl znil) ?_)
   refine id (w_append 0 el80 rfl rfl rfl rfl (w_srcO 1 el80 rfl (by simp)) (by first | assumption | simp) (by simp; omega) _ rfl (fun v2_13 c2_13 => ?_))
   refine fr_mk ?_
   refine aC_st (by (try simp only [nO, nK, nL]); rfl) (by (try simp only [nM, nN]); rfl) (by (try simp only [keepH, nQ, nR, putB, place, Nat.reduceBEq, nA, if_true, if_false, reduceIte, nB, nC, nD, nE, nF, nG, nH, nI, Nat.reduceAdd, nJ, beq_self_eq_true, nK, nL, nM, nN]); rfl) ?_
   refine aC_arms 14 [] (by kernel_rfl) (arms_cons ?_ arms_nil)
   refine aC_arm 14 rfl rfl (Eff.wild (q := false) ?_)
   refine id (x_store 0 tk80 rfl rfl rfl rfl ?_)
   refine aC_st (by (try simp only [nO, nK, nL]); rfl) (by (try simp only [nM, nN]); rfl) (by (try simp only [keepH, nQ, nR, putB, place, Nat.reduceBEq, nA, if_true, if_false, reduceIte, nB, nC, nD, nE, nF, nG, nH, nI, Nat.reduceAdd, nJ, beq_self_eq_true, nK, nL, nM, nN]); rfl) ?_
   refine aC_nil (by kernel_rfl) ?_
   refine fin0 [] [0, 1] rfl Try.results37 ?_ (.inl rfl)
   exact ⟨rfl, _, by rw [show arcOf x o s k = [⟨elt x.first.l o + s, (sectionF x o k).getD 0⟩] from if_pos hc1, List.map_append]; rfl⟩
  ·skip
   have hc1 : ((sectionF x o k).isSome && keptF x.objs.l x.keep.l o s) = false := by simpa using h1
   refine awp_skip ?_
   refine fin0 [] [0, 1] rfl Try.results37 ?_ (.inl rfl)
   exact ⟨rfl, _, by rw [show arcOf x o s k = [] from if_neg (by rw [hc1]; simp), List.append_nil]; rfl⟩
end Go.Proofs.Ytnbochlghdkfkaa
namespace Go.Proofs.Ytnbochlghdkfkaa
open Go.RowKit Go.Lp Go.Sy
open Go.Proofs.Try
attribute [local irreducible] aL aB awp aC fwp
theorem flatMap_le {α β : Type} (f : α → List β) (h : ∀ a, (f a).length ≤ 1) : ∀ l : List α, (l.flatMap f).length ≤ l.length
  | [] => Nat.le_refl _
  | a :: l => by rw [List.flatMap_cons, List.length_append, List.length_cons]; have := h a; have := flatMap_le f h l; omega
theorem arcOf_le (x : GLink) (o s k : Int) : (arcOf x o s k).length ≤ 1 := by unfold arcOf; split <;> simp
def arcsRel (x : GLink) (k : Nat) (l : List GRel) : List GArc := l.flatMap fun r => arcOf x k r.sec r.sym
def arcsCv (x : GLink) (k : Nat) (l : List GConvert) : List GArc := l.flatMap fun c => arcOf x k c.sec c.code
def arcsOb (x : GLink) (k : Nat) : List GArc := arcsRel x k (elt x.objs.l (k : Int)).rels.l ++ arcsCv x k (elt x.objs.l (k : Int)).converts.l
def arcsF (x : GLink) (n : Nat) : List GArc := (List.range n).flatMap (arcsOb x)
structure FewL (os : List GObject) : Prop where
  n : os.length ≤ 4
  of : ∀ o ∈ os, o.secs.l.length ≤ 6 ∧ o.syms.l.length ≤ 14 ∧ o.rels.l.length ≤ 14 ∧ o.inits.l.length ≤ 6 ∧ o.converts.l.length ≤ 6
theorem arcsF_le {x : GLink} (hf : FewL x.objs.l) : ∀ n, n ≤ x.objs.l.length → (arcsF x n).length ≤ 20 * n
  | 0, _ => Nat.le_refl _
  | n + 1, h => by
    have ih := arcsF_le hf n (by omega)
    have hm := hf.of _ (List.mem_of_getElem? (elt_nat (l := x.objs.l) (i := n) h))
    have h1 := flatMap_le (fun r : GRel => arcOf x n r.sec r.sym) (fun _ => arcOf_le _ _ _ _) (elt x.objs.l (n : Int)).rels.l
    have h2 := flatMap_le (fun c : GConvert => arcOf x n c.sec c.code) (fun _ => arcOf_le _ _ _ _) (elt x.objs.l (n : Int)).converts.l
    have e : (arcsOb x n).length ≤ 20 := by unfold arcsOb arcsRel arcsCv; rw [List.length_append]; omega
    unfold arcsF at ih ⊢
    rw [List.range_succ, List.flatMap_append, List.length_append, List.flatMap_cons, List.flatMap_nil, List.append_nil]
    omega
theorem con_arcs (x : GLink) (hx : LkOk x) (hf : FewL x.objs.l) (lb : Nat) : Con Try.prog 24 [.pointer (some ⟨lb, 0, none⟩)] [At lb 0 x.row, x.ok] []
    fun r ps hp => hp = [] ∧ ∃ ad c, r = .slice ad (arcsF x x.objs.l.length).length c ∧ ps = [Sh (.slice ad (arcsF x x.objs.l.length).length c) (.sl ((arcsF x x.objs.l.length).map GArc.row))] := by
  refine Con.enter Try.func24 rfl (by simp [Try.ntmps24]) ?_
  show awp _ _ _ _ ⟨[(0, true, _)], _, _⟩
  refine awp_lenE (GLink.f_objs (.of (psAt 1 rfl))) (fun hlen => ?_)
  refine awp_seq (awp_region ?_)
  refine aL_eff (q := true) rfl (x_box rfl rfl rfl (fun b0_0 => ?_))
  refine aL_hp (by (try simp only [nM, nN]); rfl) ?_
  refine aL_s true rfl rfl (fun _ => q_assign rfl) (aL_nil (thn_n (awp_seq (awp_shareB 0 rfl rfl ?_))))
  show awp _ _ _ _ ⟨_, At _ 0 _ :: _, _⟩
  refine awp_region ?_
  refine aL_eff (q := true) rfl (x_alloc (zs := [.slice none 0 0]) (by kernel_rfl) rfl (fun b1_0 => ?_))
  refine aL_hp (by (try simp only [nM, nN]); rfl) ?_
  refine aL_nil (thn_n (awp_seq (awp_nil 100 2 ?_)))
  show awp _ _ _ _ ⟨_, _, [_, _, _]⟩
  refine awp_region (aL_s true rfl rfl (fun _ => q_func (l := [.tmp 1, .tmp 3]) rfl) (aL_s true rfl rfl (fun _ => q_assign rfl) (aL_nil (thn_n (awp_seq (awp_seq (awp_region ?_)))))))
  refine aL_s true rfl rfl (fun _ => q_loadDE (o := 0) tk70 rfl (.of (psAt 0 rfl)) rfl) (aL_s true rfl rfl (fun _ => q_nilCheck rfl) ?_)
  refine aL_s true rfl rfl (fun _ => q_fieldAddr (off := 7) (by kernel_rfl) rfl) ?_
  refine aL_s true rfl rfl (fun _ => q_loadDE (o := 7) tk26 rfl (.of (psAt 1 rfl)) rfl) (aL_s true rfl rfl (fun _ => q_lenS Try.underlying26 rfl) (aL_s true rfl rfl (fun _ => q_move rfl) (aL_nil (thn_n (awp_block ?_)))))
  refine awp_loopK [3, 4, 15, 16, 17] [2, 1, 0] [1, 2] (fun (p : Nat × Value) s => p.1 ≤ x.objs.l.length ∧ s = ⟨[(3, true, .pointer (some ⟨b1_0, 0, none⟩)), (4, true, .func (.func 37) #[] #[.pointer (some ⟨b0_0, 0, none⟩), .pointer (some ⟨b1_0, 0, none⟩)]), (15, true, x.objs.val), (16, true, .int .i64 x.objs.l.length), (17, true, .int .i64 p.1)],
    [At b0_0 0 [.v (.pointer (some ⟨lb, 0, none⟩))], At lb 0 x.row, x.ok], [Box b1_0 80 [p.2], OwnS p.2 100 2 ((arcsF x p.1).map GArc.row)]⟩) (fun p => x.objs.l.length - p.1) rfl (⟨(0, _), Nat.zero_le _, rfl⟩) ?_
  rintro ⟨k, v⟩ s ⟨hk, rfl⟩
  dsimp only at hk
  refine awp_seq (awp_region (aL_s true rfl rfl (fun _ => q_lss rfl rfl) (aL_nil (thn_n (awp_seq ?_)))))
  refine awp_cond _ rfl (fun h1 => ?_) (fun h1 => ?_)
  ·skip
   have hk' : k < x.objs.l.length := by simpa using h1
   have ho := elt_nat hk'
   have hfo := hf.of _ (List.mem_of_getElem? ho)
   have hacc := arcsF_le hf k hk
   have hn4 := hf.n
   have hoi : (0 : Int) ≤ k ∧ (k : Int) < x.objs.l.length := by omega
   generalize hoo : elt x.objs.l (k : Int) = o at ho hfo
   refine awp_skip (thn_n (awp_seq (awp_block (awp_seq (awp_region (aL_s true rfl rfl (fun _ => q_move rfl) ?_))))))
   refine aL_E true rfl rfl (fun _ => q_indexAddrG Try.underlying26 tk53 rfl ((GLink.f_objs (.of (psAt 2 rfl)))) rfl (rows_get ho) rfl rfl) (fun h => absurd h (by decide)) (fun ⟨b5_1, o5_1⟩ => ?_)
   refine aL_s true rfl rfl (fun _ => q_loadD (o := 0) tk53 rfl (psAt 0 rfl) rfl rfl) ?_
   refine aL_eff (q := true) rfl (x_alloc (zs := [.string .empty, .slice none 0 0, .slice none 0 0, .slice none 0 0, .slice none 0 0, .slice none 0 0, .slice none 0 0, .slice none 0 0, .slice none 0 0, .slice none 0 0, .slice none 0 0]) (by kernel_rfl) rfl (fun b5_3 => ?_))
   refine aL_hp (by (try simp only [nM, nN]); rfl) ?_
   refine aL_s true rfl rfl (fun _ => q_assign rfl) ?_
   refine aL_eff rfl (x_store 2 tk53 rfl rfl rfl rfl ?_)
   refine aL_hp (by simp only [nK, nL]; rfl) ?_
   refine aL_nil (thn_n (awp_seq (awp_seq (awp_region ?_))))
   refine aL_s true rfl rfl (fun _ => q_fieldAddr (off := 3) (by kernel_rfl) rfl) ?_
   refine aL_s true rfl rfl (fun _ => q_load 2 tk44 rfl rfl rfl) (aL_s true rfl rfl (fun _ => q_lenS Try.underlying44 rfl) (aL_s true rfl rfl (fun _ => q_move rfl) (aL_nil (thn_n (awp_block ?_)))))
   refine awp_loopK [3, 4, 5, 15, 16, 17, 6, 23, 24, 25] [2, 1, 0] [0, 1, 2] (fun (p : Nat × Value) s => p.1 ≤ o.rels.l.length ∧ s = ⟨[(3, true, .pointer (some ⟨b1_0, 0, none⟩)), (4, true, .func (.func 37) #[] #[.pointer (some ⟨b0_0, 0, none⟩), .pointer (some ⟨b1_0, 0, none⟩)]), (5, true, .int .i64 k), (15, true, x.objs.val), (16, true, .int .i64 x.objs.l.length), (17, true, .int .i64 k), (6, true, .pointer (some ⟨b5_3, 0, none⟩)), (23, true, o.rels.val), (24, true, .int .i64 o.rels.l.length), (25, true, .int .i64 p.1)],
     [At b0_0 0 [.v (.pointer (some ⟨lb, 0, none⟩))], At lb 0 x.row, x.ok], [Box b1_0 80 [p.2], OwnS p.2 100 2 ((arcsF x k ++ arcsRel x k (o.rels.l.take p.1)).map GArc.row), Box b5_3 53 o.vs]⟩) (fun p => o.rels.l.length - p.1) rfl (⟨(0, _), Nat.zero_le _, by rw [List.take_zero, show arcsRel x k [] = [] from rfl, List.append_nil]; rfl⟩) ?_
   rintro ⟨j, v⟩ s ⟨hj, rfl⟩
   dsimp only at hj
   refine awp_seq (awp_region (aL_s true rfl rfl (fun _ => q_lss rfl rfl) (aL_nil (thn_n (awp_seq ?_)))))
   refine awp_cond _ rfl (fun h2 => ?_) (fun h2 => ?_)
   ·skip
    have hj' : j < o.rels.l.length := by simpa using h2
    obtain ⟨y, hy⟩ : ∃ y, o.rels.l[j]? = some y := ⟨o.rels.l[j]'hj', by simp⟩
    have hlr : (arcsF x k ++ arcsRel x k (o.rels.l.take j)).length ≤ 1000000 := by
      have := flatMap_le (fun r : GRel => arcOf x k r.sec r.sym) (fun _ => arcOf_le _ _ _ _) (o.rels.l.take j)
      rw [List.length_take] at this; rw [List.length_append]; unfold arcsRel; omega
    refine awp_skip (thn_n (awp_seq (awp_block (awp_seq (awp_region ?_)))))
    refine aL_E true rfl rfl (fun _ => q_indexAddrG Try.underlying44 tk62 rfl ((GObject.f_rels ((GLink.f_objsA (.of (psAt 2 rfl))).all ho))) rfl (rows_get hy) rfl rfl) (fun h => absurd h (by decide)) (fun ⟨b8_0, o8_0⟩ => ?_)
    refine aL_s true rfl rfl (fun _ => q_loadD (o := 0) tk62 rfl (psAt 0 rfl) rfl rfl) ?_
    refine aL_eff (q := true) rfl (x_alloc (zs := [.int .i64 0, .int .i64 0, .int .i64 0, .int .i64 0, .int .i64 0]) (by kernel_rfl) rfl (fun b8_2 => ?_))
    refine aL_hp (by (try simp only [nM, nN]); rfl) ?_
    refine aL_eff rfl (x_store 3 tk62 rfl rfl rfl rfl ?_)
    refine aL_hp (by simp only [nK, nL]; rfl) ?_
    refine aL_nil (thn_n (awp_region (aL_s true rfl rfl (fun _ => q_move rfl) (aL_s true rfl rfl (fun _ => q_move rfl) ?_))))
    refine aL_s true rfl rfl (fun _ => q_fieldAddr (off := 0) (by kernel_rfl) rfl) ?_
    refine aL_s true rfl rfl (fun _ => q_load 3 tk3 rfl rfl rfl) ?_
    refine aL_s true rfl rfl (fun _ => q_fieldAddr (off := 3) (by kernel_rfl) rfl) ?_
    refine aL_s true rfl rfl (fun _ => q_load 3 tk3 rfl rfl rfl) ?_
    refine aL_eff (q := false) rfl (e_callC [2, 1, 0] [0, 1] (by kernel_rfl) rfl rfl rfl rfl rfl (con_arcs1 x hx _ lb _ k y.sec y.sym hoi _ _ hlr) ?_)
    rintro r9 _ _ ⟨rfl, v', rfl⟩
    refine aL_st (by (try simp only [nM, nN]); rfl) (by (try simp only [putB, place, Nat.reduceBEq, nA, if_true, if_false, reduceIte, nB, nC, nD, nE, nF, nG, nH, nI, Nat.reduceAdd, nJ, beq_self_eq_true, nK, nL, nM, nN]); rfl) ?_
    refine aL_nil (blk_n (thn_n (awp_region ?_)))
    refine aL_s true rfl rfl (fun _ => q_addi rfl rfl (by omega)) ?_
    refine aL_s true rfl rfl (fun _ => q_move rfl) (aL_nil (thn_n ?_))
    refine ⟨[3, 4, 5, 15, 16, 17, 6, 23, 24, 25], [2, 1, 0], [0, 1, 2], rfl, ?_⟩
    refine ⟨(j + 1, v'), ⟨by dsimp only; omega, ?_⟩, by dsimp only; omega⟩
    rw [show arcsF x k ++ arcsRel x k (o.rels.l.take (j + 1)) = arcsF x k ++ arcsRel x k (o.rels.l.take j) ++ arcOf x k y.sec y.sym by
      unfold arcsRel; rw [List.take_add_one, hy, List.flatMap_append, List.append_assoc]; simp]
    rfl
   ·skip
    have hj2 : o.rels.l.take j = o.rels.l := List.take_of_length_le (by simpa using h2)
    refine awp_lenE (GObject.f_converts ((GLink.f_objsA (.of (psAt 2 rfl))).all ho)) (fun hlenc => ?_)
    refine awp_exit (thn_e (thn_e (blk_hit (thn_n (awp_seq (awp_region ?_))))))
    refine aL_s true rfl rfl (fun _ => q_fieldAddr (off := 10) (by kernel_rfl) rfl) ?_
    refine aL_s true rfl rfl (fun _ => q_load 2 tk51 rfl rfl rfl) (aL_s true rfl rfl (fun _ => q_lenS Try.underlying51 rfl) (aL_s true rfl rfl (fun _ => q_move rfl) (aL_nil (thn_n (awp_block ?_)))))
    refine awp_loopK [3, 4, 5, 15, 16, 17, 38, 39, 40] [2, 1, 0] [0, 1] (fun (p : Nat × Value) s => p.1 ≤ o.converts.l.length ∧ s = ⟨[(3, true, .pointer (some ⟨b1_0, 0, none⟩)), (4, true, .func (.func 37) #[] #[.pointer (some ⟨b0_0, 0, none⟩), .pointer (some ⟨b1_0, 0, none⟩)]), (5, true, .int .i64 k), (15, true, x.objs.val), (16, true, .int .i64 x.objs.l.length), (17, true, .int .i64 k), (38, true, o.converts.val), (39, true, .int .i64 o.converts.l.length), (40, true, .int .i64 p.1)],
      [At b0_0 0 [.v (.pointer (some ⟨lb, 0, none⟩))], At lb 0 x.row, x.ok], [Box b1_0 80 [p.2], OwnS p.2 100 2 ((arcsF x k ++ arcsRel x k o.rels.l ++ arcsCv x k (o.converts.l.take p.1)).map GArc.row)]⟩) (fun p => o.converts.l.length - p.1) rfl (⟨(0, _), Nat.zero_le _, by rw [List.take_zero, show arcsCv x k [] = [] from rfl, List.append_nil, hj2]; rfl⟩) ?_
    rintro ⟨i, v⟩ s ⟨hi, rfl⟩
    dsimp only at hi
    refine awp_seq (awp_region (aL_s true rfl rfl (fun _ => q_lss rfl rfl) (aL_nil (thn_n (awp_seq ?_)))))
    refine awp_cond _ rfl (fun h3 => ?_) (fun h3 => ?_)
    ·skip
     have hi' : i < o.converts.l.length := by simpa using h3
     obtain ⟨y, hy⟩ : ∃ y, o.converts.l[i]? = some y := ⟨o.converts.l[i]'hi', by simp⟩
     have hlr : (arcsF x k ++ arcsRel x k o.rels.l ++ arcsCv x k (o.converts.l.take i)).length ≤ 1000000 := by
       have := flatMap_le (fun r : GRel => arcOf x k r.sec r.sym) (fun _ => arcOf_le _ _ _ _) o.rels.l
       have := flatMap_le (fun r : GConvert => arcOf x k r.sec r.code) (fun _ => arcOf_le _ _ _ _) (o.converts.l.take i)
       rw [List.length_take] at this; rw [List.length_append, List.length_append]; unfold arcsRel arcsCv; omega
     refine awp_skip (thn_n (awp_seq (awp_block (awp_seq (awp_region ?_)))))
     refine aL_E true rfl rfl (fun _ => q_indexAddrG Try.underlying51 tk65 rfl ((GObject.f_converts ((GLink.f_objsA (.of (psAt 2 rfl))).all ho))) rfl (rows_get hy) rfl rfl) (fun h => absurd h (by decide)) (fun ⟨b13_0, o13_0⟩ => ?_)
     refine aL_s true rfl rfl (fun _ => q_loadD (o := 0) tk65 rfl (psAt 0 rfl) rfl rfl) ?_
     refine aL_eff (q := true) rfl (x_alloc (zs := [.int .i64 0, .string .empty, .slice none 0 0, .int .i64 0]) (by kernel_rfl) rfl (fun b13_2 => ?_))
     refine aL_hp (by (try simp only [nM, nN]); rfl) ?_
     refine aL_eff rfl (x_store 2 tk65 rfl rfl rfl rfl ?_)
     refine aL_hp (by simp only [nK, nL]; rfl) ?_
     refine aL_nil (thn_n (awp_region (aL_s true rfl rfl (fun _ => q_move rfl) (aL_s true rfl rfl (fun _ => q_move rfl) ?_))))
     refine aL_s true rfl rfl (fun _ => q_fieldAddr (off := 0) (by kernel_rfl) rfl) ?_
     refine aL_s true rfl rfl (fun _ => q_load 2 tk3 rfl rfl rfl) ?_
     refine aL_s true rfl rfl (fun _ => q_fieldAddr (off := 3) (by kernel_rfl) rfl) ?_
     refine aL_s true rfl rfl (fun _ => q_load 2 tk3 rfl rfl rfl) ?_
     refine aL_eff (q := false) rfl (e_callC [2, 1, 0] [0, 1] (by kernel_rfl) rfl rfl rfl rfl rfl (con_arcs1 x hx _ lb _ k y.sec y.code hoi _ _ hlr) ?_)
     rintro r14 _ _ ⟨rfl, v', rfl⟩
     refine aL_st (by (try simp only [nM, nN]); rfl) (by (try simp only [putB, place, Nat.reduceBEq, nA, if_true, if_false, reduceIte, nB, nC, nD, nE, nF, nG, nH, nI, Nat.reduceAdd, nJ, beq_self_eq_true, nK, nL, nM, nN]); rfl) ?_
     refine aL_nil (blk_n (thn_n (awp_region ?_)))
     refine aL_s true rfl rfl (fun _ => q_addi rfl rfl (by omega)) ?_
     refine aL_s true rfl rfl (fun _ => q_move rfl) (aL_nil (thn_n ?_))
     refine ⟨[3, 4, 5, 15, 16, 17, 38, 39, 40], [2, 1, 0], [0, 1], rfl, ?_⟩
     refine ⟨(i + 1, v'), ⟨by dsimp only; omega, ?_⟩, by dsimp only; omega⟩
     rw [show arcsF x k ++ arcsRel x k o.rels.l ++ arcsCv x k (o.converts.l.take (i + 1)) = arcsF x k ++ arcsRel x k o.rels.l ++ arcsCv x k (o.converts.l.take i) ++ arcOf x k y.sec y.code by
       unfold arcsCv; rw [List.take_add_one, hy, List.flatMap_append, List.append_assoc]; simp]
     rfl
    ·skip
     have hi2 : o.converts.l.take i = o.converts.l := List.take_of_length_le (by simpa using h3)
     refine awp_exit (thn_e (thn_e (blk_hit (blk_n (thn_n (awp_region ?_))))))
     refine aL_s true rfl rfl (fun _ => q_addi rfl rfl (by omega)) ?_
     refine aL_s true rfl rfl (fun _ => q_move rfl) (aL_nil (thn_n ?_))
     refine ⟨[3, 4, 15, 16, 17], [2, 1, 0], [0, 1], rfl, ?_⟩
     refine ⟨(k + 1, v), ⟨by dsimp only; omega, ?_⟩, by dsimp only; omega⟩
     rw [hi2, show arcsF x (k + 1) = arcsF x k ++ arcsRel x k o.rels.l ++ arcsCv x k o.converts.l by
       unfold arcsF; rw [List.range_succ, List.flatMap_append, List.append_assoc, List.flatMap_cons, List.flatMap_nil, List.append_nil]
       unfold arcsOb; rw [hoo]]
     rfl
  ·skip
   obtain rfl : k = x.objs.l.length := by have := (by simpa using h1 : x.objs.l.length ≤ k); omega
   refine awp_exit (thn_e (thn_e (blk_hit (thn_n (awp_seq (awp_region (aL_s true rfl rfl (fun _ => q_load 0 tk80 rfl rfl rfl) ?_)))))))
   refine aL_s true rfl rfl (fun _ => q_assign rfl) (aL_nil (thn_n (awp_share 1 rfl ?_)))
   refine awp_form (.of (psAt 0 rfl)) (fun ad kc hv => ?_)
   rw [List.length_map] at hv
   refine awp_ret ?_
   refine fin1 [3] [] rfl Try.results24 rfl ?_ (.inr rfl)
   exact ⟨rfl, ad, kc, hv, by rw [← hv]; rfl⟩
end Go.Proofs.Ytnbochlghdkfkaa
namespace Go.Proofs.Ytnbochlghdkfkaa
open Go.RowKit Go.Lp Go.Sy
open Go.Proofs.Try
attribute [local irreducible] aL aB awp aC fwp
def keptsSec (x : GLink) (k j : Nat) : List GPlace := (List.range j).filterMap fun s : Nat => if keptF x.objs.l x.keep.l (k : Int) (s : Int) then some ⟨k, s⟩ else none
def keptsF (x : GLink) (n : Nat) : List GPlace := (List.range n).flatMap fun k => keptsSec x k (elt x.objs.l (k : Int)).secs.l.length
theorem keptsSec_succ (x : GLink) (k j : Nat) : keptsSec x k (j + 1) = keptsSec x k j ++ (if keptF x.objs.l x.keep.l (k : Int) (j : Int) then [⟨k, j⟩] else []) := by
  unfold keptsSec; rw [List.range_succ, List.filterMap_append]; congr 1; simp only [List.filterMap_cons, List.filterMap_nil]; split <;> rename_i h <;> split at h <;> simp_all
theorem keptsF_succ (x : GLink) (n : Nat) : keptsF x (n + 1) = keptsF x n ++ keptsSec x n (elt x.objs.l (n : Int)).secs.l.length := by
  unfold keptsF; rw [List.range_succ, List.flatMap_append]; simp
theorem keptsSec_pre (x : GLink) (k : Nat) {i j : Nat} (h : i ≤ j) : keptsSec x k i <+: keptsSec x k j := by
  induction j with
  | zero => obtain rfl : i = 0 := by omega
            exact List.prefix_refl _
  | succ j ih =>
    by_cases hij : i = j + 1
    · rw [hij]; exact List.prefix_refl _
    · exact (ih (by omega)).trans (by rw [keptsSec_succ]; exact List.prefix_append _ _)
theorem keptsF_pre (x : GLink) {i j : Nat} (h : i ≤ j) : keptsF x i <+: keptsF x j := by
  induction j with
  | zero => obtain rfl : i = 0 := by omega
            exact List.prefix_refl _
  | succ j ih =>
    by_cases hij : i = j + 1
    · rw [hij]; exact List.prefix_refl _
    · exact (ih (by omega)).trans (by rw [keptsF_succ]; exact List.prefix_append _ _)
theorem kepts_at (x : GLink) {k j : Nat} (hk : k < x.objs.l.length) (hj : j < (elt x.objs.l (k : Int)).secs.l.length) (h : keptF x.objs.l x.keep.l (k : Int) (j : Int) = true) : (keptsF x x.objs.l.length)[(keptsF x k ++ keptsSec x k j).length]? = some ⟨k, j⟩ := by
  have p1 : keptsF x k ++ keptsSec x k j ++ [⟨k, j⟩] <+: keptsF x x.objs.l.length := by
    refine List.IsPrefix.trans ?_ (keptsF_pre x (show k + 1 ≤ x.objs.l.length by omega))
    rw [keptsF_succ, List.append_assoc]
    refine (List.prefix_append_right_inj _).2 ?_
    have := keptsSec_pre x k (show j + 1 ≤ _ by omega : j + 1 ≤ (elt x.objs.l (k : Int)).secs.l.length)
    rw [keptsSec_succ, if_pos h] at this
    exact this
  obtain ⟨t, ht⟩ := p1
  rw [← ht, List.append_assoc, List.getElem?_append_right (Nat.le_refl _), Nat.sub_self]
  rfl
theorem con_kepts (x : GLink) (lb : Nat) : Con Try.prog 22 [.pointer (some ⟨lb, 0, none⟩)] [] [] fun r ps hp => hp = [] ∧ ∃ b, r = .func (.func 33) #[] #[.pointer (some ⟨b, 0, none⟩)] ∧ ps = [At b 0 [.v (.pointer (some ⟨lb, 0, none⟩))]] := by
  refine Con.enter Try.func22 rfl (by simp [Try.ntmps22]) ?_
  show awp _ _ _ _ ⟨[(0, true, _)], _, _⟩
  refine awp_seq (awp_region ?_)
  refine aL_eff (q := true) rfl (x_box rfl rfl rfl (fun b0_0 => ?_))
  refine aL_hp (by (try simp only [nM, nN]); rfl) ?_
  refine aL_s true rfl rfl (fun _ => q_assign rfl) (aL_nil (thn_n (awp_seq (awp_shareB 0 rfl rfl ?_))))
  show awp _ _ _ _ ⟨_, At _ 0 _ :: _, _⟩
  refine awp_region (aL_s true rfl rfl (fun _ => q_func (l := [.tmp 1]) rfl) (aL_s true rfl rfl (fun _ => q_assign rfl) (aL_nil (thn_n (awp_ret ?_)))))
  refine fin1 [0] [] rfl Try.results22 rfl ?_ (.inr rfl)
  exact ⟨rfl, _, rfl, rfl⟩
theorem con_kepts1 (x : GLink) (hx : LkOk x) (lb b yl : Nat) {X : Type} (J : X → Res) (Inv : Nat → X → Prop) (Ff : Per) (x0 : X) (h0 : Inv 0 x0)
    (hY : ∀ (i : Nat) (p : GPlace) (q : X), (keptsF x x.objs.l.length)[i]? = some p → Inv i q → ConY Try.prog yl [.int .i64 (elt x.first.l p.obj + p.sec), p.val] [Ff] [J q] fun v ps' hp' => v = .bool true ∧ ps' = [] ∧ ∃ q', Inv (i + 1) q' ∧ hp' = [J q']) :
    Con Try.prog 33 [.func (.yield yl) #[] #[], .pointer (some ⟨b, 0, none⟩)] [Ff, At b 0 [.v (.pointer (some ⟨lb, 0, none⟩))], At lb 0 x.row, x.ok] [J x0] fun _ ps hp => ps = [] ∧ ∃ q, Inv (keptsF x x.objs.l.length).length q ∧ hp = [J q] := by
  refine Con.enter Try.func33 rfl (by simp [Try.ntmps33]) ?_
  show awp _ _ _ _ ⟨[(0, true, _), (1, true, _)], _, _⟩
  refine awp_lenE (GLink.f_objs (.of (psAt 3 rfl))) (fun hlen => ?_)
  refine awp_seq (awp_region (aL_s true rfl rfl (fun _ => q_loadDE (o := 0) tk70 rfl (.of (psAt 1 rfl)) rfl) (aL_s true rfl rfl (fun _ => q_nilCheck rfl) ?_)))
  refine aL_s true rfl rfl (fun _ => q_fieldAddr (off := 7) (by kernel_rfl) rfl) ?_
  refine aL_s true rfl rfl (fun _ => q_loadDE (o := 7) tk26 rfl (.of (psAt 2 rfl)) rfl) (aL_s true rfl rfl (fun _ => q_lenS Try.underlying26 rfl) (aL_s true rfl rfl (fun _ => q_move rfl) (aL_nil (thn_n (awp_block ?_)))))
  refine awp_loopK [0, 1, 10, 11, 12] [3, 2, 1, 0] [0] (fun (p : Nat × X) s => p.1 ≤ x.objs.l.length ∧ Inv (keptsF x p.1).length p.2 ∧ s = ⟨[(0, true, .func (.yield yl) #[] #[]), (1, true, .pointer (some ⟨b, 0, none⟩)), (10, true, x.objs.val), (11, true, .int .i64 x.objs.l.length), (12, true, .int .i64 p.1)],
    [Ff, At b 0 [.v (.pointer (some ⟨lb, 0, none⟩))], At lb 0 x.row, x.ok], [J p.2]⟩) (fun p => x.objs.l.length - p.1) rfl (⟨(0, x0), Nat.zero_le _, h0, rfl⟩) ?_
  rintro ⟨k, q⟩ s ⟨hk, hq, rfl⟩
  dsimp only at hk hq
  refine awp_seq (awp_region (aL_s true rfl rfl (fun _ => q_lss rfl rfl) (aL_nil (thn_n (awp_seq ?_)))))
  refine awp_cond _ rfl (fun h1 => ?_) (fun h1 => ?_)
  ·skip
   have hk' : k < x.objs.l.length := by simpa using h1
   have ho := elt_nat hk'
   have hfl := hx.len
   generalize hoo : elt x.objs.l (k : Int) = o at ho
   refine awp_lenE (GObject.f_secs ((GLink.f_objsA (.of (psAt 3 rfl))).all ho)) (fun hlen2 => ?_)
   refine awp_skip (thn_n (awp_seq (awp_block (awp_seq (awp_region (aL_s true rfl rfl (fun _ => q_move rfl) ?_))))))
   refine aL_E true rfl rfl (fun _ => q_indexAddrG Try.underlying26 tk53 rfl ((GLink.f_objs (.of (psAt 3 rfl)))) rfl (rows_get ho) rfl rfl) (fun h => absurd h (by decide)) (fun ⟨b2_1, o2_1⟩ => ?_)
   refine aL_s true rfl rfl (fun _ => q_loadD (o := 0) tk53 rfl (psAt 0 rfl) rfl rfl) ?_
   refine aL_eff (q := true) rfl (x_alloc (zs := [.string .empty, .slice none 0 0, .slice none 0 0, .slice none 0 0, .slice none 0 0, .slice none 0 0, .slice none 0 0, .slice none 0 0, .slice none 0 0, .slice none 0 0, .slice none 0 0]) (by kernel_rfl) rfl (fun b2_3 => ?_))
   refine aL_hp (by (try simp only [nM, nN]); rfl) ?_
   refine aL_s true rfl rfl (fun _ => q_assign rfl) ?_
   refine aL_eff rfl (x_store 1 tk53 rfl rfl rfl rfl ?_)
   refine aL_hp (by simp only [nK, nL]; rfl) ?_
   refine aL_nil (thn_n (awp_seq (awp_region ?_)))
   refine aL_s true rfl rfl (fun _ => q_fieldAddr (off := 1) (by kernel_rfl) rfl) ?_
   refine aL_s true rfl rfl (fun _ => q_load 1 tk42 rfl rfl rfl) (aL_s true rfl rfl (fun _ => q_lenS Try.underlying42 rfl) (aL_s true rfl rfl (fun _ => q_move rfl) (aL_nil (thn_n (awp_block ?_)))))
   refine awp_loopK [0, 1, 3, 10, 11, 12, 18, 19, 20] [3, 2, 1, 0] [0] (fun (p : Nat × X) s => p.1 ≤ o.secs.l.length ∧ Inv (keptsF x k ++ keptsSec x k p.1).length p.2 ∧ s = ⟨[(0, true, .func (.yield yl) #[] #[]), (1, true, .pointer (some ⟨b, 0, none⟩)), (3, true, .int .i64 k), (10, true, x.objs.val), (11, true, .int .i64 x.objs.l.length), (12, true, .int .i64 k), (18, true, o.secs.val), (19, true, .int .i64 o.secs.l.length), (20, true, .int .i64 p.1)],
     [Ff, At b 0 [.v (.pointer (some ⟨lb, 0, none⟩))], At lb 0 x.row, x.ok], [J p.2]⟩) (fun p => o.secs.l.length - p.1) rfl (⟨(0, q), Nat.zero_le _, by simpa [keptsSec] using hq, rfl⟩) ?_
   rintro ⟨j, q2⟩ s ⟨hj, hq2, rfl⟩
   dsimp only at hj hq2
   refine awp_seq (awp_region (aL_s true rfl rfl (fun _ => q_lss rfl rfl) (aL_nil (thn_n (awp_seq ?_)))))
   refine awp_cond _ rfl (fun h2 => ?_) (fun h2 => ?_)
   ·skip
    have hj' : j < o.secs.l.length := by simpa using h2
    refine awp_skip (thn_n (awp_seq (awp_block (awp_seq (awp_region (aL_s true rfl rfl (fun _ => q_move rfl) (aL_s true rfl rfl (fun _ => q_assign rfl) ?_)))))))
    refine aL_nil (thn_n (awp_seq (awp_region (aL_s true rfl rfl (fun _ => q_move rfl) (aL_s true rfl rfl (fun _ => q_move rfl) ?_)))))
    refine aL_s true rfl rfl (fun _ => q_bld (l := [(0, .tmp 23), (1, .tmp 24)]) (zs := [.int .i64 0, .int .i64 0]) (pl := [(0, 1), (1, 1)]) (by kernel_rfl) (by kernel_rfl) (by kernel_rfl) rfl rfl rfl) ?_
    refine aL_eff (q := true) rfl (x_alloc (zs := [.int .i64 0, .int .i64 0]) (by kernel_rfl) rfl (fun b6_3 => ?_))
    refine aL_hp (by (try simp only [nM, nN]); rfl) ?_
    refine aL_eff rfl (x_store 1 tk36 rfl rfl rfl rfl ?_)
    refine aL_hp (by simp only [nK, nL]; rfl) ?_
    refine aL_nil (thn_n (awp_seq ?_))
    refine awp_drawnC [15] [15] [b6_3] (by kernel_rfl) ?_
    show aC _ _ _ _ _ _ _ 18 #[false, false, false, false, false, false, false, false, false, false, false, false, false, false, false, false, false, false] _
    refine aC_f 0 rfl (by kernel_rfl) true rfl rfl (fun _ => q_loadDE (o := 0) tk70 rfl (.of (psAt 1 rfl)) rfl) ?_
    refine aC_box 1 1 rfl (by kernel_rfl) true rfl rfl (by simp) tk36 (fun _ => rfl) rfl rfl ?_
    refine aC_f 2 rfl (by kernel_rfl) true rfl rfl (fun _ => q_call (by kernel_rfl) rfl (fun w S fp hst => (con_kept x lb _ _).quiet2 (psAt 2 rfl) (psAt 3 rfl) hst)) ?_
    refine aC_f 3 rfl (by kernel_rfl) true rfl rfl (fun _ => q_move rfl) ?_
    refine aC_f 4 rfl (by kernel_rfl) _ rfl rfl (fun hc => q_move rfl) ?_
    refine aC_f 5 rfl (by kernel_rfl) _ rfl rfl (fun hc => q_loadDE (o := 0) tk70 rfl (.of (psAt 1 rfl)) rfl) ?_
    refine aC_f 6 rfl (by kernel_rfl) _ rfl rfl (fun hc => q_nilCheck (ev_yes rfl hc)) ?_
    refine aC_f 7 rfl (by kernel_rfl) _ rfl rfl (fun hc => q_fieldAddr (off := 10) (by kernel_rfl) (ev_yes rfl hc)) ?_
    refine aC_f 8 rfl (by kernel_rfl) _ rfl rfl (fun hc => q_loadDE (o := 10) tk37 (ev_yes rfl hc) (.of (psAt 2 rfl)) rfl) ?_
    refine aC_f 9 rfl (by kernel_rfl) _ rfl rfl (fun hc => q_move rfl) ?_
    refine aC_R 10 rfl (by kernel_rfl) _ rfl rfl (fun hc => q_indexAddrGR Try.underlying37 tk3 (ev_yes rfl hc) ((GLink.f_first (.of (psAt 3 rfl)))) (ev_yes rfl hc) (rows_elt (i := (k : Int)) (by omega) (by omega)) (by omega) rfl) (fun _ => ⟨(0, 0)⟩) (fun ⟨b7_10, o7_10⟩ => ?_)
    refine aC_f 11 rfl (by kernel_rfl) _ rfl rfl (fun hc => q_loadD (o := 0) tk3 (ev_yes rfl hc) (psAt 0 rfl) hc rfl) ?_
    refine aC_f 12 rfl (by kernel_rfl) _ rfl rfl (fun hc => q_move rfl) ?_
    refine aC_f 13 rfl (by kernel_rfl) _ rfl rfl (fun hc => q_addi (ev_yes rfl hc) (ev_yes rfl hc) (by (have hb := hx.bound (k : Int) (j : Int) (by simpa using hc); have hkk := keptF_iff (by simpa using hc : keptF x.objs.l x.keep.l (k : Int) (j : Int) = true); omega))) ?_
    refine aC_box 14 1 rfl (by kernel_rfl) _ rfl rfl (by simp) tk36 (fun hc => rfl) rfl rfl ?_
    refine aC_yieldG (J := J) (Post := fun c q' => Inv ((keptsF x k ++ keptsSec x k j).length + (if c then 1 else 0)) q') (x0 := q2) 15 0 [3] rfl (by kernel_rfl) rfl rfl _ rfl rfl rfl (fun hc => ev_yes rfl hc) (fun hc => evs_cons (ev_yes rfl hc) (evs_cons (ev_yes rfl hc) rfl)) (fun hc => ?_) (fun _ => hq2) (fun q3 hq3 => ?_)
    · have hkp : keptF x.objs.l x.keep.l (k : Int) (j : Int) = true := by simpa using hc
      exact hY _ ⟨k, j⟩ q2 (kepts_at x hk' (by rw [hoo]; exact hj') hkp) hq2
    refine aC_f 16 rfl (by kernel_rfl) _ rfl rfl (fun hc => q_not (ev_yes rfl hc)) ?_
    refine aC_f 17 rfl (by kernel_rfl) true rfl rfl (fun _ => q_and rfl rfl (fun h => gt rfl h)) ?_
    refine aC_nil (by kernel_rfl) ?_
    refine thn_n ?_
    refine awp_cond _ rfl (fun h3 => ?_) (fun h3 => ?_)
    ·skip
     exfalso; simp at h3
    ·skip
     refine awp_skip (blk_n (thn_n (awp_region ?_)))
     refine aL_s true rfl rfl (fun _ => q_addi rfl rfl (by omega)) ?_
     refine aL_s true rfl rfl (fun _ => q_move rfl) (aL_nil (thn_n ?_))
     refine ⟨[0, 1, 3, 10, 11, 12, 18, 19, 20], [3, 2, 1, 0], [0], rfl, ?_⟩
     refine ⟨(j + 1, q3), ⟨by dsimp only; omega, ?_, rfl⟩, by dsimp only; omega⟩
     dsimp only
     rw [keptsSec_succ, ← List.append_assoc, List.length_append]
     cases hkp : keptF x.objs.l x.keep.l (k : Int) (j : Int) <;> simpa [hkp] using hq3
   ·skip
    refine awp_exit (thn_e (thn_e (blk_hit (blk_n (thn_n (awp_region ?_))))))
    refine aL_s true rfl rfl (fun _ => q_addi rfl rfl (by omega)) ?_
    refine aL_s true rfl rfl (fun _ => q_move rfl) (aL_nil (thn_n ?_))
    refine ⟨[0, 1, 10, 11, 12], [3, 2, 1, 0], [0], rfl, ?_⟩
    refine ⟨(k + 1, q2), ⟨by dsimp only; omega, ?_, rfl⟩, by dsimp only; omega⟩
    dsimp only
    rw [keptsF_succ, hoo]
    obtain rfl : j = o.secs.l.length := by have := (by simpa using h2 : o.secs.l.length ≤ j); omega
    exact hq2
  ·skip
   obtain rfl : k = x.objs.l.length := by have := (by simpa using h1 : x.objs.l.length ≤ k); omega
   refine awp_exit (thn_e (thn_e (blk_hit ?_)))
   refine fin0 [] [0] rfl Try.results33 ?_ (.inl rfl)
   exact ⟨rfl, q, hq, rfl⟩
end Go.Proofs.Ytnbochlghdkfkaa
