/- The law SpaceBytes. -/
import Derived.Test.YtlhbnpahplpobaaSySmall
import Derived.Test.YtlhbnpahplpobaaSyEq
import Derived.Test.YtlhbnpahplpobaaLpByt
set_option linter.unusedVariables false
set_option linter.unusedSimpArgs false
namespace Go.Proofs.Ytlhbnpahplpobaa
open Go.RowKit Go.Lp Go.Sy
theorem ar_fields {a b : Ar} (w : World) : (Op.eqFields 9999 a.vals.toArray b.vals.toArray (Try.prog.fieldsOf 24).toList).run Try.prog w = .ok (decide (a = b)) w := by
  have ho : (Try.prog.fieldsOf 24).toList.map (·.offset) = [0, 1, 2, 3, 4] := by kernel_rfl
  rw [eqFields_ints 9998 _ _ _ w (by kernel_rfl) (by rw [ho]; rfl) (by rw [ho]; rfl), ho]
  congr 1
  obtain ⟨a1, a2, a3, a4, a5⟩ := a
  obtain ⟨b1, b2, b3, b4, b5⟩ := b
  have e : eqInts (Ar.vals ⟨a1, a2, a3, a4, a5⟩).toArray (Ar.vals ⟨b1, b2, b3, b4, b5⟩).toArray [0, 1, 2, 3, 4] = ((a1 == b1) && ((a2 == b2) && ((a3 == b3) && ((a4 == b4) && ((a5 == b5) && true))))) := rfl
  rw [e, Bool.eq_iff_iff]
  simp
theorem few_len {l : List Deed} (h : fewB l = true) : l.length ≤ 4000 := by
  unfold fewB at h
  simp only [Bool.and_eq_true, Bool.not_eq_true', decide_eq_false_iff_not] at h
  omega
theorem awp_spinv {n : Nat} {c : Code} {Q : Exit → Sta → Prop} {env : Env} {ps : List Per} {hp : List Res} {p : Nat} {M : Mem} (i : Nat) (hi : hp[i]? = some (SpR p M)) (h : MInv M → awp Try.prog n c Q ⟨env, ps, hp⟩) : awp Try.prog n c Q ⟨env, ps, hp⟩ := fun w S fp a hst he hn hd => h (sp_inv hst i hi) w S fp a hst he hn hd
theorem spaceBytes_con (l : List Deed) (ad : Option Addr) (c : Nat) (hl : ∀ d ∈ l, DeedOk d) (at_ : Int) (hat : I64 at_)
 :
    Con Try.prog 4 [.slice ad l.length c, .int .i64 at_] [Sh (.slice ad l.length c) (.sl (l.map deedRow))] [] fun r _ _ => r = .bool true := by
  have HL := Lib.hid hl
  clear hl
  have Hat := Lib.hid hat
  refine Con.enter Try.func4 rfl (by simp [Try.ntmps4]) ?_
  show awp _ _ _ _ ⟨[(0, true, _), (1, true, _)], _, _⟩
  refine awp_len 0 rfl (fun hlen => ?_)
  refine awp_seq ?_
  refine awp_region ?_
  refine aL_s true rfl rfl (fun _ => q_assign rfl) ?_
  refine aL_nil ?_
  refine thn_n ?_
  refine awp_seq ?_
  refine awp_region ?_
  refine aL_s true rfl rfl (fun _ => q_call (by kernel_rfl) rfl (fun w S fp hst => small_fn.quiet0 hst)) ?_
  refine aL_s true rfl rfl (fun _ => q_assign rfl) ?_
  refine aL_nil ?_
  refine thn_n ?_
  refine awp_seq ?_
  refine awp_seq ?_
  refine awp_region ?_
  refine aL_s true rfl rfl (fun _ => q_move rfl) ?_
  refine aL_s true rfl rfl (fun _ => q_call (by kernel_rfl) rfl (fun w S fp hst => (few_fn l ad c).quiet1 (psAt 0 rfl) hst)) ?_
  refine aL_s true rfl rfl (fun _ => q_not rfl) ?_
  refine aL_nil ?_
  refine thn_n ?_
  refine awp_cond _ rfl (fun h1 => ?_) (fun h1 => ?_)
  · skip
    refine awp_seq ?_
    refine awp_region ?_
    refine aL_s true rfl rfl (fun _ => q_move rfl) ?_
    refine aL_s true rfl rfl (fun _ => q_assign rfl) ?_
    refine aL_nil ?_
    refine thn_n ?_
    refine awp_ret ?_
    refine thn_r ?_
    refine fin1 [] [] rfl Try.results4 rfl ?_ (.inr rfl)
    rfl
  · skip
    have hll : l.length ≤ 4000 := few_len (by simpa using h1)
    refine awp_skip ?_
    refine thn_n ?_
    refine awp_seq ?_
    refine awp_region ?_
    refine aL_s true rfl rfl (fun _ => q_move rfl) ?_
    refine aL_eff (q := true) rfl (e_call [0] [] (by kernel_rfl) rfl rfl rfl rfl (fill_fn l ad c HL.out hll) ?_)
    rintro v ps' hp' ⟨rfl, p, rfl, rfl⟩
    refine aL_s true rfl rfl (fun _ => q_assign rfl) ?_
    refine aL_nil ?_
    refine thn_n ?_
    refine awp_seq ?_
    refine awp_region ?_
    refine aL_s true rfl rfl (fun _ => q_move rfl) ?_
    refine aL_s true rfl rfl (fun _ => q_move rfl) ?_
    refine aL_s true rfl rfl (fun _ => q_call (by kernel_rfl) rfl (fun w S fp hst => q_spload hst 0 rfl at_ 8 Hat.out)) ?_
    refine aL_s true rfl rfl (fun _ => q_move rfl) ?_
    refine aL_s true rfl rfl (fun _ => q_extract rfl rfl) ?_
    refine aL_s true rfl rfl (fun _ => q_extract rfl rfl) ?_
    refine aL_s true rfl rfl (fun _ => q_assign rfl) ?_
    refine aL_s true rfl rfl (fun _ => q_assign rfl) ?_
    refine aL_nil ?_
    refine thn_n ?_
    refine awp_seq ?_
    refine awp_region ?_
    refine aL_s true rfl rfl (fun _ => q_assign rfl) ?_
    refine aL_nil ?_
    refine thn_n ?_
    refine awp_seq ?_
    refine awp_region ?_
    refine aL_s true rfl rfl (fun _ => q_move rfl) ?_
    refine aL_s true rfl rfl (fun _ => q_rem rfl rfl (by decide)) ?_
    refine aL_s true rfl rfl (fun _ => q_eql rfl rfl) ?_
    refine aL_s true rfl rfl (fun _ => q_assign rfl) ?_
    refine aL_nil ?_
    refine thn_n ?_
    refine awp_seq ?_
    refine awp_seq ?_
    refine awp_region ?_
    refine aL_s true rfl rfl (fun _ => q_assign rfl) ?_
    refine aL_nil ?_
    refine thn_n ?_
    refine awp_block ?_
    generalize hM : fillM l = M
    refine awp_spinv 0 rfl (fun hI => ?_)
    refine awp_loopK [1, 4, 5, 6, 7, 8, 9, 10, 11] [0] [0] (fun (j : Nat) s => j ≤ 8 ∧ s = ⟨[(1, true, .int .i64 at_), (4, true, .bool false), (5, true, .bool true), (6, true, .pointer (some ⟨p, 0, none⟩)), (7, true, .int .i64 (loadM M at_ 8).1), (8, true, .int .i64 (loadM M at_ 8).2), (9, true, .int .i64 (bSum M at_ j)), (10, true, .bool (bGood M at_ j)), (11, true, .int .i64 (7 - j))], [Sh (.slice ad l.length c) (.sl (l.map deedRow))], [SpR p M]⟩) (fun j => 8 - j) rfl (⟨0, by omega, rfl⟩) ?_
    rintro j s ⟨hj, rfl⟩
    refine awp_seq ?_
    refine awp_seq ?_
    refine awp_region ?_
    refine aL_s true rfl rfl (fun _ => q_move rfl) ?_
    refine aL_s true rfl rfl (fun _ => q_geq rfl rfl) ?_
    refine aL_nil ?_
    refine thn_n ?_
    refine awp_cond _ rfl (fun h2 => ?_) (fun h2 => ?_)
    · skip
      have hj' : j < 8 := by simp at h2; omega
      refine awp_skip ?_
      refine thn_n ?_
      refine awp_seq ?_
      refine awp_block ?_
      refine awp_seq ?_
      refine awp_region ?_
      refine aL_s true rfl rfl (fun _ => q_move rfl) ?_
      refine aL_s true rfl rfl (fun _ => q_move rfl) ?_
      refine aL_s true rfl rfl (fun _ => q_move rfl) ?_
      refine aL_s true rfl rfl (fun _ => q_add rfl rfl) ?_
      refine aL_s true rfl rfl (fun _ => q_call (by kernel_rfl) rfl (fun w S fp hst => q_spload hst 0 rfl (addW at_ (7 - j)) 1 (addW_in _ _))) ?_
      refine aL_s true rfl rfl (fun _ => q_move rfl) ?_
      refine aL_s true rfl rfl (fun _ => q_extract rfl rfl) ?_
      refine aL_s true rfl rfl (fun _ => q_extract rfl rfl) ?_
      refine aL_s true rfl rfl (fun _ => q_assign rfl) ?_
      refine aL_s true rfl rfl (fun _ => q_assign rfl) ?_
      refine aL_nil ?_
      refine thn_n ?_
      refine awp_seq ?_
      refine awp_region ?_
      refine aL_s true rfl rfl (fun _ => q_move rfl) ?_
      refine aL_s true rfl rfl (fun _ => q_move rfl) ?_
      refine aL_s true rfl rfl (fun _ => q_move rfl) ?_
      refine aL_s true rfl rfl (fun _ => q_add rfl rfl) ?_
      refine aL_s true rfl rfl (fun _ => q_call (by kernel_rfl) rfl (fun w S fp hst => q_sparea hst 0 rfl (addW at_ (7 - j)) (addW_in _ _))) ?_
      refine aL_s true rfl rfl (fun _ => q_move rfl) ?_
      refine aL_s true rfl rfl (fun _ => q_extract rfl rfl) ?_
      refine aL_s true rfl rfl (fun _ => q_extract rfl rfl) ?_
      refine aL_eff (q := true) rfl (e_alloc (zs := [.int .i64 0, .int .i64 0, .int .i64 0, .int .i64 0, .int .i64 0]) (by kernel_rfl) rfl (fun b12_8 => ?_))
      simp only [List.cons_append, List.nil_append]
      refine aL_eff rfl (e_store 1 tk24 rfl rfl rfl rfl ?_)
      simp only [List.set_cons_succ, List.set_cons_zero]
      refine aL_s true rfl rfl (fun _ => q_assign rfl) ?_
      refine aL_nil ?_
      refine thn_n ?_
      refine awp_seq ?_
      refine awp_seq ?_
      refine awp_region ?_
      refine aL_s true rfl rfl (fun _ => q_move rfl) ?_
      refine aL_s true rfl rfl (fun _ => q_move rfl) ?_
      refine aL_s true rfl rfl (fun _ => q_eql rfl rfl) ?_
      refine aL_s true rfl rfl (fun _ => qb_neq (by kernel_rfl) rfl rfl) ?_
      refine aL_s true rfl rfl (fun _ => q_move rfl) ?_
      refine aL_s _ rfl rfl (fun hc => q_move rfl) ?_
      refine aL_s _ rfl rfl (fun hc => q_lss (ev_yes rfl hc) rfl) ?_
      refine aL_s true rfl rfl (fun _ => q_or rfl rfl (fun h => gf rfl h)) ?_
      refine aL_s true rfl rfl (fun _ => q_move rfl) ?_
      refine aL_s _ rfl rfl (fun hc => q_move rfl) ?_
      refine aL_s _ rfl rfl (fun hc => q_gtr (ev_yes rfl hc) rfl) ?_
      refine aL_s true rfl rfl (fun _ => q_or rfl rfl (fun h => gf rfl h)) ?_
      refine aL_nil ?_
      refine thn_n ?_
      refine awp_cond _ rfl (fun h3 => ?_) (fun h3 => ?_)
      · skip
        refine awp_seq ?_
        refine awp_region ?_
        refine aL_s true rfl rfl (fun _ => q_assign rfl) ?_
        refine aL_nil ?_
        refine thn_n ?_
        refine awp_ret ?_
        refine thn_r ?_
        refine blk_r ?_
        refine thn_r ?_
        refine thn_r ?_
        refine blk_r ?_
        refine thn_r ?_
        refine fin1 [] [] rfl Try.results4 rfl ?_ (.inr rfl)
        exact absurd h3 (by rw [law_b1]; decide)
      · skip
        refine awp_skip ?_
        refine thn_n ?_
        refine awp_seq ?_
        refine awp_region ?_
        refine aL_s true rfl rfl (fun _ => q_move rfl) ?_
        refine aL_s true rfl rfl (fun _ => q_move rfl) ?_
        refine aL_s _ rfl rfl (fun hc => q_move rfl) ?_
        refine aL_s true rfl rfl (fun _ => q_and rfl rfl (fun h => gt rfl h)) ?_
        refine aL_s true rfl rfl (fun _ => q_assign rfl) ?_
        refine aL_nil ?_
        refine thn_n ?_
        refine awp_region ?_
        refine aL_s true rfl rfl (fun _ => q_move rfl) ?_
        refine aL_s true rfl rfl (fun _ => q_shl rfl rfl (by decide)) ?_
        refine aL_s true rfl rfl (fun _ => q_move rfl) ?_
        refine aL_s true rfl rfl (fun _ => q_orB rfl rfl) ?_
        refine aL_s true rfl rfl (fun _ => q_assign rfl) ?_
        refine aL_nil ?_
        refine blk_n ?_
        refine thn_n ?_
        refine awp_region ?_
        refine aL_s true rfl rfl (fun _ => q_move rfl) ?_
        refine aL_s true rfl rfl (fun _ => q_subi rfl rfl (by omega)) ?_
        refine aL_s true rfl rfl (fun _ => q_assign rfl) ?_
        refine aL_nil ?_
        refine thn_n ?_
        refine ⟨[1, 4, 5, 6, 7, 8, 9, 10, 11], [0], [0], rfl, ?_⟩
        refine ⟨j + 1, ⟨by omega, ?_⟩, by omega⟩
        rw [show (7 - (j : Int) - 1) = 7 - ((j + 1 : Nat) : Int) by omega]; rfl
    · skip
      refine awp_exit ?_
      refine thn_e ?_
      refine thn_e ?_
      refine blk_hit ?_
      refine thn_n ?_
      refine awp_seq ?_
      refine awp_region ?_
      refine aL_s true rfl rfl (fun _ => q_move rfl) ?_
      refine aL_s true rfl rfl (fun _ => q_move rfl) ?_
      refine aL_s true rfl rfl (fun _ => q_call (by kernel_rfl) rfl (fun w S fp hst => q_sparea hst 0 rfl at_ Hat.out)) ?_
      refine aL_s true rfl rfl (fun _ => q_move rfl) ?_
      refine aL_s true rfl rfl (fun _ => q_extract rfl rfl) ?_
      refine aL_s true rfl rfl (fun _ => q_extract rfl rfl) ?_
      refine aL_eff (q := true) rfl (e_alloc (zs := [.int .i64 0, .int .i64 0, .int .i64 0, .int .i64 0, .int .i64 0]) (by kernel_rfl) rfl (fun b17_6 => ?_))
      simp only [List.cons_append, List.nil_append]
      refine aL_eff rfl (e_store 1 tk24 rfl rfl rfl rfl ?_)
      simp only [List.set_cons_succ, List.set_cons_zero]
      refine aL_s true rfl rfl (fun _ => q_assign rfl) ?_
      refine aL_nil ?_
      refine thn_n ?_
      refine awp_seq ?_
      refine awp_region ?_
      refine aL_s true rfl rfl (fun _ => q_move rfl) ?_
      refine aL_s true rfl rfl (fun _ => q_move rfl) ?_
      refine aL_s true rfl rfl (fun _ => q_add rfl rfl) ?_
      refine aL_s true rfl rfl (fun _ => q_call (by kernel_rfl) rfl (fun w S fp hst => q_sparea hst 0 rfl (addW at_ 7) (addW_in _ _))) ?_
      refine aL_s true rfl rfl (fun _ => q_move rfl) ?_
      refine aL_s true rfl rfl (fun _ => q_extract rfl rfl) ?_
      refine aL_s true rfl rfl (fun _ => q_extract rfl rfl) ?_
      refine aL_eff (q := true) rfl (e_alloc (zs := [.int .i64 0, .int .i64 0, .int .i64 0, .int .i64 0, .int .i64 0]) (by kernel_rfl) rfl (fun b18_7 => ?_))
      simp only [List.cons_append, List.nil_append]
      refine aL_eff rfl (e_store 2 tk24 rfl rfl rfl rfl ?_)
      simp only [List.set_cons_succ, List.set_cons_zero]
      refine aL_s true rfl rfl (fun _ => q_assign rfl) ?_
      refine aL_nil ?_
      refine thn_n ?_
      refine awp_seq ?_
      refine awp_region ?_
      refine aL_s true rfl rfl (fun _ => q_move rfl) ?_
      refine aL_s true rfl rfl (fun _ => q_move rfl) ?_
      refine aL_s _ rfl rfl (fun hc => q_load 1 tk24 rfl rfl rfl) ?_
      refine aL_s _ rfl rfl (fun hc => q_load 2 tk24 rfl rfl rfl) ?_
      refine aL_s _ rfl rfl (fun hc => qa_eql (by kernel_rfl) (by kernel_rfl) (by kernel_rfl) (fun w => ar_fields w) (ev_yes rfl hc) (ev_yes rfl hc)) ?_
      refine aL_s true rfl rfl (fun _ => q_and rfl rfl (fun h => gt rfl h)) ?_
      refine aL_s true rfl rfl (fun _ => q_assign rfl) ?_
      refine aL_nil ?_
      refine thn_n ?_
      refine awp_seq ?_
      refine awp_seq ?_
      refine awp_region ?_
      refine aL_s true rfl rfl (fun _ => q_move rfl) ?_
      refine aL_s true rfl rfl (fun _ => q_move rfl) ?_
      refine aL_s true rfl rfl (fun _ => q_eql rfl rfl) ?_
      refine aL_s true rfl rfl (fun _ => qb_neq (by kernel_rfl) rfl rfl) ?_
      refine aL_nil ?_
      refine thn_n ?_
      refine awp_cond _ rfl (fun h4 => ?_) (fun h4 => ?_)
      · skip
        refine awp_seq ?_
        refine awp_region ?_
        refine aL_s true rfl rfl (fun _ => q_assign rfl) ?_
        refine aL_nil ?_
        refine thn_n ?_
        refine awp_ret ?_
        refine thn_r ?_
        refine fin1 [] [] rfl Try.results4 rfl ?_ (.inr rfl)
        obtain rfl : j = 8 := by simp at h2; omega
        exact absurd h4 (by rw [show (bGood M at_ 8 && decide ((areaM M at_).1 = (areaM M (addW at_ 7)).1)) = bAll M at_ from rfl, law_b2 M hI _ Hat.out]; simp)
      · skip
        refine awp_skip ?_
        refine thn_n ?_
        refine awp_seq ?_
        refine awp_region ?_
        refine aL_s true rfl rfl (fun _ => q_move rfl) ?_
        refine aL_s true rfl rfl (fun _ => q_move rfl) ?_
        refine aL_s _ rfl rfl (fun hc => q_move rfl) ?_
        refine aL_s _ rfl rfl (fun hc => q_not (ev_yes rfl hc)) ?_
        refine aL_s _ rfl rfl (fun hc => q_move (ev_yes rfl hc)) ?_
        refine aL_s _ rfl rfl (fun hc => q_move rfl) ?_
        refine aL_s _ rfl rfl (fun hc => q_eql (ev_yes rfl hc) rfl) ?_
        refine aL_s _ rfl rfl (fun hc => q_and (ev_yes rfl hc) rfl (fun h => gt hc h)) ?_
        refine aL_s _ rfl rfl (fun hc => q_move (ev_yes rfl hc)) ?_
        refine aL_s _ rfl rfl (fun hc => q_move rfl) ?_
        refine aL_s _ rfl rfl (fun hc => q_move (ev_yes rfl hc)) ?_
        refine aL_s _ rfl rfl (fun hc => q_move rfl) ?_
        refine aL_s _ rfl rfl (fun hc => q_move rfl) ?_
        refine aL_s _ rfl rfl (fun hc => q_eql (ev_yes rfl hc) (ev_yes rfl hc)) ?_
        refine aL_s _ rfl rfl (fun hc => q_and (ev_yes rfl hc) rfl (fun h => gt hc h)) ?_
        refine aL_s _ rfl rfl (fun hc => q_or (ev_yes rfl hc) rfl (fun h => gf hc h)) ?_
        refine aL_s true rfl rfl (fun _ => q_and rfl rfl (fun h => gt rfl h)) ?_
        refine aL_s true rfl rfl (fun _ => q_assign rfl) ?_
        refine aL_nil ?_
        refine thn_n ?_
        refine awp_ret ?_
        refine fin1 [] [] rfl Try.results4 rfl ?_ (.inr rfl)
        obtain rfl : j = 8 := by simp at h2; omega
        refine congrArg Value.bool ?_
        change (true && (!bAll M at_ && decide ((loadM M at_ 8).fst = 0) || bAll M at_ && decide ((loadM M at_ 8).fst = bSum M at_ 8))) = true
        have hh := law_b2 M hI at_ Hat.out
        cases hb : bAll M at_
        · have hn : (loadM M at_ 8).2 ≠ 0 := by intro h; rw [hb, h] at hh; simp at hh
          rw [load_err M at_ hn]; rfl
        · rw [law_b3 M hI at_ Hat.out hb]; simp
end Go.Proofs.Ytlhbnpahplpobaa
