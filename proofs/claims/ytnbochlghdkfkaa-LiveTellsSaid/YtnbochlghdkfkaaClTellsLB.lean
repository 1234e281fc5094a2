/- Proved: for every recipe, objects, kept sections, choices and place the law LiveTells of the given program answers true and leaves what it was handed as it was. Conditions: none but those in the given statement itself. -/
import Derived.Test.YtnbochlghdkfkaaBlN
import Derived.Test.YtnbochlghdkfkaaBlK
import Derived.Test.YtnbochlghdkfkaaRows
import Derived.Test.YtnbochlghdkfkaaBlL
import Derived.WalkKit
import Derived.ProofKit
import Derived.OpenShut
import Derived.ShutString
import Derived.ChangeOld
import Derived.Below
set_option linter.unusedVariables false
set_option linter.unusedSimpArgs false
set_option maxRecDepth 20000
namespace Go.Proofs.Ytnbochlghdkfkaa
open Go.RowKit Go.Lp Go.Sy Go.Lv
open Go.Proofs.Try
attribute [local irreducible] aL aB awp aC fwp
theorem con_same_own (u t : Sl (Sl Bool)) (h : tabL u = tabL t) : Con Try.prog 11 [u.val, t.val] [TabF t] [PrivR (TabF u)] fun r ps hp => r = .bool true ∧ ps = [] ∧ hp = [] := by
  refine Con.clean (φ := fun r => r = .bool true) (R := fun r _ _ => r = .bool true) ?_ fun _ _ _ h => h
  refine Con.ofRes (p := TabF u) ((con_same u t).post fun v _ _ hv => by rw [hv, h, show sameF (tabL t) (tabL t) = true from decide_eq_true rfl]) _ fun w S fp hres => ?_
  exact (TabF u).mono (hres 0 _ rfl) (fun _ _ => rfl) fun b hb => .inr ⟨0, by simp, hb⟩
theorem bad_pair {o s : Int} {l : List Int} (h : l = [o, s]) : (decide (o ≠ elt l 0) || decide (s ≠ elt l 1)) = false := by subst h; simp [elt]
set_option maxHeartbeats 1000000 in
theorem con_tells (x : GLink) (a b : Int) : Con Try.prog 3 [x.r.val, x.objs.val, x.keep.val, x.choices.val, .int .i64 a, .int .i64 b] [x.ok] [] fun r _ _ => r = .bool true := by
  refine Con.enter Try.func3 rfl (by simp [Try.ntmps3]) ?_
  show awp _ _ _ _ ⟨[(0, true, _), (1, true, _), (2, true, _), (3, true, _), (4, true, _), (5, true, _)], _, _⟩
  refine awp_lenE (GLink.f_objs (.of (psAt 0 rfl))) (fun hlen => ?_)
  refine awp_seq (awp_region ?_)
  refine aL_eff (q := true) rfl (x_box rfl rfl rfl (fun b0_0 => ?_))
  refine aL_hp (by (try simp only [nM, nN]); rfl) ?_
  refine aL_s true rfl rfl (fun _ => q_assign rfl) (aL_nil (thn_n (awp_seq (awp_region ?_))))
  refine aL_eff (q := true) rfl (e_call [] [] (by kernel_rfl) rfl rfl rfl rfl (con_small) ?_)
  rintro _ _ _ ⟨rfl, rfl, rfl⟩
  refine aL_st (by (try simp only [nM, nN]); rfl) (by (try simp only [putB, place, Nat.reduceBEq, nA, if_true, if_false, reduceIte, nB, nC, nD, nE, nF, nG, nH, nI, Nat.reduceAdd, nJ, beq_self_eq_true, nK, nL, nM, nN]); rfl) ?_
  refine aL_s true rfl rfl (fun _ => q_assign rfl) (aL_nil (thn_n (awp_seq (awp_seq (awp_region (aL_s true rfl rfl (fun _ => q_move rfl) (aL_s true rfl rfl (fun _ => q_move rfl) ?_)))))))
  refine aL_s true rfl rfl (fun _ => q_move rfl) ?_
  refine aL_s true rfl rfl (fun _ => q_call (by kernel_rfl) rfl (fun w S fp hst => (con_few x).quiet1 (psAt 0 rfl) hst)) ?_
  refine aL_s true rfl rfl (fun _ => q_not rfl) (aL_nil (thn_n ?_))
  refine awp_cond _ rfl (fun h1 => ?_) (fun h1 => ?_)
  ·skip
   refine awp_seq (awp_region (aL_s true rfl rfl (fun _ => q_move rfl) (aL_s true rfl rfl (fun _ => q_assign rfl) (aL_nil (thn_n (awp_ret (thn_r ?_)))))))
   refine fin1 [] [] rfl Try.results3 rfl ?_ (.inr rfl)
   rfl
  ·skip
   have hF : FewL x.objs.l := few_of (x := x) (by simpa using h1)
   have hn4 := hF.n
   refine awp_skip (thn_n (awp_seq (awp_region (aL_s true rfl rfl (fun _ => q_load 0 tk25 rfl rfl rfl) (aL_s true rfl rfl (fun _ => q_move rfl) (aL_s true rfl rfl (fun _ => q_move rfl) (aL_s true rfl rfl (fun _ => q_move rfl) ?_)))))))
   refine aL_s true rfl rfl (fun _ => q_move rfl) (aL_s true rfl rfl (fun _ => q_move rfl) ?_)
   refine aL_eff (q := true) rfl (e_call [0] [] (by kernel_rfl) rfl rfl rfl rfl (con_lway x hF a b) ?_)
   rintro _ _ _ ⟨rfl, w, ad, cap, rfl, hw, rfl⟩
   refine aL_st (by (try simp only [nM, nN]); rfl) (by (try simp only [putB, place, Nat.reduceBEq, nA, if_true, if_false, reduceIte, nB, nC, nD, nE, nF, nG, nH, nI, Nat.reduceAdd, nJ, beq_self_eq_true, nK, nL, nM, nN]); rfl) ?_
   refine aL_s true rfl rfl (fun _ => q_assign rfl) (aL_nil (thn_n (awp_seq (awp_share 1 rfl ?_))))
   refine awp_lenE (.of (psAt 0 rfl)) (fun hlenw => ?_)
   refine awp_region (aL_s true rfl rfl (fun _ => q_load 0 tk25 rfl rfl rfl) (aL_s true rfl rfl (fun _ => q_move rfl) (aL_s true rfl rfl (fun _ => q_move rfl) (aL_s true rfl rfl (fun _ => q_move rfl) (aL_s true rfl rfl (fun _ => q_move rfl) (aL_s true rfl rfl (fun _ => q_move rfl) ?_))))))
   refine aL_eff (q := true) rfl (e_call [0] [] (by kernel_rfl) rfl rfl rfl rfl (con_rway x hF a b) ?_)
   rintro _ _ _ ⟨rfl, t, j, rfl, ht, hend, rfl⟩
   refine aL_st (by (try simp only [nM, nN]); rfl) (by (try simp only [putB, place, Nat.reduceBEq, nA, if_true, if_false, reduceIte, nB, nC, nD, nE, nF, nG, nH, nI, Nat.reduceAdd, nJ, beq_self_eq_true, nK, nL, nM, nN]); rfl) ?_
   refine aL_s true rfl rfl (fun _ => q_assign rfl) (aL_nil (thn_n (awp_seq (awp_seq ?_))))
   have hwt := way_tell (ad := ad) (cap := cap) ht hend
   rw [← hw] at hwt
   have htl : t.l.length = w.l.length := by simpa [wl] using congrArg List.length hwt
   refine awp_region (aL_s true rfl rfl (fun _ => q_move rfl) (aL_s true rfl rfl (fun _ => q_lenS Try.underlying31 rfl) (aL_s true rfl rfl (fun _ => q_move rfl) (aL_s true rfl rfl (fun _ => q_lenS Try.underlying33 rfl) (aL_s true rfl rfl (fun _ => q_neq rfl rfl) (aL_nil (thn_n ?_)))))))
   refine awp_cond _ rfl (fun h2 => ?_) (fun h2 => ?_)
   ·skip
    exfalso; rw [htl] at h2; simp at h2
   ·skip
    refine awp_skip (thn_n (awp_seq (awp_seq (awp_region (aL_s true rfl rfl (fun _ => q_assign rfl) (aL_nil (thn_n ?_)))))))
    refine awp_block (awp_loopK [1, 2, 3, 6, 12, 13, 14, 15, 16] [2, 1, 0] [0] (fun (i : Nat) st => i ≤ w.l.length ∧ st = ⟨[(1, true, x.objs.val), (2, true, x.keep.val), (3, true, x.choices.val), (6, true, .pointer (some ⟨b0_0, 0, none⟩)), (12, true, .bool false), (13, true, .bool true), (14, true, w.val), (15, true, t.val), (16, true, .int .i64 i)], [PairT t, ShF GPlace.row w, x.ok], [Box b0_0 25 x.r.vs]⟩) (fun i => w.l.length - i) rfl (⟨0, Nat.zero_le _, rfl⟩) ?_)
    rintro i st ⟨hi, rfl⟩
    refine awp_seq (awp_seq (awp_region (aL_s true rfl rfl (fun _ => q_move rfl) (aL_s true rfl rfl (fun _ => q_move rfl) (aL_s true rfl rfl (fun _ => q_lenS Try.underlying31 rfl) (aL_s true rfl rfl (fun _ => q_lss rfl rfl) (aL_nil ?_)))))))
    refine thn_n ?_
    refine awp_cond _ rfl (fun h3 => ?_) (fun h3 => ?_)
    ·skip
     have hi' : i < w.l.length := by simp at h3; omega
     have gt := elt_nat (l := t.l) (i := i) (by omega)
     have ge : (elt t.l (i : Int)).l = plP (elt w.l (i : Int)) := mapRel_elt (f := fun s : Sl Int => s.l) (g := plP) hwt hi'
     have gl : (elt t.l (i : Int)).l.length = 2 := by rw [ge]; rfl
     refine awp_skip (thn_n (awp_seq (awp_block (awp_seq ?_))))
     refine awp_drawn [] (by kernel_rfl) ?_
     show aB _ _ _ _ _ 26 #[false, false, false, false, false, false, false, false, false, false, false, false, false, false, false, false, false, false, false, false, false, false, false, false, false, false] _
     refine aB_s 0 rfl (by kernel_rfl) true rfl rfl (fun _ => q_move rfl) ?_
     refine aB_hp (by simp only [nO, nK, nL]; rfl) rfl ?_
     refine aB_s 1 rfl (by kernel_rfl) true rfl rfl (fun _ => q_move rfl) ?_
     refine aB_hp (by simp only [nO, nK, nL]; rfl) rfl ?_
     refine aB_E 2 rfl (by kernel_rfl) true rfl rfl (fun _ => q_indexAddrG Try.underlying31 tk36 rfl ((.of (psAt 1 rfl))) rfl (rows_elt (i := (i : Int)) (by omega) (by omega)) (by omega) rfl) (fun h => absurd h (by decide)) (fun ⟨b11_2, o11_2⟩ => ?_)
     refine aB_hp (by simp only [nO, nK, nL]; rfl) rfl ?_
     refine aB_s 3 rfl (by kernel_rfl) true rfl rfl (fun _ => q_fieldAddr (off := 0) (by kernel_rfl) rfl) ?_
     refine aB_hp (by simp only [nO, nK, nL]; rfl) rfl ?_
     refine aB_s 4 rfl (by kernel_rfl) true rfl rfl (fun _ => q_loadD (o := 0) tk3 rfl (psAt 0 rfl) rfl rfl) ?_
     refine aB_hp (by simp only [nO, nK, nL]; rfl) rfl ?_
     refine aB_s 5 rfl (by kernel_rfl) true rfl rfl (fun _ => q_move rfl) ?_
     refine aB_hp (by simp only [nO, nK, nL]; rfl) rfl ?_
     refine aB_s 6 rfl (by kernel_rfl) true rfl rfl (fun _ => q_move rfl) ?_
     refine aB_hp (by simp only [nO, nK, nL]; rfl) rfl ?_
     refine aB_E 7 rfl (by kernel_rfl) true rfl rfl (fun _ => q_indexAddrG Try.underlying33 tk37 rfl ((.left (.of (psAt 1 rfl)))) rfl (rows_get gt) rfl rfl) (fun h => absurd h (by decide)) (fun ⟨b11_7, o11_7⟩ => ?_)
     refine aB_hp (by simp only [nO, nK, nL]; rfl) rfl ?_
     refine aB_s 8 rfl (by kernel_rfl) true rfl rfl (fun _ => q_loadD (o := 0) tk37 rfl (psAt 0 rfl) rfl rfl) ?_
     refine aB_hp (by simp only [nO, nK, nL]; rfl) rfl ?_
     refine aB_E 9 rfl (by kernel_rfl) true rfl rfl (fun _ => q_indexAddrG Try.underlying37 tk3 rfl ((Ent.all (f := ShF fun z : Int => [.v (encI z)]) (Ent.right (.of (psAt 2 rfl))) gt)) rfl (rows_elt (i := 0) (by omega) (by omega)) (by omega) rfl) (fun h => absurd h (by decide)) (fun ⟨b11_9, o11_9⟩ => ?_)
     refine aB_hp (by simp only [nO, nK, nL]; rfl) rfl ?_
     refine aB_s 10 rfl (by kernel_rfl) true rfl rfl (fun _ => q_loadD (o := 0) tk3 rfl (psAt 0 rfl) rfl rfl) ?_
     refine aB_hp (by simp only [nO, nK, nL]; rfl) rfl ?_
     refine aB_s 11 rfl (by kernel_rfl) true rfl rfl (fun _ => q_neq rfl rfl) ?_
     refine aB_hp (by simp only [nO, nK, nL]; rfl) rfl ?_
     refine aB_s 12 rfl (by kernel_rfl) true rfl rfl (fun _ => q_move rfl) ?_
     refine aB_hp (by simp only [nO, nK, nL]; rfl) rfl ?_
     refine aB_s 13 rfl (by kernel_rfl) _ rfl rfl (fun hc => q_move rfl) ?_
     refine aB_hp (by simp only [nO, nK, nL]; rfl) rfl ?_
     refine aB_s 14 rfl (by kernel_rfl) _ rfl rfl (fun hc => q_move rfl) ?_
     refine aB_hp (by simp only [nO, nK, nL]; rfl) rfl ?_
     refine aB_E 15 rfl (by kernel_rfl) _ rfl rfl (fun hc => q_indexAddrG Try.underlying31 tk36 (ev_yes rfl hc) ((.of (psAt 4 rfl))) (ev_yes rfl hc) (rows_elt (i := (i : Int)) (by omega) (by omega)) (by omega) rfl) (fun _ => ⟨(0, 0)⟩) (fun ⟨b11_15, o11_15⟩ => ?_)
     refine aB_hp (by simp only [nO, nK, nL]; rfl) rfl ?_
     refine aB_s 16 rfl (by kernel_rfl) _ rfl rfl (fun hc => q_fieldAddr (off := 1) (by kernel_rfl) (ev_yes rfl hc)) ?_
     refine aB_hp (by simp only [nO, nK, nL]; rfl) rfl ?_
     refine aB_s 17 rfl (by kernel_rfl) _ rfl rfl (fun hc => q_loadD (o := 1) tk3 (ev_yes rfl hc) (psAt 0 rfl) hc rfl) ?_
     refine aB_hp (by simp only [nO, nK, nL]; rfl) rfl ?_
     refine aB_s 18 rfl (by kernel_rfl) _ rfl rfl (fun hc => q_move rfl) ?_
     refine aB_hp (by simp only [nO, nK, nL]; rfl) rfl ?_
     refine aB_s 19 rfl (by kernel_rfl) _ rfl rfl (fun hc => q_move rfl) ?_
     refine aB_hp (by simp only [nO, nK, nL]; rfl) rfl ?_
     refine aB_E 20 rfl (by kernel_rfl) _ rfl rfl (fun hc => q_indexAddrG Try.underlying33 tk37 (ev_yes rfl hc) ((.left (.of (psAt 4 rfl)))) (ev_yes rfl hc) (rows_get gt) rfl rfl) (fun _ => ⟨(0, 0)⟩) (fun ⟨b11_20, o11_20⟩ => ?_)
     refine aB_hp (by simp only [nO, nK, nL]; rfl) rfl ?_
     refine aB_s 21 rfl (by kernel_rfl) _ rfl rfl (fun hc => q_loadD (o := 0) tk37 (ev_yes rfl hc) (psAt 0 rfl) hc rfl) ?_
     refine aB_hp (by simp only [nO, nK, nL]; rfl) rfl ?_
     refine aB_E 22 rfl (by kernel_rfl) _ rfl rfl (fun hc => q_indexAddrG Try.underlying37 tk3 (ev_yes rfl hc) ((Ent.all (f := ShF fun z : Int => [.v (encI z)]) (Ent.right (.of (psAt 5 rfl))) gt)) rfl (rows_elt (i := 1) (by omega) (by omega)) (by omega) rfl) (fun _ => ⟨(0, 0)⟩) (fun ⟨b11_22, o11_22⟩ => ?_)
     refine aB_hp (by simp only [nO, nK, nL]; rfl) rfl ?_
     refine aB_s 23 rfl (by kernel_rfl) _ rfl rfl (fun hc => q_loadD (o := 0) tk3 (ev_yes rfl hc) (psAt 0 rfl) hc rfl) ?_
     refine aB_hp (by simp only [nO, nK, nL]; rfl) rfl ?_
     refine aB_s 24 rfl (by kernel_rfl) _ rfl rfl (fun hc => q_neq (ev_yes rfl hc) (ev_yes rfl hc)) ?_
     refine aB_hp (by simp only [nO, nK, nL]; rfl) rfl ?_
     refine aB_s 25 rfl (by kernel_rfl) true rfl rfl (fun _ => q_or rfl rfl (fun h => gf rfl h)) ?_
     refine aB_hp (by simp only [nO, nK, nL]; rfl) rfl ?_
     refine aB_nil (by kernel_rfl) ?_
     refine thn_n ?_
     refine awp_cond _ rfl (fun h4 => ?_) (fun h4 => ?_)
     ·skip
      exfalso; rw [ge] at h4; simp [plP, elt] at h4
     ·skip
      refine awp_skip (blk_n (thn_n (awp_region (aL_s true rfl rfl (fun _ => q_move rfl) ?_))))
      refine aL_s true rfl rfl (fun _ => q_addi rfl rfl (by omega)) ?_
      refine aL_s true rfl rfl (fun _ => q_assign rfl) (aL_nil (thn_n ?_))
      refine ⟨[1, 2, 3, 6, 12, 13, 14, 15, 16], [2, 1, 0], [0], rfl, ?_⟩
      exact ⟨i + 1, ⟨by omega, rfl⟩, by omega⟩
    ·skip
     refine awp_exit (thn_e (thn_e (blk_hit (thn_n (awp_seq ?_)))))
     refine awp_drawn [12] (by kernel_rfl) ?_
     show aB _ _ _ _ _ 15 #[false, false, false, false, false, false, false, false, false, false, false, false, false, false, false] _
     refine aB_s 0 rfl (by kernel_rfl) true rfl rfl (fun _ => q_move rfl) ?_
     refine aB_hp (by simp only [nO, nK, nL]; rfl) rfl ?_
     refine aB_s 1 rfl (by kernel_rfl) true rfl rfl (fun _ => q_move rfl) ?_
     refine aB_hp (by simp only [nO, nK, nL]; rfl) rfl ?_
     refine aB_s 2 rfl (by kernel_rfl) true rfl rfl (fun _ => q_load 0 tk25 rfl rfl rfl) ?_
     refine aB_hp (by simp only [nO, nK, nL]; rfl) rfl ?_
     refine aB_s 3 rfl (by kernel_rfl) true rfl rfl (fun _ => q_move rfl) ?_
     refine aB_hp (by simp only [nO, nK, nL]; rfl) rfl ?_
     refine aB_s 4 rfl (by kernel_rfl) true rfl rfl (fun _ => q_move rfl) ?_
     refine aB_hp (by simp only [nO, nK, nL]; rfl) rfl ?_
     refine aB_s 5 rfl (by kernel_rfl) true rfl rfl (fun _ => q_move rfl) ?_
     refine aB_hp (by simp only [nO, nK, nL]; rfl) rfl ?_
     refine aB_s 7 rfl (by kernel_rfl) true rfl rfl (fun _ => q_load 0 tk25 rfl rfl rfl) ?_
     refine aB_hp (by simp only [nO, nK, nL]; rfl) rfl ?_
     refine aB_s 8 rfl (by kernel_rfl) true rfl rfl (fun _ => q_move rfl) ?_
     refine aB_hp (by simp only [nO, nK, nL]; rfl) rfl ?_
     refine aB_s 9 rfl (by kernel_rfl) true rfl rfl (fun _ => q_move rfl) ?_
     refine aB_hp (by simp only [nO, nK, nL]; rfl) rfl ?_
     refine aB_s 10 rfl (by kernel_rfl) true rfl rfl (fun _ => q_move rfl) ?_
     refine aB_hp (by simp only [nO, nK, nL]; rfl) rfl ?_
     refine aB_eff (q := true) 6 rfl (by kernel_rfl) rfl rfl (e_call [0] [] (by kernel_rfl) rfl rfl rfl rfl (con_live x hF) ?_)
     rintro _ _ _ ⟨rfl, u, ad2, cap2, rfl, hu, rfl⟩
     refine aB_st (by simp only [nO, nK, nL]; rfl) (by (try simp only [nM, nN]); rfl) (by (try simp only [putB, place, Nat.reduceBEq, nA, if_true, if_false, reduceIte, nB, nC, nD, nE, nF, nG, nH, nI, Nat.reduceAdd, nJ, beq_self_eq_true, nK, nL, nM, nN]); rfl) ?_
     refine aB_eff (q := true) 11 rfl (by kernel_rfl) rfl rfl (e_call [0] [] (by kernel_rfl) rfl rfl rfl rfl (con_rlive x hF) ?_)
     rintro _ _ _ ⟨rfl, v, j2, rfl, hv, hend2, rfl⟩
     refine aB_st (by simp only [nO, nK, nL]; rfl) (by (try simp only [nM, nN]); rfl) (by (try simp only [putB, place, Nat.reduceBEq, nA, if_true, if_false, reduceIte, nB, nC, nD, nE, nF, nG, nH, nI, Nat.reduceAdd, nJ, beq_self_eq_true, nK, nL, nM, nN]); rfl) ?_
     refine aB_eff (q := false) 12 rfl (by kernel_rfl) rfl rfl (e_call [3] [1] (by kernel_rfl) rfl rfl rfl rfl (con_same_own u v (tab_tell hu hv hend2)) ?_)
     rintro _ _ _ ⟨rfl, rfl, rfl⟩
     refine aB_st (by simp only [nO, nK, nL]; rfl) (by (try simp only [nM, nN]); rfl) (by (try simp only [putB, place, Nat.reduceBEq, nA, if_true, if_false, reduceIte, nB, nC, nD, nE, nF, nG, nH, nI, Nat.reduceAdd, nJ, beq_self_eq_true, nK, nL, nM, nN]); rfl) ?_
     refine aB_s 13 rfl (by kernel_rfl) true rfl rfl (fun _ => q_and rfl rfl (fun _ => rfl)) ?_
     refine aB_hp (by simp only [nO, nK, nL]; rfl) rfl ?_
     refine aB_s 14 rfl (by kernel_rfl) true rfl rfl (fun _ => q_assign rfl) ?_
     refine aB_hp (by simp only [nO, nK, nL]; rfl) rfl ?_
     refine aB_nil (by kernel_rfl) ?_
     refine thn_n (awp_ret ?_)
     refine fin1 [] [] rfl Try.results3 rfl ?_ (.inr rfl)
     rfl
end Go.Proofs.Ytnbochlghdkfkaa
namespace Go.Proofs.Ytnbochlghdkfkaa.liveTells
open Go.ChangeShapes Go.WideShapes Go.ChangeAt Go.RowKit
open Go.Lp Go.Sy
open Go.ChangeMaps (open_string shut_string)
theorem own : ownKnob Try.prog.godebug = none := by kernel_rfl
theorem laidOut : laidOutB Try.prog = true := by kernel_rfl
set_option maxRecDepth 100000 in
theorem lifted (os : Os) (started : os.Started) (H : Type) (enc : TypeId × Value → H) :
    ReturnsInHanded {} Try.checked os 3 .any (Rows.liveTellsSpec.pre6 enc Try.prog Try.f3 Rows.liveTellsRow.domain false) (Rows.liveTellsSpec.post enc Try.prog Try.f3 false true false false) := by
  refine returnsInHanded_of_change (C := Try.checked) own started (by kernel_rfl) Try.func3
    (ChangeSpec.witness6 (enc := enc) (C := Try.checked) false ⟨#[], #[.agg #[.string .empty, .bool false, .slice none 0 0, .slice none 0 0, .string .empty, .int .i64 0, .slice none 0 0], .slice none 0 0, .slice none 0 0, .slice none 0 0, .int .i64 0, .int .i64 0], []⟩ 12 (by kernel_rfl) (by kernel_rfl) (by kernel_rfl) (by kernel_rfl)) ?_
  intro W base args ds gs before hval0 hW hcnd _
  have hval : ∀ (j : Nat) t v, Try.f3.params[j]? = some t → args[j]? = some v → Value.okWide Try.prog W .any base t v := hval0
  have hW' := hW
  obtain ⟨p, q, hA0, hV, rfl, hfz, hnd⟩ := hW
  have hA : DataW.TrodAll enc Try.prog W 0 (fun _ => true) true Try.f3.params.toList args.toList ds p := hA0
  rw [Try.params3] at hA hval
  obtain ⟨v0, vs0, d0, ds0, p0, q0, hargs, rfl, rfl, h0, r0⟩ := trodAll_cons hA
  obtain ⟨v1, vs1, d1, ds1, p1, q1, rfl, rfl, rfl, h1, r1⟩ := trodAll_cons r0
  obtain ⟨v2, vs2, d2, ds2, p2, q2, rfl, rfl, rfl, h2, r2⟩ := trodAll_cons r1
  obtain ⟨v3, vs3, d3, ds3, p3, q3, rfl, rfl, rfl, h3, r3⟩ := trodAll_cons r2
  obtain ⟨v4, vs4, d4, ds4, p4, q4, rfl, rfl, rfl, h4, r4⟩ := trodAll_cons r3
  obtain ⟨v5, vs5, d5, ds5, p5, q5, rfl, rfl, rfl, h5, r5⟩ := trodAll_cons r4
  obtain ⟨rfl, rfl, rfl⟩ := trodAll_nil r5
  obtain rfl : args = #[v0, v1, v2, v3, v4, v5] := by cases args; simp_all
  obtain ⟨rfl, rfl⟩ := trodVars_none hV
  obtain ⟨cs0, rfl, hsz0⟩ := okWide_struct Try.underlying25 (hval 0 25 v0 rfl rfl)
  obtain ⟨a1, l1, c1, rfl⟩ := okWide_slice Try.underlying26 (hval 1 26 v1 rfl rfl)
  obtain ⟨a2, l2, c2, rfl⟩ := okWide_slice Try.underlying27 (hval 2 27 v2 rfl rfl)
  obtain ⟨a3, l3, c3, rfl⟩ := okWide_slice Try.underlying28 (hval 3 28 v3 rfl rfl)
  have k0 := h0; have k1 := h1; have k2 := h2; have k3 := h3
  have lt0 : ∀ x ∈ p0, x.block < W.heap.size := by obtain ⟨m, hm⟩ := k0; exact DataW.trod_lt m _ _ _ hm
  have lt1 : ∀ x ∈ p1, x.block < W.heap.size := by obtain ⟨m, hm⟩ := k1; exact DataW.trod_lt m _ _ _ hm
  have lt2 : ∀ x ∈ p2, x.block < W.heap.size := by obtain ⟨m, hm⟩ := k2; exact DataW.trod_lt m _ _ _ hm
  have lt3 : ∀ x ∈ p3, x.block < W.heap.size := by obtain ⟨m, hm⟩ := k3; exact DataW.trod_lt m _ _ _ hm
  obtain ⟨x, e0, e1, e2, e3, hok⟩ : ∃ x : GLink, Value.agg cs0 = x.r.val ∧ Value.slice a1 l1 c1 = x.objs.val ∧ Value.slice a2 l2 c2 = x.keep.val ∧ Value.slice a3 l3 c3 = x.choices.val ∧ x.ok.holds W (fun b => b < W.heap.size) := by
    obtain ⟨f0, g0⟩ := h0
    obtain ⟨f1, g1⟩ := h1
    obtain ⟨f2, g2⟩ := h2
    obtain ⟨f3, g3⟩ := h3
    exact link_in (by simpa [Value.cells] using g0) (by simpa [Value.cells] using g1) (by simpa [Value.cells] using g2) (by simpa [Value.cells] using g3)
  obtain ⟨n4, rfl, rfl, rfl, w4⟩ := open_int Try.underlying3 (hval 4 3 v4 rfl rfl) h4
  obtain ⟨n5, rfl, rfl, rfl, w5⟩ := open_int Try.underlying3 (hval 5 3 v5 rfl rfl) h5
  clear hA0 hval0
  have hc := (con_tells x n4 n5).quiet1 (List.mem_singleton.2 rfl) (st_in (w := W) (ps := [x.ok]) fun p hp => by rw [List.mem_singleton.1 hp]; exact hok)
  rw [← e0, ← e1, ← e2, ← e3] at hc
  refine hc.mono fun e W' ⟨he, bel⟩ => ?_
  subst he
  exact ⟨_, rfl, _, _, _, [], _, [], hW', trodAll_mk1 (shut_bool Try.underlying4 _), (trodAll_cons_mk (Below.trod laidOut (by kernel_rfl) (of_decide_eq_true (by kernel_rfl)) k0 bel lt0) (trodAll_cons_mk (Below.trod laidOut (by kernel_rfl) (of_decide_eq_true (by kernel_rfl)) k1 bel lt1) (trodAll_cons_mk (Below.trod laidOut (by kernel_rfl) (of_decide_eq_true (by kernel_rfl)) k2 bel lt2) (trodAll_cons_mk (Below.trod laidOut (by kernel_rfl) (of_decide_eq_true (by kernel_rfl)) k3 bel lt3) (trodAll_cons_mk (shut_int Try.underlying3 w4) (trodAll_cons_mk (shut_int Try.underlying3 w5) trodAll_mk0)))))), rfl, bel.frame _, fun h => by cases h⟩
theorem over : Rows.liveTellsRow.holds Try.pinned (OpenSpec.ofChange Rows.liveTellsSpec) :=
  OpenClaim.holds_of_wide 3 Try.f3 rfl rfl rfl rfl rfl rfl rfl ⟨rfl, rfl, rfl, rfl, rfl⟩ rfl rfl rfl rfl rfl (by kernel_rfl) Try.func3 (by kernel_rfl)
    (of_decide_eq_true (by kernel_rfl)) (by unfold Func.isWrapper; first | (rw [if_pos (by decide +kernel)]; kernel_rfl) | (rw [if_neg (by decide +kernel)]; exact ⟨rfl, rfl⟩))
    (fun os started H enc _ => lifted os started H enc)
theorem proved : Rows.LiveTellsSaid := over
end Go.Proofs.Ytnbochlghdkfkaa.liveTells
