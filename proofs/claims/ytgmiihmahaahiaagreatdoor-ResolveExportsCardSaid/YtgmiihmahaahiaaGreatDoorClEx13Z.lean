/- Proved: for all objects, interfaces and versions the law ResolveExports of the given program answers true and leaves what it was handed as it was; the card, tied to the program's text. Conditions: none but those in the given statement itself. -/
import Derived.Test.YtgmiihmahaahiaaGreatDoorQa16
import Derived.Test.YtgmiihmahaahiaaGreatDoorQa03
import Derived.Test.YtgmiihmahaahiaaGreatDoorCards
import Derived.Test.YtgmiihmahaahiaaGreatDoorTie
import Derived.Test.YtgmiihmahaahiaaGreatDoorQa15
import Derived.SevenTiedAt
set_option linter.unusedSimpArgs false
set_option linter.unusedVariables false
set_option maxHeartbeats 1000000
set_option maxRecDepth 20000
namespace Go.Proofs.YtgmiihmahaahiaaGreatDoor
open Go.RowKit Go.Lp Go.Sy
open Go.Proofs.Tryz
attribute [local irreducible] aL aB awp aC fwp
set_option maxHeartbeats 1000000 in
theorem con_exports (x : G13) : Con Tryz.prog 8 [x.os.val, .bool x.lib, x.ifs.val, x.vs.val] [x.ok] [] fun r _ _ => r = .bool true := by
 refine Con.enter Tryz.func8 rfl (by simp [Tryz.ntmps8]) ?_
 show awp _ _ _ _ ⟨[(0, true, _), (1, true, _), (2, true, _), (3, true, _)], _, _⟩
 refine aSR (aA rfl (aNn (aSR ?_)))
 refine aU rfl (q_call (by kernel_rfl) rfl (fun w S fp hst => con_small13.quiet0 hst)) ?_
 refine aA rfl (aNn (aSR (aM rfl (aM rfl (aM rfl ?_)))))
 refine aL_callN (caps := []) [0] (false) (by kernel_rfl) true rfl rfl (fun _ => rfl) (fun hc => rfl) (fun hc => by rw [List.append_nil]; exact con_few13 x) (fun cf hcf => ?_)
 refine aA rfl (aNs (aSR (aM rfl (aU rfl (q_not rfl) (aNn ?_)))))
 refine awp_cond _ rfl (fun h1 => ?_) (fun h1 => ?_)
 ·skip
  refine aSR (aM rfl (aA rfl (aNn (awp_ret (thn_r ?_)))))
  refine fin1 [] [] rfl Tryz.results8 rfl ?_ (.inr rfl)
  rfl
 ·skip
  have hF := hcf rfl (by simpa using h1)
  refine awp_skip (thn_n (aSR (aM rfl ?_)))
  refine aL_eff (q := true) rfl (e_call [0] [] (by kernel_rfl) rfl rfl rfl rfl (con_keep13 x hF) ?_)
  rintro _ _ _ ⟨rfl, K, dv, rfl, hok, rfl⟩
  refine aL_st (by (try simp only [nM, nN]); rfl) (by (try simp only [putB, place, Nat.reduceBEq, if_true, if_false, reduceIte, Nat.reduceAdd, nW]); rfl) ?_
  refine aM rfl (aU rfl (q_extract rfl rfl) (aU rfl (q_extract rfl rfl) (aA rfl (aA rfl (aNn (aSR (aM rfl (aM rfl (aM rfl (aM rfl (aM rfl ?_)))))))))))
  refine aL_eff (q := true) rfl (e_call [2, 1, 0] [] (by kernel_rfl) rfl rfl rfl rfl (con_bind13 x K hok) ?_)
  rintro _ _ _ ⟨rfl, Cs, rfl, rfl, hS⟩
  refine aL_st (by (try simp only [nM, nN]); rfl) (by (try simp only [putB, place, Nat.reduceBEq, if_true, if_false, reduceIte, Nat.reduceAdd, nW]); rfl) ?_
  refine aM rfl (aU rfl (q_extract rfl rfl) (aU rfl (q_extract rfl rfl) (aU rfl (q_extract rfl rfl) ?_)))
  refine aL_eff (q := true) rfl (x_alloc (zs := [.int .i64 0, .int .i64 0]) (by kernel_rfl) rfl (fun b6_10 => ?_))
  refine aL_hp (by (try simp only [nM, nN]); rfl) ?_
  refine aA rfl (aA rfl ?_)
  refine aL_eff rfl (x_store 0 tk34 rfl rfl rfl rfl ?_)
  refine aL_hp (by (try simp only [nK, nL]); rfl) ?_
  refine aNs (aSR (aM rfl (aU rfl (q_neq rfl rfl) (aNn ?_))))
  refine awp_cond _ rfl (fun h2 => ?_) (fun h2 => ?_)
  ·skip
   refine aSR (aM rfl (aA rfl (aNn (awp_ret (thn_r ?_)))))
   refine fin1 [] [] rfl Tryz.results8 rfl ?_ (.inr rfl)
   rfl
  ·skip
   have hB := bd13_of hS (codeE_0 (by simpa using h2))
   have hn5 := hF.n
   refine awp_skip (thn_n (awp_seq (aSR (aM rfl (aM rfl ?_)))))
   refine aU rfl (q_call (by kernel_rfl) rfl (fun w S fp hst => quiet3 (con_fits13' x Cs hB.fits) (psAt 0 rfl) (psAt 1 rfl) (psAt 4 rfl) hst)) ?_
   refine aU rfl (q_not rfl) (aNn ?_)
   refine awp_cond _ rfl (fun h3 => ?_) (fun h3 => ?_)
   ·skip
    exact absurd h3 (by decide)
   ·skip
    refine awp_skip (thn_n (aSR (aM rfl (aM rfl (aM rfl ?_)))))
    refine aL_eff (q := true) rfl (e_call [4, 3, 0] [] (by kernel_rfl) rfl rfl rfl rfl (con_exported13 x K hok Cs hB) ?_)
    rintro v _ _ ⟨rfl, rfl⟩
    refine aL_st (by (try simp only [nM, nN]); rfl) (by (try simp only [putB, place, Nat.reduceBEq, if_true, if_false, reduceIte, Nat.reduceAdd, nW]); rfl) ?_
    refine aA rfl (aNs (awp_share 1 rfl ?_))
    have hone := @exp_main K.l (flatF x.os.l) (srvB x.vs.l) (libR x.ifs.l) x.lib hB.rb
    have hasc := expF_asc (kp := K.l) hB.rb.asc
    have hxm : ∀ y, y ∈ expF K.l (flatF x.os.l) ↔ ∃ d ∈ expL K.l (flatF x.os.l), y = offD d := fun y => expF_mem
    generalize expF K.l (flatF x.os.l) = xs at hone hasc hxm
    refine awp_form (.of (psAt 0 rfl)) (fun ad cp hv => ?_)
    subst hv
    rw [List.length_map]
    refine awp_lenE (.of (psAt 0 rfl)) (fun hlx => ?_)
    refine awp_region (aA rfl (aNs (aSR (aA rfl (aNn (awp_block ?_))))))
    refine awp_loopK [0, 9, 13, 16, 17, 18] [5, 4, 3, 0] [] (fun (z : Nat × Int) st => (z.1 ≤ xs.length ∧ MnK xs z.1 z.2) ∧ st = ⟨[(0, true, x.os.val), (9, true, .bool true), (13, true, Cs.val), (16, true, .slice ad xs.length cp), (17, true, .int .i64 z.2), (18, true, .int .i64 z.1)], [Sh (.slice ad xs.length cp) (.sl (xs.map GOffered.row)), AllF (ShF GChoice.row) Cs.l, ShF slR Cs, x.ok], []⟩) (fun z => xs.length - z.1) rfl (⟨(0, 0), ⟨Nat.zero_le _, .inl rfl, fun h => by simp at h⟩, rfl⟩) ?_
    rintro ⟨i, m⟩ st ⟨⟨hi, hM⟩, rfl⟩
    dsimp only at hi hM
    dsimp only
    refine awp_seq (aSR (aM rfl (aM rfl (aU rfl (q_lenS Tryz.underlying41 rfl) (aU rfl (q_lss rfl rfl) (aNn ?_))))))
    refine awp_cond _ rfl (fun h4 => ?_) (fun h4 => ?_)
    ·skip
     have hi' : i < xs.length := by simp at h4; omega
     have hm01 := hM.lo
     obtain ⟨y, hy⟩ : ∃ y, xs[i]? = some y := ⟨_, List.getElem?_eq_getElem hi'⟩
     have hprev : 0 < i → kLt (elt xs ((i : Int) - 1)).key y.key := fun h0 => asc_prev hasc hy h0
     have hpr : 0 < i → xs[i - 1]? = some (elt xs ((i : Int) - 1)) := fun h0 => elt_prev h0 (by omega)
     obtain ⟨d, hd, hyd⟩ := (hxm y).1 (List.mem_of_getElem? hy)
     obtain ⟨hdL, hdC, hdV⟩ := expL_mem.1 hd
     have hdo := own_is hB.rb hdL hdC
     obtain ⟨a, b, ha, hab, hp, hth⟩ := there_of hdL
     obtain ⟨dp, sd⟩ := d
     dsimp only at hab hp hth hdo hdV
     subst hp
     obtain ⟨yn, yv, ymn, yk, yo, ys, yc⟩ := y
     simp only [offD, GOffered.mk.injEq] at hyd
     obtain ⟨hyn, hyv, hymn, hyk, hyo, hys, hyc⟩ := hyd
     subst hyo hys hyn
     dsimp only at hth
     have hsa := elt_nat (l := Cs.l) (i := a) (by have := hB.fits.1; omega)
     have hxa := hB.get a b sd _ hab hsa
     rw [hdo] at hxa
     dsimp only [defC] at hxa
     refine awp_skip (thn_n (awp_seq (awp_block (aSR (aM rfl (aM rfl ?_))))))
     refine aL_E true rfl rfl (fun _ => q_indexAddrG Tryz.underlying41 tk46 rfl ((.of (psAt 0 rfl))) rfl (rows_get hy) rfl rfl) (fun h => absurd h (by decide)) (fun ⟨b16_2, o16_2⟩ => ?_)
     refine aU rfl (q_loadD (o := 0) tk46 rfl (psAt 0 rfl) rfl rfl) ?_
     refine aL_eff (q := true) rfl (x_alloc (zs := [.string .empty, .string .empty, .bool false, .int .i64 0, .int .i64 0, .int .i64 0, .bool false]) (by kernel_rfl) rfl (fun b16_4 => ?_))
     refine aL_hp (by (try simp only [nM, nN]); rfl) ?_
     refine aL_eff rfl (x_store 0 tk46 rfl rfl rfl rfl ?_)
     refine aL_hp (by (try simp only [nK, nL]); rfl) ?_
     refine aNs (awp_seq ?_)
     refine awp_drawn [] (by kernel_rfl) ?_
     show aB _ _ _ _ _ 51 #[false, false, false, false, false, false, false, false, false, false, false, false, false, false, false, false, false, false, false, false, false, false, false, false, false, false, false, false, false, false, false, false, false, false, false, false, false, false, false, false, false, false, false, false, false, false, false, false, false, false, false] _
     refine bU 0 rfl (by kernel_rfl) rfl (q_move rfl) ?_
     refine bU 1 rfl (by kernel_rfl) rfl (q_gtr rfl rfl) ?_
     refine bU 2 rfl (by kernel_rfl) rfl (q_move rfl) ?_
     refine bG 3 rfl (by kernel_rfl) rfl rfl (fun hc => q_move rfl) ?_
     refine bG 4 rfl (by kernel_rfl) rfl rfl (fun hc => q_move rfl) ?_
     refine bG 5 rfl (by kernel_rfl) rfl rfl (fun hc => q_subi (ev_yes rfl hc) rfl (by (first | omega | (simp at hc; omega)))) ?_
     refine aB_E 6 rfl (by kernel_rfl) _ rfl rfl (fun hc => q_indexAddrG Tryz.underlying41 tk46 (ev_yes rfl hc) ((.of (psAt 1 rfl))) (ev_yes rfl hc) (rows_elt (i := (i : Int) - 1) (by simp at hc; omega) (by simp at hc; omega)) (by simp at hc; omega) rfl) (fun _ => ⟨(0, 0)⟩) (fun ⟨b17_6, o17_6⟩ => ?_)
     refine bG 7 rfl (by kernel_rfl) rfl rfl (fun hc => q_fieldAddr (off := 0) (by kernel_rfl) (ev_yes rfl hc)) ?_
     refine bG 8 rfl (by kernel_rfl) rfl rfl (fun hc => q_loadD (o := 0) tk9 (ev_yes rfl hc) (psAt 0 rfl) hc rfl) ?_
     refine bG 9 rfl (by kernel_rfl) rfl rfl (fun hc => q_fieldAddr (off := 0) (by kernel_rfl) rfl) ?_
     refine bG 10 rfl (by kernel_rfl) rfl rfl (fun hc => q_load 0 tk9 (ev_yes rfl hc) rfl rfl) ?_
     refine bG 11 rfl (by kernel_rfl) rfl rfl (fun hc => qs_gtrD (ev_yes rfl hc) (ev_yes rfl hc)) ?_
     refine bG 12 rfl (by kernel_rfl) rfl rfl (fun hc => q_move (ev_yes rfl hc)) ?_
     refine bG 13 rfl (by kernel_rfl) rfl rfl (fun hc => q_move rfl) ?_
     refine bG 14 rfl (by kernel_rfl) rfl rfl (fun hc => q_move rfl) ?_
     refine bG 15 rfl (by kernel_rfl) rfl rfl (fun hc => q_subi (ev_yes rfl hc) rfl (by (first | omega | (simp at hc; omega)))) ?_
     refine aB_E 16 rfl (by kernel_rfl) _ rfl rfl (fun hc => q_indexAddrG Tryz.underlying41 tk46 (ev_yes rfl hc) ((.of (psAt 2 rfl))) (ev_yes rfl hc) (rows_elt (i := (i : Int) - 1) (by simp at hc; omega) (by simp at hc; omega)) (by simp at hc; omega) rfl) (fun _ => ⟨(0, 0)⟩) (fun ⟨b17_16, o17_16⟩ => ?_)
     refine bG 17 rfl (by kernel_rfl) rfl rfl (fun hc => q_fieldAddr (off := 0) (by kernel_rfl) (ev_yes rfl hc)) ?_
     refine bG 18 rfl (by kernel_rfl) rfl rfl (fun hc => q_loadD (o := 0) tk9 (ev_yes rfl hc) (psAt 0 rfl) hc rfl) ?_
     refine bG 19 rfl (by kernel_rfl) rfl rfl (fun hc => q_fieldAddr (off := 0) (by kernel_rfl) rfl) ?_
     refine bG 20 rfl (by kernel_rfl) rfl rfl (fun hc => q_load 0 tk9 (ev_yes rfl hc) rfl rfl) ?_
     refine bG 21 rfl (by kernel_rfl) rfl rfl (fun hc => qs_eqlD (ev_yes rfl hc) (ev_yes rfl hc)) ?_
     refine bG 22 rfl (by kernel_rfl) rfl rfl (fun hc => q_move (ev_yes rfl hc)) ?_
     refine bG 23 rfl (by kernel_rfl) rfl rfl (fun hc => q_move rfl) ?_
     refine bG 24 rfl (by kernel_rfl) rfl rfl (fun hc => q_move rfl) ?_
     refine bG 25 rfl (by kernel_rfl) rfl rfl (fun hc => q_subi (ev_yes rfl hc) rfl (by (first | omega | (simp at hc; omega)))) ?_
     refine aB_E 26 rfl (by kernel_rfl) _ rfl rfl (fun hc => q_indexAddrG Tryz.underlying41 tk46 (ev_yes rfl hc) ((.of (psAt 3 rfl))) (ev_yes rfl hc) (rows_elt (i := (i : Int) - 1) (by simp at hc; omega) (by simp at hc; omega)) (by simp at hc; omega) rfl) (fun _ => ⟨(0, 0)⟩) (fun ⟨b17_26, o17_26⟩ => ?_)
     refine bG 27 rfl (by kernel_rfl) rfl rfl (fun hc => q_fieldAddr (off := 1) (by kernel_rfl) (ev_yes rfl hc)) ?_
     refine bG 28 rfl (by kernel_rfl) rfl rfl (fun hc => q_loadD (o := 1) tk9 (ev_yes rfl hc) (psAt 0 rfl) hc rfl) ?_
     refine bG 29 rfl (by kernel_rfl) rfl rfl (fun hc => q_fieldAddr (off := 1) (by kernel_rfl) rfl) ?_
     refine bG 30 rfl (by kernel_rfl) rfl rfl (fun hc => q_load 0 tk9 (ev_yes rfl hc) rfl rfl) ?_
     refine bG 31 rfl (by kernel_rfl) rfl rfl (fun hc => qs_geqD (ev_yes rfl hc) (ev_yes rfl hc)) ?_
     refine bG 32 rfl (by kernel_rfl) rfl rfl (fun hc => q_and (ev_yes rfl hc) rfl (fun h => gt hc h)) ?_
     refine bG 33 rfl (by kernel_rfl) rfl rfl (fun hc => q_or (ev_yes rfl hc) rfl (fun h => gf hc h)) ?_
     refine bU 34 rfl (by kernel_rfl) rfl (q_and rfl rfl (fun h => gt rfl h)) ?_
     refine bU 35 rfl (by kernel_rfl) rfl (q_move rfl) ?_
     refine bG 36 rfl (by kernel_rfl) rfl rfl (fun hc => q_move rfl) ?_
     refine bG 37 rfl (by kernel_rfl) rfl rfl (fun hc => q_fieldAddr (off := 4) (by kernel_rfl) rfl) ?_
     refine bG 38 rfl (by kernel_rfl) rfl rfl (fun hc => q_load 0 tk3 (ev_yes rfl hc) rfl rfl) ?_
     refine bG 39 rfl (by kernel_rfl) rfl rfl (fun hc => q_fieldAddr (off := 5) (by kernel_rfl) rfl) ?_
     refine bG 40 rfl (by kernel_rfl) rfl rfl (fun hc => q_load 0 tk3 (ev_yes rfl hc) rfl rfl) ?_
     refine bG 41 rfl (by kernel_rfl) rfl rfl (fun hc => q_call (by kernel_rfl) (evs_cons (ev_yes rfl hc) (evs_cons (ev_yes rfl hc) (evs_cons (ev_yes rfl hc) rfl))) (fun w S fp hst => (con_there13 x _ _).quiet1 (psAt 7 rfl) hst)) ?_
     refine bG 42 rfl (by kernel_rfl) rfl rfl (fun hc => q_not (ev_yes rfl hc)) ?_
     refine bU 43 rfl (by kernel_rfl) rfl (q_or rfl rfl (fun h => gf rfl h)) ?_
     refine bU 44 rfl (by kernel_rfl) rfl (q_move rfl) ?_
     refine bG 45 rfl (by kernel_rfl) rfl rfl (fun hc => q_move rfl) ?_
     refine bG 46 rfl (by kernel_rfl) rfl rfl (fun hc => q_fieldAddr (off := 0) (by kernel_rfl) rfl) ?_
     refine bG 47 rfl (by kernel_rfl) rfl rfl (fun hc => q_load 0 tk9 (ev_yes rfl hc) rfl rfl) ?_
     refine bG 48 rfl (by kernel_rfl) rfl rfl (fun hc => q_call (by kernel_rfl) (evs_cons (ev_yes rfl hc) (evs_cons (ev_yes rfl hc) rfl)) (fun w S fp hst => (con_vis13 x _).quiet1 (psAt 7 rfl) hst)) ?_
     refine bG 49 rfl (by kernel_rfl) rfl rfl (fun hc => q_eql (ev_yes rfl hc) rfl) ?_
     refine bU 50 rfl (by kernel_rfl) rfl (q_or rfl rfl (fun h => gf rfl h)) ?_
     refine aB_nil (by kernel_rfl) ?_
     refine thn_n ?_
     refine awp_cond _ rfl (fun h5 => ?_) (fun h5 => ?_)
     ·skip
      exfalso
      rw [hth] at h5
      refine exp_bad5 hprev hdV ?_
      simpa using h5
     ·skip
      refine awp_skip (thn_n (awp_seq ?_))
      refine awp_drawn [10] (by kernel_rfl) ?_
      show aB _ _ _ _ _ 11 #[false, false, false, false, false, false, false, false, false, false, false] _
      refine bU 0 rfl (by kernel_rfl) rfl (q_move rfl) ?_
      refine bU 1 rfl (by kernel_rfl) rfl (q_fieldAddr (off := 4) (by kernel_rfl) rfl) ?_
      refine bU 2 rfl (by kernel_rfl) rfl (q_load 0 tk3 rfl rfl rfl) ?_
      refine aB_E 3 rfl (by kernel_rfl) true rfl rfl (fun _ => q_indexAddrG Tryz.underlying31 tk66 rfl ((.of (psAt 6 rfl))) rfl (rows_get hsa) rfl rfl) (fun h => absurd h (by decide)) (fun ⟨b19_3, o19_3⟩ => ?_)
      refine bU 4 rfl (by kernel_rfl) rfl (q_loadD (o := 0) tk66 rfl (psAt 0 rfl) rfl rfl) ?_
      refine bU 5 rfl (by kernel_rfl) rfl (q_fieldAddr (off := 5) (by kernel_rfl) rfl) ?_
      refine bU 6 rfl (by kernel_rfl) rfl (q_load 0 tk3 rfl rfl rfl) ?_
      refine aB_E 7 rfl (by kernel_rfl) true rfl rfl (fun _ => q_indexAddrG Tryz.underlying66 tk65 rfl ((Ent.all (f := ShF GChoice.row) (.of (psAt 6 rfl)) hsa)) rfl (rows_get hxa) rfl rfl) (fun h => absurd h (by decide)) (fun ⟨b19_7, o19_7⟩ => ?_)
      refine bU 8 rfl (by kernel_rfl) rfl (q_loadD (o := 0) tk65 rfl (psAt 0 rfl) rfl rfl) ?_
      refine aB_eff (q := true) 9 rfl (by kernel_rfl) rfl rfl (x_alloc (zs := [.int .i64 0, .int .i64 0, .int .i64 0, .int .i64 0, .int .i64 0, .bool false]) (by kernel_rfl) rfl (fun b19_9 => ?_))
      refine aB_st rfl (by (try simp only [nM, nN]); rfl) (by (try simp only [putB, place, Nat.reduceBEq, if_true, if_false, reduceIte, Nat.reduceAdd, nW]); rfl) ?_
      refine aB_eff 10 rfl (by kernel_rfl) rfl rfl (x_store 1 tk65 rfl rfl rfl rfl ?_)
      refine aB_st rfl (by (try simp only [nM, nN]); rfl) (by (try simp only [putB, place, Nat.reduceBEq, if_true, if_false, reduceIte, Nat.reduceAdd, nW]); rfl) ?_
      refine aB_nil (by kernel_rfl) ?_
      refine thn_n (awp_seq (aSR ?_))
      refine aU rfl (q_fieldAddr (off := 1) (by kernel_rfl) rfl) ?_
      refine aU rfl (q_load 1 tk3 rfl rfl rfl) ?_
      refine aU rfl (q_fieldAddr (off := 4) (by kernel_rfl) rfl) ?_
      refine aU rfl (q_load 0 tk3 rfl rfl rfl) (aU rfl (q_neq rfl rfl) (aM rfl ?_))
      refine aG rfl rfl (fun hc => q_fieldAddr (off := 2) (by kernel_rfl) rfl) ?_
      refine aG rfl rfl (fun hc => q_load 1 tk3 (ev_yes rfl hc) rfl rfl) ?_
      refine aG rfl rfl (fun hc => q_fieldAddr (off := 5) (by kernel_rfl) rfl) ?_
      refine aG rfl rfl (fun hc => q_load 0 tk3 (ev_yes rfl hc) rfl rfl) (aG rfl rfl (fun hc => q_neq (ev_yes rfl hc) (ev_yes rfl hc)) (aU rfl (q_or rfl rfl (fun h => gf rfl h)) (aM rfl ?_)))
      refine aG rfl rfl (fun hc => q_fieldAddr (off := 0) (by kernel_rfl) rfl) ?_
      refine aG rfl rfl (fun hc => q_load 1 tk3 (ev_yes rfl hc) rfl rfl) (aG rfl rfl (fun hc => q_eql (ev_yes rfl hc) rfl) ?_)
      refine aG rfl rfl (fun hc => q_fieldAddr (off := 6) (by kernel_rfl) rfl) ?_
      refine aG rfl rfl (fun hc => q_load 0 tk4 (ev_yes rfl hc) rfl rfl) ?_
      refine aG rfl rfl (fun hc => qb_neq (by kernel_rfl) (ev_yes rfl hc) (ev_yes rfl hc)) ?_
      refine aU rfl (q_or rfl rfl (fun h => gf rfl h)) (aM rfl ?_)
      refine aG rfl rfl (fun hc => q_fieldAddr (off := 6) (by kernel_rfl) rfl) ?_
      refine aG rfl rfl (fun hc => q_load 0 tk4 (ev_yes rfl hc) rfl rfl) (aG rfl rfl (fun hc => q_not (ev_yes rfl hc)) (aG rfl rfl (fun hc => q_move (ev_yes rfl hc)) ?_))
      refine aG rfl rfl (fun hc => q_fieldAddr (off := 0) (by kernel_rfl) rfl) ?_
      refine aG rfl rfl (fun hc => q_load 1 tk3 (ev_yes rfl hc) rfl rfl) (aG rfl rfl (fun hc => q_neq (ev_yes rfl hc) rfl) (aG rfl rfl (fun hc => q_and (ev_yes rfl hc) rfl (fun h => gt hc h)) (aU rfl (q_or rfl rfl (fun h => gf rfl h)) (aNn ?_))))
      refine awp_cond _ rfl (fun h6 => ?_) (fun h6 => ?_)
      ·skip
       exfalso
       subst hyc
       by_cases hb3 : sd.bind = 3 <;> simp [hb3] at h6
      ·skip
       refine awp_skip (thn_n (awp_seq (awp_seq ?_)))
       refine awp_drawn [] (by kernel_rfl) ?_
       show aB _ _ _ _ _ 13 #[false, false, false, false, false, false, false, false, false, false, false, false, false] _
       refine bU 0 rfl (by kernel_rfl) rfl (q_move rfl) ?_
       refine bU 1 rfl (by kernel_rfl) rfl (q_eql rfl rfl) ?_
       refine bU 2 rfl (by kernel_rfl) rfl (q_move rfl) ?_
       refine bG 3 rfl (by kernel_rfl) rfl rfl (fun hc => q_move rfl) ?_
       refine bG 4 rfl (by kernel_rfl) rfl rfl (fun hc => q_move rfl) ?_
       refine bG 5 rfl (by kernel_rfl) rfl rfl (fun hc => q_subi (ev_yes rfl hc) rfl (by (first | omega | (simp at hc; omega)))) ?_
       refine aB_E 6 rfl (by kernel_rfl) _ rfl rfl (fun hc => q_indexAddrG Tryz.underlying41 tk46 (ev_yes rfl hc) ((.of (psAt 6 rfl))) (ev_yes rfl hc) (rows_elt (i := (i : Int) - 1) (by simp at hc; omega) (by simp at hc; omega)) (by simp at hc; omega) rfl) (fun _ => ⟨(0, 0)⟩) (fun ⟨b22_6, o22_6⟩ => ?_)
       refine bG 7 rfl (by kernel_rfl) rfl rfl (fun hc => q_fieldAddr (off := 0) (by kernel_rfl) (ev_yes rfl hc)) ?_
       refine bG 8 rfl (by kernel_rfl) rfl rfl (fun hc => q_loadD (o := 0) tk9 (ev_yes rfl hc) (psAt 0 rfl) hc rfl) ?_
       refine bG 9 rfl (by kernel_rfl) rfl rfl (fun hc => q_fieldAddr (off := 0) (by kernel_rfl) rfl) ?_
       refine bG 10 rfl (by kernel_rfl) rfl rfl (fun hc => q_load 0 tk9 (ev_yes rfl hc) rfl rfl) ?_
       refine bG 11 rfl (by kernel_rfl) rfl rfl (fun hc => qs_neqD (ev_yes rfl hc) (ev_yes rfl hc)) ?_
       refine bU 12 rfl (by kernel_rfl) rfl (q_or rfl rfl (fun h => gf rfl h)) ?_
       refine aB_nil (by kernel_rfl) ?_
       refine thn_n ?_
       refine awp_cond _ rfl (fun h7 => ?_) (fun h7 => ?_)
       ·skip
        refine awp_region (aA rfl (aNs (aSR ?_)))
        refine aU rfl (q_fieldAddr (off := 2) (by kernel_rfl) rfl) ?_
        refine aU rfl (q_load 0 tk4 rfl rfl rfl) (aNn ?_)
        refine awp_cond _ rfl (fun h8 => ?_) (fun h8 => ?_)
        ·skip
         refine awp_region (aM rfl ?_)
         refine aU rfl (q_addi rfl rfl (by omega)) ?_
         refine aA rfl (aNn (aSR (aM rfl (aU rfl (q_gtr rfl rfl) (aNn ?_)))))
         refine awp_cond _ rfl (fun h9 => ?_) (fun h9 => ?_)
         ·skip
          exfalso; simp at h9
         ·skip
          refine awp_skip (blk_n (thn_n (awp_region (aM rfl ?_))))
          refine aU rfl (q_addi rfl rfl (by omega)) ?_
          refine aA rfl (aNn ?_)
          refine ⟨[0, 9, 13, 16, 17, 18], [3, 2, 1, 0], [], rfl, ?_⟩
          exact ⟨(i + 1, 1), ⟨⟨by omega, by simpa using MnK.reset hy true (by simpa using h8)⟩, rfl⟩, by dsimp only; omega⟩
        ·skip
         refine awp_skip (thn_n (aSR (aM rfl (aU rfl (q_gtr rfl rfl) (aNn ?_)))))
         refine awp_cond _ rfl (fun h10 => ?_) (fun h10 => ?_)
         ·skip
          exfalso; simp at h10
         ·skip
          refine awp_skip (blk_n (thn_n (awp_region (aM rfl ?_))))
          refine aU rfl (q_addi rfl rfl (by omega)) ?_
          refine aA rfl (aNn ?_)
          refine ⟨[0, 9, 13, 16, 17, 18], [3, 2, 1, 0], [], rfl, ?_⟩
          exact ⟨(i + 1, 0), ⟨⟨by omega, by simpa using MnK.reset hy false (by simpa using h8)⟩, rfl⟩, by dsimp only; omega⟩
       ·skip
        have hi0 : 0 < i ∧ (elt xs ((i : Int) - 1)).name = sd.name := by simp at h7; exact ⟨by omega, h7.2⟩
        have hgo := hM.go (p := i - 1) (by omega) (hpr hi0.1) hy hi0.2 (fun i j x y g1 g2 g3 g4 g5 => hone g1 g2 g3 g4 g5)
        refine awp_skip (thn_n (awp_seq (aSR ?_)))
        refine aU rfl (q_fieldAddr (off := 2) (by kernel_rfl) rfl) ?_
        refine aU rfl (q_load 0 tk4 rfl rfl rfl) (aNn ?_)
        refine awp_cond _ rfl (fun h11 => ?_) (fun h11 => ?_)
        ·skip
         refine awp_region (aM rfl ?_)
         refine aU rfl (q_addi rfl rfl (by omega)) ?_
         refine aA rfl (aNn (aSR (aM rfl (aU rfl (q_gtr rfl rfl) (aNn ?_)))))
         refine awp_cond _ rfl (fun h12 => ?_) (fun h12 => ?_)
         ·skip
          exfalso
          have := (hgo.2 (by simpa using h11)).1
          simp [this] at h12
         ·skip
          refine awp_skip (blk_n (thn_n (awp_region (aM rfl ?_))))
          refine aU rfl (q_addi rfl rfl (by omega)) ?_
          refine aA rfl (aNn ?_)
          refine ⟨[0, 9, 13, 16, 17, 18], [3, 2, 1, 0], [], rfl, ?_⟩
          exact ⟨(i + 1, m + 1), ⟨⟨by omega, (hgo.2 (by simpa using h11)).2⟩, rfl⟩, by dsimp only; omega⟩
        ·skip
         refine awp_skip (thn_n (aSR (aM rfl (aU rfl (q_gtr rfl rfl) (aNn ?_)))))
         refine awp_cond _ rfl (fun h13 => ?_) (fun h13 => ?_)
         ·skip
          exfalso
          simp at h13; omega
         ·skip
          refine awp_skip (blk_n (thn_n (awp_region (aM rfl ?_))))
          refine aU rfl (q_addi rfl rfl (by omega)) ?_
          refine aA rfl (aNn ?_)
          refine ⟨[0, 9, 13, 16, 17, 18], [3, 2, 1, 0], [], rfl, ?_⟩
          exact ⟨(i + 1, m), ⟨⟨by omega, hgo.1 (by simpa using h11)⟩, rfl⟩, by dsimp only; omega⟩
    ·skip
     refine awp_exit (thn_e (thn_e (blk_hit (thn_n (awp_seq (aSR ?_))))))
     refine aA rfl (aNn (awp_block (awp_loopK [0, 9, 13, 16, 21] [3, 2, 1, 0] [] (fun (i : Nat) st => i ≤ x.os.l.length ∧ st = ⟨[(0, true, x.os.val), (9, true, .bool true), (13, true, Cs.val), (16, true, .slice ad xs.length cp), (21, true, .int .i64 i)], [Sh (.slice ad xs.length cp) (.sl (xs.map GOffered.row)), AllF (ShF GChoice.row) Cs.l, ShF slR Cs, x.ok], []⟩) (fun i => x.os.l.length - i) rfl (⟨0, Nat.zero_le _, rfl⟩) ?_)))
     clear hi hM h4
     rintro i st ⟨hi, rfl⟩
     refine awp_seq (aSR (aM rfl (aM rfl (aU rfl (q_lenS Tryz.underlying22 rfl) (aU rfl (q_lss rfl rfl) (aNn ?_))))))
     refine awp_cond _ rfl (fun h14 => ?_) (fun h14 => ?_)
     ·skip
      have hi' : i < x.os.l.length := by simp at h14; omega
      have ho := elt_nat hi'
      have hs := elt_nat (l := Cs.l) (i := i) (by have := hB.fits.1; omega)
      have hget := fun k s hk => hB.get i k s (elt Cs.l (i : Int)) hk hs
      generalize elt x.os.l (i : Int) = o at ho hget
      generalize elt Cs.l (i : Int) = r at hs hget
      have ho12 := (hF.o o (List.mem_of_getElem? ho)).syms
      refine awp_skip (thn_n (awp_seq (awp_block (aSR (aA rfl (aL_nil ?_))))))
      refine thn_n (awp_block (awp_loopK [0, 9, 13, 16, 21, 22] [3, 2, 1, 0] [] (fun (k : Nat) st => k ≤ o.syms.l.length ∧ st = ⟨[(0, true, x.os.val), (9, true, .bool true), (13, true, Cs.val), (16, true, .slice ad xs.length cp), (21, true, .int .i64 i), (22, true, .int .i64 k)], [Sh (.slice ad xs.length cp) (.sl (xs.map GOffered.row)), AllF (ShF GChoice.row) Cs.l, ShF slR Cs, x.ok], []⟩) (fun k => o.syms.l.length - k) rfl (⟨0, Nat.zero_le _, rfl⟩) ?_))
      rintro k st ⟨hk, rfl⟩
      refine awp_seq (aSR (aM rfl (aM rfl (aM rfl ?_))))
      refine aL_E true rfl rfl (fun _ => q_indexAddrG Tryz.underlying22 tk61 rfl ((G13.f_os (.of (psAt 3 rfl)))) rfl (rows_get ho) rfl rfl) (fun h => absurd h (by decide)) (fun ⟨b32_3, o32_3⟩ => ?_)
      refine aU rfl (q_fieldAddr (off := 2) (by kernel_rfl) rfl) ?_
      refine aU rfl (q_loadD (o := 2) tk51 rfl (psAt 0 rfl) rfl rfl) (aU rfl (q_lenS Tryz.underlying51 rfl) (aU rfl (q_lss rfl rfl) (aNn ?_)))
      refine awp_cond _ rfl (fun h15 => ?_) (fun h15 => ?_)
      ·skip
       have hk' : k < o.syms.l.length := by simp at h15; omega
       obtain ⟨s, hsk⟩ : ∃ s, o.syms.l[k]? = some s := ⟨_, List.getElem?_eq_getElem hk'⟩
       have hx := hget k s hsk
       generalize hxx : chD K.l (flatF x.os.l) (srvB x.vs.l) (libR x.ifs.l) x.lib ⟨⟨(i : Int), (k : Int)⟩, s⟩ = y at hx
       obtain ⟨yk, yo, ym, yl, yw, yp⟩ := y
       refine awp_skip (thn_n (awp_seq (awp_block (aSR (aM rfl (aM rfl ?_))))))
       refine aL_E true rfl rfl (fun _ => q_indexAddrG Tryz.underlying31 tk66 rfl ((.of (psAt 3 rfl))) rfl (rows_get hs) rfl rfl) (fun h => absurd h (by decide)) (fun ⟨b34_2, o34_2⟩ => ?_)
       refine aU rfl (q_loadD (o := 0) tk66 rfl (psAt 0 rfl) rfl rfl) (aM rfl ?_)
       refine aL_E true rfl rfl (fun _ => q_indexAddrG Tryz.underlying66 tk65 rfl ((Ent.all (f := ShF GChoice.row) (.of (psAt 3 rfl)) hs)) rfl (rows_get hx) rfl rfl) (fun h => absurd h (by decide)) (fun ⟨b34_5, o34_5⟩ => ?_)
       refine aU rfl (q_loadD (o := 0) tk65 rfl (psAt 0 rfl) rfl rfl) ?_
       refine aL_eff (q := true) rfl (x_alloc (zs := [.int .i64 0, .int .i64 0, .int .i64 0, .int .i64 0, .int .i64 0, .bool false]) (by kernel_rfl) rfl (fun b34_7 => ?_))
       refine aL_hp (by (try simp only [nM, nN]); rfl) ?_
       refine aL_eff rfl (x_store 0 tk65 rfl rfl rfl rfl ?_)
       refine aL_hp (by (try simp only [nK, nL]); rfl) ?_
       refine aNs (aSR ?_)
       refine aU rfl (q_fieldAddr (off := 0) (by kernel_rfl) rfl) ?_
       refine aU rfl (q_load 0 tk3 rfl rfl rfl) (aU rfl (q_neq rfl rfl) (aM rfl ?_))
       refine aG rfl rfl (fun hc => q_fieldAddr (off := 0) (by kernel_rfl) rfl) ?_
       refine aG rfl rfl (fun hc => q_load 0 tk3 (ev_yes rfl hc) rfl rfl) (aG rfl rfl (fun hc => q_neq (ev_yes rfl hc) rfl) (aU rfl (q_and rfl rfl (fun h => gt rfl h)) (aNn ?_)))
       refine awp_cond _ rfl (fun h16 => ?_) (fun h16 => ?_)
       ·skip
        refine awp_exit (thn_e (blk_hit (thn_n (awp_region (aM rfl ?_)))))
        refine aU rfl (q_addi rfl rfl (by omega)) ?_
        refine aA rfl (aNn ?_)
        refine ⟨[0, 9, 13, 16, 21, 22], [3, 2, 1, 0], [], rfl, ?_⟩
        exact ⟨k + 1, ⟨by omega, rfl⟩, by omega⟩
       ·skip
        have hk23 : yk = 2 ∨ yk = 3 := by simp at h16; omega
        obtain ⟨hb0, e, he, hye, hn, hch, -⟩ := hB.rb.agree (d := ⟨⟨(i : Int), (k : Int)⟩, s⟩) (by rw [hxx]; exact hk23)
        rw [hxx] at hye
        have hyo : yo = e.p.obj := congrArg GChoice.obj hye
        have hym : ym = e.p.sym := congrArg GChoice.sym hye
        dsimp only at hn
        refine awp_skip (thn_n (aSR (aM rfl (aM rfl (aM rfl ?_)))))
        refine aL_E true rfl rfl (fun _ => q_indexAddrG Tryz.underlying22 tk61 rfl ((G13.f_os (.of (psAt 6 rfl)))) rfl (rows_get ho) rfl rfl) (fun h => absurd h (by decide)) (fun ⟨b36_3, o36_3⟩ => ?_)
        refine aU rfl (q_fieldAddr (off := 2) (by kernel_rfl) rfl) ?_
        refine aU rfl (q_loadD (o := 2) tk51 rfl (psAt 0 rfl) rfl rfl) (aM rfl ?_)
        refine aL_E true rfl rfl (fun _ => q_indexAddrG Tryz.underlying51 tk63 rfl ((GObject.f_syms (Ent.all (G13.f_osA (.of (psAt 7 rfl))) ho))) rfl (rows_get hsk) rfl rfl) (fun h => absurd h (by decide)) (fun ⟨b36_7, o36_7⟩ => ?_)
        refine aU rfl (q_fieldAddr (off := 0) (by kernel_rfl) rfl) ?_
        refine aU rfl (q_loadD (o := 0) tk9 rfl (psAt 0 rfl) rfl rfl) ?_
        refine aU rfl (q_call (by kernel_rfl) rfl (fun w S fp hst => (con_vis13 x _).quiet1 (psAt 8 rfl) hst)) ?_
        refine aU rfl (q_eql rfl rfl) (aA rfl (aNs (aSR (aA rfl (aNn (awp_block ?_))))))
        refine awp_loopK [0, 9, 13, 16, 21, 22, 23, 24, 25] [3, 2, 1, 0] [0] (fun (z : Nat × Bool) st => (z.1 ≤ xs.length ∧ z.2 = (decide (visR (flatF x.os.l) s.name = 2) || (xs.take z.1).any fun o => decide (o.obj = yo) && decide (o.sym = ym))) ∧ st = ⟨[(0, true, x.os.val), (9, true, .bool true), (13, true, Cs.val), (16, true, .slice ad xs.length cp), (21, true, .int .i64 i), (22, true, .int .i64 k), (23, true, .pointer (some ⟨b34_7, 0, none⟩)), (24, true, .bool z.2), (25, true, .int .i64 z.1)], [Sh (.slice ad xs.length cp) (.sl (xs.map GOffered.row)), AllF (ShF GChoice.row) Cs.l, ShF slR Cs, x.ok], [Box b34_7 65 (GChoice.vs ⟨yk, yo, ym, yl, yw, yp⟩)]⟩) (fun z => xs.length - z.1) rfl (⟨(0, decide (visR (flatF x.os.l) s.name = 2)), ⟨Nat.zero_le _, by simp⟩, rfl⟩) ?_
        rintro ⟨n, f⟩ st ⟨⟨hn0, hf⟩, rfl⟩
        dsimp only at hn0 hf
        dsimp only
        refine awp_seq (aSR (aM rfl (aM rfl (aU rfl (q_lenS Tryz.underlying41 rfl) (aU rfl (q_lss rfl rfl) (aNn ?_))))))
        refine awp_cond _ rfl (fun h17 => ?_) (fun h17 => ?_)
        ·skip
         have hn' : n < xs.length := by simp at h17; omega
         obtain ⟨w, hw⟩ : ∃ w, xs[n]? = some w := ⟨_, List.getElem?_eq_getElem hn'⟩
         refine awp_skip (thn_n (awp_seq (awp_block ?_)))
         refine awp_drawn [] (by kernel_rfl) ?_
         show aB _ _ _ _ _ 22 #[false, false, false, false, false, false, false, false, false, false, false, false, false, false, false, false, false, false, false, false, false, false] _
         refine bU 0 rfl (by kernel_rfl) rfl (q_move rfl) ?_
         refine bU 1 rfl (by kernel_rfl) rfl (q_move rfl) ?_
         refine bG 2 rfl (by kernel_rfl) rfl rfl (fun hc => q_move rfl) ?_
         refine bG 3 rfl (by kernel_rfl) rfl rfl (fun hc => q_move rfl) ?_
         refine aB_E 4 rfl (by kernel_rfl) _ rfl rfl (fun hc => q_indexAddrG Tryz.underlying41 tk46 (ev_yes rfl hc) ((.of (psAt 0 rfl))) (ev_yes rfl hc) (rows_get hw) rfl rfl) (fun _ => ⟨(0, 0)⟩) (fun ⟨b40_4, o40_4⟩ => ?_)
         refine bG 5 rfl (by kernel_rfl) rfl rfl (fun hc => q_fieldAddr (off := 4) (by kernel_rfl) (ev_yes rfl hc)) ?_
         refine bG 6 rfl (by kernel_rfl) rfl rfl (fun hc => q_loadD (o := 4) tk3 (ev_yes rfl hc) (psAt 0 rfl) hc rfl) ?_
         refine bG 7 rfl (by kernel_rfl) rfl rfl (fun hc => q_fieldAddr (off := 1) (by kernel_rfl) rfl) ?_
         refine bG 8 rfl (by kernel_rfl) rfl rfl (fun hc => q_load 0 tk3 (ev_yes rfl hc) rfl rfl) ?_
         refine bG 9 rfl (by kernel_rfl) rfl rfl (fun hc => q_eql (ev_yes rfl hc) (ev_yes rfl hc)) ?_
         refine bG 10 rfl (by kernel_rfl) rfl rfl (fun hc => q_move (ev_yes rfl hc)) ?_
         refine bG 11 rfl (by kernel_rfl) rfl rfl (fun hc => q_move rfl) ?_
         refine bG 12 rfl (by kernel_rfl) rfl rfl (fun hc => q_move rfl) ?_
         refine aB_E 13 rfl (by kernel_rfl) _ rfl rfl (fun hc => q_indexAddrG Tryz.underlying41 tk46 (ev_yes rfl hc) ((.of (psAt 1 rfl))) (ev_yes rfl hc) (rows_get hw) rfl rfl) (fun _ => ⟨(0, 0)⟩) (fun ⟨b40_13, o40_13⟩ => ?_)
         refine bG 14 rfl (by kernel_rfl) rfl rfl (fun hc => q_fieldAddr (off := 5) (by kernel_rfl) (ev_yes rfl hc)) ?_
         refine bG 15 rfl (by kernel_rfl) rfl rfl (fun hc => q_loadD (o := 5) tk3 (ev_yes rfl hc) (psAt 0 rfl) hc rfl) ?_
         refine bG 16 rfl (by kernel_rfl) rfl rfl (fun hc => q_fieldAddr (off := 2) (by kernel_rfl) rfl) ?_
         refine bG 17 rfl (by kernel_rfl) rfl rfl (fun hc => q_load 0 tk3 (ev_yes rfl hc) rfl rfl) ?_
         refine bG 18 rfl (by kernel_rfl) rfl rfl (fun hc => q_eql (ev_yes rfl hc) (ev_yes rfl hc)) ?_
         refine bG 19 rfl (by kernel_rfl) rfl rfl (fun hc => q_and (ev_yes rfl hc) rfl (fun h => gt hc h)) ?_
         refine bU 20 rfl (by kernel_rfl) rfl (q_or rfl rfl (fun h => gf rfl h)) ?_
         refine bU 21 rfl (by kernel_rfl) rfl (q_assign rfl) ?_
         refine aB_nil (by kernel_rfl) ?_
         refine blk_n (thn_n (awp_region (aM rfl ?_)))
         refine aU rfl (q_addi rfl rfl (by omega)) ?_
         refine aA rfl (aNn ?_)
         refine ⟨[0, 9, 13, 16, 21, 22, 23, 24, 25], [3, 2, 1, 0], [0], rfl, ?_⟩
         refine ⟨(n + 1, f || (decide (w.obj = yo) && decide (w.sym = ym))), ⟨⟨by omega, ?_⟩, rfl⟩, by dsimp only; omega⟩
         dsimp only
         rw [List.take_add_one, hw, List.any_append, hf]; simp [Bool.or_assoc]
        ·skip
         refine awp_exit (thn_e (thn_e (blk_hit (thn_n (aSR (aM rfl (aU rfl (q_not rfl) (aNn ?_))))))))
         refine awp_cond _ rfl (fun h18 => ?_) (fun h18 => ?_)
         ·skip
          exfalso
          refine exp_bad18 hf ?_ (by simp at h17; omega) hyo hym (hn ▸ fun hv => (hxm _).2 ⟨e, expL_mem.2 ⟨he, hch, hv⟩, rfl⟩)
          simpa using h18
         ·skip
          refine awp_skip (blk_n (thn_n (awp_region (aM rfl ?_))))
          refine aU rfl (q_addi rfl rfl (by omega)) ?_
          refine aA rfl (aNn ?_)
          refine ⟨[0, 9, 13, 16, 21, 22], [3, 2, 1, 0], [], rfl, ?_⟩
          exact ⟨k + 1, ⟨by omega, rfl⟩, by omega⟩
      ·skip
       refine awp_exit (thn_e (thn_e (blk_hit (blk_n (thn_n (awp_region (aM rfl ?_)))))))
       refine aU rfl (q_addi rfl rfl (by omega)) ?_
       refine aA rfl (aNn ?_)
       refine ⟨[0, 9, 13, 16, 21], [3, 2, 1, 0], [], rfl, ?_⟩
       exact ⟨i + 1, ⟨by omega, rfl⟩, by omega⟩
     ·skip
      refine awp_exit (thn_e (thn_e (blk_hit (thn_n (aSR (aM rfl (aA rfl (aNn (awp_ret ?_)))))))))
      refine fin1 [] [] rfl Tryz.results8 rfl ?_ (.inr rfl)
      rfl
end Go.Proofs.YtgmiihmahaahiaaGreatDoor

namespace Go.Proofs.YtgmiihmahaahiaaGreatDoor.resolveExports
open Go.ChangeShapes Go.WideShapes Go.ChangeAt Go.RowKit
open Go.Lp Go.Sy
open Go.ChangeMaps (open_string shut_string)
theorem door_met (os : Os) (args : Array Value) : laidMetH Tryz.prog Rows.resolveExportsRow.laid ((World.doorLaid Tryz.prog 400 os).forCall (fun _ _ => 0) ⟨#[], args, []⟩).memory :=
 laidMetH_of_parts3 (fuel := 8) (laidMet_of_run' 8 (by kernel_rfl) (by kernel_rfl)) (by kernel_rfl) (by kernel_rfl)
set_option maxRecDepth 100000 in
theorem lifted (os : Os) (started : os.Started) (H : Type) (enc : TypeId × Value → H) :
   ReturnsInHanded {} Tryz.checked os 8 .any (fun w args => (Rows.resolveExportsSpec.pre enc Tryz.prog Tryz.f8 [] false w args ∧ laidMetH Tryz.prog Rows.resolveExportsRow.laid w) ∧ sizedMet enc Tryz.prog Tryz.f8 (OpenSpec.ofChange Rows.resolveExportsSpec) false w args)
     (Rows.resolveExportsSpec.post enc Tryz.prog Tryz.f8 false true false false) := by
 refine returnsInHanded_of_change_and (C := Tryz.checked) (X := fun w _ => laidMetH Tryz.prog Rows.resolveExportsRow.laid w) (fun _ _ _ hh h => h.of_heap hh) own started (by kernel_rfl) Tryz.func8
   (ChangeSpec.witness_shaped (enc := enc) (C := Tryz.checked) (os := os) (X := fun w _ => laidMetH Tryz.prog Rows.resolveExportsRow.laid w) false (World.doorLaid Tryz.prog 400 os) #[.slice none 0 0, .bool false, .slice none 0 0, .slice none 0 0] 12 rfl (World.shaped_of_RefB (by kernel_rfl) (by kernel_rfl)) (by kernel_rfl) (by kernel_rfl) (by kernel_rfl) (door_met os _)) ?_
 intro W base args ds gs before hval0 hW _ _ hL _
 have hval : ∀ (j : Nat) t v, Tryz.f8.params[j]? = some t → args[j]? = some v → Value.okWide Tryz.prog W .any base t v := hval0
 have hW' := hW
 obtain ⟨p, q, hA0, hV, rfl, hfz, hnd⟩ := hW
 have hA : DataW.TrodAll enc Tryz.prog W 0 (fun _ => true) true Tryz.f8.params.toList args.toList ds p := hA0
 rw [Tryz.params8] at hA hval
 obtain ⟨v0, vs0, d0, ds0, p0, q0, hargs, rfl, rfl, h0, r0⟩ := trodAll_cons hA
 obtain ⟨v1, vs1, d1, ds1, p1, q1, rfl, rfl, rfl, h1, r1⟩ := trodAll_cons r0
 obtain ⟨v2, vs2, d2, ds2, p2, q2, rfl, rfl, rfl, h2, r2⟩ := trodAll_cons r1
 obtain ⟨v3, vs3, d3, ds3, p3, q3, rfl, rfl, rfl, h3, r3⟩ := trodAll_cons r2
 obtain ⟨rfl, rfl, rfl⟩ := trodAll_nil r3
 obtain rfl : args = #[v0, v1, v2, v3] := by cases args; simp_all
 obtain ⟨rfl, rfl⟩ := trodVars_none hV
 have hlaid := of_laid hL
 obtain ⟨ad0, len0, cap0, rfl⟩ := okWide_slice Tryz.underlying22 (hval 0 22 v0 rfl rfl)
 have k0 := h0
 have lt0 : ∀ x ∈ p0, x.block < W.heap.size := by obtain ⟨m, hm⟩ := k0; exact DataW.trod_lt m _ _ _ hm
 obtain ⟨a1, rfl, rfl, rfl⟩ := open_bool Tryz.underlying4 (hval 1 4 v1 rfl rfl) h1
 obtain ⟨ad2, len2, cap2, rfl⟩ := okWide_slice Tryz.underlying23 (hval 2 23 v2 rfl rfl)
 have k2 := h2
 have lt2 : ∀ x ∈ p2, x.block < W.heap.size := by obtain ⟨m, hm⟩ := k2; exact DataW.trod_lt m _ _ _ hm
 obtain ⟨ad3, len3, cap3, rfl⟩ := okWide_slice Tryz.underlying24 (hval 3 24 v3 rfl rfl)
 have k3 := h3
 have lt3 : ∀ x ∈ p3, x.block < W.heap.size := by obtain ⟨m, hm⟩ := k3; exact DataW.trod_lt m _ _ _ hm
 obtain ⟨x, e0, e1, e2, e3, hok⟩ : ∃ x : G13, Value.slice ad0 len0 cap0 = x.os.val ∧ a1 = x.lib ∧ Value.slice ad2 len2 cap2 = x.ifs.val ∧ Value.slice ad3 len3 cap3 = x.vs.val ∧ x.ok.holds W (fun b => b < W.heap.size) := by
   obtain ⟨f0, g0⟩ := h0
   obtain ⟨f2, g2⟩ := h2
   obtain ⟨f3, g3⟩ := h3
   exact g13_in a1 (by simpa [Value.cells] using g0) (by simpa [Value.cells] using g2) (by simpa [Value.cells] using g3) hlaid
 clear hA0 hval0
 have hc := (con_exports x).quiet1 (List.mem_singleton.2 rfl) (st_in (w := W) (ps := [x.ok]) fun p hp => by rw [List.mem_singleton.1 hp]; exact hok)
 rw [← e0, ← e1, ← e2, ← e3] at hc
 refine hc.mono fun e W' ⟨he, bel⟩ => ?_
 subst he
 exact ⟨_, rfl, _, _, _, [], _, [], hW', trodAll_mk1 (shut_bool Tryz.underlying4 _), (trodAll_cons_mk (Below.trod laidOut (by kernel_rfl) (of_decide_eq_true (by kernel_rfl)) k0 bel.kit lt0) (trodAll_cons_mk (shut_bool Tryz.underlying4 _) (trodAll_cons_mk (Below.trod laidOut (by kernel_rfl) (of_decide_eq_true (by kernel_rfl)) k2 bel.kit lt2) (trodAll_cons_mk (Below.trod laidOut (by kernel_rfl) (of_decide_eq_true (by kernel_rfl)) k3 bel.kit lt3) trodAll_mk0)))), rfl, bel.kit.frame _, fun h => by cases h⟩
theorem named : Tryz.prog.funcNamed "linchpin/linchpinlaw13.ResolveExports" = some 8 := by kernel_rfl
set_option maxHeartbeats 4000000 in
theorem closed : joinedFacts Tryz.prog 8 Tryz.f8 Rows.resolveExportsSpec Rows.resolveExportsRow = true := by
 unfold joinedFacts
 repeat' with_reducible refine Bool.and_eq_true_iff.2 ⟨?_, ?_⟩
 all_goals (as_aux_lemma => kernel_rfl)
theorem over : Rows.ResolveExportsSaid :=
 OpenClaim.holds_of_wide 8 Tryz.f8 rfl rfl rfl rfl rfl rfl rfl ⟨rfl, rfl, rfl, rfl, rfl⟩ rfl rfl rfl rfl rfl named Tryz.func8 closed
   (of_decide_eq_true (by as_aux_lemma => kernel_rfl)) (by unfold Func.isWrapper; first | (rw [if_pos (by decide +kernel)]; kernel_rfl) | (rw [if_neg (by decide +kernel)]; exact ⟨rfl, rfl⟩))
   (fun os started H enc _ => lifted os started H enc)
set_option maxHeartbeats 4000000 in
theorem proved : Rows.ResolveExportsCardSaid :=
 Claim7.holds_tied_plain_at .later [] [.data, .data, .widerDeep] true _ false
   over (fun _ h => by cases h) (by as_aux_lemma => kernel_rfl) (fun _ h => by cases h) resolveExports_row_tie rfl ⟨rfl, rfl⟩ (by as_aux_lemma => kernel_rfl) rfl
   (fun f fn hf hfn => by
     obtain rfl : f = 8 := Option.some.inj (named.symm.trans hf) |>.symm
     obtain rfl : fn = Tryz.f8 := (Option.some.inj (Tryz.func8.symm.trans hfn)).symm
     exact ⟨by as_aux_lemma => kernel_rfl, fun j t ht => by
       rw [Tryz.params8] at ht
       have hm : t ∈ [22, 4, 23, 24] := by simpa using Array.mem_of_getElem? ht
       have hall : ([22, 4, 23, 24].all fun u => !Tryz.prog.wantsStandIn u) = true := by as_aux_lemma => kernel_rfl
       exact (show Tryz.prog.wantsStandIn t = false by simpa using List.all_eq_true.1 hall t (by simpa using hm))⟩)
   (by as_aux_lemma => kernel_rfl)
end Go.Proofs.YtgmiihmahaahiaaGreatDoor.resolveExports

