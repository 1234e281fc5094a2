/- Proved: for all objects, interfaces and versions the law ResolveStrong of the given program answers true and leaves what it was handed as it was; the card, tied to the program's text. Conditions: none but those in the given statement itself. -/
import Derived.Test.YtgmiihmahaahiaaGreatDoorQa16
import Derived.Test.YtgmiihmahaahiaaGreatDoorQa15
import Derived.Test.YtgmiihmahaahiaaGreatDoorQa03
import Derived.Test.YtgmiihmahaahiaaGreatDoorCards
import Derived.Test.YtgmiihmahaahiaaGreatDoorTie
import Derived.SevenTiedAt
set_option linter.unusedSimpArgs false
set_option linter.unusedVariables false
set_option maxHeartbeats 1000000
set_option maxRecDepth 20000
namespace Go.Proofs.YtgmiihmahaahiaaGreatDoor
open Go.RowKit Go.Lp Go.Sy
open Go.Proofs.Tryz
attribute [local irreducible] aL aB awp aC fwp
set_option maxHeartbeats 1000000 in
theorem con_strong (x : G13) : Con Tryz.prog 5 [x.os.val, .bool x.lib, x.ifs.val, x.vs.val] [x.ok] [] fun r _ _ => r = .bool true := by
 refine Con.enter Tryz.func5 rfl (by simp [Tryz.ntmps5]) ?_
 show awp _ _ _ _ ⟨[(0, true, _), (1, true, _), (2, true, _), (3, true, _)], _, _⟩
 refine aSR (aA rfl (aNn (aSR ?_)))
 refine aU rfl (q_call (by kernel_rfl) rfl (fun w S fp hst => con_small13.quiet0 hst)) ?_
 refine aA rfl (aNn (aSR (aM rfl (aM rfl (aM rfl ?_)))))
 refine aL_callN (caps := []) [0] (false) (by kernel_rfl) true rfl rfl (fun _ => rfl) (fun hc => rfl) (fun hc => by rw [List.append_nil]; exact con_few13 x) (fun cf hcf => ?_)
 refine aA rfl (aNs (aSR (aM rfl (aU rfl (q_not rfl) (aNn ?_)))))
 refine awp_cond _ rfl (fun h1 => ?_) (fun h1 => ?_)
 ·skip
  refine aSR (aM rfl (aA rfl (aNn (awp_ret (thn_r ?_)))))
  refine fin1 [] [] rfl Tryz.results5 rfl ?_ (.inr rfl)
  rfl
 ·skip
  have hF := hcf rfl (by simpa using h1)
  refine awp_skip (thn_n (aSR (aM rfl ?_)))
  refine aL_eff (q := true) rfl (e_call [0] [] (by kernel_rfl) rfl rfl rfl rfl (con_keep13 x hF) ?_)
  rintro _ _ _ ⟨rfl, K, dv, rfl, hok, rfl⟩
  refine aL_st (by (try simp only [nM, nN]); rfl) (by (try simp only [putB, place, Nat.reduceBEq, if_true, if_false, reduceIte, Nat.reduceAdd, nW]); rfl) ?_
  refine aM rfl (aU rfl (q_extract rfl rfl) (aU rfl (q_extract rfl rfl) (aA rfl (aA rfl (aNn (aSR (aM rfl (aM rfl (aM rfl (aM rfl (aM rfl ?_)))))))))))
  refine aL_eff (q := true) rfl (e_call [2, 1, 0] [] (by kernel_rfl) rfl rfl rfl rfl (con_bind13 x K hok) ?_)
  rintro _ _ _ ⟨rfl, Cs, rfl, rfl, hS⟩
  refine aL_st (by (try simp only [nM, nN]); rfl) (by (try simp only [putB, place, Nat.reduceBEq, if_true, if_false, reduceIte, Nat.reduceAdd, nW]); rfl) ?_
  refine aM rfl (aU rfl (q_extract rfl rfl) (aU rfl (q_extract rfl rfl) (aU rfl (q_extract rfl rfl) ?_)))
  refine aL_eff (q := true) rfl (x_alloc (zs := [.int .i64 0, .int .i64 0]) (by kernel_rfl) rfl (fun b6_10 => ?_))
  refine aL_hp (by (try simp only [nM, nN]); rfl) ?_
  refine aA rfl (aA rfl ?_)
  refine aL_eff rfl (x_store 0 tk34 rfl rfl rfl rfl ?_)
  refine aL_hp (by (try simp only [nK, nL]); rfl) ?_
  refine aNs (aSR (aM rfl (aU rfl (q_neq rfl rfl) (aNn ?_))))
  refine awp_cond _ rfl (fun h2 => ?_) (fun h2 => ?_)
  ·skip
   refine aSR (aM rfl (aA rfl (aNn (awp_ret (thn_r ?_)))))
   refine fin1 [] [] rfl Tryz.results5 rfl ?_ (.inr rfl)
   rfl
  ·skip
   have hB := bd13_of hS (codeE_0 (by simpa using h2))
   have hn5 := hF.n
   refine awp_skip (thn_n (awp_seq (aSR (aM rfl (aM rfl ?_)))))
   refine aU rfl (q_call (by kernel_rfl) rfl (fun w S fp hst => quiet3 (con_fits13' x Cs hB.fits) (psAt 0 rfl) (psAt 1 rfl) (psAt 4 rfl) hst)) ?_
   refine aU rfl (q_not rfl) (aNn ?_)
   refine awp_cond _ rfl (fun h3 => ?_) (fun h3 => ?_)
   ·skip
    exact absurd h3 (by decide)
   ·skip
    refine awp_skip (thn_n (awp_seq (aSR (aA rfl (aNn ?_)))))
    refine awp_block (awp_loopK [0, 9, 11, 13, 16] [4, 3, 2, 1, 0] [] (fun (i : Nat) st => i ≤ x.os.l.length ∧ st = ⟨[(0, true, x.os.val), (9, true, .bool true), (11, true, K.val), (13, true, Cs.val), (16, true, .int .i64 i)], [AllF (ShF GChoice.row) Cs.l, ShF slR Cs, AllF (ShF bR) K.l, ShF slR K, x.ok], []⟩) (fun i => x.os.l.length - i) rfl (⟨0, Nat.zero_le _, rfl⟩) ?_)
    rintro i st ⟨hi, rfl⟩
    refine awp_seq (aSR (aM rfl (aM rfl (aU rfl (q_lenS Tryz.underlying22 rfl) (aU rfl (q_lss rfl rfl) (aNn ?_))))))
    refine awp_cond _ rfl (fun h4 => ?_) (fun h4 => ?_)
    ·skip
     have hi' : i < x.os.l.length := by simp at h4; omega
     have ho := elt_nat hi'
     have hs := elt_nat (l := Cs.l) (i := i) (by have := hB.fits.1; omega)
     have hKi := elt_nat (l := K.l) (i := i) (by have := hok.kn; omega)
     have hKl := hok.ks i hi'
     have hget := fun k s hk => hB.get i k s (elt Cs.l (i : Int)) hk hs
     have hmem : ∀ (k : Nat) (s : GSymbol), (elt x.os.l (i : Int)).syms.l[k]? = some s → (⟨⟨(i : Int), (k : Int)⟩, s⟩ : Dfn) ∈ flatF x.os.l := fun k s hk => flatTo_mem.2 ⟨i, k, hi', hk, rfl⟩
     have hsec := hok.sec _ (List.mem_of_getElem? ho)
     generalize elt x.os.l (i : Int) = o at ho hget hmem hKl hsec
     generalize elt Cs.l (i : Int) = r at hs hget
     have ho12 := (hF.o o (List.mem_of_getElem? ho)).syms
     refine awp_skip (thn_n (awp_seq (awp_block (aSR (aA rfl (aL_nil ?_))))))
     refine thn_n (awp_block (awp_loopK [0, 9, 11, 13, 16, 17] [4, 3, 2, 1, 0] [] (fun (k : Nat) st => k ≤ o.syms.l.length ∧ st = ⟨[(0, true, x.os.val), (9, true, .bool true), (11, true, K.val), (13, true, Cs.val), (16, true, .int .i64 i), (17, true, .int .i64 k)], [AllF (ShF GChoice.row) Cs.l, ShF slR Cs, AllF (ShF bR) K.l, ShF slR K, x.ok], []⟩) (fun k => o.syms.l.length - k) rfl (⟨0, Nat.zero_le _, rfl⟩) ?_))
     rintro k st ⟨hk, rfl⟩
     refine awp_seq (aSR (aM rfl (aM rfl (aM rfl ?_))))
     refine aL_E true rfl rfl (fun _ => q_indexAddrG Tryz.underlying22 tk61 rfl ((G13.f_os (.of (psAt 4 rfl)))) rfl (rows_get ho) rfl rfl) (fun h => absurd h (by decide)) (fun ⟨b15_3, o15_3⟩ => ?_)
     refine aU rfl (q_fieldAddr (off := 2) (by kernel_rfl) rfl) ?_
     refine aU rfl (q_loadD (o := 2) tk51 rfl (psAt 0 rfl) rfl rfl) (aU rfl (q_lenS Tryz.underlying51 rfl) (aU rfl (q_lss rfl rfl) (aNn ?_)))
     refine awp_cond _ rfl (fun h5 => ?_) (fun h5 => ?_)
     ·skip
      have hk' : k < o.syms.l.length := by simp at h5; omega
      obtain ⟨s, hsk⟩ : ∃ s, o.syms.l[k]? = some s := ⟨_, List.getElem?_eq_getElem hk'⟩
      have hx := hget k s hsk
      have hm := hmem k s hsk
      have hse := hsec s (List.mem_of_getElem? hsk)
      have hstr := fun (h1 : defB K.l ⟨⟨(i : Int), (k : Int)⟩, s⟩ = true) (h2 : s.bind = 1) => hB.rb.strong hm h1 h2
      have hwk := fun (h1 : defB K.l ⟨⟨(i : Int), (k : Int)⟩, s⟩ = true) => hB.rb.weak hm h1
      have hdef : defB K.l ⟨⟨(i : Int), (k : Int)⟩, s⟩ = (decide (s.bind = 3) || (decide (s.bind ≠ 0) && (decide (s.sec ≥ 0) && elt (elt K.l (i : Int)).l s.sec))) := rfl
      generalize hxx : chD K.l (flatF x.os.l) (srvB x.vs.l) (libR x.ifs.l) x.lib ⟨⟨(i : Int), (k : Int)⟩, s⟩ = y at hx hstr hwk
      obtain ⟨yk, yo, ym, yl, yw, yp⟩ := y
      refine awp_skip (thn_n (awp_seq (awp_block (aSR (aM rfl (aM rfl ?_))))))
      refine aL_E true rfl rfl (fun _ => q_indexAddrG Tryz.underlying22 tk61 rfl ((G13.f_os (.of (psAt 5 rfl)))) rfl (rows_get ho) rfl rfl) (fun h => absurd h (by decide)) (fun ⟨b17_2, o17_2⟩ => ?_)
      refine aU rfl (q_fieldAddr (off := 2) (by kernel_rfl) rfl) ?_
      refine aU rfl (q_loadD (o := 2) tk51 rfl (psAt 0 rfl) rfl rfl) (aM rfl ?_)
      refine aL_E true rfl rfl (fun _ => q_indexAddrG Tryz.underlying51 tk63 rfl ((GObject.f_syms (Ent.all (G13.f_osA (.of (psAt 6 rfl))) ho))) rfl (rows_get hsk) rfl rfl) (fun h => absurd h (by decide)) (fun ⟨b17_6, o17_6⟩ => ?_)
      refine aU rfl (q_loadD (o := 0) tk63 rfl (psAt 0 rfl) rfl rfl) ?_
      refine aL_eff (q := true) rfl (x_alloc (zs := [.string .empty, .string .empty, .bool false, .int .i64 0, .int .i64 0, .int .i64 0, .int .i64 0, .int .i64 0, .int .i64 0, .int .i64 0]) (by kernel_rfl) rfl (fun b17_8 => ?_))
      refine aL_hp (by (try simp only [nM, nN]); rfl) ?_
      refine aL_eff rfl (x_store 0 tk63 rfl rfl rfl rfl ?_)
      refine aL_hp (by (try simp only [nK, nL]); rfl) ?_
      refine aNs ?_
      refine awp_drawn [] (by kernel_rfl) ?_
      show aB _ _ _ _ _ 19 #[false, false, false, false, false, false, false, false, false, false, false, false, false, false, false, false, false, false, false] _
      refine bU 0 rfl (by kernel_rfl) rfl (q_fieldAddr (off := 3) (by kernel_rfl) rfl) ?_
      refine bU 1 rfl (by kernel_rfl) rfl (q_load 0 tk3 rfl rfl rfl) ?_
      refine bU 2 rfl (by kernel_rfl) rfl (q_eql rfl rfl) ?_
      refine bU 3 rfl (by kernel_rfl) rfl (q_move rfl) ?_
      refine bG 4 rfl (by kernel_rfl) rfl rfl (fun hc => q_fieldAddr (off := 6) (by kernel_rfl) rfl) ?_
      refine bG 5 rfl (by kernel_rfl) rfl rfl (fun hc => q_load 0 tk3 (ev_yes rfl hc) rfl rfl) ?_
      refine bG 6 rfl (by kernel_rfl) rfl rfl (fun hc => q_geq (ev_yes rfl hc) rfl) ?_
      refine bU 7 rfl (by kernel_rfl) rfl (q_and rfl rfl (fun h => gt rfl h)) ?_
      refine bU 8 rfl (by kernel_rfl) rfl (q_move rfl) ?_
      refine bG 9 rfl (by kernel_rfl) rfl rfl (fun hc => q_move rfl) ?_
      refine bG 10 rfl (by kernel_rfl) rfl rfl (fun hc => q_move rfl) ?_
      refine aB_E 11 rfl (by kernel_rfl) _ rfl rfl (fun hc => q_indexAddrG Tryz.underlying27 tk68 (ev_yes rfl hc) ((.of (psAt 6 rfl))) (ev_yes rfl hc) (rows_get hKi) rfl rfl) (fun _ => ⟨(0, 0)⟩) (fun ⟨b18_11, o18_11⟩ => ?_)
      refine bG 12 rfl (by kernel_rfl) rfl rfl (fun hc => q_loadD (o := 0) tk68 (ev_yes rfl hc) (psAt 0 rfl) hc rfl) ?_
      refine bG 13 rfl (by kernel_rfl) rfl rfl (fun hc => q_fieldAddr (off := 6) (by kernel_rfl) rfl) ?_
      refine bG 14 rfl (by kernel_rfl) rfl rfl (fun hc => q_load 0 tk3 (ev_yes rfl hc) rfl rfl) ?_
      refine aB_E 15 rfl (by kernel_rfl) _ rfl rfl (fun hc => q_indexAddrG Tryz.underlying68 tk4 (ev_yes rfl hc) ((Ent.all (f := ShF bR) (.of (psAt 6 rfl)) hKi)) (ev_yes rfl hc) (rows_elt (i := s.sec) (by simp at hc; omega) (by simp at hc; omega)) (by simp at hc; omega) rfl) (fun _ => ⟨(0, 0)⟩) (fun ⟨b18_15, o18_15⟩ => ?_)
      refine bG 16 rfl (by kernel_rfl) rfl rfl (fun hc => q_loadD (o := 0) tk4 (ev_yes rfl hc) (psAt 0 rfl) hc rfl) ?_
      refine bU 17 rfl (by kernel_rfl) rfl (q_and rfl rfl (fun h => gt rfl h)) ?_
      refine bU 18 rfl (by kernel_rfl) rfl (q_assign rfl) ?_
      refine aB_nil (by kernel_rfl) ?_
      refine thn_n (awp_seq (aSR (aM rfl (aM rfl (aG rfl rfl (fun hc => q_move rfl) (aG rfl rfl (fun hc => q_move rfl) ?_))))))
      refine aL_E _ rfl rfl (fun hc => q_indexAddrG Tryz.underlying31 tk66 (ev_yes rfl hc) ((.of (psAt 6 rfl))) (ev_yes rfl hc) (rows_get hs) rfl rfl) (fun _ => ⟨(0, 0)⟩) (fun ⟨b19_4, o19_4⟩ => ?_)
      refine aG rfl rfl (fun hc => q_loadD (o := 0) tk66 (ev_yes rfl hc) (psAt 0 rfl) hc rfl) (aG rfl rfl (fun hc => q_move rfl) ?_)
      refine aL_E _ rfl rfl (fun hc => q_indexAddrG Tryz.underlying66 tk65 (ev_yes rfl hc) ((Ent.all (f := ShF GChoice.row) (.of (psAt 6 rfl)) hs)) (ev_yes rfl hc) (rows_get hx) rfl rfl) (fun _ => ⟨(0, 0)⟩) (fun ⟨b19_7, o19_7⟩ => ?_)
      refine aG rfl rfl (fun hc => q_fieldAddr (off := 0) (by kernel_rfl) (ev_yes rfl hc)) ?_
      refine aG rfl rfl (fun hc => q_loadD (o := 0) tk3 (ev_yes rfl hc) (psAt 0 rfl) hc rfl) (aG rfl rfl (fun hc => q_neq (ev_yes rfl hc) rfl) (aG rfl rfl (fun hc => q_move (ev_yes rfl hc)) (aG rfl rfl (fun hc => q_move rfl) (aG rfl rfl (fun hc => q_move rfl) ?_))))
      refine aL_E _ rfl rfl (fun hc => q_indexAddrG Tryz.underlying31 tk66 (ev_yes rfl hc) ((.of (psAt 8 rfl))) (ev_yes rfl hc) (rows_get hs) rfl rfl) (fun _ => ⟨(0, 0)⟩) (fun ⟨b19_14, o19_14⟩ => ?_)
      refine aG rfl rfl (fun hc => q_loadD (o := 0) tk66 (ev_yes rfl hc) (psAt 0 rfl) hc rfl) (aG rfl rfl (fun hc => q_move rfl) ?_)
      refine aL_E _ rfl rfl (fun hc => q_indexAddrG Tryz.underlying66 tk65 (ev_yes rfl hc) ((Ent.all (f := ShF GChoice.row) (.of (psAt 8 rfl)) hs)) (ev_yes rfl hc) (rows_get hx) rfl rfl) (fun _ => ⟨(0, 0)⟩) (fun ⟨b19_17, o19_17⟩ => ?_)
      refine aG rfl rfl (fun hc => q_fieldAddr (off := 1) (by kernel_rfl) (ev_yes rfl hc)) ?_
      refine aG rfl rfl (fun hc => q_loadD (o := 1) tk3 (ev_yes rfl hc) (psAt 0 rfl) hc rfl) (aG rfl rfl (fun hc => q_move rfl) (aG rfl rfl (fun hc => q_neq (ev_yes rfl hc) (ev_yes rfl hc)) (aG rfl rfl (fun hc => q_or (ev_yes rfl hc) rfl (fun h => gf hc h)) (aG rfl rfl (fun hc => q_move (ev_yes rfl hc)) (aG rfl rfl (fun hc => q_move rfl) (aG rfl rfl (fun hc => q_move rfl) ?_))))))
      refine aL_E _ rfl rfl (fun hc => q_indexAddrG Tryz.underlying31 tk66 (ev_yes rfl hc) ((.of (psAt 10 rfl))) (ev_yes rfl hc) (rows_get hs) rfl rfl) (fun _ => ⟨(0, 0)⟩) (fun ⟨b19_26, o19_26⟩ => ?_)
      refine aG rfl rfl (fun hc => q_loadD (o := 0) tk66 (ev_yes rfl hc) (psAt 0 rfl) hc rfl) (aG rfl rfl (fun hc => q_move rfl) ?_)
      refine aL_E _ rfl rfl (fun hc => q_indexAddrG Tryz.underlying66 tk65 (ev_yes rfl hc) ((Ent.all (f := ShF GChoice.row) (.of (psAt 10 rfl)) hs)) (ev_yes rfl hc) (rows_get hx) rfl rfl) (fun _ => ⟨(0, 0)⟩) (fun ⟨b19_29, o19_29⟩ => ?_)
      refine aG rfl rfl (fun hc => q_fieldAddr (off := 2) (by kernel_rfl) (ev_yes rfl hc)) ?_
      refine aG rfl rfl (fun hc => q_loadD (o := 2) tk3 (ev_yes rfl hc) (psAt 0 rfl) hc rfl) (aG rfl rfl (fun hc => q_move rfl) (aG rfl rfl (fun hc => q_neq (ev_yes rfl hc) (ev_yes rfl hc)) (aG rfl rfl (fun hc => q_or (ev_yes rfl hc) rfl (fun h => gf hc h)) (aU rfl (q_and rfl rfl (fun h => gt rfl h)) (aNn ?_)))))
      refine awp_cond _ rfl (fun h6 => ?_) (fun h6 => ?_)
      ·skip
       exfalso
       simp only [Bool.and_eq_true, decide_eq_true_eq] at h6
       obtain ⟨⟨⟨hb1, hs0⟩, hkp⟩, h6⟩ := h6
       have hd : defB K.l ⟨⟨(i : Int), (k : Int)⟩, s⟩ = true := by rw [hdef]; simp [hb1, hs0, hkp]
       have he := hstr hd hb1
       simp only [defC, GChoice.mk.injEq] at he
       obtain ⟨e1, e2, e3, -⟩ := he
       rw [hb1] at e1
       simp [e1, e2, e3] at h6
      ·skip
       refine awp_skip (thn_n (awp_seq (awp_seq ?_)))
       refine awp_drawn [] (by kernel_rfl) ?_
       show aB _ _ _ _ _ 29 #[false, false, false, false, false, false, false, false, false, false, false, false, false, false, false, false, false, false, false, false, false, false, false, false, false, false, false, false, false] _
       refine bU 0 rfl (by kernel_rfl) rfl (q_fieldAddr (off := 3) (by kernel_rfl) rfl) ?_
       refine bU 1 rfl (by kernel_rfl) rfl (q_load 0 tk3 rfl rfl rfl) ?_
       refine bU 2 rfl (by kernel_rfl) rfl (q_neq rfl rfl) ?_
       refine bU 3 rfl (by kernel_rfl) rfl (q_move rfl) ?_
       refine bG 4 rfl (by kernel_rfl) rfl rfl (fun hc => q_fieldAddr (off := 3) (by kernel_rfl) rfl) ?_
       refine bG 5 rfl (by kernel_rfl) rfl rfl (fun hc => q_load 0 tk3 (ev_yes rfl hc) rfl rfl) ?_
       refine bG 6 rfl (by kernel_rfl) rfl rfl (fun hc => q_neq (ev_yes rfl hc) rfl) ?_
       refine bU 7 rfl (by kernel_rfl) rfl (q_and rfl rfl (fun h => gt rfl h)) ?_
       refine bU 8 rfl (by kernel_rfl) rfl (q_move rfl) ?_
       refine bG 9 rfl (by kernel_rfl) rfl rfl (fun hc => q_fieldAddr (off := 3) (by kernel_rfl) rfl) ?_
       refine bG 10 rfl (by kernel_rfl) rfl rfl (fun hc => q_load 0 tk3 (ev_yes rfl hc) rfl rfl) ?_
       refine bG 11 rfl (by kernel_rfl) rfl rfl (fun hc => q_eql (ev_yes rfl hc) rfl) ?_
       refine bG 12 rfl (by kernel_rfl) rfl rfl (fun hc => q_move (ev_yes rfl hc)) ?_
       refine bG 13 rfl (by kernel_rfl) rfl rfl (fun hc => q_fieldAddr (off := 6) (by kernel_rfl) rfl) ?_
       refine bG 14 rfl (by kernel_rfl) rfl rfl (fun hc => q_load 0 tk3 (ev_yes rfl hc) rfl rfl) ?_
       refine bG 15 rfl (by kernel_rfl) rfl rfl (fun hc => q_lss (ev_yes rfl hc) rfl) ?_
       refine bG 16 rfl (by kernel_rfl) rfl rfl (fun hc => q_move (ev_yes rfl hc)) ?_
       refine bG 17 rfl (by kernel_rfl) rfl rfl (fun hc => q_move rfl) ?_
       refine bG 18 rfl (by kernel_rfl) rfl rfl (fun hc => q_move rfl) ?_
       refine aB_E 19 rfl (by kernel_rfl) _ rfl rfl (fun hc => q_indexAddrG Tryz.underlying27 tk68 (ev_yes rfl hc) ((.of (psAt 14 rfl))) (ev_yes rfl hc) (rows_get hKi) rfl rfl) (fun _ => ⟨(0, 0)⟩) (fun ⟨b21_19, o21_19⟩ => ?_)
       refine bG 20 rfl (by kernel_rfl) rfl rfl (fun hc => q_loadD (o := 0) tk68 (ev_yes rfl hc) (psAt 0 rfl) hc rfl) ?_
       refine bG 21 rfl (by kernel_rfl) rfl rfl (fun hc => q_fieldAddr (off := 6) (by kernel_rfl) rfl) ?_
       refine bG 22 rfl (by kernel_rfl) rfl rfl (fun hc => q_load 0 tk3 (ev_yes rfl hc) rfl rfl) ?_
       refine aB_E 23 rfl (by kernel_rfl) _ rfl rfl (fun hc => q_indexAddrG Tryz.underlying68 tk4 (ev_yes rfl hc) ((Ent.all (f := ShF bR) (.of (psAt 14 rfl)) hKi)) (ev_yes rfl hc) (rows_elt (i := s.sec) (by simp at hc; omega) (by simp at hc; omega)) (by simp at hc; omega) rfl) (fun _ => ⟨(0, 0)⟩) (fun ⟨b21_23, o21_23⟩ => ?_)
       refine bG 24 rfl (by kernel_rfl) rfl rfl (fun hc => q_loadD (o := 0) tk4 (ev_yes rfl hc) (psAt 0 rfl) hc rfl) ?_
       refine bG 25 rfl (by kernel_rfl) rfl rfl (fun hc => q_not (ev_yes rfl hc)) ?_
       refine bG 26 rfl (by kernel_rfl) rfl rfl (fun hc => q_or (ev_yes rfl hc) rfl (fun h => gf hc h)) ?_
       refine bG 27 rfl (by kernel_rfl) rfl rfl (fun hc => q_and (ev_yes rfl hc) rfl (fun h => gt hc h)) ?_
       refine bU 28 rfl (by kernel_rfl) rfl (q_or rfl rfl (fun h => gf rfl h)) ?_
       refine aB_nil (by kernel_rfl) ?_
       refine thn_n ?_
       refine awp_cond _ rfl (fun h7 => ?_) (fun h7 => ?_)
       ·skip
        refine awp_exit (thn_e (blk_hit (thn_n (awp_region (aM rfl ?_)))))
        refine aU rfl (q_addi rfl rfl (by omega)) ?_
        refine aA rfl (aNn ?_)
        refine ⟨[0, 9, 11, 13, 16, 17], [4, 3, 2, 1, 0], [], rfl, ?_⟩
        exact ⟨k + 1, ⟨by omega, rfl⟩, by omega⟩
       ·skip
        have hd : defB K.l ⟨⟨(i : Int), (k : Int)⟩, s⟩ = true := by
          rw [hdef]
          by_cases h3 : s.bind = 3
          · simp [h3]
          · by_cases h2' : s.bind = 2
            · simpa [h3, h2'] using h7
            · simp [h3, h2'] at h7
        obtain ⟨e, he, hye, hev, hw1, hw2⟩ := hwk hd
        obtain ⟨a, b, ha, hab, hp, hth⟩ := there_of he
        obtain ⟨ep, se⟩ := e
        dsimp only at hab hp hth hev hw1 hw2 hye
        subst hp
        simp only [defC, GChoice.mk.injEq] at hye
        obtain ⟨hyk, hyo, hym, hyl, hyw, hyp⟩ := hye
        dsimp only at hth
        subst hyo hym
        have hoa := elt_nat ha
        generalize elt x.os.l (a : Int) = oa at hab hoa
        refine awp_skip (thn_n (aSR (aM rfl (aM rfl ?_))))
        refine aL_E true rfl rfl (fun _ => q_indexAddrG Tryz.underlying31 tk66 rfl ((.of (psAt 14 rfl))) rfl (rows_get hs) rfl rfl) (fun h => absurd h (by decide)) (fun ⟨b22_2, o22_2⟩ => ?_)
        refine aU rfl (q_loadD (o := 0) tk66 rfl (psAt 0 rfl) rfl rfl) (aM rfl ?_)
        refine aL_E true rfl rfl (fun _ => q_indexAddrG Tryz.underlying66 tk65 rfl ((Ent.all (f := ShF GChoice.row) (.of (psAt 14 rfl)) hs)) rfl (rows_get hx) rfl rfl) (fun h => absurd h (by decide)) (fun ⟨b22_5, o22_5⟩ => ?_)
        refine aU rfl (q_loadD (o := 0) tk65 rfl (psAt 0 rfl) rfl rfl) ?_
        refine aL_eff (q := true) rfl (x_alloc (zs := [.int .i64 0, .int .i64 0, .int .i64 0, .int .i64 0, .int .i64 0, .bool false]) (by kernel_rfl) rfl (fun b22_7 => ?_))
        refine aL_hp (by (try simp only [nM, nN]); rfl) ?_
        refine aL_eff rfl (x_store 1 tk65 rfl rfl rfl rfl ?_)
        refine aL_hp (by (try simp only [nK, nL]); rfl) ?_
        refine aNs (aSR (aM rfl ?_))
        refine aU rfl (q_fieldAddr (off := 1) (by kernel_rfl) rfl) ?_
        refine aU rfl (q_load 1 tk3 rfl rfl rfl) ?_
        refine aU rfl (q_fieldAddr (off := 2) (by kernel_rfl) rfl) ?_
        refine aU rfl (q_load 1 tk3 rfl rfl rfl) ?_
        refine aU rfl (q_call (by kernel_rfl) rfl (fun w S fp hst => (con_there13 x _ _).quiet1 (psAt 19 rfl) hst)) ?_
        refine aU rfl (q_not rfl) (aNn ?_)
        refine awp_cond _ rfl (fun h8 => ?_) (fun h8 => ?_)
        ·skip
         exfalso
         rw [hth] at h8
         simp at h8
        ·skip
         refine awp_skip (thn_n (awp_seq ?_))
         refine awp_drawn [11] (by kernel_rfl) ?_
         show aB _ _ _ _ _ 12 #[false, false, false, false, false, false, false, false, false, false, false, false] _
         refine bU 0 rfl (by kernel_rfl) rfl (q_move rfl) ?_
         refine bU 1 rfl (by kernel_rfl) rfl (q_fieldAddr (off := 1) (by kernel_rfl) rfl) ?_
         refine bU 2 rfl (by kernel_rfl) rfl (q_load 1 tk3 rfl rfl rfl) ?_
         refine aB_E 3 rfl (by kernel_rfl) true rfl rfl (fun _ => q_indexAddrG Tryz.underlying22 tk61 rfl ((G13.f_os (.of (psAt 19 rfl)))) rfl (rows_get hoa) rfl rfl) (fun h => absurd h (by decide)) (fun ⟨b25_3, o25_3⟩ => ?_)
         refine bU 4 rfl (by kernel_rfl) rfl (q_fieldAddr (off := 2) (by kernel_rfl) rfl) ?_
         refine bU 5 rfl (by kernel_rfl) rfl (q_loadD (o := 2) tk51 rfl (psAt 0 rfl) rfl rfl) ?_
         refine bU 6 rfl (by kernel_rfl) rfl (q_fieldAddr (off := 2) (by kernel_rfl) rfl) ?_
         refine bU 7 rfl (by kernel_rfl) rfl (q_load 1 tk3 rfl rfl rfl) ?_
         refine aB_E 8 rfl (by kernel_rfl) true rfl rfl (fun _ => q_indexAddrG Tryz.underlying51 tk63 rfl ((GObject.f_syms (Ent.all (G13.f_osA (.of (psAt 20 rfl))) hoa))) rfl (rows_get hab) rfl rfl) (fun h => absurd h (by decide)) (fun ⟨b25_8, o25_8⟩ => ?_)
         refine bU 9 rfl (by kernel_rfl) rfl (q_loadD (o := 0) tk63 rfl (psAt 0 rfl) rfl rfl) ?_
         refine aB_eff (q := true) 10 rfl (by kernel_rfl) rfl rfl (x_alloc (zs := [.string .empty, .string .empty, .bool false, .int .i64 0, .int .i64 0, .int .i64 0, .int .i64 0, .int .i64 0, .int .i64 0, .int .i64 0]) (by kernel_rfl) rfl (fun b25_10 => ?_))
         refine aB_st rfl (by (try simp only [nM, nN]); rfl) (by (try simp only [putB, place, Nat.reduceBEq, if_true, if_false, reduceIte, Nat.reduceAdd, nW]); rfl) ?_
         refine aB_eff 11 rfl (by kernel_rfl) rfl rfl (x_store 2 tk63 rfl rfl rfl rfl ?_)
         refine aB_st rfl (by (try simp only [nM, nN]); rfl) (by (try simp only [putB, place, Nat.reduceBEq, if_true, if_false, reduceIte, Nat.reduceAdd, nW]); rfl) ?_
         refine aB_nil (by kernel_rfl) ?_
         refine thn_n (awp_seq (aSR ?_))
         refine aU rfl (q_fieldAddr (off := 3) (by kernel_rfl) rfl) ?_
         refine aU rfl (q_load 0 tk3 rfl rfl rfl) (aU rfl (q_eql rfl rfl) (aM rfl ?_))
         refine aG rfl rfl (fun hc => q_fieldAddr (off := 3) (by kernel_rfl) rfl) ?_
         refine aG rfl rfl (fun hc => q_load 2 tk3 (ev_yes rfl hc) rfl rfl) (aG rfl rfl (fun hc => q_eql (ev_yes rfl hc) rfl) (aU rfl (q_and rfl rfl (fun h => gt rfl h)) (aM rfl ?_)))
         refine aG rfl rfl (fun hc => q_fieldAddr (off := 1) (by kernel_rfl) rfl) ?_
         refine aG rfl rfl (fun hc => q_load 2 tk9 (ev_yes rfl hc) rfl rfl) ?_
         refine aG rfl rfl (fun hc => q_fieldAddr (off := 1) (by kernel_rfl) rfl) ?_
         refine aG rfl rfl (fun hc => q_load 0 tk9 (ev_yes rfl hc) rfl rfl) (aG rfl rfl (fun hc => qs_neqD (ev_yes rfl hc) (ev_yes rfl hc)) (aU rfl (q_or rfl rfl (fun h => gf rfl h)) (aNn ?_)))
         refine awp_cond _ rfl (fun h9 => ?_) (fun h9 => ?_)
         ·skip
          exfalso
          simp [hev] at h9
          exact hw1 h9.1 h9.2
         ·skip
          refine awp_skip (thn_n (aSR ?_))
          refine aU rfl (q_fieldAddr (off := 3) (by kernel_rfl) rfl) ?_
          refine aU rfl (q_load 2 tk3 rfl rfl rfl) ?_
          refine aU rfl (q_fieldAddr (off := 3) (by kernel_rfl) rfl) ?_
          refine aU rfl (q_load 0 tk3 rfl rfl rfl) (aU rfl (q_eql rfl rfl) (aM rfl ?_))
          refine aG rfl rfl (fun hc => q_fieldAddr (off := 1) (by kernel_rfl) rfl) ?_
          refine aG rfl rfl (fun hc => q_load 1 tk3 (ev_yes rfl hc) rfl rfl) (aG rfl rfl (fun hc => q_move rfl) (aG rfl rfl (fun hc => q_gtr (ev_yes rfl hc) (ev_yes rfl hc)) (aG rfl rfl (fun hc => q_move (ev_yes rfl hc)) ?_)))
          refine aG rfl rfl (fun hc => q_fieldAddr (off := 1) (by kernel_rfl) rfl) ?_
          refine aG rfl rfl (fun hc => q_load 1 tk3 (ev_yes rfl hc) rfl rfl) (aG rfl rfl (fun hc => q_move rfl) (aG rfl rfl (fun hc => q_eql (ev_yes rfl hc) (ev_yes rfl hc)) (aG rfl rfl (fun hc => q_move (ev_yes rfl hc)) ?_)))
          refine aG rfl rfl (fun hc => q_fieldAddr (off := 2) (by kernel_rfl) rfl) ?_
          refine aG rfl rfl (fun hc => q_load 1 tk3 (ev_yes rfl hc) rfl rfl) (aG rfl rfl (fun hc => q_move rfl) (aG rfl rfl (fun hc => q_gtr (ev_yes rfl hc) (ev_yes rfl hc)) (aG rfl rfl (fun hc => q_and (ev_yes rfl hc) rfl (fun h => gt hc h)) (aG rfl rfl (fun hc => q_or (ev_yes rfl hc) rfl (fun h => gf hc h)) (aU rfl (q_and rfl rfl (fun h => gt rfl h)) (aNn ?_))))))
          refine awp_cond _ rfl (fun h10 => ?_) (fun h10 => ?_)
          ·skip
           exfalso
           simp at h10
           refine hw2 h10.1 ?_
           have h := h10.2
           unfold ltC
           simp only
           omega
          ·skip
           refine awp_skip (blk_n (thn_n (awp_region (aM rfl ?_))))
           refine aU rfl (q_addi rfl rfl (by omega)) ?_
           refine aA rfl (aNn ?_)
           refine ⟨[0, 9, 11, 13, 16, 17], [4, 3, 2, 1, 0], [], rfl, ?_⟩
           exact ⟨k + 1, ⟨by omega, rfl⟩, by omega⟩
     ·skip
      refine awp_exit (thn_e (thn_e (blk_hit (blk_n (thn_n (awp_region (aM rfl ?_)))))))
      refine aU rfl (q_addi rfl rfl (by omega)) ?_
      refine aA rfl (aNn ?_)
      refine ⟨[0, 9, 11, 13, 16], [4, 3, 2, 1, 0], [], rfl, ?_⟩
      exact ⟨i + 1, ⟨by omega, rfl⟩, by omega⟩
    ·skip
     refine awp_exit (thn_e (thn_e (blk_hit (thn_n (aSR (aM rfl (aA rfl (aNn (awp_ret ?_)))))))))
     refine fin1 [] [] rfl Tryz.results5 rfl ?_ (.inr rfl)
     rfl
end Go.Proofs.YtgmiihmahaahiaaGreatDoor

namespace Go.Proofs.YtgmiihmahaahiaaGreatDoor.resolveStrong
open Go.ChangeShapes Go.WideShapes Go.ChangeAt Go.RowKit
open Go.Lp Go.Sy
open Go.ChangeMaps (open_string shut_string)
theorem door_met (os : Os) (args : Array Value) : laidMetH Tryz.prog Rows.resolveStrongRow.laid ((World.doorLaid Tryz.prog 400 os).forCall (fun _ _ => 0) ⟨#[], args, []⟩).memory :=
 laidMetH_of_parts3 (fuel := 8) (laidMet_of_run' 8 (by kernel_rfl) (by kernel_rfl)) (by kernel_rfl) (by kernel_rfl)
set_option maxRecDepth 100000 in
theorem lifted (os : Os) (started : os.Started) (H : Type) (enc : TypeId × Value → H) :
   ReturnsInHanded {} Tryz.checked os 5 .any (fun w args => (Rows.resolveStrongSpec.pre enc Tryz.prog Tryz.f5 [] false w args ∧ laidMetH Tryz.prog Rows.resolveStrongRow.laid w) ∧ sizedMet enc Tryz.prog Tryz.f5 (OpenSpec.ofChange Rows.resolveStrongSpec) false w args)
     (Rows.resolveStrongSpec.post enc Tryz.prog Tryz.f5 false true false false) := by
 refine returnsInHanded_of_change_and (C := Tryz.checked) (X := fun w _ => laidMetH Tryz.prog Rows.resolveStrongRow.laid w) (fun _ _ _ hh h => h.of_heap hh) own started (by kernel_rfl) Tryz.func5
   (ChangeSpec.witness_shaped (enc := enc) (C := Tryz.checked) (os := os) (X := fun w _ => laidMetH Tryz.prog Rows.resolveStrongRow.laid w) false (World.doorLaid Tryz.prog 400 os) #[.slice none 0 0, .bool false, .slice none 0 0, .slice none 0 0] 12 rfl (World.shaped_of_RefB (by kernel_rfl) (by kernel_rfl)) (by kernel_rfl) (by kernel_rfl) (by kernel_rfl) (door_met os _)) ?_
 intro W base args ds gs before hval0 hW _ _ hL _
 have hval : ∀ (j : Nat) t v, Tryz.f5.params[j]? = some t → args[j]? = some v → Value.okWide Tryz.prog W .any base t v := hval0
 have hW' := hW
 obtain ⟨p, q, hA0, hV, rfl, hfz, hnd⟩ := hW
 have hA : DataW.TrodAll enc Tryz.prog W 0 (fun _ => true) true Tryz.f5.params.toList args.toList ds p := hA0
 rw [Tryz.params5] at hA hval
 obtain ⟨v0, vs0, d0, ds0, p0, q0, hargs, rfl, rfl, h0, r0⟩ := trodAll_cons hA
 obtain ⟨v1, vs1, d1, ds1, p1, q1, rfl, rfl, rfl, h1, r1⟩ := trodAll_cons r0
 obtain ⟨v2, vs2, d2, ds2, p2, q2, rfl, rfl, rfl, h2, r2⟩ := trodAll_cons r1
 obtain ⟨v3, vs3, d3, ds3, p3, q3, rfl, rfl, rfl, h3, r3⟩ := trodAll_cons r2
 obtain ⟨rfl, rfl, rfl⟩ := trodAll_nil r3
 obtain rfl : args = #[v0, v1, v2, v3] := by cases args; simp_all
 obtain ⟨rfl, rfl⟩ := trodVars_none hV
 have hlaid := of_laid hL
 obtain ⟨ad0, len0, cap0, rfl⟩ := okWide_slice Tryz.underlying22 (hval 0 22 v0 rfl rfl)
 have k0 := h0
 have lt0 : ∀ x ∈ p0, x.block < W.heap.size := by obtain ⟨m, hm⟩ := k0; exact DataW.trod_lt m _ _ _ hm
 obtain ⟨a1, rfl, rfl, rfl⟩ := open_bool Tryz.underlying4 (hval 1 4 v1 rfl rfl) h1
 obtain ⟨ad2, len2, cap2, rfl⟩ := okWide_slice Tryz.underlying23 (hval 2 23 v2 rfl rfl)
 have k2 := h2
 have lt2 : ∀ x ∈ p2, x.block < W.heap.size := by obtain ⟨m, hm⟩ := k2; exact DataW.trod_lt m _ _ _ hm
 obtain ⟨ad3, len3, cap3, rfl⟩ := okWide_slice Tryz.underlying24 (hval 3 24 v3 rfl rfl)
 have k3 := h3
 have lt3 : ∀ x ∈ p3, x.block < W.heap.size := by obtain ⟨m, hm⟩ := k3; exact DataW.trod_lt m _ _ _ hm
 obtain ⟨x, e0, e1, e2, e3, hok⟩ : ∃ x : G13, Value.slice ad0 len0 cap0 = x.os.val ∧ a1 = x.lib ∧ Value.slice ad2 len2 cap2 = x.ifs.val ∧ Value.slice ad3 len3 cap3 = x.vs.val ∧ x.ok.holds W (fun b => b < W.heap.size) := by
   obtain ⟨f0, g0⟩ := h0
   obtain ⟨f2, g2⟩ := h2
   obtain ⟨f3, g3⟩ := h3
   exact g13_in a1 (by simpa [Value.cells] using g0) (by simpa [Value.cells] using g2) (by simpa [Value.cells] using g3) hlaid
 clear hA0 hval0
 have hc := (con_strong x).quiet1 (List.mem_singleton.2 rfl) (st_in (w := W) (ps := [x.ok]) fun p hp => by rw [List.mem_singleton.1 hp]; exact hok)
 rw [← e0, ← e1, ← e2, ← e3] at hc
 refine hc.mono fun e W' ⟨he, bel⟩ => ?_
 subst he
 exact ⟨_, rfl, _, _, _, [], _, [], hW', trodAll_mk1 (shut_bool Tryz.underlying4 _), (trodAll_cons_mk (Below.trod laidOut (by kernel_rfl) (of_decide_eq_true (by kernel_rfl)) k0 bel.kit lt0) (trodAll_cons_mk (shut_bool Tryz.underlying4 _) (trodAll_cons_mk (Below.trod laidOut (by kernel_rfl) (of_decide_eq_true (by kernel_rfl)) k2 bel.kit lt2) (trodAll_cons_mk (Below.trod laidOut (by kernel_rfl) (of_decide_eq_true (by kernel_rfl)) k3 bel.kit lt3) trodAll_mk0)))), rfl, bel.kit.frame _, fun h => by cases h⟩
theorem named : Tryz.prog.funcNamed "linchpin/linchpinlaw13.ResolveStrong" = some 5 := by kernel_rfl
set_option maxHeartbeats 4000000 in
theorem closed : joinedFacts Tryz.prog 5 Tryz.f5 Rows.resolveStrongSpec Rows.resolveStrongRow = true := by
 unfold joinedFacts
 repeat' with_reducible refine Bool.and_eq_true_iff.2 ⟨?_, ?_⟩
 all_goals (as_aux_lemma => kernel_rfl)
theorem over : Rows.ResolveStrongSaid :=
 OpenClaim.holds_of_wide 5 Tryz.f5 rfl rfl rfl rfl rfl rfl rfl ⟨rfl, rfl, rfl, rfl, rfl⟩ rfl rfl rfl rfl rfl named Tryz.func5 closed
   (of_decide_eq_true (by as_aux_lemma => kernel_rfl)) (by unfold Func.isWrapper; first | (rw [if_pos (by decide +kernel)]; kernel_rfl) | (rw [if_neg (by decide +kernel)]; exact ⟨rfl, rfl⟩))
   (fun os started H enc _ => lifted os started H enc)
set_option maxHeartbeats 4000000 in
theorem proved : Rows.ResolveStrongCardSaid :=
 Claim7.holds_tied_plain_at .later [] [.data, .data, .widerDeep] true _ false
   over (fun _ h => by cases h) (by as_aux_lemma => kernel_rfl) (fun _ h => by cases h) resolveStrong_row_tie rfl ⟨rfl, rfl⟩ (by as_aux_lemma => kernel_rfl) rfl
   (fun f fn hf hfn => by
     obtain rfl : f = 5 := Option.some.inj (named.symm.trans hf) |>.symm
     obtain rfl : fn = Tryz.f5 := (Option.some.inj (Tryz.func5.symm.trans hfn)).symm
     exact ⟨by as_aux_lemma => kernel_rfl, fun j t ht => by
       rw [Tryz.params5] at ht
       have hm : t ∈ [22, 4, 23, 24] := by simpa using Array.mem_of_getElem? ht
       have hall : ([22, 4, 23, 24].all fun u => !Tryz.prog.wantsStandIn u) = true := by as_aux_lemma => kernel_rfl
       exact (show Tryz.prog.wantsStandIn t = false by simpa using List.all_eq_true.1 hall t (by simpa using hm))⟩)
   (by as_aux_lemma => kernel_rfl)
end Go.Proofs.YtgmiihmahaahiaaGreatDoor.resolveStrong

