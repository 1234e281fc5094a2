/- Parts of the proof, in build order. No condition. -/
import Derived.Test.YtgmiihmahaahiaaGreatDoorQb12
import Derived.Test.YtgmiihmahaahiaaGreatDoorQb03
import Derived.Test.YtgmiihmahaahiaaGreatDoorQb11
import Derived.Test.YtgmiihmahaahiaaGreatDoorQb06
import Derived.Test.YtgmiihmahaahiaaGreatDoorQb09
set_option linter.unusedSimpArgs false
set_option linter.unusedVariables false
set_option maxHeartbeats 1000000
set_option maxRecDepth 20000
namespace Go.Proofs.YtgmiihmahaahiaaGreatDoor
open Go.RowKit Go.Lp Go.Sy
open Go.Proofs.Tryz
attribute [local irreducible] aL aB awp aC fwp
theorem wo (x : cg) (n : ByteArray) : Con Tryz.prog 16 [x.objs.val, .string n] [x.ok] [] (fun r _ _ => r = .int .i64 (iJ (bQ x.objs.l) n)) :=
 (sk x.objs n).pre fun p hp => by
   simp only [List.mem_cons, List.not_mem_nil, or_false] at hp
   rcases hp with rfl | rfl
   · exact cg.f_objs (.of (an 0 rfl))
   · exact cg.f_objsA (.of (an 0 rfl))
theorem rz (x : cg) (hok : gG x.objs.l x.kp.l) (lb : Nat) (L : List Dfn) (st : CS) (mM : ByteArray → Option aD) (hF : j6 x L st mM) (SV : ByteArray → ByteArray → Bool) (hSV : ∀ p q, SV p q = true ↔ Srv x.vs.l p q) (d : Dfn) (hd : InD x.objs.l d) :
   Con Tryz.prog 38 [.pointer (some ⟨lb, 0, none⟩), d.p.val, d.s.val] [At lb 0 x.row, x.ok, x.fin L st mM] [] (fun r ps hp => ps = [] ∧ hp = [] ∧ ∃ c : aT, r = .tuple #[c.val, .bool (cr x.kp.l L SV (cK x.ifs.l) x.lib d).isSome] ∧ ((cr x.kp.l L SV (cK x.ifs.l) x.lib d).getD ga) = c) := by
 obtain ⟨i, k, hi, hk, hpd⟩ := hd
 obtain ⟨p, s⟩ := d
 dsimp only at hk hpd
 subst hpd
 have ho := bY hi
 have hkn := hok.kn
 have hkp := bY (l := x.kp.l) (i := i) (by omega)
 have hks := hok.ks i hi
 have hsec := hok.sec _ (List.mem_of_getElem? ho) s (List.mem_of_getElem? hk)
 refine Con.enter Tryz.func38 rfl (by simp [Tryz.ntmps38]) ?_
 show awp _ _ _ _ ⟨[(0, true, _), (1, true, _), (2, true, _)], _, _⟩
 refine aSR ?_
 refine al (q := true) rfl (bO rfl rfl rfl (fun b0_0 => ?_))
 refine aH (by (try simp only [nM, nN]); rfl) ?_
 refine al (q := true) rfl (bO rfl rfl rfl (fun b0_1 => ?_))
 refine aH (by (try simp only [nM, nN]); rfl) ?_
 refine al (q := true) rfl (bp (zs := [.int .i64 0, .int .i64 0, .int .i64 0, .int .i64 0, .int .i64 0, .bool false]) (by kernel_rfl) rfl (fun b0_2 => ?_))
 refine aH (by (try simp only [nM, nN]); rfl) ?_
 refine aA rfl (aNs (aSR ?_))
 refine aU rfl (aa (off := 3) (by kernel_rfl) rfl) ?_
 refine aU rfl (ae 1 tk3 rfl rfl rfl) (aU rfl (bK rfl rfl) (aNn ?_))
 refine ah _ rfl (fun h1 => ?_) (fun h1 => ?_)
 ·skip
  have c1 : s.bind = 0 := by simpa using h1
  refine az (az ?_)
  refine bn [] (by kernel_rfl) ?_
  show aB _ _ _ _ _ 13 #[false, false, false, false, false, false, false, false, false, false, false, false, false] _
  refine bU 0 rfl (by kernel_rfl) rfl (aq rfl) ?_
  refine bU 1 rfl (by kernel_rfl) rfl (br rfl) ?_
  refine bU 2 rfl (by kernel_rfl) rfl (aa (off := 1) (by kernel_rfl) rfl) ?_
  refine bU 3 rfl (by kernel_rfl) rfl (aK (o := 1) tk27 rfl (.of (an 0 rfl)) rfl) ?_
  refine bU 4 rfl (by kernel_rfl) rfl (aa (off := 0) (by kernel_rfl) rfl) ?_
  refine bU 5 rfl (by kernel_rfl) rfl (ae 0 tk3 rfl rfl rfl) ?_
  refine dI 6 rfl (by kernel_rfl) true rfl rfl (fun _ => av Tryz.underlying27 tk68 rfl ((cg.f_kp (.of (an 1 rfl)))) rfl (aS hkp) rfl rfl) (fun h => absurd h (by decide)) (fun ⟨b2_6, o2_6⟩ => ?_)
  refine bU 7 rfl (by kernel_rfl) rfl (aR (o := 0) tk68 rfl (an 0 rfl) rfl rfl) ?_
  refine bU 8 rfl (by kernel_rfl) rfl (aa (off := 6) (by kernel_rfl) rfl) ?_
  refine bU 9 rfl (by kernel_rfl) rfl (ae 1 tk3 rfl rfl rfl) ?_
  refine dI 10 rfl (by kernel_rfl) true rfl rfl (fun _ => av Tryz.underlying68 tk4 rfl ((Ent.all (f := ShF bR) (cg.f_kpA (.of (an 2 rfl))) hkp)) rfl (dO (i := s.sec) (by omega) (by omega)) (by omega) rfl) (fun h => absurd h (by decide)) (fun ⟨b2_10, o2_10⟩ => ?_)
  refine bU 11 rfl (by kernel_rfl) rfl (aR (o := 0) tk4 rfl (an 0 rfl) rfl rfl) ?_
  refine bU 12 rfl (by kernel_rfl) rfl (cm rfl) ?_
  refine bS (by kernel_rfl) ?_
  refine aw ?_
  refine ah _ rfl (fun h2 => ?_) (fun h2 => ?_)
  ·skip
   have c2 : ¬ kP x.kp.l i s.sec = true := by unfold kP; simpa using h2
   refine aSR ?_
   refine aU rfl (dF (l := []) (zs := [.int .i64 0, .int .i64 0, .int .i64 0, .int .i64 0, .int .i64 0, .bool false]) (pl := [(0, 1), (1, 1), (2, 1), (3, 1), (4, 1), (5, 1)]) (by kernel_rfl) (by kernel_rfl) (by kernel_rfl) rfl rfl rfl) ?_
   refine al rfl (aW 2 tk65 rfl rfl rfl rfl ?_)
   refine aH (by (try simp only [nK, nL]); rfl) ?_
   refine aA rfl (aNn (aj (aO (aO ?_))))
   refine fh [] [] rfl Tryz.results38 (cT 2 tk65 rfl rfl rfl) (dz rfl) ?_ (.inr rfl)
   have hC : cr x.kp.l L SV (cK x.ifs.l) x.lib ⟨⟨i, k⟩, s⟩ = some ga := by unfold cr; rw [if_pos c1, if_neg c2]
   exact ⟨rfl, rfl, ga, by rw [hC]; rfl, by rw [hC]; rfl⟩
  ·skip
   have c2 : kP x.kp.l i s.sec = true := by unfold kP; simpa using h2
   refine au (aw (aSR ?_))
   refine aU rfl (aa (off := 0) (by kernel_rfl) rfl) ?_
   refine aU rfl (ae 0 tk3 rfl rfl rfl) ?_
   refine aU rfl (aa (off := 1) (by kernel_rfl) rfl) ?_
   refine aU rfl (ae 0 tk3 rfl rfl rfl) ?_
   refine aU rfl (dF (l := [(0, .const (.int .i64 1)), (1, .tmp 31), (2, .tmp 33), (4, .const (.int .i64 0))]) (zs := [.int .i64 0, .int .i64 0, .int .i64 0, .int .i64 0, .int .i64 0, .bool false]) (pl := [(0, 1), (1, 1), (2, 1), (3, 1), (4, 1), (5, 1)]) (by kernel_rfl) (by kernel_rfl) (by kernel_rfl) rfl rfl rfl) ?_
   refine al rfl (aW 2 tk65 rfl rfl rfl rfl ?_)
   refine aH (by (try simp only [nK, nL]); rfl) ?_
   refine aA rfl (aNn (aj (aO ?_)))
   refine fh [] [] rfl Tryz.results38 (cT 2 tk65 rfl rfl rfl) (dz rfl) ?_ (.inr rfl)
   have hC : cr x.kp.l L SV (cK x.ifs.l) x.lib ⟨⟨i, k⟩, s⟩ = some ⟨1, i, k, 0, 0, false⟩ := by unfold cr; rw [if_pos c1, if_pos c2]
   exact ⟨rfl, rfl, (⟨1, (i : Int), (k : Int), 0, 0, false⟩ : aT), by rw [hC]; rfl, by rw [hC]; rfl⟩
 ·skip
  have c1 : ¬ s.bind = 0 := by simpa using h1
  refine au (aw (aSR ?_))
  refine aU rfl (aa (off := 0) (by kernel_rfl) rfl) ?_
  refine aU rfl (ae 1 tk9 rfl rfl rfl) ?_
  refine aU rfl (aa (off := 1) (by kernel_rfl) rfl) ?_
  refine aU rfl (ae 1 tk9 rfl rfl rfl) ?_
  refine aU rfl (dF (l := [(0, .tmp 36), (1, .tmp 38)]) (zs := [.string .empty, .string .empty]) (pl := [(0, 1), (1, 1)]) (by kernel_rfl) (by kernel_rfl) (by kernel_rfl) rfl rfl rfl) ?_
  refine al (q := true) rfl (bp (zs := [.string .empty, .string .empty]) (by kernel_rfl) rfl (fun b5_5 => ?_))
  refine aH (by (try simp only [nM, nN]); rfl) ?_
  refine al rfl (aW 3 tk157 rfl rfl rfl rfl ?_)
  refine aH (by (try simp only [nK, nL]); rfl) ?_
  refine aNs (aSR (aM rfl (aU rfl (ae 3 tk157 rfl rfl rfl) ?_)))
  refine al (q := true) rfl (bF [2, 1, 0] [] (by kernel_rfl) rfl rfl rfl rfl (vj x hok lb L st mM hF SV hSV s.name s.version) ?_)
  rintro _ _ _ ⟨rfl, rfl, q, rfl, hfe⟩
  refine cB (by (try simp only [nM, nN]); rfl) (by (try simp only [aV, place, Nat.reduceBEq, if_true, if_false, reduceIte, Nat.reduceAdd, nW]); rfl) ?_
  refine aM rfl (aU rfl (aJ rfl rfl) (aU rfl (aJ rfl rfl) ?_))
  refine al (q := true) rfl (bp (zs := [.int .i64 0, .int .i64 0]) (by kernel_rfl) rfl (fun b6_6 => ?_))
  refine aH (by (try simp only [nM, nN]); rfl) ?_
  refine al rfl (aW 4 tk34 rfl rfl rfl rfl ?_)
  refine aH (by (try simp only [nK, nL]); rfl) ?_
  refine aA rfl (aNn (aSR (aM rfl (aNn ?_))))
  refine ah _ rfl (fun h3 => ?_) (fun h3 => ?_)
  ·skip
   obtain ⟨e, he⟩ : ∃ e, fl x.kp.l L SV s.name s.version = some e := Option.isSome_iff_exists.1 h3
   obtain ⟨he1, _, _⟩ := qq hF.asc he
   obtain rfl := hfe e he
   refine az ?_
   refine dQ [24] [24] [b0_0, b0_1, b5_5] (by kernel_rfl) ?_
   show aC _ _ _ _ _ _ _ 25 #[false, false, false, false, false, false, false, false, false, false, false, false, false, false, false, false, false, false, false, false, false, false, false, false, false] _
   refine bD 0 rfl (by kernel_rfl) true rfl rfl (fun _ => aa (off := 0) (by kernel_rfl) rfl) ?_
   refine kY 1 rfl (by kernel_rfl) true rfl rfl (fun _ => ae 4 tk3 rfl rfl rfl) ?_
   refine bD 2 rfl (by kernel_rfl) true rfl rfl (fun _ => aa (off := 1) (by kernel_rfl) rfl) ?_
   refine kY 3 rfl (by kernel_rfl) true rfl rfl (fun _ => ae 4 tk3 rfl rfl rfl) ?_
   refine bD 4 rfl (by kernel_rfl) true rfl rfl (fun _ => aq rfl) ?_
   refine ez 5 1 rfl (by kernel_rfl) true rfl rfl (by simp) tk63 (fun _ => rfl) rfl rfl ?_
   refine kY 6 rfl (by kernel_rfl) true rfl rfl (fun _ => ae 4 tk34 rfl rfl rfl) ?_
   refine bD 7 rfl (by kernel_rfl) true rfl rfl (fun _ => bP (by kernel_rfl) rfl (fun w S fp hst => (w8 x hok lb L st mM hF s e he1).oH (an 0 rfl) (an 1 rfl) (an 2 rfl) hst)) ?_
   refine bD 8 rfl (by kernel_rfl) true rfl rfl (fun _ => aq rfl) ?_
   refine bD 9 rfl (by kernel_rfl) true rfl rfl (fun _ => br rfl) ?_
   refine bD 10 rfl (by kernel_rfl) true rfl rfl (fun _ => aa (off := 2) (by kernel_rfl) rfl) ?_
   refine bD 11 rfl (by kernel_rfl) true rfl rfl (fun _ => aK (o := 2) tk4 rfl (.of (an 0 rfl)) rfl) ?_
   refine bD 12 rfl (by kernel_rfl) true rfl rfl (fun _ => aq rfl) ?_
   refine bD 13 rfl (by kernel_rfl) _ rfl rfl (fun hc => aq rfl) ?_
   refine bD 14 rfl (by kernel_rfl) _ rfl rfl (fun hc => br (ab rfl hc)) ?_
   refine bD 15 rfl (by kernel_rfl) _ rfl rfl (fun hc => aa (off := 0) (by kernel_rfl) (ab rfl hc)) ?_
   refine bD 16 rfl (by kernel_rfl) _ rfl rfl (fun hc => aK (o := 0) tk22 (ab rfl hc) (.of (an 0 rfl)) rfl) ?_
   refine bD 17 rfl (by kernel_rfl) _ rfl rfl (fun hc => aa (off := 0) (by kernel_rfl) rfl) ?_
   refine ez 18 1 rfl (by kernel_rfl) _ rfl rfl (by simp) tk9 (fun hc => (ab rfl hc)) rfl rfl ?_
   refine bD 19 rfl (by kernel_rfl) _ rfl rfl (fun hc => bP (by kernel_rfl) (aN (ab rfl hc) (aN (ab rfl hc) rfl)) (fun w S fp hst => (wo x s.name).quiet1 (an 1 rfl) hst)) ?_
   refine bD 20 rfl (by kernel_rfl) _ rfl rfl (fun hc => bK (ab rfl hc) rfl) ?_
   refine bD 21 rfl (by kernel_rfl) true rfl rfl (fun _ => bA rfl rfl (fun h => gt rfl h)) ?_
   refine bD 22 rfl (by kernel_rfl) true rfl rfl (fun _ => dF (l := [(0, .const (.int .i64 2)), (1, .tmp 48), (2, .tmp 50), (4, .tmp 54), (5, .tmp 68)]) (zs := [.int .i64 0, .int .i64 0, .int .i64 0, .int .i64 0, .int .i64 0, .bool false]) (pl := [(0, 1), (1, 1), (2, 1), (3, 1), (4, 1), (5, 1)]) (by kernel_rfl) (by kernel_rfl) (by kernel_rfl) rfl rfl rfl) ?_
   refine aY 23 [] (by kernel_rfl) (aI ?_ aP)
   refine bd 23 rfl rfl (Eff.x ?_)
   refine id (bp (zs := [.int .i64 0, .int .i64 0, .int .i64 0, .int .i64 0, .int .i64 0, .bool false]) (by kernel_rfl) rfl (fun b8_23 => ?_))
   refine bt (by (try simp only [nO, nK, nL]); rfl) (by (try simp only [nM, nN]); rfl) (by (try simp only [aX, nQ, nR, aV, place, Nat.reduceBEq, if_true, if_false, reduceIte, Nat.reduceAdd, nW]); rfl) ?_
   refine aY 24 [] (by kernel_rfl) (aI ?_ aP)
   refine bd 24 rfl rfl (Eff.wild (q := false) ?_)
   refine id (aW 5 tk65 rfl rfl rfl rfl ?_)
   refine bt (by (try simp only [nO, nK, nL]); rfl) (by (try simp only [nM, nN]); rfl) (by (try simp only [aX, nQ, nR, aV, place, Nat.reduceBEq, if_true, if_false, reduceIte, Nat.reduceAdd, nW]); rfl) ?_
   refine db (by kernel_rfl) ?_
   refine aw (az (aSR (aM rfl (aU rfl (ae 4 tk34 rfl rfl rfl) ?_))))
   refine aU rfl (bP (by kernel_rfl) rfl (fun w S fp hst => (kJ x lb e (by rw [← kN, ← hF.flat]; exact he1)).quiet2 (an 0 rfl) (an 1 rfl) hst)) ?_
   refine aU rfl (pV (off := 3) (by kernel_rfl) rfl rfl) ?_
   refine aU rfl (bK rfl rfl) (aNn ?_)
   refine ah _ rfl (fun h4 => ?_) (fun h4 => ?_)
   ·skip
    have c4 : e.s.bind = 3 := by simpa using h4
    refine ai ?_
    refine aU rfl (aa (off := 0) (by kernel_rfl) rfl) ?_
    refine al rfl (aW 5 tk3 rfl rfl rfl rfl ?_)
    refine aH (by (try simp only [nK, nL]); rfl) ?_
    refine aNn (aSR (aU rfl (ae 5 tk65 rfl rfl rfl) ?_))
    refine al rfl (aW 2 tk65 rfl rfl rfl rfl ?_)
    refine aH (by (try simp only [nK, nL]); rfl) ?_
    refine aA rfl (aNn (aj (aO ?_)))
    refine fh [] [] rfl Tryz.results38 (cT 2 tk65 rfl rfl rfl) (dz rfl) ?_ (.inr rfl)
    have hC : cr x.kp.l L SV (cK x.ifs.l) x.lib ⟨⟨i, k⟩, s⟩ = some ⟨3, e.p.obj, e.p.sym, 0, lR x.kp.l L s e, x.lib && decide (iJ L s.name = 0)⟩ := by unfold cr; rw [if_neg c1]; dsimp only; rw [he]; dsimp only; rw [if_pos c4]
    exact ⟨rfl, rfl, (⟨3, e.p.obj, e.p.sym, 0, lR x.kp.l L s e, x.lib && decide (iJ L s.name = 0)⟩ : aT), by rw [hC, hF.flat]; cases hlib : x.lib <;> simp [hlib], by rw [hC]; rfl⟩
   ·skip
    have c4 : ¬ e.s.bind = 3 := by simpa using h4
    refine au (aw (aSR (aU rfl (ae 5 tk65 rfl rfl rfl) ?_)))
    refine al rfl (aW 2 tk65 rfl rfl rfl rfl ?_)
    refine aH (by (try simp only [nK, nL]); rfl) ?_
    refine aA rfl (aNn (aj (aO ?_)))
    refine fh [] [] rfl Tryz.results38 (cT 2 tk65 rfl rfl rfl) (dz rfl) ?_ (.inr rfl)
    have hC : cr x.kp.l L SV (cK x.ifs.l) x.lib ⟨⟨i, k⟩, s⟩ = some ⟨2, e.p.obj, e.p.sym, 0, lR x.kp.l L s e, x.lib && decide (iJ L s.name = 0)⟩ := by unfold cr; rw [if_neg c1]; dsimp only; rw [he]; dsimp only; rw [if_neg c4]
    exact ⟨rfl, rfl, (⟨2, e.p.obj, e.p.sym, 0, lR x.kp.l L s e, x.lib && decide (iJ L s.name = 0)⟩ : aT), by rw [hC, hF.flat]; cases hlib : x.lib <;> simp [hlib], by rw [hC]; rfl⟩
  ·skip
   have he : fl x.kp.l L SV s.name s.version = none := by simpa using h3
   refine au (aw (az (aSR (aM rfl (aU rfl (ae 3 tk157 rfl rfl rfl) ?_)))))
   refine aU rfl (bP (by kernel_rfl) rfl (fun w S fp hst => (pk x lb s.name s.version).quiet2 (an 0 rfl) (an 1 rfl) hst)) ?_
   refine aA rfl (aNn (aSR (aM rfl (aU rfl (cQ rfl rfl) (aNn ?_)))))
   refine ah _ rfl (fun h5 => ?_) (fun h5 => ?_)
   ·skip
    have c5 : cK x.ifs.l s.name s.version ≥ 0 := by simpa using h5
    refine aSR (aM rfl ?_)
    refine aU rfl (dF (l := [(0, .const (.int .i64 4)), (3, .tmp 82), (4, .const (.int .i64 6))]) (zs := [.int .i64 0, .int .i64 0, .int .i64 0, .int .i64 0, .int .i64 0, .bool false]) (pl := [(0, 1), (1, 1), (2, 1), (3, 1), (4, 1), (5, 1)]) (by kernel_rfl) (by kernel_rfl) (by kernel_rfl) rfl rfl rfl) ?_
    refine al rfl (aW 2 tk65 rfl rfl rfl rfl ?_)
    refine aH (by (try simp only [nK, nL]); rfl) ?_
    refine aA rfl (aNn (aj (aO ?_)))
    refine fh [] [] rfl Tryz.results38 (cT 2 tk65 rfl rfl rfl) (dz rfl) ?_ (.inr rfl)
    have hC : cr x.kp.l L SV (cK x.ifs.l) x.lib ⟨⟨i, k⟩, s⟩ = some ⟨4, 0, 0, cK x.ifs.l s.name s.version, 6, false⟩ := by unfold cr; rw [if_neg c1]; dsimp only; rw [he]; dsimp only; rw [if_pos c5]
    exact ⟨rfl, rfl, (⟨4, 0, 0, cK x.ifs.l s.name s.version, 6, false⟩ : aT), by rw [hC]; rfl, by rw [hC]; rfl⟩
   ·skip
    have c5 : ¬ cK x.ifs.l s.name s.version ≥ 0 := by simpa using h5
    refine au (aw (az (ax (aSR ?_))))
    refine aU rfl (aa (off := 6) (by kernel_rfl) rfl) ?_
    refine aU rfl (ae 1 tk3 rfl rfl rfl) (aU rfl (cN rfl rfl) (aA rfl (aNn ?_)))
    refine ah _ rfl (fun h6 => ?_) (fun h6 => ?_)
    ·skip
     have c6 : s.sec ≠ -1 := by simpa using h6
     refine aSR ?_
     refine aU rfl (dF (l := []) (zs := [.int .i64 0, .int .i64 0, .int .i64 0, .int .i64 0, .int .i64 0, .bool false]) (pl := [(0, 1), (1, 1), (2, 1), (3, 1), (4, 1), (5, 1)]) (by kernel_rfl) (by kernel_rfl) (by kernel_rfl) rfl rfl rfl) ?_
     refine al rfl (aW 2 tk65 rfl rfl rfl rfl ?_)
     refine aH (by (try simp only [nK, nL]); rfl) ?_
     refine aA rfl (aNn (aj (bC (aO ?_))))
     refine fh [] [] rfl Tryz.results38 (cT 2 tk65 rfl rfl rfl) (dz rfl) ?_ (.inr rfl)
     have hC : cr x.kp.l L SV (cK x.ifs.l) x.lib ⟨⟨i, k⟩, s⟩ = some ga := by unfold cr; rw [if_neg c1]; dsimp only; rw [he]; dsimp only; rw [if_neg c5, if_pos c6]
     exact ⟨rfl, rfl, ga, by rw [hC]; rfl, by rw [hC]; rfl⟩
    ·skip
     have c6 : ¬ s.sec ≠ -1 := by simpa using h6
     refine aSR ?_
     refine aU rfl (aa (off := 3) (by kernel_rfl) rfl) ?_
     refine aU rfl (ae 1 tk3 rfl rfl rfl) (aU rfl (bK rfl rfl) (aA rfl (aNn ?_)))
     refine ah _ rfl (fun h7 => ?_) (fun h7 => ?_)
     ·skip
      have c7 : s.bind = 2 := by simpa using h7
      refine aSR ?_
      refine aU rfl (dF (l := [(0, .const (.int .i64 5)), (4, .const (.int .i64 7))]) (zs := [.int .i64 0, .int .i64 0, .int .i64 0, .int .i64 0, .int .i64 0, .bool false]) (pl := [(0, 1), (1, 1), (2, 1), (3, 1), (4, 1), (5, 1)]) (by kernel_rfl) (by kernel_rfl) (by kernel_rfl) rfl rfl rfl) ?_
      refine al rfl (aW 2 tk65 rfl rfl rfl rfl ?_)
      refine aH (by (try simp only [nK, nL]); rfl) ?_
      refine aA rfl (aNn (aj (bC (aO ?_))))
      refine fh [] [] rfl Tryz.results38 (cT 2 tk65 rfl rfl rfl) (dz rfl) ?_ (.inr rfl)
      have hC : cr x.kp.l L SV (cK x.ifs.l) x.lib ⟨⟨i, k⟩, s⟩ = some ⟨5, 0, 0, 0, 7, false⟩ := by unfold cr; rw [if_neg c1]; dsimp only; rw [he]; dsimp only; rw [if_neg c5, if_neg c6, if_pos c7]
      exact ⟨rfl, rfl, (⟨5, 0, 0, 0, 7, false⟩ : aT), by rw [hC]; rfl, by rw [hC]; rfl⟩
     ·skip
      have c7 : ¬ s.bind = 2 := by simpa using h7
      refine au (bL (aw (aSR ?_)))
      refine aU rfl (dF (l := []) (zs := [.int .i64 0, .int .i64 0, .int .i64 0, .int .i64 0, .int .i64 0, .bool false]) (pl := [(0, 1), (1, 1), (2, 1), (3, 1), (4, 1), (5, 1)]) (by kernel_rfl) (by kernel_rfl) (by kernel_rfl) rfl rfl rfl) ?_
      refine al rfl (aW 2 tk65 rfl rfl rfl rfl ?_)
      refine aH (by (try simp only [nK, nL]); rfl) ?_
      refine aA rfl (aNn (aj ?_))
      refine fh [] [] rfl Tryz.results38 (cT 2 tk65 rfl rfl rfl) (dz rfl) ?_ (.inr rfl)
      have hC : cr x.kp.l L SV (cK x.ifs.l) x.lib ⟨⟨i, k⟩, s⟩ = none := by unfold cr; rw [if_neg c1]; dsimp only; rw [he]; dsimp only; rw [if_neg c5, if_neg c6, if_neg c7]
      exact ⟨rfl, rfl, ga, by rw [hC]; rfl, by rw [hC]; rfl⟩
end Go.Proofs.YtgmiihmahaahiaaGreatDoor

namespace Go.Proofs.YtgmiihmahaahiaaGreatDoor
open Go.RowKit Go.Lp Go.Sy
open Go.Proofs.Tryz
attribute [local irreducible] aL aB awp aC fwp
structure BS where
 mC : Nat → Option (Sl aT)
 fa : aD × Bool
def gU (m : Nat → Option (Sl aT)) (n : Nat) : List (List D) := (List.range n).map fun i => [.v (slV (ct m i))]
structure iV (ch : Dfn → Option aT) (M : List Dfn) (st : BS) : Prop where
 rows : ∀ i : Nat, (ct st.mC i).l = (M.filter fun d => decide (d.p.obj = (i : Int))).map fun d => (ch d).getD ga
 tw : (M.find? fun d => decide (ch d = none)).map (·.p) = if st.fa.2 = true then some st.fa.1 else none
abbrev rf (vo : Value) (a b n : Nat) (st : BS) : List Res :=
 [bH vo 66 1 (gU st.mC n), dP 65 6 aT.row st.mC, Box a 34 st.fa.1.vs, Box b 4 [.bool st.fa.2]]
theorem fI (m : Nat → Option (Sl aT)) (n : Nat) : (gU m n).length = n := by simp [gU]
theorem gB (m : Nat → Option (Sl aT)) {n i : Nat} (h : i < n) : (gU m n)[i]? = some [.v (slV (ct m i))] := by simp [gU, h]
theorem pn (m : Nat → Option (Sl aT)) (n i : Nat) (s : Sl aT) : (gU m n).set i [.v (slV s)] = gU (cE m i s) n := by
 apply List.ext_getElem?
 intro j
 rw [List.getElem?_set]
 by_cases hj : j < n
 · rw [gB _ hj, gB _ hj, iU, fI]
   by_cases h : i = j
   · subst h; rw [if_pos rfl, if_pos hj, if_pos rfl]
   · rw [if_neg h, if_neg (Ne.symm h)]
 · have h1 : (gU m n)[j]? = none := List.getElem?_eq_none (by rw [fI]; omega)
   have h2 : (gU (cE m i s) n)[j]? = none := List.getElem?_eq_none (by rw [fI]; omega)
   rw [h1, h2, fI]
   by_cases h : i = j
   · subst h; rw [if_pos rfl, if_neg hj]
   · rw [if_neg h]
theorem iV.start (ch : Dfn → Option aT) (p : aD) : iV ch [] ⟨fun _ => none, (p, false)⟩ := ⟨fun _ => rfl, rfl⟩
theorem iV.step {ch : Dfn → Option aT} {M : List Dfn} {st : BS} (h : iV ch M st) {d : Dfn} {i : Nat} (hi : d.p.obj = (i : Int)) (hA : Asc (M ++ [d])) {s : Sl aT} (hs : s.l = (ct st.mC i).l ++ [(ch d).getD ga]) {fa : aD × Bool}
   (hf : fa = if ch d = none then dM st.fa d.p else st.fa) : iV ch (M ++ [d]) ⟨cE st.mC i s, fa⟩ where
 rows j := by
   rw [iU, List.filter_append, List.map_append]
   by_cases hj : j = i
   · subst hj
     rw [if_pos rfl, hs, h.rows]
     have : [d].filter (fun d => decide (d.p.obj = (j : Int))) = [d] := by simp [hi]
     rw [this]; rfl
   · rw [if_neg hj, h.rows]
     have : [d].filter (fun d => decide (d.p.obj = (j : Int))) = [] := by
       rw [List.filter_cons_of_neg (by rw [decide_eq_true_eq, hi]; omega)]; rfl
     rw [this]; simp
 tw := by
   show _ = if fa.2 = true then some fa.1 else none
   rw [List.find?_append, Option.map_or, h.tw, hf]
   by_cases hc : ch d = none
   · rw [if_pos hc, List.find?_cons_of_pos (by rw [decide_eq_true_eq]; exact hc)]
     unfold dM
     cases hb : st.fa.2 with
     | false => simp
     | true =>
       have := h.tw
       rw [if_pos hb, Option.map_eq_some_iff] at this
       obtain ⟨e, he, hp⟩ := this
       have hlt := (List.pairwise_append.1 hA).2.2 e (List.mem_of_find?_eq_some he) d (List.mem_singleton.2 rfl)
       rw [hp] at hlt
       have : ¬ ltC d.p st.fa.1 := fun h => ek _ (er h hlt)
       simp [this, hb]
   · rw [if_neg hc, List.find?_cons_of_neg (by rw [decide_eq_true_eq]; exact hc)]
     simp
theorem tu (x : cg) (hok : gG x.objs.l x.kp.l) (lb bl bo : Nat) (L : List Dfn) (st : CS) (mM : ByteArray → Option aD) (hF : j6 x L st mM) (SV : ByteArray → ByteArray → Bool) (hSV : ∀ p q, SV p q = true ↔ Srv x.vs.l p q) (vo : Value) (a b : Nat) (M : List Dfn) (d : Dfn) (hd : InD x.objs.l d) (hlen : M.length < 70) (hpre : ∃ N, bQ x.objs.l = (M ++ [d]) ++ N)
   (t : BS) (hI : iV (cr x.kp.l L SV (cK x.ifs.l) x.lib) M t) :
   Con Tryz.prog 37 [d.p.val, d.s.val, .pointer (some ⟨bl, 0, none⟩), .pointer (some ⟨a, 0, none⟩), .pointer (some ⟨b, 0, none⟩), .pointer (some ⟨bo, 0, none⟩)] [At bl 0 [.v (.pointer (some ⟨lb, 0, none⟩))], At bo 0 [.v vo], At lb 0 x.row, x.ok, x.fin L st mM] (rf vo a b x.objs.l.length t)
     fun _ ps hp => ps = [] ∧ ∃ y, iV (cr x.kp.l L SV (cK x.ifs.l) x.lib) (M ++ [d]) y ∧ hp = rf vo a b x.objs.l.length y := by
 obtain ⟨i, k, hi, hk, hpd⟩ := hd
 have hpo : d.p.obj = (i : Int) := by rw [hpd]
 refine Con.conv (R := fun _ ps hp => ps = [] ∧ ∃ (s : Sl aT) (fa : aD × Bool) (v : Value) (rows : List (List D)), iV (cr x.kp.l L SV (cK x.ifs.l) x.lib) (M ++ [d]) ⟨cE t.mC i s, fa⟩ ∧ v = s.val ∧ rows = s.l.map aT.row ∧
   hp = [bH vo 66 1 (gU (cE t.mC i s) x.objs.l.length), dP 65 6 aT.row (lB t.mC i), Box a 34 fa.1.vs, Box b 4 [.bool fa.2], bH v 65 6 rows]) ?_ fun _ ps' hp' ⟨h1, s, fa, v, rows, hc, hv, hr, h⟩ => ?_
 rotate_left
 · subst h1 h
   refine ⟨_, _, (StE.put (row := aT.row) 1 4 i s rfl rfl hv hr (gJ _ _) rfl).trans (StE.keep [] [0, 1, 2, 3] rfl), rfl, ⟨cE t.mC i s, fa⟩, hc, ?_⟩
   rw [ix]; rfl
 have hA : Asc (M ++ [d]) := by
   obtain ⟨N, hN⟩ := hpre
   have := fo x.objs.l x.objs.l.length
   rw [show cI x.objs.l x.objs.l.length = bQ x.objs.l from rfl, hN] at this
   exact (List.pairwise_append.1 this).1
 have hlC : ((ct t.mC i).l).length ≤ 70 := by
   rw [hI.rows, List.length_map]
   exact Nat.le_trans (List.length_filter_le _ _) (by omega)
 refine Con.enter Tryz.func37 rfl (by simp [Tryz.ntmps37]) ?_
 show awp _ _ _ _ ⟨[(0, true, _), (1, true, _), (2, true, _), (3, true, _), (4, true, _), (5, true, _)], _, _⟩
 refine aSR ?_
 refine al (q := true) rfl (bO rfl rfl rfl (fun b0_0 => ?_))
 refine aH (by (try simp only [nM, nN]); rfl) ?_
 refine al (q := true) rfl (bO rfl rfl rfl (fun b0_1 => ?_))
 refine aH (by (try simp only [nM, nN]); rfl) ?_
 refine aNn (aSR (aU rfl (aK (o := 0) tk101 rfl (.of (an 0 rfl)) rfl) (aU rfl (ae 4 tk34 rfl rfl rfl) (aU rfl (ae 5 tk63 rfl rfl rfl) ?_))))
 refine al (q := true) rfl (bF [2, 1, 0] [] (by kernel_rfl) rfl rfl rfl rfl (rz x hok lb L st mM hF SV hSV d ⟨i, k, hi, hk, hpd⟩) ?_)
 rintro _ _ _ ⟨rfl, rfl, c, rfl, hc⟩
 refine cB (by (try simp only [nM, nN]); rfl) (by (try simp only [aV, place, Nat.reduceBEq, if_true, if_false, reduceIte, Nat.reduceAdd, nW]); rfl) ?_
 refine aM rfl (aU rfl (aJ rfl rfl) (aU rfl (aJ rfl rfl) ?_))
 refine al (q := true) rfl (bp (zs := [.int .i64 0, .int .i64 0, .int .i64 0, .int .i64 0, .int .i64 0, .bool false]) (by kernel_rfl) rfl (fun b1_7 => ?_))
 refine aH (by (try simp only [nM, nN]); rfl) ?_
 refine al rfl (aW 6 tk65 rfl rfl rfl rfl ?_)
 refine aH (by (try simp only [nK, nL]); rfl) ?_
 refine aA rfl (aNs (aSR (aM rfl (aU rfl (cm rfl) (aNn ?_)))))
 refine ah _ rfl (fun h1 => ?_) (fun h1 => ?_)
 ·skip
  have hcn : cr x.kp.l L SV (cK x.ifs.l) x.lib d = none := by
    cases hh : cr x.kp.l L SV (cK x.ifs.l) x.lib d with
    | none => rfl
    | some c => rw [hh] at h1; cases h1
  refine ai (aU rfl (ae 4 tk34 rfl rfl rfl) ?_)
  refine al (q := false) rfl (bF [] [2, 3] (by kernel_rfl) rfl rfl rfl rfl (iC a b t.fa d.p) ?_)
  rintro _ _ _ ⟨rfl, rfl⟩
  refine cB (by (try simp only [nM, nN]); rfl) (by (try simp only [aV, place, Nat.reduceBEq, if_true, if_false, reduceIte, Nat.reduceAdd, nW]); rfl) ?_
  refine aNn (fK (row := aT.row) 1 i rfl ?_)
  refine dQ [10, 12] [12] [b0_0, b1_7] (by kernel_rfl) ?_
  show aC _ _ _ _ _ _ _ 13 #[false, false, false, false, false, false, false, false, false, false, false, false, false] _
  refine bD 0 rfl (by kernel_rfl) true rfl rfl (fun _ => aK (o := 0) tk31 rfl (.of (an 1 rfl)) rfl) ?_
  refine bD 1 rfl (by kernel_rfl) true rfl rfl (fun _ => aa (off := 0) (by kernel_rfl) rfl) ?_
  refine ez 2 4 rfl (by kernel_rfl) true rfl rfl (by simp) tk3 (fun _ => rfl) rfl rfl ?_
  refine bD 3 rfl (by kernel_rfl) true rfl rfl (fun _ => aK (o := 0) tk31 rfl (.of (an 1 rfl)) rfl) ?_
  refine bD 4 rfl (by kernel_rfl) true rfl rfl (fun _ => aa (off := 0) (by kernel_rfl) rfl) ?_
  refine ez 5 4 rfl (by kernel_rfl) true rfl rfl (by simp) tk3 (fun _ => rfl) rfl rfl ?_
  refine kY 6 rfl (by kernel_rfl) true rfl rfl (fun _ => dU 0 i el31 rfl rfl rfl hpo (by rw [fI]; exact hi)) ?_
  refine kY 7 rfl (by kernel_rfl) true rfl rfl (fun _ => ej 0 i 0 tk66 rfl rfl (gB _ hi) rfl rfl) ?_
  refine ez 8 6 rfl (by kernel_rfl) true rfl rfl (by simp) tk65 (fun _ => rfl) rfl rfl ?_
  refine aY 9 [] (by kernel_rfl) (aI ?_ aP)
  refine bd 9 rfl rfl (Eff.x ?_)
  refine id (cz (zs := [.int .i64 0, .int .i64 0, .int .i64 0, .int .i64 0, .int .i64 0, .bool false]) (l := [(0, .tmp 29)]) el66 (by kernel_rfl) (by decide) (by decide) (by decide) rfl rfl rfl (.more rfl (.v rfl (.v rfl (.v rfl (.v rfl (.v rfl (.v rfl .nil)))))) .nil) rfl rfl (fun v4_9 => ?_))
  refine bt (by (try simp only [nO, nK, nL]); rfl) (by (try simp only [nM, nN]); rfl) (by (try simp only [aX, nQ, nR, aV, place, Nat.reduceBEq, if_true, if_false, reduceIte, Nat.reduceAdd, nW]); rfl) ?_
  refine aY 10 [] (by kernel_rfl) (aI ?_ aP)
  refine bd 10 rfl rfl (Eff.framed (q := false) [7, 8] rfl rfl (cY 4 rfl rfl (cY 6 rfl rfl eb)) ?_)
  refine id (bX 0 el66 rfl rfl rfl rfl (cH 1 el66 rfl (by simp)) (by first | assumption | simp) (by show ((ct t.mC i).l.map aT.row).length + 1 ≤ _; rw [List.length_map]; exact Nat.le_trans (Nat.add_le_add_right hlC 1) (by decide)) (((ct t.mC i).l ++ [c]).length) (by show ((ct t.mC i).l.map aT.row).length + 1 = _; rw [List.length_map, List.length_append]; rfl) (fun v4_10 c4_10 => ?_))
  refine dg ?_
  refine bt (by (try simp only [nO, nK, nL]); rfl) (by (try simp only [nM, nN]); rfl) (by (try simp only [aX, nQ, nR, aV, place, Nat.reduceBEq, if_true, if_false, reduceIte, Nat.reduceAdd, nW]); rfl) ?_
  refine kY 11 rfl (by kernel_rfl) true rfl rfl (fun _ => dU 0 i el31 rfl rfl rfl hpo (by rw [fI]; exact hi)) ?_
  refine aY 12 [] (by kernel_rfl) (aI ?_ aP)
  refine bd 12 rfl rfl (Eff.wild (q := false) ?_)
  refine gH 0 i 0 tk66 rfl rfl rfl (gB _ hi) rfl (.v rfl .nil) rfl (by decide) ?_
  refine bt (by (try simp only [nO, nK, nL]); rfl) (by (try simp only [nM, nN]); rfl) (by (try simp only [aX, nQ, nR, aV, place, Nat.reduceBEq, if_true, if_false, reduceIte, Nat.reduceAdd, nW]); rfl) ?_
  refine db (by kernel_rfl) ?_
  refine gZ [] [0, 1, 2, 3, 7] rfl Tryz.results37 ?_ (.inl rfl)
  exact ⟨rfl, ⟨v4_10, c4_10, (ct t.mC i).l ++ [c]⟩, _, _, _, hI.step hpo hA (by rw [hc]) (by rw [if_pos hcn]), rfl, (by rw [List.map_append]), by rw [← pn]; rfl⟩
 ·skip
  have hcn : ¬ cr x.kp.l L SV (cK x.ifs.l) x.lib d = none := fun hh => by rw [hh] at h1; cases h1
  refine au (aw (fK (row := aT.row) 1 i rfl ?_))
  refine dQ [10, 12] [12] [b0_0, b1_7] (by kernel_rfl) ?_
  show aC _ _ _ _ _ _ _ 13 #[false, false, false, false, false, false, false, false, false, false, false, false, false] _
  refine bD 0 rfl (by kernel_rfl) true rfl rfl (fun _ => aK (o := 0) tk31 rfl (.of (an 1 rfl)) rfl) ?_
  refine bD 1 rfl (by kernel_rfl) true rfl rfl (fun _ => aa (off := 0) (by kernel_rfl) rfl) ?_
  refine ez 2 4 rfl (by kernel_rfl) true rfl rfl (by simp) tk3 (fun _ => rfl) rfl rfl ?_
  refine bD 3 rfl (by kernel_rfl) true rfl rfl (fun _ => aK (o := 0) tk31 rfl (.of (an 1 rfl)) rfl) ?_
  refine bD 4 rfl (by kernel_rfl) true rfl rfl (fun _ => aa (off := 0) (by kernel_rfl) rfl) ?_
  refine ez 5 4 rfl (by kernel_rfl) true rfl rfl (by simp) tk3 (fun _ => rfl) rfl rfl ?_
  refine kY 6 rfl (by kernel_rfl) true rfl rfl (fun _ => dU 0 i el31 rfl rfl rfl hpo (by rw [fI]; exact hi)) ?_
  refine kY 7 rfl (by kernel_rfl) true rfl rfl (fun _ => ej 0 i 0 tk66 rfl rfl (gB _ hi) rfl rfl) ?_
  refine ez 8 6 rfl (by kernel_rfl) true rfl rfl (by simp) tk65 (fun _ => rfl) rfl rfl ?_
  refine aY 9 [] (by kernel_rfl) (aI ?_ aP)
  refine bd 9 rfl rfl (Eff.x ?_)
  refine id (cz (zs := [.int .i64 0, .int .i64 0, .int .i64 0, .int .i64 0, .int .i64 0, .bool false]) (l := [(0, .tmp 29)]) el66 (by kernel_rfl) (by decide) (by decide) (by decide) rfl rfl rfl (.more rfl (.v rfl (.v rfl (.v rfl (.v rfl (.v rfl (.v rfl .nil)))))) .nil) rfl rfl (fun v4_9 => ?_))
  refine bt (by (try simp only [nO, nK, nL]); rfl) (by (try simp only [nM, nN]); rfl) (by (try simp only [aX, nQ, nR, aV, place, Nat.reduceBEq, if_true, if_false, reduceIte, Nat.reduceAdd, nW]); rfl) ?_
  refine aY 10 [] (by kernel_rfl) (aI ?_ aP)
  refine bd 10 rfl rfl (Eff.framed (q := false) [7, 8] rfl rfl (cY 4 rfl rfl (cY 6 rfl rfl eb)) ?_)
  refine id (bX 0 el66 rfl rfl rfl rfl (cH 1 el66 rfl (by simp)) (by first | assumption | simp) (by show ((ct t.mC i).l.map aT.row).length + 1 ≤ _; rw [List.length_map]; exact Nat.le_trans (Nat.add_le_add_right hlC 1) (by decide)) (((ct t.mC i).l ++ [c]).length) (by show ((ct t.mC i).l.map aT.row).length + 1 = _; rw [List.length_map, List.length_append]; rfl) (fun v4_10 c4_10 => ?_))
  refine dg ?_
  refine bt (by (try simp only [nO, nK, nL]); rfl) (by (try simp only [nM, nN]); rfl) (by (try simp only [aX, nQ, nR, aV, place, Nat.reduceBEq, if_true, if_false, reduceIte, Nat.reduceAdd, nW]); rfl) ?_
  refine kY 11 rfl (by kernel_rfl) true rfl rfl (fun _ => dU 0 i el31 rfl rfl rfl hpo (by rw [fI]; exact hi)) ?_
  refine aY 12 [] (by kernel_rfl) (aI ?_ aP)
  refine bd 12 rfl rfl (Eff.wild (q := false) ?_)
  refine gH 0 i 0 tk66 rfl rfl rfl (gB _ hi) rfl (.v rfl .nil) rfl (by decide) ?_
  refine bt (by (try simp only [nO, nK, nL]); rfl) (by (try simp only [nM, nN]); rfl) (by (try simp only [aX, nQ, nR, aV, place, Nat.reduceBEq, if_true, if_false, reduceIte, Nat.reduceAdd, nW]); rfl) ?_
  refine db (by kernel_rfl) ?_
  refine gZ [] [0, 1, 2, 3, 7] rfl Tryz.results37 ?_ (.inl rfl)
  exact ⟨rfl, ⟨v4_10, c4_10, (ct t.mC i).l ++ [c]⟩, _, _, _, hI.step hpo hA (by rw [hc]) (by rw [if_neg hcn]), rfl, (by rw [List.map_append]), by rw [← pn]; rfl⟩
end Go.Proofs.YtgmiihmahaahiaaGreatDoor

namespace Go.Sy
open Go.RowKit Go.Lp
theorem vk {P : Program} {s : Sta} {fn : Func} {r r' r2 : ResultVar} {v v' v2 : Value} {R : Value → List Per → List Res → Prop} {e : Exit} (lp lh : List Nat) (ok : okH s.hp lh = true) (hr : fn.results = #[r, r', r2]) (h1 : RV P s r v) (h2 : RV P s r' v') (h3 : RV P s r2 v2) (h : R (.tuple #[v, v', v2]) (fD s.ps lp) (aX s.hp lh)) (he : e = .normal ∨ e = .ret) : kS P fn R e s :=
 ⟨he, .tuple #[v, v', v2], lp, lh, ok, fun a w S fp hst henv => by
   have h1 := h1 a w S fp hst henv
   have h2 := h2 a w S fp hst henv
   have h3 := h3 a w S fp hst henv
   cases r with
   | tmp t =>
     cases r' with
     | tmp u =>
       cases r2 with
       | tmp x => simp only [results, hr]; simp at h1 h2 h3; simp [h1, h2, h3]
       | cell b t => obtain ⟨ad, g1, g2⟩ := h3; simp only [results, hr]; simp at g1 h1 h2; simp [g1, g2, h1, h2, dL]
     | cell b t =>
       obtain ⟨ad, g1, g2⟩ := h2
       cases r2 with
       | tmp x => simp only [results, hr]; simp at g1 h1 h3; simp [g1, g2, h1, h3, dL]
       | cell b t => obtain ⟨ad', k1, k2⟩ := h3; simp only [results, hr]; simp at g1 h1 k1; simp [g1, g2, h1, k1, k2, dL]
   | cell b t =>
     obtain ⟨ad, g1, g2⟩ := h1
     cases r' with
     | tmp u =>
       cases r2 with
       | tmp x => simp only [results, hr]; simp at g1 h2 h3; simp [g1, g2, h2, h3, dL]
       | cell b t => obtain ⟨ad', k1, k2⟩ := h3; simp only [results, hr]; simp at g1 h2 k1; simp [g1, g2, h2, k1, k2, dL]
     | cell b t =>
       obtain ⟨ad', k1, k2⟩ := h2
       cases r2 with
       | tmp x => simp only [results, hr]; simp at g1 k1 h3; simp [g1, g2, k1, k2, h3, dL]
       | cell b t => obtain ⟨ad'', m1, m2⟩ := h3; simp only [results, hr]; simp at g1 k1 m1; simp [g1, g2, k1, k2, m1, m2, dL], h⟩
end Go.Sy
namespace Go.Proofs.YtgmiihmahaahiaaGreatDoor
open Go.RowKit Go.Lp Go.Sy
open Go.Proofs.Tryz
attribute [local irreducible] aL aB awp aC fwp
theorem StE.ents {ps ps' : List Per} {hp : List Res} (h : ∀ p ∈ ps', Ent ps p) : StE ps hp ps' hp := fun w S fp hst =>
 ⟨S, fp, ⟨fun p hp => h p hp w S hst.per, hst.res, hst.lt, hst.dj, hst.slt⟩, fun _ h => h, fun _ h => .inl h, fun _ h => h⟩
theorem oA (x : cg) (hok : gG x.objs.l x.kp.l) (lb : Nat) : Con Tryz.prog 35 [.pointer (some ⟨lb, 0, none⟩)] [At lb 0 x.row, x.ok]
   [cZ x.ball cj slV (fun _ => none : cU → Option (Sl aD)), dP 34 2 aD.row (fun _ => none : cU → Option (Sl aD)), cZ x.bch cj aD.val (fun _ => none : cU → Option aD), cZ x.bnm dH slV (fun _ => none : ByteArray → Option (Sl cU)), dP 157 2 gE (fun _ => none : ByteArray → Option (Sl cU)), cZ x.bmn dH aD.val (fun _ => none : ByteArray → Option aD)]
   fun r ps hp => ps = [] ∧ ∃ (st : CS) (at_ : aD) (mM : ByteArray → Option aD), gO x.kp.l (bQ x.objs.l) st ∧ r = .tuple #[.int .i64 (if (fj x.kp.l (bQ x.objs.l)).isSome then 4 else 0), at_.val] ∧ (∀ p, fj x.kp.l (bQ x.objs.l) = some p → at_ = p) ∧
     (fj x.kp.l (bQ x.objs.l) = none → ∀ n, mM n = (cS x.kp.l (bQ x.objs.l) n).head?.map (·.p)) ∧
     hp = [cZ x.ball cj slV st.mA, dP 34 2 aD.row st.mA, cZ x.bch cj aD.val (chP x.kp.l (bQ x.objs.l)), cZ x.bnm dH slV st.mN, dP 157 2 gE st.mN, cZ x.bmn dH aD.val mM] := pq x hok lb
theorem nz (x : cg) (hok : gG x.objs.l x.kp.l) (lb bl bo : Nat) (L : List Dfn) (st : CS) (mM : ByteArray → Option aD) (hF : j6 x L st mM) (SV : ByteArray → ByteArray → Bool) (hSV : ∀ p q, SV p q = true ↔ Srv x.vs.l p q) (vo : Value) (a b : Nat) :
   Con Tryz.prog 36 [.pointer (some ⟨lb, 0, none⟩), .func (.func 37) #[] #[.pointer (some ⟨bl, 0, none⟩), .pointer (some ⟨a, 0, none⟩), .pointer (some ⟨b, 0, none⟩), .pointer (some ⟨bo, 0, none⟩)]]
   [At bl 0 [.v (.pointer (some ⟨lb, 0, none⟩))], At bo 0 [.v vo], Go.Sy.fB gE st.mN, ShM x.bmn dH aD.val mM, ShM x.bnm dH slV st.mN, ShM x.bch cj aD.val (chP x.kp.l L), ShM x.ball cj slV st.mA, At lb 0 x.row, x.ok] (rf vo a b x.objs.l.length ⟨fun _ => none, (⟨0, 0⟩, false)⟩)
   fun _ ps hp => ps = [] ∧ ∃ t, iV (cr x.kp.l L SV (cK x.ifs.l) x.lib) (bQ x.objs.l) t ∧ hp = rf vo a b x.objs.l.length t := by
 refine (lN (I := iV (cr x.kp.l L SV (cK x.ifs.l) x.lib) []) (I' := iV (cr x.kp.l L SV (cK x.ifs.l) x.lib) (bQ x.objs.l)) (l := rf vo a b x.objs.l.length) (l' := rf vo a b x.objs.l.length) (x := ⟨fun _ => none, (⟨0, 0⟩, false)⟩)
   ((qa x hok.n hok.sy lb 37 [.pointer (some ⟨bl, 0, none⟩), .pointer (some ⟨a, 0, none⟩), .pointer (some ⟨b, 0, none⟩), .pointer (some ⟨bo, 0, none⟩)] (cw (At bl 0 [.v (.pointer (some ⟨lb, 0, none⟩))]) (cw (At bo 0 [.v vo]) (cw (At lb 0 x.row) (cw x.ok (x.fin L st mM))))) (fun M => mi (iV (cr x.kp.l L SV (cK x.ifs.l) x.lib) M) (rf vo a b x.objs.l.length)) (by kernel_rfl)
     fun M d hd hl hp => nf fun t ht => (tu x hok lb bl bo L st mM hF SV hSV vo a b M d hd hl hp t ht).pre fun p hp => ?_).pre fun p hp => ?_) (.start _ _))
 · simp only [List.mem_cons, List.not_mem_nil, or_false] at hp
   have h0 := Ent.of (List.mem_singleton.2 (rfl : cw (At bl 0 [.v (.pointer (some ⟨lb, 0, none⟩))]) (cw (At bo 0 [.v vo]) (cw (At lb 0 x.row) (cw x.ok (x.fin L st mM)))) = _))
   rcases hp with rfl | rfl | rfl | rfl | rfl
   · exact h0.left
   · exact h0.right.left
   · exact h0.right.right.left
   · exact h0.right.right.right.left
   · exact h0.right.right.right.right
 · simp only [List.mem_cons, List.not_mem_nil, or_false] at hp
   rcases hp with rfl | rfl | rfl
   · exact .of (an 7 rfl)
   · exact .of (an 8 rfl)
   · exact .mk2 (.of (an 0 rfl)) (.mk2 (.of (an 1 rfl)) (.mk2 (.of (an 7 rfl)) (.mk2 (.of (an 8 rfl)) (.mk2 (.of (an 6 rfl)) (.mk2 (.of (an 5 rfl)) (.mk2 (.of (an 4 rfl)) (.mk2 (.of (an 3 rfl)) (.of (an 2 rfl)))))))))
theorem qh {i : Int} {l : List bu} {d : Dfn} (h : d ∈ dy i l) : d.p.obj = i := by
 obtain ⟨k, _, hp⟩ := jA h; rw [hp]
theorem gz (os : List ar) (i : Nat) : ∀ n, (cI os n).filter (fun d => decide (d.p.obj = (i : Int))) = if i < n then dy (i : Int) (elt os (i : Int)).syms.l else []
 | 0 => by rw [if_neg (by omega)]; rfl
 | n + 1 => by
   rw [dE, List.filter_append, gz os i n]
   by_cases h : i = n
   · subst h
     rw [if_neg (by omega), if_pos (by omega), List.nil_append, List.filter_eq_self.2]
     exact fun d hd => by rw [decide_eq_true_eq]; exact qh hd
   · have : (dy (n : Int) (elt os (n : Int)).syms.l).filter (fun d => decide (d.p.obj = (i : Int))) = [] := by
       rw [List.filter_eq_nil_iff]
       exact fun d hd => by rw [decide_eq_true_eq, qh hd]; omega
     rw [this, List.append_nil]
     by_cases h2 : i < n
     · rw [if_pos h2, if_pos (by omega)]
     · rw [if_neg h2, if_neg (by omega)]
def fF (e : Option (Int × aD)) : Int := match e with
 | some (c, _) => c
 | none => 0
def qT (e : Option (Int × aD)) : aD := match e with
 | some (_, p) => p
 | none => ⟨0, 0⟩
abbrev chS (ad : Option Addr) (n : Nat) (m : Nat → Option (Sl aT)) : Sl (Sl aT) := ⟨ad, n, (List.range n).map (ct m)⟩
abbrev mkL (x : cg) (a b c d : Nat) : cg := ⟨x.objs, x.kp, x.lib, x.ifs, x.vs, a, b, c, d⟩
theorem vp (n : Nat) : gU (fun _ => none) n = List.replicate n [.v (.slice none 0 0)] := by
 unfold gU
 rw [List.eq_replicate_iff]
 refine ⟨by simp, fun r hr => ?_⟩
 obtain ⟨i, _, rfl⟩ := List.mem_map.1 hr; rfl
theorem jN (x : cg) (hok : gG x.objs.l x.kp.l) (SV : ByteArray → ByteArray → Bool) (hSV : ∀ p q, SV p q = true ↔ Srv x.vs.l p q) :
   Con Tryz.prog 13 [x.objs.val, x.kp.val, .bool x.lib, x.ifs.val, x.vs.val] [x.ok] [] (fun r ps hp => ps = [] ∧ ((∃ c p, cM x.kp.l (bQ x.objs.l) SV (cK x.ifs.l) x.lib = some (c, p) ∧ r = .tuple #[.slice none 0 0, .int .i64 c, p.val] ∧ hp = []) ∨
   (cM x.kp.l (bQ x.objs.l) SV (cK x.ifs.l) x.lib = none ∧ ∃ (ad : Option Addr) (t : BS), iV (cr x.kp.l (bQ x.objs.l) SV (cK x.ifs.l) x.lib) (bQ x.objs.l) t ∧ r = .tuple #[.slice ad x.objs.l.length x.objs.l.length, .int .i64 0, (⟨0, 0⟩ : aD).val] ∧
     hp = [bH (.slice ad x.objs.l.length x.objs.l.length) 66 1 (gU t.mC x.objs.l.length), dP 65 6 aT.row t.mC]))) := by
 refine Con.enter Tryz.func13 rfl (by simp [Tryz.ntmps13]) ?_
 show awp _ _ _ _ ⟨[(0, true, _), (1, true, _), (2, true, _), (3, true, _), (4, true, _)], _, _⟩
 refine aSR (aA rfl (aA rfl ?_))
 refine al (q := true) rfl (bp (zs := [.int .i64 0, .int .i64 0]) (by kernel_rfl) rfl (fun b0_2 => ?_))
 refine aH (by (try simp only [nM, nN]); rfl) ?_
 refine aNn (aSR (aM rfl (aM rfl (aM rfl (aM rfl (aM rfl ?_))))))
 refine al (q := true) rfl (dW (cj) ((slV : Sl aD → Value)) rfl (fun b1_5 => ?_))
 refine aH (by (try simp only [nM, nN]); rfl) ?_
 refine al (q := true) rfl (dW (cj) (aD.val) rfl (fun b1_6 => ?_))
 refine aH (by (try simp only [nM, nN]); rfl) ?_
 refine al (q := true) rfl (dW (dH) ((slV : Sl cU → Value)) rfl (fun b1_7 => ?_))
 refine aH (by (try simp only [nM, nN]); rfl) ?_
 refine al (q := true) rfl (dW (dH) (aD.val) rfl (fun b1_8 => ?_))
 refine aH (by (try simp only [nM, nN]); rfl) ?_
 refine aU rfl (dF (l := [(0, .tmp 19), (1, .tmp 20), (2, .tmp 21), (3, .tmp 22), (4, .tmp 23), (5, .tmp 24), (6, .tmp 25), (7, .tmp 26), (8, .tmp 27)]) (zs := [.slice none 0 0, .slice none 0 0, .bool false, .slice none 0 0, .slice none 0 0, .map none, .map none, .map none, .map none]) (pl := [(0, 1), (1, 1), (2, 1), (3, 1), (4, 1), (5, 1), (6, 1), (7, 1), (8, 1)]) (by kernel_rfl) (by kernel_rfl) (by kernel_rfl) rfl rfl rfl) ?_
 refine al (q := true) rfl (bO rfl rfl rfl (fun b1_10 => ?_))
 refine aH (by (try simp only [nM, nN]); rfl) ?_
 refine al (q := true) rfl (bp (zs := [.pointer none]) (by kernel_rfl) rfl (fun b1_11 => ?_))
 refine aH (by (try simp only [nM, nN]); rfl) ?_
 refine al rfl (aW 6 tk101 rfl rfl rfl rfl ?_)
 refine aH (by (try simp only [nK, nL]); rfl) ?_
 refine aNs (az (ik cU 34 2 aD.row (ik ByteArray 157 2 gE ?_)))
 show awp _ _ _ _ ⟨_, _, [_, _, _, _, _, _, _, _, _]⟩
 refine bT 5 rfl rfl ?_
 show awp _ _ _ _ ⟨_, At _ 0 _ :: _, _⟩
 refine ai (aU rfl (ae 6 tk101 rfl rfl rfl) ?_)
 refine al (q := false) rfl (bF [1, 0] [1, 7, 2, 3, 8, 4] (by kernel_rfl) rfl rfl rfl rfl (oA (mkL x b1_5 b1_6 b1_7 b1_8) hok b1_10) ?_)
 rintro _ _ _ ⟨rfl, st, at_, mM, hI, rfl, hat, hmm, rfl⟩
 refine cB (by (try simp only [nM, nN]); rfl) (by (try simp only [aV, place, Nat.reduceBEq, if_true, if_false, reduceIte, Nat.reduceAdd, nW]); rfl) ?_
 refine aM rfl (aU rfl (aJ rfl rfl) (aU rfl (aJ rfl rfl) ?_))
 refine al (q := true) rfl (bp (zs := [.int .i64 0, .int .i64 0]) (by kernel_rfl) rfl (fun b2_5 => ?_))
 refine aH (by (try simp only [nM, nN]); rfl) ?_
 refine aA rfl ?_
 refine al rfl (aW 9 tk34 rfl rfl rfl rfl ?_)
 refine aH (by (try simp only [nK, nL]); rfl) ?_
 refine aNn (aSR (aM rfl (aU rfl (cN rfl rfl) (aNn ?_))))
 refine ah _ rfl (fun h1 => ?_) (fun h1 => ?_)
 ·skip
  have hce : ∃ p, fj x.kp.l (bQ x.objs.l) = some p := by
    cases hc : fj x.kp.l (bQ x.objs.l) with
    | some p => exact ⟨p, rfl⟩
    | none => exfalso; simp [hc] at h1
  obtain ⟨p, hce⟩ := hce
  obtain rfl := hat p hce
  have hb : cM x.kp.l (bQ x.objs.l) SV (cK x.ifs.l) x.lib = some (4, at_) := by
    unfold fj at hce
    unfold cM
    rw [Option.or_eq_some_iff] at hce
    rcases hce with h | ⟨h, h2⟩
    · rw [h]
    · rw [h]; dsimp only; rw [h2]
  refine az ?_
  refine dQ [4] [4] [b0_2, b2_5] (by kernel_rfl) ?_
  show aC _ _ _ _ _ _ _ 5 #[false, false, false, false, false] _
  refine bD 0 rfl (by kernel_rfl) true rfl rfl (fun _ => aq rfl) ?_
  refine ez 1 9 rfl (by kernel_rfl) true rfl rfl (by simp) tk34 (fun _ => rfl) rfl rfl ?_
  refine bD 2 rfl (by kernel_rfl) true rfl rfl (fun _ => bk rfl) ?_
  refine bD 3 rfl (by kernel_rfl) true rfl rfl (fun _ => bk rfl) ?_
  refine aY 4 [] (by kernel_rfl) (aI ?_ aP)
  refine bd 4 rfl rfl (Eff.wild (q := false) ?_)
  refine id (aW 0 tk34 rfl rfl rfl rfl ?_)
  refine bt (by (try simp only [nO, nK, nL]); rfl) (by (try simp only [nM, nN]); rfl) (by (try simp only [aX, nQ, nR, aV, place, Nat.reduceBEq, if_true, if_false, reduceIte, Nat.reduceAdd, nW]); rfl) ?_
  refine db (by kernel_rfl) ?_
  refine aw (aj (aO ?_))
  refine vk [] [] rfl Tryz.results13 (dz rfl) (dz rfl) (cT 0 tk34 rfl rfl rfl) ?_ (.inr rfl)
  exact ⟨rfl, .inl ⟨4, at_, hb, by rw [hce]; rfl, rfl⟩⟩
 ·skip
  have hce : fj x.kp.l (bQ x.objs.l) = none := by
    cases hc : fj x.kp.l (bQ x.objs.l) with
    | none => rfl
    | some p => exfalso; simp [hc] at h1
  obtain ⟨ht1, ht2⟩ : fN x.kp.l (bQ x.objs.l) = none ∧ ft x.kp.l (bQ x.objs.l) = none := by
    unfold fj at hce; rwa [Option.or_eq_none_iff] at hce
  have hF : j6 (mkL x b1_5 b1_6 b1_7 b1_8) (bQ x.objs.l) st mM := ⟨rfl, hI, hmm hce, ht2⟩
  refine au (aw (aSR (aM rfl (aU rfl (bq Tryz.underlying22 rfl) ?_))))
  refine al (q := true) rfl (oP (m := x.objs.l.length) (zs := [.slice none 0 0]) el31 (by kernel_rfl) rfl (by decide) (iv rfl (rfl)) (iv rfl (rfl)) (by have := hok.n; omega) rfl (fun v5_2 => ?_))
  refine aH (by (try simp only [nM, nN]); rfl) ?_
  refine al (q := true) rfl (bp (zs := [.slice none 0 0]) (by kernel_rfl) rfl (fun b5_3 => ?_))
  refine aH (by (try simp only [nM, nN]); rfl) ?_
  refine al rfl (aW 11 tk31 rfl rfl rfl rfl ?_)
  refine aH (by (try simp only [nK, nL]); rfl) ?_
  refine aNn (aSR ?_)
  refine al (q := true) rfl (bp (zs := [.int .i64 0, .int .i64 0]) (by kernel_rfl) rfl (fun b6_0 => ?_))
  refine aH (by (try simp only [nM, nN]); rfl) ?_
  refine aNn (aSR ?_)
  refine al (q := true) rfl (bp (zs := [.bool false]) (by kernel_rfl) rfl (fun b7_0 => ?_))
  refine aH (by (try simp only [nM, nN]); rfl) ?_
  refine al rfl (aW 13 tk4 rfl rfl rfl rfl ?_)
  refine aH (by (try simp only [nK, nL]); rfl) ?_
  refine aNs ?_
  refine eW 10 (bH _ _ 1 (gU (fun _ => none) x.objs.l.length)) rfl (fun _ _ _ h => by rw [vp]; exact h) ?_
  refine ik Nat 65 6 aT.row ?_
  refine fO 1 rfl (fO 2 rfl (fO 3 rfl (fO 4 rfl (mm 8 rfl (bT 11 rfl rfl (bT 6 rfl rfl ?_))))))
  show awp _ _ _ _ ⟨_, [At b1_11 0 _, At b5_3 0 _, _, _, _, _, _, _, _], [_, _, _, _, _, _, _, _, _, _, _, _, _, _, _]⟩
  refine ai (aU rfl (aK (o := 0) tk101 rfl (.of (an 0 rfl)) rfl) (aU rfl (dn (l := [.tmp 13, .tmp 17, .tmp 18, .tmp 16]) rfl) ?_))
  refine al (q := false) rfl (bF [8, 7, 6, 5, 4, 3, 2, 1, 0] [10, 14, 12, 13] (by kernel_rfl) rfl rfl rfl rfl (nz (mkL x b1_5 b1_6 b1_7 b1_8) hok b1_10 b1_11 b5_3 (bQ x.objs.l) st mM hF SV hSV (.slice v5_2 x.objs.l.length x.objs.l.length) b6_0 b7_0) ?_)
  rintro _ _ _ ⟨rfl, t, hT, rfl⟩
  refine cB (by (try simp only [nM, nN]); rfl) (by (try simp only [aV, place, Nat.reduceBEq, if_true, if_false, reduceIte, Nat.reduceAdd, nW]); rfl) ?_
  refine aNs (aSR (aU rfl (ae 13 tk4 rfl rfl rfl) (aNn ?_)))
  refine ah _ rfl (fun h2 => ?_) (fun h2 => ?_)
  ·skip
   have hb : cM x.kp.l (bQ x.objs.l) SV (cK x.ifs.l) x.lib = some (3, t.fa.1) := by
     have := hT.tw
     rw [if_pos h2] at this
     unfold cM; rw [ht1]; dsimp only; rw [ht2]; dsimp only
     show (i7 _ _ _ _ _).map _ = _
     unfold i7; rw [this]; rfl
   refine az ?_
   refine dQ [3] [3] [b0_2, b6_0] (by kernel_rfl) ?_
   show aC _ _ _ _ _ _ _ 4 #[false, false, false, false] _
   refine ez 0 12 rfl (by kernel_rfl) true rfl rfl (by simp) tk34 (fun _ => rfl) rfl rfl ?_
   refine bD 1 rfl (by kernel_rfl) true rfl rfl (fun _ => bk rfl) ?_
   refine bD 2 rfl (by kernel_rfl) true rfl rfl (fun _ => bk rfl) ?_
   refine aY 3 [] (by kernel_rfl) (aI ?_ aP)
   refine bd 3 rfl rfl (Eff.wild (q := false) ?_)
   refine id (aW 0 tk34 rfl rfl rfl rfl ?_)
   refine bt (by (try simp only [nO, nK, nL]); rfl) (by (try simp only [nM, nN]); rfl) (by (try simp only [aX, nQ, nR, aV, place, Nat.reduceBEq, if_true, if_false, reduceIte, Nat.reduceAdd, nW]); rfl) ?_
   refine db (by kernel_rfl) ?_
   refine aw (aj (aO ?_))
   refine vk [] [] rfl Tryz.results13 (dz rfl) (dz rfl) (cT 0 tk34 rfl rfl rfl) ?_ (.inr rfl)
   exact ⟨rfl, .inl ⟨3, t.fa.1, hb, rfl, rfl⟩⟩
  ·skip
   have hb : cM x.kp.l (bQ x.objs.l) SV (cK x.ifs.l) x.lib = none := by
     have := hT.tw
     rw [if_neg (by rw [h2]; decide)] at this
     unfold cM; rw [ht1]; dsimp only; rw [ht2]; dsimp only
     show (i7 _ _ _ _ _).map _ = _
     unfold i7; rw [this]; rfl
   refine au (aw (aSR (aU rfl (aK (o := 0) tk31 rfl (.of (an 1 rfl)) rfl) ?_)))
   refine aU rfl (dF (l := []) (zs := [.int .i64 0, .int .i64 0]) (pl := [(0, 1), (1, 1)]) (by kernel_rfl) (by kernel_rfl) (by kernel_rfl) rfl rfl rfl) ?_
   refine aA rfl (aA rfl ?_)
   refine al rfl (aW 0 tk34 rfl rfl rfl rfl ?_)
   refine aH (by (try simp only [nK, nL]); rfl) ?_
   refine aNn (aj ?_)
   refine vk [] [10, 14] rfl Tryz.results13 (dz rfl) (dz rfl) (cT 0 tk34 rfl rfl rfl) ?_ (.inr rfl)
   exact ⟨rfl, .inr ⟨hb, v5_2, t, hT, rfl, rfl⟩⟩
theorem uG (x : cg) (hok : gG x.objs.l x.kp.l) (SV : ByteArray → ByteArray → Bool) (hSV : ∀ p q, SV p q = true ↔ Srv x.vs.l p q) :
   Con Tryz.prog 13 [x.objs.val, x.kp.val, .bool x.lib, x.ifs.val, x.vs.val] [x.ok] [] fun r ps hp => hp = [] ∧ ∃ S : Sl (Sl aT), ps = [bW (ShF aT.row) S.l, ShF slR S] ∧
     r = .tuple #[S.val, .int .i64 (fF (cM x.kp.l (bQ x.objs.l) SV (cK x.ifs.l) x.lib)), (qT (cM x.kp.l (bQ x.objs.l) SV (cK x.ifs.l) x.lib)).val] ∧
     S.l.map (·.l) = if cM x.kp.l (bQ x.objs.l) SV (cK x.ifs.l) x.lib = none then hJ x.objs.l x.kp.l SV (cK x.ifs.l) x.lib else [] := by
 refine Con.conv (jN x hok SV hSV) fun r ps' hp' ⟨h1, h⟩ => ?_
 · subst h1
   rcases h with ⟨c, p, hb, rfl, rfl⟩ | ⟨hb, ad, t, hT, rfl, rfl⟩
   · refine ⟨_, _, StE.ents (ps' := [bW (ShF aT.row) [], ShF slR (⟨none, 0, []⟩ : Sl (Sl aT))]) fun q hq => ?_, rfl, ⟨none, 0, []⟩, rfl, by rw [hb]; rfl, by rw [hb, if_neg (by simp)]; rfl⟩
     simp only [List.mem_cons, List.not_mem_nil, or_false] at hq
     rcases hq with rfl | rfl
     · exact fun _ _ _ s hs => by cases hs
     · exact fun _ _ _ => .e none 0 (by unfold maxLen; omega)
   · have hl : (chS ad x.objs.l.length t.mC).l.length = x.objs.l.length := by simp
     refine ⟨_, _, ((StE.share 0 (Sh (.slice ad x.objs.l.length x.objs.l.length) (.sl (gU t.mC x.objs.l.length))) rfl fun _ _ _ h => et h).trans ((StE.share 1 (Go.Sy.fB aT.row t.mC) rfl fun _ _ _ h => kQ h).trans ((StE.keep [0, 1] [] rfl).trans (StE.ents (ps' := [bW (ShF aT.row) (chS ad x.objs.l.length t.mC).l, ShF slR (chS ad x.objs.l.length t.mC)]) fun q hq => ?_)))), rfl, chS ad x.objs.l.length t.mC, rfl, ?_, ?_⟩
     · simp only [List.mem_cons, List.not_mem_nil, or_false] at hq
       rcases hq with rfl | rfl
       · intro w S hp s hs
         obtain ⟨i, _, rfl⟩ := List.mem_map.1 hs
         exact Ent.ct (row := aT.row) (m := t.mC) (.of (an 1 rfl)) i w S hp
       · intro w S hp
         have := hp _ (an 0 rfl)
         show ei w S (.slice ad (chS ad x.objs.l.length t.mC).l.length x.objs.l.length) (.sl ((chS ad x.objs.l.length t.mC).l.map slR))
         rw [hl, List.map_map]; exact this
     · rw [hb]
       show _ = Value.tuple #[.slice ad (chS ad x.objs.l.length t.mC).l.length x.objs.l.length, _, _]
       rw [hl]; rfl
     · rw [if_pos hb]
       show List.map (fun s : Sl aT => s.l) ((List.range x.objs.l.length).map (ct t.mC)) = _
       rw [List.map_map]
       unfold hJ rC
       refine List.map_congr_left fun i hi => ?_
       show (ct t.mC i).l = _
       rw [hT.rows, show bQ x.objs.l = cI x.objs.l x.objs.l.length from rfl, gz, if_pos (List.mem_range.1 hi)]
end Go.Proofs.YtgmiihmahaahiaaGreatDoor

namespace Go.Proofs.YtgmiihmahaahiaaGreatDoor
open Go.RowKit Go.Lp Go.Sy Go.Sort
open Go.Proofs.Tryz
attribute [local irreducible] aL aB awp aC fwp
def tv (p q : cn) : Int := if kx p.name q.name ≠ 0 then kx p.name q.name else kx p.version q.version
theorem pF (a b : ByteArray) : kx a b < 0 ↔ sLt a b := by
 unfold kx
 split
 · simp [*]
 · split <;> simp [*]
theorem ub (a b : ByteArray) : kx a b = 0 ↔ a = b := by
 unfold kx
 rcases kK a b with h | h | h
 · rw [if_pos h]
   exact ⟨fun h => by omega, fun e => (gr b (e ▸ h)).elim⟩
 · subst h; rw [if_neg (gr _), if_neg (gr _)]; simp
 · rw [if_neg (mY h), if_pos h]
   exact ⟨fun h => by omega, fun e => (gr b (e ▸ h)).elim⟩
theorem pI (p q : cn) : tv p q < 0 ↔ kLt p.key q.key := by
 unfold tv kLt
 have h1 := pF p.name q.name
 have h2 := ub p.name q.name
 have h3 := pF p.version q.version
 show _ ↔ sLt p.name q.name ∨ p.name = q.name ∧ sLt p.version q.version
 rw [← h1, ← h2, ← h3]
 split <;> omega
theorem jH (p q : cn) : ltOf tv p q = decide (kLt p.key q.key) := by
 unfold ltOf; rw [Bool.eq_iff_iff, decide_eq_true_eq, decide_eq_true_eq, pI]
theorem vn : SWO (ltOf tv) where
 irrefl x := by rw [jH, decide_eq_false_iff_not]; exact xl _
 trans x y z h1 h2 := by rw [jH, decide_eq_true_eq] at *; exact nk h1 h2
 ntrans x y z h1 h2 := by
   rw [jH, decide_eq_false_iff_not] at *
   intro h
   rcases wH x.key y.key with h3 | h3 | h3
   · exact h1 h3
   · rw [h3] at h; exact h2 h
   · exact h2 (nk h3 h)
theorem wi (p q : cn) : Con Tryz.prog 43 [p.val, q.val] [] [] (fun r _ _ => r = .int .i64 (tv p q)) := by
 refine Con.enter Tryz.func43 rfl (by simp [Tryz.ntmps43]) ?_
 show awp _ _ _ _ ⟨[(0, true, _), (1, true, _)], _, _⟩
 refine aSR ?_
 refine al (q := true) rfl (bO rfl rfl rfl (fun b0_0 => ?_))
 refine aH (by (try simp only [nM, nN]); rfl) ?_
 refine al (q := true) rfl (bO rfl rfl rfl (fun b0_1 => ?_))
 refine aH (by (try simp only [nM, nN]); rfl) ?_
 refine aA rfl (aNs ?_)
 refine bn [11] (by kernel_rfl) ?_
 show aB _ _ _ _ _ 13 #[false, false, false, false, false, false, false, false, false, false, false, false, false] _
 refine bU 0 rfl (by kernel_rfl) rfl (aa (off := 0) (by kernel_rfl) rfl) ?_
 refine bU 1 rfl (by kernel_rfl) rfl (ae 0 tk9 rfl rfl rfl) ?_
 refine bU 2 rfl (by kernel_rfl) rfl (aa (off := 0) (by kernel_rfl) rfl) ?_
 refine bU 3 rfl (by kernel_rfl) rfl (ae 1 tk9 rfl rfl rfl) ?_
 refine bU 4 rfl (by kernel_rfl) rfl (bP (by kernel_rfl) rfl (fun w S fp hst => (ly _ _).quiet0 hst)) ?_
 refine bU 5 rfl (by kernel_rfl) rfl (aa (off := 1) (by kernel_rfl) rfl) ?_
 refine bU 6 rfl (by kernel_rfl) rfl (ae 0 tk9 rfl rfl rfl) ?_
 refine bU 7 rfl (by kernel_rfl) rfl (aa (off := 1) (by kernel_rfl) rfl) ?_
 refine bU 8 rfl (by kernel_rfl) rfl (ae 1 tk9 rfl rfl rfl) ?_
 refine bU 9 rfl (by kernel_rfl) rfl (bP (by kernel_rfl) rfl (fun w S fp hst => (ly _ _).quiet0 hst)) ?_
 refine bV (q := true) 10 rfl (by kernel_rfl) rfl rfl (cz (zs := [.int .i64 0]) (l := [(0, .tmp 9), (1, .tmp 14)]) el90 (by kernel_rfl) (by decide) (by decide) (by decide) rfl rfl rfl (.more rfl (.v rfl .nil) (.more rfl (.v rfl .nil) .nil)) rfl rfl (fun v1_10 => ?_))
 refine cq rfl (by (try simp only [nM, nN]); rfl) (by (try simp only [aV, place, Nat.reduceBEq, if_true, if_false, reduceIte, Nat.reduceAdd, nW]); rfl) ?_
 refine bV (q := false) 11 rfl (by kernel_rfl) rfl rfl (bF [] [2] (by kernel_rfl) rfl rfl rfl rfl ((sd (.slice v1_10 2 2) _ _).clean (φ := fun r => r = _) (fun _ _ _ h => h)) ?_)
 rintro _ _ _ ⟨rfl, rfl, rfl⟩
 refine cq rfl (by (try simp only [nM, nN]); rfl) (by (try simp only [aV, place, Nat.reduceBEq, if_true, if_false, reduceIte, Nat.reduceAdd, nW]); rfl) ?_
 refine bU 12 rfl (by kernel_rfl) rfl (bk rfl) ?_
 refine bS (by kernel_rfl) ?_
 refine aw (aj ?_)
 refine bc [] [] rfl Tryz.results43 rfl ?_ (.inr rfl)
 rfl
theorem tS (v : Value) (zs : List cn) (hz : zs.length ≤ 1000) : Con Tryz.prog 42 [v, .func (.func 43) #[] #[]] [] [bH v 46 7 (zs.map cn.row)]
   fun _ ps hp => ps = [] ∧ ∃ q : List cn, q.Perm zs ∧ (q.Pairwise fun a b => ¬ kLt b.key a.key) ∧ hp = [bH v 46 7 (q.map cn.row)] :=
 (mG (enc := cn.vs) Tryz.sortO (by decide) Tryz.isAgg46 Tryz.sizeOf46 (fun _ => rfl) (fun x v hv => by simp at hv; rcases hv with rfl | rfl | rfl | rfl | rfl | rfl | rfl <;> rfl) tv vn 43 (by kernel_rfl) (fun x y => wi x y) (T := 46) (v := v) zs (by omega)).post
   fun _ _ _ ⟨h1, q, h2, h3, h4⟩ => ⟨h1, q, h2, h3.imp fun h => by rw [pI] at h; exact h, h4⟩
def qI (S : List (Sl aT)) (L : List Dfn) (d : Dfn) : Bool :=
 (decide ((elt (elt S d.p.obj).l d.p.sym).kind = 2) || decide ((elt (elt S d.p.obj).l d.p.sym).kind = 3)) && (decide ((elt (elt S d.p.obj).l d.p.sym).obj = d.p.obj) && (decide ((elt (elt S d.p.obj).l d.p.sym).sym = d.p.sym) && decide (iJ L d.s.name ≠ 2)))
def iN (S : List (Sl aT)) (L M : List Dfn) : List cn := (M.filter (qI S L)).map yg
theorem tB (S : List (Sl aT)) (L M : List Dfn) (d : Dfn) : iN S L (M ++ [d]) = if qI S L d = true then iN S L M ++ [yg d] else iN S L M := by
 unfold iN
 rw [List.filter_append, List.map_append]
 by_cases h : qI S L d = true
 · rw [if_pos h, List.filter_cons_of_pos h]; rfl
 · rw [if_neg h, List.filter_cons_of_neg h]; simp
theorem pb (S : List (Sl aT)) (L M : List Dfn) : (iN S L M).length ≤ M.length := by
 unfold iN; rw [List.length_map]; exact List.length_filter_le _ _
theorem oa (os : Sl ar) (kp : List (Sl Bool)) (kv : Value) (hok : gG os.l kp) (S : Sl (Sl aT)) (hS : S.l.length = os.l.length) (hR : ∀ i : Nat, i < os.l.length → (elt S.l (i : Int)).l.length = (elt os.l (i : Int)).syms.l.length) :
   Con Tryz.prog 18 [os.val, kv, S.val] [ShF ar.row os, bW ar.ok os.l, bW (ShF aT.row) S.l, ShF slR S] [] fun r ps hp => ps = [] ∧ ∃ (v : Value) (q : List cn), r = v ∧ q.Perm (iN S.l (bQ os.l) (bQ os.l)) ∧ (q.Pairwise fun a b => ¬ kLt b.key a.key) ∧ hp = [bH v 46 7 (q.map cn.row)] := by
 have hfl := oO hok
 have hpre : ∀ (i k : Nat) (o : ar), i < os.l.length → elt os.l (i : Int) = o → k ≤ o.syms.l.length → (cI os.l i ++ dy (i : Int) (o.syms.l.take k)).length ≤ 70 := fun i k o hi ho hk => by
   obtain ⟨M, hM⟩ := kX os.l (i := i + 1) (n := os.l.length) (by omega)
   obtain ⟨M2, hM2⟩ := qo (i : Int) o.syms.l k
   have : bQ os.l = (cI os.l i ++ dy (i : Int) (o.syms.l.take k)) ++ (M2 ++ M) := by
     unfold bQ; rw [hM, dE, ho, hM2]; simp
   rw [this, List.length_append] at hfl; omega
 generalize hL : bQ os.l = L at hfl
 refine Con.enter Tryz.func18 rfl (by simp [Tryz.ntmps18]) ?_
 show awp _ _ _ _ ⟨[(0, true, _), (1, true, _), (2, true, _)], _, _⟩
 refine bf (.of (an 0 rfl)) (fun hlen => ?_)
 refine aSR (aA rfl (aNn (aSR (aA rfl ?_))))
 refine aNs (az (eZ 46 7 ?_))
 show awp _ _ _ _ ⟨_, _, [_]⟩
 refine ai (aM rfl (aU rfl (bq Tryz.underlying22 rfl) (aM rfl (aNn (ax (aZ [0, 2, 7, 13, 14, 15] [3, 2, 1, 0] [0] (fun (q : Nat × Value) st => q.1 ≤ os.l.length ∧ st = ⟨[(0, true, os.val), (2, true, S.val), (7, true, q.2), (13, true, os.val), (14, true, .int .i64 os.l.length), (15, true, .int .i64 q.1)], [ShF ar.row os, bW ar.ok os.l, bW (ShF aT.row) S.l, ShF slR S], [bH q.2 46 7 ((iN S.l L (cI os.l q.1)).map cn.row)]⟩) (fun q => os.l.length - q.1) rfl (⟨(0, _), Nat.zero_le _, rfl⟩) ?_))))))
 rintro ⟨i, v⟩ st ⟨hi, rfl⟩
 dsimp only at hi
 refine aSR (aU rfl (bJ rfl rfl) (aNs ?_))
 refine ah _ rfl (fun h1 => ?_) (fun h1 => ?_)
 ·skip
  have hi' : i < os.l.length := by simp at h1; omega
  have ho := bY hi'
  have hsi := bY (l := S.l) (i := i) (by omega)
  have hri := hR i hi'
  generalize hoo : elt os.l (i : Int) = o at ho hri
  refine au (aw (az (ax (aSR (aM rfl ?_)))))
  refine cF true rfl rfl (fun _ => av Tryz.underlying22 tk61 rfl ((.of (an 0 rfl))) rfl (aS ho) rfl rfl) (fun h => absurd h (by decide)) (fun ⟨b4_1, o4_1⟩ => ?_)
  refine aU rfl (aR (o := 0) tk61 rfl (an 0 rfl) rfl rfl) ?_
  refine al (q := true) rfl (bp (zs := [.string .empty, .slice none 0 0, .slice none 0 0, .slice none 0 0, .slice none 0 0, .slice none 0 0, .slice none 0 0, .slice none 0 0, .slice none 0 0, .slice none 0 0, .slice none 0 0]) (by kernel_rfl) rfl (fun b4_3 => ?_))
  refine aH (by (try simp only [nM, nN]); rfl) ?_
  refine aA rfl ?_
  refine al rfl (aW 1 tk61 rfl rfl rfl rfl ?_)
  refine aH (by (try simp only [nK, nL]); rfl) ?_
  refine aNs ?_
  refine bf (ar.f_syms (Ent.all (.of (an 2 rfl)) ho)) (fun hlen2 => ?_)
  refine ai ?_
  refine aU rfl (aa (off := 2) (by kernel_rfl) rfl) ?_
  refine aU rfl (ae 1 tk51 rfl rfl rfl) (aU rfl (bq Tryz.underlying51 rfl) (aM rfl (aNn (ax ?_))))
  refine aZ [0, 2, 7, 8, 13, 14, 15, 21, 22, 23] [3, 2, 1, 0] [0] (fun (q : Nat × Value) st => q.1 ≤ o.syms.l.length ∧ st = ⟨[(0, true, os.val), (2, true, S.val), (7, true, q.2), (8, true, .int .i64 i), (13, true, os.val), (14, true, .int .i64 os.l.length), (15, true, .int .i64 i), (21, true, o.syms.val), (22, true, .int .i64 o.syms.l.length), (23, true, .int .i64 q.1)], [ShF ar.row os, bW ar.ok os.l, bW (ShF aT.row) S.l, ShF slR S], [bH q.2 46 7 ((iN S.l L (cI os.l i ++ dy (i : Int) (o.syms.l.take q.1))).map cn.row)]⟩) (fun q => o.syms.l.length - q.1) rfl (⟨(0, v), Nat.zero_le _, by dsimp only; rw [List.take_zero, show dy (i : Int) [] = [] from rfl, List.append_nil]; rfl⟩) ?_
  rintro ⟨k, v2⟩ st ⟨hk, rfl⟩
  dsimp only at hk
  refine aSR (aU rfl (bJ rfl rfl) (aNs ?_))
  refine ah _ rfl (fun h2 => ?_) (fun h2 => ?_)
  ·skip
   have hk' : k < o.syms.l.length := by simp at h2; omega
   obtain ⟨s, hs'⟩ : ∃ s, o.syms.l[k]? = some s := ⟨_, List.getElem?_eq_getElem hk'⟩
   have hck := bY (l := (elt S.l (i : Int)).l) (i := k) (by omega)
   have hlM := hpre i k o hi' hoo hk
   have hst2 := pb S.l L (cI os.l i ++ dy (i : Int) (o.syms.l.take k))
   have hstep := tB S.l L (cI os.l i ++ dy (i : Int) (o.syms.l.take k)) ⟨⟨(i : Int), (k : Int)⟩, s⟩
   rw [List.append_assoc, ← iI hs'] at hstep
   refine au (aw (az (ax (aSR (aM rfl ?_)))))
   refine cF true rfl rfl (fun _ => av Tryz.underlying51 tk63 rfl ((ar.f_syms (Ent.all (.of (an 1 rfl)) ho))) rfl (aS hs') rfl rfl) (fun h => absurd h (by decide)) (fun ⟨b7_1, o7_1⟩ => ?_)
   refine aU rfl (aR (o := 0) tk63 rfl (an 0 rfl) rfl rfl) ?_
   refine al (q := true) rfl (bp (zs := [.string .empty, .string .empty, .bool false, .int .i64 0, .int .i64 0, .int .i64 0, .int .i64 0, .int .i64 0, .int .i64 0, .int .i64 0]) (by kernel_rfl) rfl (fun b7_3 => ?_))
   refine aH (by (try simp only [nM, nN]); rfl) ?_
   refine aA rfl ?_
   refine al rfl (aW 1 tk63 rfl rfl rfl rfl ?_)
   refine aH (by (try simp only [nK, nL]); rfl) ?_
   refine aNn (aSR (aM rfl (aM rfl ?_)))
   refine cF true rfl rfl (fun _ => av Tryz.underlying31 tk66 rfl ((.of (an 4 rfl))) rfl (aS hsi) rfl rfl) (fun h => absurd h (by decide)) (fun ⟨b8_2, o8_2⟩ => ?_)
   refine aU rfl (aR (o := 0) tk66 rfl (an 0 rfl) rfl rfl) (aM rfl ?_)
   refine cF true rfl rfl (fun _ => av Tryz.underlying66 tk65 rfl ((Ent.all (f := ShF aT.row) (.of (an 4 rfl)) hsi)) rfl (aS hck) rfl rfl) (fun h => absurd h (by decide)) (fun ⟨b8_5, o8_5⟩ => ?_)
   refine aU rfl (aR (o := 0) tk65 rfl (an 0 rfl) rfl rfl) ?_
   refine al (q := true) rfl (bp (zs := [.int .i64 0, .int .i64 0, .int .i64 0, .int .i64 0, .int .i64 0, .bool false]) (by kernel_rfl) rfl (fun b8_7 => ?_))
   refine aH (by (try simp only [nM, nN]); rfl) ?_
   refine al rfl (aW 2 tk65 rfl rfl rfl rfl ?_)
   refine aH (by (try simp only [nK, nL]); rfl) ?_
   refine aNs (aSR ?_)
   refine aU rfl (aa (off := 0) (by kernel_rfl) rfl) ?_
   refine aU rfl (ae 2 tk3 rfl rfl rfl) (aU rfl (cN rfl rfl) (aM rfl ?_))
   refine aG rfl rfl (fun hc => aa (off := 0) (by kernel_rfl) rfl) ?_
   refine aG rfl rfl (fun hc => ae 2 tk3 (ab rfl hc) rfl rfl) (aG rfl rfl (fun hc => cN (ab rfl hc) rfl) (aU rfl (bA rfl rfl (fun h => gt rfl h)) (aM rfl ?_)))
   refine aG rfl rfl (fun hc => aa (off := 1) (by kernel_rfl) rfl) ?_
   refine aG rfl rfl (fun hc => ae 2 tk3 (ab rfl hc) rfl rfl) (aG rfl rfl (fun hc => aq rfl) (aG rfl rfl (fun hc => cN (ab rfl hc) (ab rfl hc)) (aU rfl (cx rfl rfl (fun h => gf rfl h)) (aM rfl ?_))))
   refine aG rfl rfl (fun hc => aa (off := 2) (by kernel_rfl) rfl) ?_
   refine aG rfl rfl (fun hc => ae 2 tk3 (ab rfl hc) rfl rfl) (aG rfl rfl (fun hc => aq rfl) (aG rfl rfl (fun hc => cN (ab rfl hc) (ab rfl hc)) (aU rfl (cx rfl rfl (fun h => gf rfl h)) (aM rfl (aG rfl rfl (fun hc => aq rfl) ?_)))))
   refine aG rfl rfl (fun hc => aa (off := 0) (by kernel_rfl) rfl) ?_
   refine aG rfl rfl (fun hc => ae 1 tk9 (ab rfl hc) rfl rfl) ?_
   refine aG rfl rfl (fun hc => bP (by kernel_rfl) (aN (ab rfl hc) (aN (ab rfl hc) rfl)) (fun w S fp hst => (sk os s.name).quiet2 (an 3 rfl) (an 4 rfl) hst)) ?_
   refine aG rfl rfl (fun hc => bK (ab rfl hc) rfl) (aU rfl (cx rfl rfl (fun h => gf rfl h)) (aNn ?_))
   refine ah _ rfl (fun h3 => ?_) (fun h3 => ?_)
   ·skip
    have hc3 : ¬ qI S.l L ⟨⟨(i : Int), (k : Int)⟩, s⟩ = true := by
      rw [hL] at h3
      intro hs1
      unfold qI at hs1
      simp only [Bool.or_eq_true, Bool.and_eq_true, Bool.not_eq_true', decide_eq_true_eq, decide_eq_false_iff_not] at h3 hs1
      omega
    refine bg (bj (bz (aw (ai ?_))))
    refine aU rfl (bB rfl rfl (by omega)) ?_
    refine aM rfl (aNn ?_)
    refine ⟨[0, 2, 7, 8, 13, 14, 15, 21, 22, 23], [3, 2, 1, 0], [0], rfl, ?_⟩
    exact ⟨(k + 1, v2), ⟨by dsimp only; omega, by dsimp only; rw [hstep, if_neg hc3]; rfl⟩, by dsimp only; omega⟩
   ·skip
    have hc3 : qI S.l L ⟨⟨(i : Int), (k : Int)⟩, s⟩ = true := by
      rw [hL] at h3
      unfold qI
      simp only [Bool.or_eq_false_iff, Bool.and_eq_false_iff, Bool.not_eq_false', Bool.or_eq_true, Bool.and_eq_true, decide_eq_true_eq, decide_eq_false_iff_not] at h3 ⊢
      omega
    refine au (aw (ai (aM rfl ?_)))
    refine aU rfl (aa (off := 0) (by kernel_rfl) rfl) ?_
    refine aU rfl (ae 1 tk9 rfl rfl rfl) ?_
    refine aU rfl (aa (off := 1) (by kernel_rfl) rfl) ?_
    refine aU rfl (ae 1 tk9 rfl rfl rfl) ?_
    refine aU rfl (aa (off := 1) (by kernel_rfl) rfl) ?_
    refine aU rfl (ae 1 tk9 rfl rfl rfl) (aU rfl (dR rfl rfl) (aM rfl ?_))
    refine aG rfl rfl (fun hc => aa (off := 2) (by kernel_rfl) rfl) ?_
    refine aG rfl rfl (fun hc => ae 1 tk4 (ab rfl hc) rfl rfl) (aU rfl (cx rfl rfl (fun h => gf rfl h)) ?_)
    refine aU rfl (aa (off := 5) (by kernel_rfl) rfl) ?_
    refine aU rfl (ae 1 tk3 rfl rfl rfl) (aM rfl (aM rfl ?_))
    refine aU rfl (aa (off := 3) (by kernel_rfl) rfl) ?_
    refine aU rfl (ae 1 tk3 rfl rfl rfl) (aU rfl (bK rfl rfl) ?_)
    refine aU rfl (dF (l := [(0, .tmp 64), (1, .tmp 66), (2, .tmp 73), (3, .tmp 75), (4, .tmp 76), (5, .tmp 77), (6, .tmp 80)]) (zs := [.string .empty, .string .empty, .bool false, .int .i64 0, .int .i64 0, .int .i64 0, .bool false]) (pl := [(0, 1), (1, 1), (2, 1), (3, 1), (4, 1), (5, 1), (6, 1)]) (by kernel_rfl) (by kernel_rfl) (by kernel_rfl) rfl rfl rfl) ?_
    refine al (q := true) rfl (cz (zs := [.string .empty, .string .empty, .bool false, .int .i64 0, .int .i64 0, .int .i64 0, .bool false]) (l := [(0, .tmp 81)]) el41 (by kernel_rfl) (by decide) (by decide) (by decide) rfl rfl rfl (.more rfl (.v rfl (.v rfl (.v rfl (.v rfl (.v rfl (.v rfl (.v rfl .nil))))))) .nil) rfl rfl (fun v10_20 => ?_))
    refine aH (by (try simp only [nM, nN]); rfl) ?_
    refine al rfl (bX 0 el41 rfl rfl rfl rfl (cH 3 el41 rfl (by simp)) (by first | assumption | simp) (by show ((iN S.l L (cI os.l i ++ dy (i : Int) (o.syms.l.take k))).map cn.row).length + 1 ≤ _; rw [List.length_map]; exact Nat.le_trans (Nat.add_le_add_right (Nat.le_trans hst2 hlM) 1) (by decide)) ((iN S.l L (cI os.l i ++ dy (i : Int) (o.syms.l.take k)) ++ [yg ⟨⟨(i : Int), (k : Int)⟩, s⟩]).length) (by show ((iN S.l L (cI os.l i ++ dy (i : Int) (o.syms.l.take k))).map cn.row).length + 1 = _; rw [List.length_map, List.length_append]; rfl) (fun v10_21 c10_21 => ?_))
    refine aH (by (try simp only [nK, nL]); rfl) ?_
    refine aA rfl (cA (bL (aw (ai ?_))))
    refine aU rfl (bB rfl rfl (by omega)) ?_
    refine aM rfl (aNn ?_)
    refine ⟨[0, 2, 7, 8, 13, 14, 15, 21, 22, 23], [3, 2, 1, 0], [0], rfl, ?_⟩
    exact ⟨(k + 1, _), ⟨by dsimp only; omega, by dsimp only; rw [hstep, if_pos hc3, List.map_append]; rfl⟩, by dsimp only; omega⟩
  ·skip
   refine bg (bj (bj (bz (bL (aw (ai ?_))))))
   refine aU rfl (bB rfl rfl (by omega)) ?_
   refine aM rfl (aNn ?_)
   refine ⟨[0, 2, 7, 13, 14, 15], [3, 2, 1, 0], [0], rfl, ?_⟩
   dsimp only
   rw [List.take_of_length_le (by simp at h2; omega)]
   exact ⟨(i + 1, v2), ⟨by dsimp only; omega, by dsimp only; rw [dE, hoo]; rfl⟩, by dsimp only; omega⟩
 ·skip
  refine bg (bj (bj (bz (aw (aSR (aM rfl ?_))))))
  refine al (q := false) rfl (bF [] [0] (by kernel_rfl) rfl rfl rfl rfl (tS v (iN S.l L (cI os.l i)) (Nat.le_trans (pb _ _ _) (by rw [show i = os.l.length by simp at h1; omega, show cI os.l os.l.length = L from hL]; omega))) ?_)
  rintro _ _ _ ⟨rfl, q, hqp, hqs, rfl⟩
  refine cB (by (try simp only [nM, nN]); rfl) (by (try simp only [aV, place, Nat.reduceBEq, if_true, if_false, reduceIte, Nat.reduceAdd, nW]); rfl) ?_
  refine aNn (aSR (aM rfl (aA rfl (aNn (aj ?_)))))
  refine bc [] [0] rfl Tryz.results18 rfl ?_ (.inr rfl)
  refine ⟨rfl, _, q, rfl, ?_, hqs, rfl⟩
  rw [show i = os.l.length by simp at h1; omega, show cI os.l os.l.length = L from hL] at hqp
  exact hqp
end Go.Proofs.YtgmiihmahaahiaaGreatDoor

namespace Go.Proofs.YtgmiihmahaahiaaGreatDoor
open Go.RowKit Go.Lp Go.Sy
open Go.Proofs.Tryz
attribute [local irreducible] aL aB awp aC fwp
structure sC (o : ar) : Prop where
 secs : o.secs.l.length ≤ 12
 syms : o.syms.l.length ≤ 12
 groups : o.groups.l.length ≤ 12
 inl : o.inlines.l.length ≤ 60
 rt : x7 o
structure mz (os : List ar) (ifs : List bw) (vs : List aF) : Prop where
 n : os.length ≤ 5
 o : ∀ o ∈ os, sC o
 ni : ifs.length ≤ 4
 nv : vs.length ≤ 8
 i : ∀ f ∈ ifs, f.exports.l.length ≤ 12 ∧ f.versions.l.length ≤ 8
theorem xe (os : Sl ar) (ifs : Sl bw) (vs : Sl aF) : Con Tryz.prog 11 [os.val, ifs.val, vs.val] [dS, ShF ar.row os, bW ar.ok os.l, ShF bw.row ifs, bW bw.ok ifs.l, ShF aF.row vs] [] (YB (mz os.l ifs.l vs.l)) := by
 refine Con.enter Tryz.func11 rfl (by simp [Tryz.ntmps11]) ?_
 show awp _ _ _ _ ⟨[(0, true, _), (1, true, _), (2, true, _)], _, _⟩
 refine bf (.of (an 1 rfl)) (fun hlo => ?_)
 refine bf (.of (an 3 rfl)) (fun hli => ?_)
 refine bf (.of (an 5 rfl)) (fun hlv => ?_)
 refine aSR (aA rfl (aNs (aSR (aM rfl (aU rfl (bq Tryz.underlying22 rfl) (aU rfl (dp rfl rfl) (aM rfl (aG rfl rfl (fun hc => aq rfl) (aG rfl rfl (fun hc => bq Tryz.underlying23 (ab rfl hc)) (aG rfl rfl (fun hc => dp (ab rfl hc) rfl) (aU rfl (cx rfl rfl (fun h => gf rfl h)) ?_)))))))))))
 refine aM rfl (aG rfl rfl (fun hc => aq rfl) (aG rfl rfl (fun hc => bq Tryz.underlying24 (ab rfl hc)) (aG rfl rfl (fun hc => dp (ab rfl hc) rfl) (aU rfl (cx rfl rfl (fun h => gf rfl h)) (aNn ?_)))))
 refine ah _ rfl (fun h1 => ?_) (fun h1 => ?_)
 ·skip
  refine aSR (aA rfl (aNn (aj (aO ?_))))
  refine bc [] [] rfl Tryz.results11 rfl ?_ (.inr rfl)
  exact ⟨⟨rfl, rfl⟩, _, rfl, fun h => by cases h⟩
 ·skip
  have hb : os.l.length ≤ 5 ∧ ifs.l.length ≤ 4 ∧ vs.l.length ≤ 8 := by simp at h1; omega
  refine au (aw (az (aSR (aA rfl (aNn (ax ?_))))))
  refine aZ [0, 1, 2, 7] [5, 4, 3, 2, 1, 0] [] (fun (k : Nat) s => (k ≤ os.l.length ∧ ∀ o ∈ os.l.take k, sC o) ∧ s = ⟨[(0, true, os.val), (1, true, ifs.val), (2, true, vs.val), (7, true, .int .i64 k)], [dS, ShF ar.row os, bW ar.ok os.l, ShF bw.row ifs, bW bw.ok ifs.l, ShF aF.row vs], []⟩) (fun k => os.l.length - k) rfl (⟨0, ⟨Nat.zero_le _, fun o ho => by cases ho⟩, rfl⟩) ?_
  rintro k s ⟨⟨hk, hO⟩, rfl⟩
  refine az (aSR (aM rfl (aM rfl (aU rfl (bq Tryz.underlying22 rfl) (aU rfl (bJ rfl rfl) (aNn ?_))))))
  refine ah _ rfl (fun h2 => ?_) (fun h2 => ?_)
  ·skip
   have hk' : k < os.l.length := by simpa using h2
   obtain ⟨o, ho⟩ : ∃ o, os.l[k]? = some o := ⟨_, List.getElem?_eq_getElem hk'⟩
   refine au (aw (az (ax (aSR (aM rfl (aM rfl ?_))))))
   refine cF true rfl rfl (fun _ => av Tryz.underlying22 tk61 rfl ((.of (an 1 rfl))) rfl (aS ho) rfl rfl) (fun h => absurd h (by decide)) (fun ⟨b6_2, o6_2⟩ => ?_)
   refine aU rfl (aR (o := 0) tk61 rfl (an 0 rfl) rfl rfl) ?_
   refine al (q := true) rfl (bp (zs := [.string .empty, .slice none 0 0, .slice none 0 0, .slice none 0 0, .slice none 0 0, .slice none 0 0, .slice none 0 0, .slice none 0 0, .slice none 0 0, .slice none 0 0, .slice none 0 0]) (by kernel_rfl) rfl (fun b6_4 => ?_))
   refine aH (by (try simp only [nM, nN]); rfl) ?_
   refine al rfl (aW 0 tk61 rfl rfl rfl rfl ?_)
   refine aH (by (try simp only [nK, nL]); rfl) ?_
   refine aNs ?_
   have hok : ∀ {ps : List Per}, Ent ps (bW ar.ok os.l) → Ent ps o.ok := fun h => Ent.all h ho
   refine bf (ar.f_secs (hok (.of (an 3 rfl)))) (fun e1 => ?_)
   refine bf (ar.f_syms (hok (.of (an 3 rfl)))) (fun e2 => ?_)
   refine bf (ar.f_rels (hok (.of (an 3 rfl)))) (fun e3 => ?_)
   refine bf (ar.f_groups (hok (.of (an 3 rfl)))) (fun e4 => ?_)
   refine bf (ar.f_lines (hok (.of (an 3 rfl)))) (fun e5 => ?_)
   refine bf (ar.f_inlines (hok (.of (an 3 rfl)))) (fun e6 => ?_)
   refine bf (ar.f_vars (hok (.of (an 3 rfl)))) (fun e7 => ?_)
   refine bf (ar.f_depths (hok (.of (an 3 rfl)))) (fun e8 => ?_)
   refine bf (ar.f_converts (hok (.of (an 3 rfl)))) (fun e9 => ?_)
   refine bf (ar.f_inits (hok (.of (an 3 rfl)))) (fun e10 => ?_)
   refine ai ?_
   refine aU rfl (aa (off := 1) (by kernel_rfl) rfl) ?_
   refine aU rfl (ae 0 tk50 rfl rfl rfl) (aU rfl (bq Tryz.underlying50 rfl) (aU rfl (dp rfl rfl) (aM rfl ?_)))
   refine aG rfl rfl (fun hc => aa (off := 2) (by kernel_rfl) rfl) ?_
   refine aG rfl rfl (fun hc => ae 0 tk51 (ab rfl hc) rfl rfl) (aG rfl rfl (fun hc => bq Tryz.underlying51 (ab rfl hc)) (aG rfl rfl (fun hc => dp (ab rfl hc) rfl) (aU rfl (cx rfl rfl (fun h => gf rfl h)) (aM rfl ?_))))
   refine aG rfl rfl (fun hc => aa (off := 3) (by kernel_rfl) rfl) ?_
   refine aG rfl rfl (fun hc => ae 0 tk52 (ab rfl hc) rfl rfl) (aG rfl rfl (fun hc => bq Tryz.underlying52 (ab rfl hc)) (aG rfl rfl (fun hc => dp (ab rfl hc) rfl) (aU rfl (cx rfl rfl (fun h => gf rfl h)) (aM rfl ?_))))
   refine aG rfl rfl (fun hc => aa (off := 4) (by kernel_rfl) rfl) ?_
   refine aG rfl rfl (fun hc => ae 0 tk53 (ab rfl hc) rfl rfl) (aG rfl rfl (fun hc => bq Tryz.underlying53 (ab rfl hc)) (aG rfl rfl (fun hc => dp (ab rfl hc) rfl) (aU rfl (cx rfl rfl (fun h => gf rfl h)) (aM rfl ?_))))
   refine aG rfl rfl (fun hc => aa (off := 6) (by kernel_rfl) rfl) ?_
   refine aG rfl rfl (fun hc => ae 0 tk55 (ab rfl hc) rfl rfl) (aG rfl rfl (fun hc => bq Tryz.underlying55 (ab rfl hc)) (aG rfl rfl (fun hc => dp (ab rfl hc) rfl) (aU rfl (cx rfl rfl (fun h => gf rfl h)) (aM rfl ?_))))
   refine aG rfl rfl (fun hc => aa (off := 7) (by kernel_rfl) rfl) ?_
   refine aG rfl rfl (fun hc => ae 0 tk56 (ab rfl hc) rfl rfl) (aG rfl rfl (fun hc => bq Tryz.underlying56 (ab rfl hc)) (aG rfl rfl (fun hc => dp (ab rfl hc) rfl) (aU rfl (cx rfl rfl (fun h => gf rfl h)) (aM rfl ?_))))
   refine aG rfl rfl (fun hc => aa (off := 8) (by kernel_rfl) rfl) ?_
   refine aG rfl rfl (fun hc => ae 0 tk57 (ab rfl hc) rfl rfl) (aG rfl rfl (fun hc => bq Tryz.underlying57 (ab rfl hc)) (aG rfl rfl (fun hc => dp (ab rfl hc) rfl) (aU rfl (cx rfl rfl (fun h => gf rfl h)) (aM rfl ?_))))
   refine aG rfl rfl (fun hc => aa (off := 9) (by kernel_rfl) rfl) ?_
   refine aG rfl rfl (fun hc => ae 0 tk58 (ab rfl hc) rfl rfl) (aG rfl rfl (fun hc => bq Tryz.underlying58 (ab rfl hc)) (aG rfl rfl (fun hc => dp (ab rfl hc) rfl) (aU rfl (cx rfl rfl (fun h => gf rfl h)) (aM rfl ?_))))
   refine aG rfl rfl (fun hc => aa (off := 10) (by kernel_rfl) rfl) ?_
   refine aG rfl rfl (fun hc => ae 0 tk59 (ab rfl hc) rfl rfl) (aG rfl rfl (fun hc => bq Tryz.underlying59 (ab rfl hc)) (aG rfl rfl (fun hc => dp (ab rfl hc) rfl) (aU rfl (cx rfl rfl (fun h => gf rfl h)) (aM rfl ?_))))
   refine aG rfl rfl (fun hc => aa (off := 5) (by kernel_rfl) rfl) ?_
   refine aG rfl rfl (fun hc => ae 0 tk54 (ab rfl hc) rfl rfl) (aG rfl rfl (fun hc => bq Tryz.underlying54 (ab rfl hc)) (aG rfl rfl (fun hc => dp (ab rfl hc) rfl) (aU rfl (cx rfl rfl (fun h => gf rfl h)) (aM rfl (aG rfl rfl (fun hc => ae 0 tk61 rfl rfl rfl) ?_)))))
   refine aQ (caps := []) [5, 3] (false) (by kernel_rfl) _ rfl rfl (fun _ => rfl) (fun hc => (aN (ab rfl hc) rfl)) (fun hc => by rw [List.append_nil]; exact (rv o (by simp at hc; exact ⟨by omega, by omega, by omega⟩)).pre (el (.of (an 0 rfl)) (hok (.of (an 1 rfl))))) (fun c1 hc1 => ?_)
   refine aG rfl rfl (fun hc => cm (ab rfl hc)) (aU rfl (cx rfl rfl (fun h => gf rfl h)) (aNn ?_))
   refine ah _ rfl (fun h3 => ?_) (fun h3 => ?_)
   ·skip
    refine aSR (aA rfl (aNn (aj (bC (aO (aO (bC (aO ?_))))))))
    refine bc [] [] rfl Tryz.results11 rfl ?_ (.inr rfl)
    exact ⟨⟨rfl, rfl⟩, _, rfl, fun h => by cases h⟩
   ·skip
    have hfo : sC o := by
      rw [Bool.or_eq_false_iff] at h3
      have hrt := hc1 (by rw [h3.1]; rfl) (by simpa using h3.2)
      have h6 := h3.1
      simp only [Bool.or_eq_false_iff, decide_eq_false_iff_not] at h6
      exact ⟨by omega, by omega, by omega, by omega, hrt⟩
    refine au (bL (aw (ai (aM rfl ?_))))
    refine aU rfl (bB rfl rfl (by omega)) ?_
    refine aA rfl (aNn ?_)
    refine ⟨[0, 1, 2, 7], [5, 4, 3, 2, 1, 0], [], rfl, ?_⟩
    refine ⟨k + 1, ⟨⟨by omega, fun o2 ho2 => ?_⟩, rfl⟩, by omega⟩
    rw [List.take_add_one, ho, List.mem_append] at ho2
    rcases ho2 with ho2 | ho2
    · exact hO o2 ho2
    · simp at ho2; subst ho2; exact hfo
  ·skip
   have hO2 : ∀ o ∈ os.l, sC o := by rw [List.take_of_length_le (by simpa using h2)] at hO; exact hO
   refine bg (bj (bj (bz (aw (az (aSR (aA rfl (aNn (ax ?_)))))))))
   refine aZ [1, 9] [5, 4, 3, 2, 1, 0] [] (fun (k : Nat) s => (k ≤ ifs.l.length ∧ ∀ f ∈ ifs.l.take k, f.exports.l.length ≤ 12 ∧ f.versions.l.length ≤ 8) ∧ s = ⟨[(1, true, ifs.val), (9, true, .int .i64 k)], [dS, ShF ar.row os, bW ar.ok os.l, ShF bw.row ifs, bW bw.ok ifs.l, ShF aF.row vs], []⟩) (fun k => ifs.l.length - k) rfl (⟨0, ⟨Nat.zero_le _, fun f hf => by cases hf⟩, rfl⟩) ?_
   clear hk hO
   rintro k s ⟨⟨hk, hI⟩, rfl⟩
   refine az (aSR (aM rfl (aM rfl (aU rfl (bq Tryz.underlying23 rfl) (aU rfl (bJ rfl rfl) (aNn ?_))))))
   refine ah _ rfl (fun h4 => ?_) (fun h4 => ?_)
   ·skip
    have hk' : k < ifs.l.length := by simpa using h4
    obtain ⟨f, hf⟩ : ∃ f, ifs.l[k]? = some f := ⟨_, List.getElem?_eq_getElem hk'⟩
    refine au (aw (az (ax (az ?_))))
    refine bf (bw.f_exports (Ent.all (.of (an 4 rfl)) hf)) (fun e1 => ?_)
    refine bf (bw.f_versions (Ent.all (.of (an 4 rfl)) hf)) (fun e2 => ?_)
    refine ai (aM rfl (aM rfl ?_))
    refine cF true rfl rfl (fun _ => av Tryz.underlying23 tk73 rfl ((.of (an 3 rfl))) rfl (aS hf) rfl rfl) (fun h => absurd h (by decide)) (fun ⟨b12_2, o12_2⟩ => ?_)
    refine aU rfl (aa (off := 1) (by kernel_rfl) rfl) ?_
    refine aU rfl (aR (o := 1) tk71 rfl (an 0 rfl) rfl rfl) (aU rfl (bq Tryz.underlying71 rfl) (aU rfl (dp rfl rfl) (aM rfl (aG rfl rfl (fun hc => aq rfl) (aG rfl rfl (fun hc => aq rfl) ?_)))))
    refine cF _ rfl rfl (fun hc => av Tryz.underlying23 tk73 (ab rfl hc) ((.of (an 4 rfl))) (ab rfl hc) (aS hf) rfl rfl) (fun _ => ⟨(0, 0)⟩) (fun ⟨b12_10, o12_10⟩ => ?_)
    refine aG rfl rfl (fun hc => aa (off := 2) (by kernel_rfl) (ab rfl hc)) ?_
    refine aG rfl rfl (fun hc => aR (o := 2) tk24 (ab rfl hc) (an 0 rfl) hc rfl) (aG rfl rfl (fun hc => bq Tryz.underlying24 (ab rfl hc)) (aG rfl rfl (fun hc => dp (ab rfl hc) rfl) (aU rfl (cx rfl rfl (fun h => gf rfl h)) (aNn ?_))))
    refine ah _ rfl (fun h5 => ?_) (fun h5 => ?_)
    ·skip
     refine aSR (aA rfl (aNn (aj (bC (aO (aO (bC (aO ?_))))))))
     refine bc [] [] rfl Tryz.results11 rfl ?_ (.inr rfl)
     exact ⟨⟨rfl, rfl⟩, _, rfl, fun h => by cases h⟩
    ·skip
     have hff : f.exports.l.length ≤ 12 ∧ f.versions.l.length ≤ 8 := by simp at h5; omega
     refine au (bL (aw (ai (aM rfl ?_))))
     refine aU rfl (bB rfl rfl (by omega)) ?_
     refine aA rfl (aNn ?_)
     refine ⟨[1, 9], [5, 4, 3, 2, 1, 0], [], rfl, ?_⟩
     refine ⟨k + 1, ⟨⟨by omega, fun f2 hf2 => ?_⟩, rfl⟩, by omega⟩
     rw [List.take_add_one, hf, List.mem_append] at hf2
     rcases hf2 with hf2 | hf2
     · exact hI f2 hf2
     · simp at hf2; subst hf2; exact hff
   ·skip
    refine bg (bj (bj (bz (aw (aSR (aA rfl (aNn (aj ?_))))))))
    refine bc [] [] rfl Tryz.results11 rfl ?_ (.inr rfl)
    refine ⟨⟨rfl, rfl⟩, _, rfl, fun _ => ⟨hb.1, hO2, hb.2.1, hb.2.2, ?_⟩⟩
    rw [List.take_of_length_le (by simpa using h4)] at hI; exact hI
def Fits (os : List ar) (S : List (Sl aT)) : Prop := S.length = os.length ∧ ∀ i : Nat, i < os.length → (elt S (i : Int)).l.length = (elt os (i : Int)).syms.l.length
theorem qO (os : Sl ar) (S : Sl (Sl aT)) (hF : Fits os.l S.l) : Con Tryz.prog 20 [os.val, S.val] [ShF ar.row os, bW ar.ok os.l, bW (ShF aT.row) S.l, ShF slR S] [] (fun r _ _ => r = .bool true) := by
 refine Con.enter Tryz.func20 rfl (by simp [Tryz.ntmps20]) ?_
 show awp _ _ _ _ ⟨[(0, true, _), (1, true, _)], _, _⟩
 refine bf (.of (an 0 rfl)) (fun hlo => ?_)
 refine bf (.of (an 3 rfl)) (fun hlS => ?_)
 have hF1 := hF.1
 refine aSR (aA rfl (aNs (aSR (aM rfl (aU rfl (bq Tryz.underlying31 rfl) (aM rfl (aU rfl (bq Tryz.underlying22 rfl) (aU rfl (cN rfl rfl) (aNn ?_)))))))))
 refine ah _ rfl (fun h1 => ?_) (fun h1 => ?_)
 ·skip
  exfalso; simp at h1; omega
 ·skip
  refine au (aw (az (aSR (aA rfl (aNn ?_)))))
  refine ax (aZ [0, 1, 5] [3, 2, 1, 0] [] (fun (k : Nat) s => k ≤ os.l.length ∧ s = ⟨[(0, true, os.val), (1, true, S.val), (5, true, .int .i64 k)], [ShF ar.row os, bW ar.ok os.l, bW (ShF aT.row) S.l, ShF slR S], []⟩) (fun k => os.l.length - k) rfl (⟨0, Nat.zero_le _, rfl⟩) ?_)
  rintro k s ⟨hk, rfl⟩
  refine az (aSR (aM rfl (aM rfl (aU rfl (bq Tryz.underlying22 rfl) (aU rfl (bJ rfl rfl) (aNn ?_))))))
  refine ah _ rfl (fun h2 => ?_) (fun h2 => ?_)
  ·skip
   have hk' : k < os.l.length := by simpa using h2
   have ho := bY hk'
   have hs := bY (l := S.l) (i := k) (by omega)
   have hfk := hF.2 k hk'
   generalize elt os.l (k : Int) = o at ho hfk
   refine au (aw (az (ax (az ?_))))
   refine bn [] (by kernel_rfl) ?_
   show aB _ _ _ _ _ 12 #[false, false, false, false, false, false, false, false, false, false, false, false] _
   refine bU 0 rfl (by kernel_rfl) rfl (aq rfl) ?_
   refine bU 1 rfl (by kernel_rfl) rfl (aq rfl) ?_
   refine dI 2 rfl (by kernel_rfl) true rfl rfl (fun _ => av Tryz.underlying31 tk66 rfl ((.of (an 3 rfl))) rfl (aS hs) rfl rfl) (fun h => absurd h (by decide)) (fun ⟨b6_2, o6_2⟩ => ?_)
   refine bU 3 rfl (by kernel_rfl) rfl (aR (o := 0) tk66 rfl (an 0 rfl) rfl rfl) ?_
   refine bU 4 rfl (by kernel_rfl) rfl (bq Tryz.underlying66 rfl) ?_
   refine bU 5 rfl (by kernel_rfl) rfl (aq rfl) ?_
   refine bU 6 rfl (by kernel_rfl) rfl (aq rfl) ?_
   refine dI 7 rfl (by kernel_rfl) true rfl rfl (fun _ => av Tryz.underlying22 tk61 rfl ((.of (an 1 rfl))) rfl (aS ho) rfl rfl) (fun h => absurd h (by decide)) (fun ⟨b6_7, o6_7⟩ => ?_)
   refine bU 8 rfl (by kernel_rfl) rfl (aa (off := 2) (by kernel_rfl) rfl) ?_
   refine bU 9 rfl (by kernel_rfl) rfl (aR (o := 2) tk51 rfl (an 0 rfl) rfl rfl) ?_
   refine bU 10 rfl (by kernel_rfl) rfl (bq Tryz.underlying51 rfl) ?_
   refine bU 11 rfl (by kernel_rfl) rfl (cN rfl rfl) ?_
   refine bS (by kernel_rfl) ?_
   refine aw ?_
   refine ah _ rfl (fun h3 => ?_) (fun h3 => ?_)
   ·skip
    exfalso; simp at h3; omega
   ·skip
    refine au (bL (aw (ai (aM rfl ?_))))
    refine aU rfl (bB rfl rfl (by omega)) ?_
    refine aA rfl (aNn ?_)
    refine ⟨[0, 1, 5], [3, 2, 1, 0], [], rfl, ?_⟩
    exact ⟨k + 1, ⟨by omega, rfl⟩, by omega⟩
  ·skip
   refine bg (bj (bj (bz (aw (aSR (aA rfl (aNn (aj ?_))))))))
   refine bc [] [] rfl Tryz.results20 rfl ?_ (.inr rfl)
   rfl
end Go.Proofs.YtgmiihmahaahiaaGreatDoor

namespace Go.Sy
open Go.RowKit Go.Lp
section
variable {P : Program}
def xf (P : Program) (f : Field) : Option (Nat × Nat) :=
 match P.underlying f.type with
 | some (.int _) => some (f.offset, 0)
 | some .bool => some (f.offset, 1)
 | some .string => some (f.offset, 2)
 | _ => none
def qU (k : Nat) (v : Option Value) : Bool := match v with
 | some (.int .i64 _) => k == 0
 | some (.bool _) => k == 1
 | some (.string _) => k == 2
 | _ => false
def rN (a b : Option Value) : Bool := match a, b with
 | some (.int _ x), some (.int _ y) => decide (x = y)
 | some (.bool x), some (.bool y) => decide (x = y)
 | some (.string x), some (.string y) => decide (x = y)
 | _, _ => true
def vX (xs : Array Value) (l : List (Nat × Nat)) : Bool := l.all fun o => qU o.2 xs[o.1]?
def vr (xs ys : Array Value) (l : List (Nat × Nat)) : Bool := l.all fun o => rN xs[o.1]? ys[o.1]?
theorem pL {v : Option Value} (h : qU 0 v = true) : ∃ a, v = some (.int .i64 a) := by
 unfold qU at h
 split at h
 · exact ⟨_, rfl⟩
 · cases h
 · cases h
 · cases h
theorem mB {v : Option Value} (h : qU 1 v = true) : ∃ a, v = some (.bool a) := by
 unfold qU at h
 split at h
 · cases h
 · exact ⟨_, rfl⟩
 · cases h
 · cases h
theorem pM {v : Option Value} (h : qU 2 v = true) : ∃ a, v = some (.string a) := by
 unfold qU at h
 split at h
 · cases h
 · cases h
 · exact ⟨_, rfl⟩
 · cases h
theorem gY (d : Nat) (xs ys : Array Value) : ∀ (fs : List Field) (l : List (Nat × Nat)) (w : World), fs.all (fun f => decide (f.name ≠ "_")) = true → fs.mapM (xf P) = some l → vX xs l = true → vX ys l = true →
   (Op.eqFields (d + 1) xs ys fs).run P w = .ok (vr xs ys l) w
 | [], l, w, _, h, _, _ => by
   have : l = [] := by simpa using h.symm
   subst this; rfl
 | f :: fs, l, w, hn, h, hx, hy => by
   simp only [List.all_cons, Bool.and_eq_true, decide_eq_true_eq] at hn
   cases h1 : xf P f with
   | none => simp [List.mapM_cons, h1] at h
   | some o =>
     cases h2 : fs.mapM (xf P) with
     | none => simp [List.mapM_cons, h1, h2] at h
     | some l2 =>
       obtain rfl : l = o :: l2 := by simpa [List.mapM_cons, h1, h2] using h.symm
       simp only [vX, List.all_cons, Bool.and_eq_true] at hx hy
       have ih := gY d xs ys fs l2 w hn.2 h2 hx.2 hy.2
       have fin : ∀ (a b : Value), P.plainKey f.type = true → xs[f.offset]? = some a → ys[f.offset]? = some b → (Op.equalIn (d + 1) f.type a b).run P w = .ok (rN (some a) (some b)) w → o.1 = f.offset → (Op.eqFields (d + 1) xs ys (f :: fs)).run P w = .ok (vr xs ys (o :: l2)) w := fun a b hp g1 g2 g3 ho => by
         simp only [Op.eqFields, if_pos hn.1, Sem.run_bind, run_part_plain w hp g1, run_part_plain w hp g2, g3, Result.andThen_ok, Sem.run_ite, Sem.run_pure, ih]
         simp only [vr, List.all_cons, ho, g1, g2]
         cases rN (some a) (some b) <;> simp
       unfold xf at h1
       split at h1
       · rename_i k hk
         obtain rfl := Option.some.inj h1
         obtain ⟨a, ha⟩ := pL hx.1
         obtain ⟨b, hb⟩ := pL hy.1
         refine fin _ _ (by unfold Program.plainKey; rw [hk]) ha hb ?_ rfl
         rw [run_equalIn_int w d f.type .i64 k _ _ hk]; rfl
       · rename_i hk
         obtain rfl := Option.some.inj h1
         obtain ⟨a, ha⟩ := mB hx.1
         obtain ⟨b, hb⟩ := mB hy.1
         refine fin _ _ (by unfold Program.plainKey; rw [hk]) ha hb ?_ rfl
         rw [run_equalIn_bool' w d f.type _ _ hk]; congr 1
       · rename_i hk
         obtain rfl := Option.some.inj h1
         obtain ⟨a, ha⟩ := pM hx.1
         obtain ⟨b, hb⟩ := pM hy.1
         refine fin _ _ (by unfold Program.plainKey; rw [hk]) ha hb ?_ rfl
         rw [run_equalIn_string w d f.type _ _ hk, ob]; rfl
       · cases h1
end
end Go.Sy

namespace Go.Proofs.YtgmiihmahaahiaaGreatDoor
open Go.RowKit Go.Lp Go.Sy
open Go.Proofs.Tryz
theorem oH {P : Program} {v : Value} {f : FuncId} {args : List Value} {p q r : Per} (h : Con P f args [p, q, r] [] fun u _ _ => u = v) {w : World} {S : bE} {fp : Nat → bE} {ps' : List Per} {hp : List Res} (hp1 : p ∈ ps') (hq1 : q ∈ ps') (hr1 : r ∈ ps') (hst : St w S fp ps' hp) :
   Calls P f args.toArray w fun e w' => e = .returned v ∧ Go.Sy.Below w.heap.size w w' := h.quiet (fun _ h => by
     rcases List.mem_cons.1 h with rfl | h
     · exact hp1
     · rcases List.mem_cons.1 h with rfl | h
       · exact hq1
       · rw [List.mem_singleton.1 h]; exact hr1) hst
theorem tr {os : List ar} {kp : List (Sl Bool)} {sv : ByteArray → ByteArray → Bool} {lf : ByteArray → ByteArray → Int} {lib : Bool} {i : Nat} (hi : i < os.length) :
   (hJ os kp sv lf lib)[i]? = some (rC kp (bQ os) sv lf lib (dy (i : Int) (elt os (i : Int)).syms.l)) := by
 unfold hJ
 rw [List.getElem?_map, List.getElem?_range hi]; rfl
theorem rowD_get? {i : Int} {l : List bu} {k : Nat} {s : bu} (h : l[k]? = some s) : (dy i l)[k]? = some ⟨⟨i, (k : Int)⟩, s⟩ := by
 unfold dy
 rw [List.getElem?_map, List.getElem?_zipIdx, h]; simp
structure yJ (os : List ar) (kp : List (Sl Bool)) (sv : ByteArray → ByteArray → Bool) (lf : ByteArray → ByteArray → Int) (lib : Bool) (S : List (Sl aT)) : Prop where
 fits : Fits os S
 rb : RB kp (bQ os) sv lf lib
 get : ∀ (i k : Nat) (s : bu) (r : Sl aT), (elt os (i : Int)).syms.l[k]? = some s → S[i]? = some r → r.l[k]? = some (chD kp (bQ os) sv lf lib ⟨⟨(i : Int), (k : Int)⟩, s⟩)
theorem sh {os : List ar} {kp : List (Sl Bool)} {sv : ByteArray → ByteArray → Bool} {lf : ByteArray → ByteArray → Int} {lib : Bool} {S : List (Sl aT)}
   (hS : S.map (·.l) = if cM kp (bQ os) sv lf lib = none then hJ os kp sv lf lib else []) (hb : cM kp (bQ os) sv lf lib = none) : yJ os kp sv lf lib S := by
 rw [if_pos hb] at hS
 have hl : S.length = os.length := by
   have := congrArg List.length hS
   rw [List.length_map] at this
   rw [this]; unfold hJ; simp
 have row : ∀ (i : Nat) (r : Sl aT), S[i]? = some r → r.l = rC kp (bQ os) sv lf lib (dy (i : Int) (elt os (i : Int)).syms.l) := fun i r hr => by
   have hi := (List.getElem?_eq_some_iff.1 hr).1
   have h1 : (S.map (·.l))[i]? = some r.l := by rw [List.getElem?_map, hr]; rfl
   rw [hS, tr (by omega)] at h1
   exact (Option.some.inj h1).symm
 refine ⟨⟨hl, fun i hi => ?_⟩, .of (fo _ _) hb, fun i k s r hs hr => ?_⟩
 · rw [row i _ (bY (by omega))]
   unfold rC dy; simp
 · rw [row i r hr]
   unfold rC
   rw [List.getElem?_map, rowD_get? hs]; rfl
theorem wW {kp : List (Sl Bool)} {L : List Dfn} {sv : ByteArray → ByteArray → Bool} {lf : ByteArray → ByteArray → Int} {lib : Bool} (h : fF (cM kp L sv lf lib) = 0) : cM kp L sv lf lib = none := by
 rcases j8 (kp := kp) (L := L) (sv := sv) (lf := lf) (lib := lib) with ⟨p, h1, _⟩ | ⟨_, _, ⟨p, h1⟩ | h1⟩
 · rw [h1] at h; simp [fF] at h
 · rw [h1] at h; simp [fF] at h
 · exact h1
structure G13 where
 os : Sl ar
 lib : Bool
 ifs : Sl bw
 vs : Sl aF
def G13.ok (x : G13) : Per := cw dS (cw di (cw dh (cw (ShF ar.row x.os) (cw (bW ar.ok x.os.l) (cw (ShF bw.row x.ifs) (cw (bW bw.ok x.ifs.l) (cw (ShF aF.row x.vs) (bW aF.ok x.vs.l))))))))
section
variable {ps : List Per} {x : G13} (h : Ent ps x.ok)
include h
theorem G13.forms : Ent ps dS := h.left
theorem G13.turns : Ent ps di := h.right.left
theorem G13.cons : Ent ps dh := h.right.right.left
theorem G13.f_os : Ent ps (ShF ar.row x.os) := h.right.right.right.left
theorem G13.f_osA : Ent ps (bW ar.ok x.os.l) := h.right.right.right.right.left
theorem G13.f_ifs : Ent ps (ShF bw.row x.ifs) := h.right.right.right.right.right.left
theorem G13.f_ifsA : Ent ps (bW bw.ok x.ifs.l) := h.right.right.right.right.right.right.left
theorem G13.f_vs : Ent ps (ShF aF.row x.vs) := h.right.right.right.right.right.right.right.left
end
theorem sJ (x : G13) : Con Tryz.prog 11 [x.os.val, x.ifs.val, x.vs.val] [x.ok] [] (YB (mz x.os.l x.ifs.l x.vs.l)) :=
 (xe x.os x.ifs x.vs).pre fun p hp => by
   have h : Ent [x.ok] x.ok := .of (an 0 rfl)
   simp only [List.mem_cons, List.not_mem_nil, or_false] at hp
   rcases hp with rfl | rfl | rfl | rfl | rfl | rfl
   · exact G13.forms h
   · exact G13.f_os h
   · exact G13.f_osA h
   · exact G13.f_ifs h
   · exact G13.f_ifsA h
   · exact G13.f_vs h
theorem sC.few {o : ar} (h : sC o) : rH o := ⟨by have := h.secs; omega, by have := h.groups; omega, by have := h.inl; omega⟩
theorem qP (x : G13) (hf : mz x.os.l x.ifs.l x.vs.l) :
   Con Tryz.prog 12 [x.os.val] [x.ok] [] fun r ps hp => hp = [] ∧ ∃ (K : Sl (Sl Bool)) (dv : Value), r = .tuple #[K.val, dv] ∧ gG x.os.l K.l ∧ ps = [bW (ShF bR) K.l, ShF slR K] := by
 refine ((vL x.os (by have := hf.n; omega) (fun o ho => (hf.o o ho).few) (fun o ho => (hf.o o ho).rt)).pre fun p hp => ?_).post ?_
 · have h : Ent [x.ok] x.ok := .of (an 0 rfl)
   simp only [List.mem_cons, List.not_mem_nil, or_false] at hp
   rcases hp with rfl | rfl | rfl | rfl
   · exact G13.cons h
   · exact G13.turns h
   · exact G13.f_os h
   · exact G13.f_osA h
 · rintro r ps hp ⟨h1, K, dv, h2, h3, h4, h5⟩
   exact ⟨h1, K, dv, h2, ⟨hf.n, fun o ho => by have := (hf.o o ho).syms; omega, h3, h4, fun o ho => (hf.o o ho).rt.syms⟩, h5⟩
abbrev G13.ln (x : G13) (K : Sl (Sl Bool)) : cg := ⟨x.os, K, x.lib, x.ifs, x.vs, 0, 0, 0, 0⟩
theorem lC (x : G13) (K : Sl (Sl Bool)) (hok : gG x.os.l K.l) :
   Con Tryz.prog 13 [x.os.val, K.val, .bool x.lib, x.ifs.val, x.vs.val] [bW (ShF bR) K.l, ShF slR K, x.ok] [] fun r ps hp => hp = [] ∧ ∃ S : Sl (Sl aT), ps = [bW (ShF aT.row) S.l, ShF slR S] ∧
     r = .tuple #[S.val, .int .i64 (fF (cM K.l (bQ x.os.l) (eB x.vs.l) (cK x.ifs.l) x.lib)), (qT (cM K.l (bQ x.os.l) (eB x.vs.l) (cK x.ifs.l) x.lib)).val] ∧
     S.l.map (·.l) = if cM K.l (bQ x.os.l) (eB x.vs.l) (cK x.ifs.l) x.lib = none then hJ x.os.l K.l (eB x.vs.l) (cK x.ifs.l) x.lib else [] :=
 (uG (x.ln K) hok (eB x.vs.l) fun _ _ => gV).pre fun p hp => by
   rw [List.mem_singleton.1 hp]
   intro w S hps
   have h := hps _ (an 2 rfl)
   exact ⟨h.2.2.2.1, h.2.2.2.2.1, hps _ (an 1 rfl), hps _ (an 0 rfl), h.2.2.2.2.2.1, h.2.2.2.2.2.2.1, h.2.2.2.2.2.2.2.1, h.2.2.2.2.2.2.2.2⟩
theorem kg (x : G13) (S : Sl (Sl aT)) (hF : Fits x.os.l S.l) : Con Tryz.prog 20 [x.os.val, S.val] [bW (ShF aT.row) S.l, ShF slR S, x.ok] [] (fun r _ _ => r = .bool true) :=
 (qO x.os S hF).pre fun p hp => by
   have h : Ent [bW (ShF aT.row) S.l, ShF slR S, x.ok] x.ok := .of (an 2 rfl)
   simp only [List.mem_cons, List.not_mem_nil, or_false] at hp
   rcases hp with rfl | rfl | rfl | rfl
   · exact G13.f_os h
   · exact G13.f_osA h
   · exact .of (an 0 rfl)
   · exact .of (an 1 rfl)
theorem eqC (x y : aT) : vr x.vs.toArray y.vs.toArray [(0, 0), (1, 0), (2, 0), (3, 0), (4, 0), (5, 1)] = decide (x = y) := by
 cases x; cases y
 rw [Bool.eq_iff_iff, decide_eq_true_eq]
 simp [vr, rN]
section
variable {n : Fr} {s : Sta} {d : Option Tmp} {ty : TypeId} {pos : String} {af : Array Edge} {gd : Option (Nat × Bool)} {X Y : Operand} {t' : TypeId}
theorem x8 (x y : aT) (hx : ev s.env X = some (true, x.val)) (hy : ev s.env Y = some (true, y.val)) : Quiet Tryz.prog n ⟨d, .binOp .neq 65 X Y t', ty, pos, af, gd⟩ s (.bool (!decide (x = y))) := by
 have h := xW (P := Tryz.prog) (n := n) (d := d) (ty := ty) (pos := pos) (af := af) (gd := gd) (t' := t') (t := 65) (xs := x.vs.toArray) (ys := y.vs.toArray) (by kernel_rfl) (by kernel_rfl) (by kernel_rfl) (fun w => gY 9998 _ _ _ [(0, 0), (1, 0), (2, 0), (3, 0), (4, 0), (5, 1)] w (by kernel_rfl) (by kernel_rfl) rfl rfl) hx hy
 rw [eqC] at h; exact h
theorem jJ (x y : aT) (hx : ev s.env X = some (true, x.val)) (hy : ev s.env Y = some (true, y.val)) : Quiet Tryz.prog n ⟨d, .binOp .eql 65 X Y t', ty, pos, af, gd⟩ s (.bool (decide (x = y))) := by
 have h := lO (P := Tryz.prog) (n := n) (d := d) (ty := ty) (pos := pos) (af := af) (gd := gd) (t' := t') (t := 65) (xs := x.vs.toArray) (ys := y.vs.toArray) (by kernel_rfl) (by kernel_rfl) (by kernel_rfl) (fun w => gY 9998 _ _ _ [(0, 0), (1, 0), (2, 0), (3, 0), (4, 0), (5, 1)] w (by kernel_rfl) (by kernel_rfl) rfl rfl) hx hy
 rw [eqC] at h; exact h
end
end Go.Proofs.YtgmiihmahaahiaaGreatDoor

