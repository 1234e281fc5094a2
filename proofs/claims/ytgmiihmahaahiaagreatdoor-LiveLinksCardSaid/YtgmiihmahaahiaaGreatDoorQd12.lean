/- Parts of the proof, in build order. No condition. -/
import Derived.Test.YtgmiihmahaahiaaGreatDoorQd11
import Derived.Test.YtgmiihmahaahiaaGreatDoorQd03
import Derived.Test.YtgmiihmahaahiaaGreatDoorQd05
import Derived.Test.YtgmiihmahaahiaaGreatDoorQd04
import Derived.Test.YtgmiihmahaahiaaGreatDoorQd07
set_option linter.unusedSimpArgs false
set_option linter.unusedVariables false
set_option maxHeartbeats 1000000
set_option maxRecDepth 20000
namespace Go.Proofs.YtgmiihmahaahiaaGreatDoor
open Go.RowKit Go.Lp Go.Sy
open Go.Proofs.Tryz
attribute [local irreducible] aL aB awp aC fwp
def bP (cs : List (Sl bq)) (o k : Int) : bq :=
 if cS o cs.length && cS k (elt cs o).l.length then elt (elt cs o).l k else default
theorem mw (x : bj) (lb : Nat) (o k : Int) : Con Tryz.prog 126 [.pointer (some ⟨lb, 0, none⟩), .int .i64 o, .int .i64 k] [At lb 0 x.row, x.ok] [] fun r _ _ => r = (bP x.choices.l o k).val := by
 refine Con.enter Tryz.func126 rfl (by simp [Tryz.ntmps126]) ?_
 show awp _ _ _ _ ⟨[(0, true, _), (1, true, _), (2, true, _)], _, _⟩
 refine aSR ?_
 refine an (q := true) rfl (bc (zs := [.int .i64 0, .int .i64 0, .int .i64 0, .int .i64 0, .int .i64 0, .bool false]) (by kernel_rfl) rfl (fun b0_0 => ?_))
 refine aHN ?_
 refine aNs (aSR (aM rfl (aM rfl (aU rfl (aR rfl) ?_))))
 refine aU rfl (qFA (off := 9) rfl) ?_
 refine aU rfl (aN (o := 9) tk31 rfl (.of (aF 0 rfl)) rfl) (aU rfl (aZ Tryz.underlying31 rfl) ?_)
 refine aU rfl (bC (by kernel_rfl) rfl (fun w S fp hst => (fL _ _).quiet0 hst)) ?_
 refine aU rfl (bZ rfl) (aM rfl (aG rfl rfl (fun hc => aD rfl) (aG rfl rfl (fun hc => aD rfl) (aG rfl rfl (fun hc => aR (ae rfl hc)) ?_))))
 refine aG rfl rfl (fun hc => qFA (off := 9) (ae rfl hc)) ?_
 refine aG rfl rfl (fun hc => aN (o := 9) tk31 (ae rfl hc) (.of (aF 0 rfl)) rfl) (aG rfl rfl (fun hc => aD rfl) ?_)
 refine cJ _ rfl rfl (fun hc => av Tryz.underlying31 tk66 (ae rfl hc) ((bj.f_choices (.of (aF 1 rfl)))) (ae rfl hc) (bI (i := o) (by simp [cS] at hc; omega) (by simp [cS] at hc; omega)) (by simp [cS] at hc; omega) rfl) (fun _ => ⟨(0, 0)⟩) (fun ⟨b1_15, o1_15⟩ => ?_)
 refine aG rfl rfl (fun hc => aP (o := 0) tk66 (ae rfl hc) (aF 0 rfl) hc rfl) (aG rfl rfl (fun hc => aZ Tryz.underlying66 (ae rfl hc)) ?_)
 refine aG rfl rfl (fun hc => bC (by kernel_rfl) (aS (ae rfl hc) (aS (ae rfl hc) rfl)) (fun w S fp hst => (fL _ _).quiet0 hst)) ?_
 refine aG rfl rfl (fun hc => bZ (ae rfl hc)) (aU rfl (bY rfl rfl (fun h => gf rfl h)) (aNn ?_))
 refine al _ rfl (fun h1 => ?_) (fun h1 => ?_)
 ·skip
  skip
  refine aSR ?_
  refine aU rfl (dz (l := []) (zs := [.int .i64 0, .int .i64 0, .int .i64 0, .int .i64 0, .int .i64 0, .bool false]) (pl := [(0, 1), (1, 1), (2, 1), (3, 1), (4, 1), (5, 1)]) (by kernel_rfl) (by kernel_rfl) (by kernel_rfl) rfl rfl rfl) ?_
  refine an rfl (aV 0 tk65 rfl rfl rfl rfl ?_)
  refine aHK ?_
  refine aNn (aJ (aO ?_))
  refine nV [] [] rfl Tryz.results126 (cV 0 tk65 rfl rfl rfl) ?_ (.inr rfl)
  unfold bP
  cases hh : (cS o x.choices.l.length && cS k (elt x.choices.l o).l.length)
  · rfl
  · rw [← Bool.not_and, hh] at h1; cases h1
 ·skip
  simp [cS] at h1
  refine aq (az (aSR (aM rfl (aU rfl (aR rfl) ?_))))
  refine aU rfl (qFA (off := 9) rfl) ?_
  refine aU rfl (aN (o := 9) tk31 rfl (.of (aF 1 rfl)) rfl) (aM rfl ?_)
  refine cJ true rfl rfl (fun _ => av Tryz.underlying31 tk66 rfl ((bj.f_choices (.of (aF 2 rfl)))) rfl (bI (i := o) (by omega) (by omega)) (by omega) rfl) (fun h => absurd h (by decide)) (fun ⟨b3_5, o3_5⟩ => ?_)
  refine aU rfl (aP (o := 0) tk66 rfl (aF 0 rfl) rfl rfl) (aM rfl ?_)
  refine cJ true rfl rfl (fun _ => av Tryz.underlying66 tk65 rfl (((bj.f_choicesA (.of (aF 3 rfl))).elt (i := o) (by omega) (by omega))) rfl (bI (i := k) (by omega) (by omega)) (by omega) rfl) (fun h => absurd h (by decide)) (fun ⟨b3_8, o3_8⟩ => ?_)
  refine aU rfl (aP (o := 0) tk65 rfl (aF 0 rfl) rfl rfl) ?_
  refine an rfl (aV 0 tk65 rfl rfl rfl rfl ?_)
  refine aHK ?_
  refine aNn (aJ ?_)
  refine nV [] [] rfl Tryz.results126 (cV 0 tk65 rfl rfl rfl) ?_ (.inr rfl)
  rw [show bP x.choices.l o k = elt (elt x.choices.l o).l k from if_pos (by simpa [cS] using h1)]
structure uC (x : bj) : Prop where
 len : x.first.l.length = x.objs.l.length
 bound : ∀ o s, cM x.objs.l x.keep.l o s = true → 0 ≤ elt x.first.l o ∧ elt x.first.l o + s ≤ 1000000
theorem eV {os : List ax} {kp : List (Sl Bool)} {o s : Int} (h : cM os kp o s = true) : (0 ≤ o ∧ o < os.length) ∧ (0 ≤ s ∧ s < (elt os o).secs.l.length) ∧ o < kp.length ∧ s < (elt kp o).l.length := by
 simp [cM, cS] at h; omega
def jL (x : bj) (o k : Int) : Bool :=
 (!cS k (elt x.objs.l o).syms.l.length || decide ((bP x.choices.l o k).kind ≠ 1) && decide ((bP x.choices.l o k).kind ≠ 2) || !cS (bP x.choices.l o k).obj x.objs.l.length) || !cS (bP x.choices.l o k).sym (elt x.objs.l (bP x.choices.l o k).obj).syms.l.length
def fV (x : bj) (o k : Int) : Int := (elt (elt x.objs.l (bP x.choices.l o k).obj).syms.l (bP x.choices.l o k).sym).sec
def cH (x : bj) (o k : Int) : Option Int :=
 if jL x o k then none
 else if cM x.objs.l x.keep.l (bP x.choices.l o k).obj (fV x o k) then some (elt x.first.l (bP x.choices.l o k).obj + fV x o k) else none
abbrev acC (o : Option Int) : Value := .tuple #[.int .i64 (o.getD 0), .bool o.isSome]
theorem mE (x : bj) (hx : uC x) (lb : Nat) (o k : Int) (ho : 0 ≤ o ∧ o < x.objs.l.length) : Con Tryz.prog 123 [.pointer (some ⟨lb, 0, none⟩), .int .i64 o, .int .i64 k] [At lb 0 x.row, x.ok] [] fun r _ _ => r = acC (cH x o k) := by
 refine Con.enter Tryz.func123 rfl (by simp [Tryz.ntmps123]) ?_
 show awp _ _ _ _ ⟨[(0, true, _), (1, true, _), (2, true, _)], _, _⟩
 have key : cH x o k = cH x o k := rfl
 refine aSR (aA rfl (aA rfl (aNn (aSR (aM rfl (aM rfl (aM rfl ?_)))))))
 refine aU rfl (bC (by kernel_rfl) rfl (fun w S fp hst => (mw x lb o k).quiet2 (aF 0 rfl) (aF 1 rfl) hst)) ?_
 refine an (q := true) rfl (bc (zs := [.int .i64 0, .int .i64 0, .int .i64 0, .int .i64 0, .int .i64 0, .bool false]) (by kernel_rfl) rfl (fun b1_4 => ?_))
 refine aHN ?_
 refine an rfl (aV 0 tk65 rfl rfl rfl rfl ?_)
 refine aHK ?_
 refine aNs (aH ?_)
 refine bp [] (by kernel_rfl) ?_
 show aB _ _ _ _ _ 49 #[false, false, false, false, false, false, false, false, false, false, false, false, false, false, false, false, false, false, false, false, false, false, false, false, false, false, false, false, false, false, false, false, false, false, false, false, false, false, false, false, false, false, false, false, false, false, false, false, false] _
 refine bV 0 rfl rfl (aD rfl) ?_
 refine bV 1 rfl rfl (aD rfl) ?_
 refine bV 2 rfl rfl (aR rfl) ?_
 refine bV 3 rfl rfl (qFA (off := 7) rfl) ?_
 refine bV 4 rfl rfl (aN (o := 7) tk22 rfl (.of (aF 0 rfl)) rfl) ?_
 refine bV 5 rfl rfl (aD rfl) ?_
 refine dC 6 rfl (by kernel_rfl) true rfl rfl (fun _ => av Tryz.underlying22 tk61 rfl ((bj.f_objs (.of (aF 1 rfl)))) rfl (bI (i := o) (by omega) (by omega)) (by omega) rfl) (fun h => absurd h (by decide)) (fun ⟨b2_6, o2_6⟩ => ?_)
 refine bV 7 rfl rfl (qFA (off := 2) rfl) ?_
 refine bV 8 rfl rfl (aP (o := 2) tk51 rfl (aF 0 rfl) rfl rfl) ?_
 refine bV 9 rfl rfl (aZ Tryz.underlying51 rfl) ?_
 refine bV 10 rfl rfl (bC (by kernel_rfl) rfl (fun w S fp hst => (fL _ _).quiet0 hst)) ?_
 refine bV 11 rfl rfl (bZ rfl) ?_
 refine bV 12 rfl rfl (aD rfl) ?_
 refine bW 13 rfl rfl rfl (fun hc => qFA (off := 0) rfl) ?_
 refine bW 14 rfl rfl rfl (fun hc => ah 0 tk3 (ae rfl hc) rfl rfl) ?_
 refine bW 15 rfl rfl rfl (fun hc => dB (ae rfl hc) rfl) ?_
 refine bW 16 rfl rfl rfl (fun hc => aD (ae rfl hc)) ?_
 refine bW 17 rfl rfl rfl (fun hc => qFA (off := 0) rfl) ?_
 refine bW 18 rfl rfl rfl (fun hc => ah 0 tk3 (ae rfl hc) rfl rfl) ?_
 refine bW 19 rfl rfl rfl (fun hc => dB (ae rfl hc) rfl) ?_
 refine bW 20 rfl rfl rfl (fun hc => bJ (ae rfl hc) rfl (fun h => gt hc h)) ?_
 refine bV 21 rfl rfl (bY rfl rfl (fun h => gf rfl h)) ?_
 refine bV 22 rfl rfl (aD rfl) ?_
 refine bW 23 rfl rfl rfl (fun hc => qFA (off := 1) rfl) ?_
 refine bW 24 rfl rfl rfl (fun hc => ah 0 tk3 (ae rfl hc) rfl rfl) ?_
 refine bW 25 rfl rfl rfl (fun hc => aD rfl) ?_
 refine bW 26 rfl rfl rfl (fun hc => aR (ae rfl hc)) ?_
 refine bW 27 rfl rfl rfl (fun hc => qFA (off := 7) (ae rfl hc)) ?_
 refine bW 28 rfl rfl rfl (fun hc => aN (o := 7) tk22 (ae rfl hc) (.of (aF 1 rfl)) rfl) ?_
 refine bW 29 rfl rfl rfl (fun hc => aZ Tryz.underlying22 (ae rfl hc)) ?_
 refine bW 30 rfl rfl rfl (fun hc => bC (by kernel_rfl) (aS (ae rfl hc) (aS (ae rfl hc) rfl)) (fun w S fp hst => (fL _ _).quiet0 hst)) ?_
 refine bW 31 rfl rfl rfl (fun hc => bZ (ae rfl hc)) ?_
 refine bV 32 rfl rfl (bY rfl rfl (fun h => gf rfl h)) ?_
 refine bV 33 rfl rfl (aD rfl) ?_
 refine bW 34 rfl rfl rfl (fun hc => qFA (off := 2) rfl) ?_
 refine bW 35 rfl rfl rfl (fun hc => ah 0 tk3 (ae rfl hc) rfl rfl) ?_
 refine bW 36 rfl rfl rfl (fun hc => aD rfl) ?_
 refine bW 37 rfl rfl rfl (fun hc => aR (ae rfl hc)) ?_
 refine bW 38 rfl rfl rfl (fun hc => qFA (off := 7) (ae rfl hc)) ?_
 refine bW 39 rfl rfl rfl (fun hc => aN (o := 7) tk22 (ae rfl hc) (.of (aF 1 rfl)) rfl) ?_
 refine bW 40 rfl rfl rfl (fun hc => qFA (off := 1) rfl) ?_
 refine bW 41 rfl rfl rfl (fun hc => ah 0 tk3 (ae rfl hc) rfl rfl) ?_
 refine dC 42 rfl (by kernel_rfl) _ rfl rfl (fun hc => av Tryz.underlying22 tk61 (ae rfl hc) ((bj.f_objs (.of (aF 2 rfl)))) (ae rfl hc) (bI (i := (bP x.choices.l o k).obj) (by simp [cS] at hc; omega) (by simp [cS] at hc; omega)) (by simp [cS] at hc; omega) rfl) (fun _ => ⟨(0, 0)⟩) (fun ⟨b2_42, o2_42⟩ => ?_)
 refine bW 43 rfl rfl rfl (fun hc => qFA (off := 2) (ae rfl hc)) ?_
 refine bW 44 rfl rfl rfl (fun hc => aP (o := 2) tk51 (ae rfl hc) (aF 0 rfl) hc rfl) ?_
 refine bW 45 rfl rfl rfl (fun hc => aZ Tryz.underlying51 (ae rfl hc)) ?_
 refine bW 46 rfl rfl rfl (fun hc => bC (by kernel_rfl) (aS (ae rfl hc) (aS (ae rfl hc) rfl)) (fun w S fp hst => (fL _ _).quiet0 hst)) ?_
 refine bW 47 rfl rfl rfl (fun hc => bZ (ae rfl hc)) ?_
 refine bV 48 rfl rfl (bY rfl rfl (fun h => gf rfl h)) ?_
 refine bO (by kernel_rfl) ?_
 refine az ?_
 refine al _ rfl (fun h1 => ?_) (fun h1 => ?_)
 ·skip
  refine aSR (aA rfl (aA rfl (aNn (aJ (aO ?_)))))
  refine aaD [] [] rfl Tryz.results123 rfl rfl ?_ (.inr rfl)
  have hb : jL x o k = true := by simpa [jL] using h1
  rw [show cH x o k = none from if_pos hb]; rfl
 ·skip
  have hbad : jL x o k = false := by simpa [jL] using h1
  simp [cS] at h1
  refine aq (az (aH ?_))
  refine cP [18] [18] [b1_4] (by kernel_rfl) ?_
  show aC _ _ _ _ _ _ _ 19 #[false, false, false, false, false, false, false, false, false, false, false, false, false, false, false, false, false, false, false] _
  refine bt 0 rfl (by kernel_rfl) true rfl rfl (fun _ => qFA (off := 1) rfl) ?_
  refine db 1 0 rfl (by kernel_rfl) true rfl rfl (by simp) tk3 (fun _ => rfl) rfl rfl ?_
  refine bt 2 rfl (by kernel_rfl) true rfl rfl (fun _ => aD rfl) ?_
  refine bt 3 rfl (by kernel_rfl) true rfl rfl (fun _ => aR rfl) ?_
  refine bt 4 rfl (by kernel_rfl) true rfl rfl (fun _ => qFA (off := 7) rfl) ?_
  refine bt 5 rfl (by kernel_rfl) true rfl rfl (fun _ => aN (o := 7) tk22 rfl (.of (aF 2 rfl)) rfl) ?_
  refine bt 6 rfl (by kernel_rfl) true rfl rfl (fun _ => qFA (off := 1) rfl) ?_
  refine db 7 0 rfl (by kernel_rfl) true rfl rfl (by simp) tk3 (fun _ => rfl) rfl rfl ?_
  refine jo 8 rfl (by kernel_rfl) rfl rfl (cD Tryz.underlying22 tk61 rfl ((bj.f_objs (.of (aF 3 rfl)))) rfl (bI (i := (bP x.choices.l o k).obj) (by omega) (by omega)) (by omega) rfl) (fun ⟨b4_8, o4_8⟩ => ?_)
  refine bt 9 rfl (by kernel_rfl) true rfl rfl (fun _ => qFA (off := 2) rfl) ?_
  refine bt 10 rfl (by kernel_rfl) true rfl rfl (fun _ => aN (o := 2) tk51 rfl (.of (aF 0 rfl)) rfl) ?_
  refine bt 11 rfl (by kernel_rfl) true rfl rfl (fun _ => qFA (off := 2) rfl) ?_
  refine db 12 0 rfl (by kernel_rfl) true rfl rfl (by simp) tk3 (fun _ => rfl) rfl rfl ?_
  refine jo 13 rfl (by kernel_rfl) rfl rfl (cD Tryz.underlying51 tk63 rfl ((ax.f_syms ((bj.f_objsA (.of (aF 4 rfl))).elt (i := (bP x.choices.l o k).obj) (by omega) (by omega)))) rfl (bI (i := (bP x.choices.l o k).sym) (by omega) (by omega)) (by omega) rfl) (fun ⟨b4_13, o4_13⟩ => ?_)
  refine bt 14 rfl (by kernel_rfl) true rfl rfl (fun _ => qFA (off := 6) rfl) ?_
  refine bt 15 rfl (by kernel_rfl) true rfl rfl (fun _ => aN (o := 6) tk3 rfl (.of (aF 0 rfl)) rfl) ?_
  refine bt 16 rfl (by kernel_rfl) true rfl rfl (fun _ => dz (l := [(0, .tmp 64), (1, .tmp 78)]) (zs := [.int .i64 0, .int .i64 0]) (pl := [(0, 1), (1, 1)]) (by kernel_rfl) (by kernel_rfl) (by kernel_rfl) rfl rfl rfl) ?_
  refine cq 17 [] (by kernel_rfl) (bL ?_ bX)
  refine cR 17 rfl rfl (Eff.x ?_)
  refine id (bc (zs := [.int .i64 0, .int .i64 0]) (by kernel_rfl) rfl (fun b4_17 => ?_))
  refine dD (by (try simp only [nO, nK, nL]); rfl) (by (try simp only [nM, nN]); rfl) (by (try simp only [bK, nQ, nR, dp, place, Nat.reduceBEq, if_true, if_false, reduceIte, Nat.reduceAdd, nW]); rfl) ?_
  refine cq 18 [] (by kernel_rfl) (bL ?_ bX)
  refine cR 18 rfl rfl (Eff.wild (q := false) ?_)
  refine id (aV 1 tk133 rfl rfl rfl rfl ?_)
  refine dD (by (try simp only [nO, nK, nL]); rfl) (by (try simp only [nM, nN]); rfl) (by (try simp only [bK, nQ, nR, dp, place, Nat.reduceBEq, if_true, if_false, reduceIte, Nat.reduceAdd, nW]); rfl) ?_
  refine eN (by kernel_rfl) ?_
  refine az (aH (aSR (aM rfl (aU rfl (ah 1 tk133 rfl rfl rfl) ?_))))
  refine aU rfl (bC (by kernel_rfl) rfl (fun w S fp hst => (lO x lb _ _).quiet2 (aF 4 rfl) (aF 5 rfl) hst)) ?_
  refine aU rfl (bZ rfl) (aNn ?_)
  refine al _ rfl (fun h2 => ?_) (fun h2 => ?_)
  ·skip
   refine aSR (aA rfl (aA rfl (aNn (aJ (aO ?_)))))
   refine aaD [] [] rfl Tryz.results123 rfl rfl ?_ (.inr rfl)
   have hk : cM x.objs.l x.keep.l (bP x.choices.l o k).obj (fV x o k) = false := by simpa [fV] using h2
   rw [show cH x o k = none by simp [cH, hbad, hk]]; rfl
  ·skip
   have hk : cM x.objs.l x.keep.l (bP x.choices.l o k).obj (fV x o k) = true := by simpa [fV] using h2
   have hkk := eV hk
   have hb := hx.bound _ _ hk
   have hl := hx.len
   refine aq (az (aH ?_))
   refine bp [] (by kernel_rfl) ?_
   show aB _ _ _ _ _ 13 #[false, false, false, false, false, false, false, false, false, false, false, false, false] _
   refine bV 0 rfl rfl (aD rfl) ?_
   refine bV 1 rfl rfl (aR rfl) ?_
   refine bV 2 rfl rfl (qFA (off := 10) rfl) ?_
   refine bV 3 rfl rfl (aN (o := 10) tk90 rfl (.of (aF 4 rfl)) rfl) ?_
   refine bV 4 rfl rfl (qFA (off := 0) rfl) ?_
   refine bV 5 rfl rfl (ah 1 tk3 rfl rfl rfl) ?_
   refine dC 6 rfl (by kernel_rfl) true rfl rfl (fun _ => av Tryz.underlying90 tk3 rfl ((bj.f_first (.of (aF 5 rfl)))) rfl (bI (i := (bP x.choices.l o k).obj) (by omega) (by omega)) (by omega) rfl) (fun h => absurd h (by decide)) (fun ⟨b7_6, o7_6⟩ => ?_)
   refine bV 7 rfl rfl (aP (o := 0) tk3 rfl (aF 0 rfl) rfl rfl) ?_
   refine bV 8 rfl rfl (qFA (off := 1) rfl) ?_
   refine bV 9 rfl rfl (ah 1 tk3 rfl rfl rfl) ?_
   refine bV 10 rfl rfl (bd rfl rfl (by (unfold fV at hb hkk; omega))) ?_
   refine bV 11 rfl rfl (cz rfl) ?_
   refine bV 12 rfl rfl (cz rfl) ?_
   refine bO (by kernel_rfl) ?_
   refine az (aJ ?_)
   refine aaD [] [] rfl Tryz.results123 rfl rfl ?_ (.inr rfl)
   rw [show cH x o k = some (elt x.first.l (bP x.choices.l o k).obj + fV x o k) by simp [cH, hbad, hk]]; rfl
end Go.Proofs.YtgmiihmahaahiaaGreatDoor

namespace Go.Proofs.YtgmiihmahaahiaaGreatDoor
open Go.RowKit Go.Lp Go.Sy
open Go.Proofs.Tryz
def kB (x : bj) (o k : Int) : Bool :=
 decide ((bP x.choices.l o k).kind ≠ 1) && decide ((bP x.choices.l o k).kind ≠ 2) || !decide (0 ≤ (bP x.choices.l o k).obj ∧ (bP x.choices.l o k).obj < x.objs.l.length ∧ 0 ≤ (bP x.choices.l o k).sym ∧ (bP x.choices.l o k).sym < (elt x.objs.l (bP x.choices.l o k).obj).syms.l.length)
def rJ (x : bj) (o k : Int) : Int × Int × Bool := if kB x o k then (0, 0, false) else ((bP x.choices.l o k).obj, fV x o k, cM x.objs.l x.keep.l (bP x.choices.l o k).obj (fV x o k))
def iL (nm : ByteArray) (y : bE) : Bool := decide (y.name.toList = nm.toList) && decide (y.bind ≠ 0) && decide (y.vis = 2)
def gQ (os : List ax) (nm : ByteArray) : Bool := os.any fun o => o.syms.l.any (iL nm)
def gw (x : bj) (o k a b : Int) : Bool := decide (0 ≤ k ∧ k < (elt x.objs.l o).syms.l.length) && ((rJ x o k).2.2 && decide ((rJ x o k).1 = a) && decide ((rJ x o k).2.1 = b))
end Go.Proofs.YtgmiihmahaahiaaGreatDoor

namespace Go.Proofs.YtgmiihmahaahiaaGreatDoor
open Go.RowKit Go.Lp Go.Sy
open Go.Proofs.Tryz
attribute [local irreducible] aL aB awp aC fwp
def jf (m : ByteArray → Option Bool) (x : bE) : ByteArray → Option Bool := if x.bind ≠ 0 ∧ x.vis = 2 then cO m x.name true else m
def er (m : ByteArray → Option Bool) (l : List bE) : ByteArray → Option Bool := l.foldl jf m
def gI (os : List ax) : ByteArray → Option Bool := os.foldl (fun m o => er m o.syms.l) fun _ => none
def kS (s : ByteArray) : Value := .string s
def vB (b : Bool) : Value := .bool b
theorem acq : ft Tryz.prog 9 kS := yK Tryz.underlying9
theorem vF (x : bj) (lb : Nat) : Con Tryz.prog 125 [.pointer (some ⟨lb, 0, none⟩)] [At lb 0 x.row, x.ok] [] fun r ps hp => ps = [] ∧ ∃ b, r = .map (some b) ∧ hp = [dg b kS vB (gI x.objs.l)] := by
 refine Con.enter Tryz.func125 rfl (by simp [Tryz.ntmps125]) ?_
 show awp _ _ _ _ ⟨[(0, true, _)], _, _⟩
 refine bA (bj.f_objs (.of (aF 1 rfl))) (fun hlen => ?_)
 refine aSR (aA rfl (aNn (aSR ?_)))
 refine an (q := true) rfl (fk (kS) (vB) rfl (fun b1_0 => ?_))
 refine aHN ?_
 refine aA rfl (aNs (aSR (aM rfl (aU rfl (aR rfl) ?_))))
 refine aU rfl (qFA (off := 7) rfl) ?_
 refine aU rfl (aN (o := 7) tk22 rfl (.of (aF 0 rfl)) rfl) (aU rfl (aZ Tryz.underlying22 rfl) (aM rfl (aNn (aI (aT [3, 12, 13, 14] [1, 0] [0] (fun (k : Nat) s => k ≤ x.objs.l.length ∧ s = ⟨[(3, true, .map (some b1_0)), (12, true, x.objs.val), (13, true, .int .i64 x.objs.l.length), (14, true, .int .i64 k)], [At lb 0 x.row, x.ok], [dg b1_0 kS vB (gI (x.objs.l.take k))]⟩) (fun k => x.objs.l.length - k) rfl (⟨0, Nat.zero_le _, rfl⟩) ?_)))))
 rintro k s ⟨hk, rfl⟩
 refine aSR (aU rfl (bw rfl rfl) (aNs ?_))
 refine al _ rfl (fun h1 => ?_) (fun h1 => ?_)
 ·skip
  have hk' : k < x.objs.l.length := by simpa using h1
  obtain ⟨o, ho⟩ : ∃ o, x.objs.l[k]? = some o := ⟨x.objs.l[k]'hk', by simp⟩
  refine bA (ax.f_syms ((bj.f_objsA (.of (aF 1 rfl))).all ho)) (fun hlen2 => ?_)
  refine aq (az (aH (aI (aSR ?_))))
  refine cJ true rfl rfl (fun _ => av Tryz.underlying22 tk61 rfl ((bj.f_objs (.of (aF 1 rfl)))) rfl (aQ ho) rfl rfl) (fun h => absurd h (by decide)) (fun ⟨b4_0, o4_0⟩ => ?_)
  refine aU rfl (aP (o := 0) tk61 rfl (aF 0 rfl) rfl rfl) ?_
  refine an (q := true) rfl (bc (zs := [.string .empty, .slice none 0 0, .slice none 0 0, .slice none 0 0, .slice none 0 0, .slice none 0 0, .slice none 0 0, .slice none 0 0, .slice none 0 0, .slice none 0 0, .slice none 0 0]) (by kernel_rfl) rfl (fun b4_2 => ?_))
  refine aHN ?_
  refine an rfl (aV 1 tk61 rfl rfl rfl rfl ?_)
  refine aHK ?_
  refine aNn (aSR ?_)
  refine aU rfl (qFA (off := 2) rfl) ?_
  refine aU rfl (ah 1 tk51 rfl rfl rfl) (aU rfl (aZ Tryz.underlying51 rfl) (aM rfl (aNn (aI (aT [3, 12, 13, 14, 19, 20, 21] [1, 0] [0] (fun (j : Nat) s => j ≤ o.syms.l.length ∧ s = ⟨[(3, true, .map (some b1_0)), (12, true, x.objs.val), (13, true, .int .i64 x.objs.l.length), (14, true, .int .i64 k), (19, true, o.syms.val), (20, true, .int .i64 o.syms.l.length), (21, true, .int .i64 j)], [At lb 0 x.row, x.ok], [dg b1_0 kS vB (er (gI (x.objs.l.take k)) (o.syms.l.take j))]⟩) (fun j => o.syms.l.length - j) rfl (⟨0, Nat.zero_le _, rfl⟩) ?_)))))
  rintro j s ⟨hj, rfl⟩
  refine aSR (aU rfl (bw rfl rfl) (aNs ?_))
  refine al _ rfl (fun h2 => ?_) (fun h2 => ?_)
  ·skip
   have hj' : j < o.syms.l.length := by simpa using h2
   obtain ⟨y, hy⟩ : ∃ y, o.syms.l[j]? = some y := ⟨o.syms.l[j]'hj', by simp⟩
   have hstep : er (gI (x.objs.l.take k)) (o.syms.l.take (j + 1)) = jf (er (gI (x.objs.l.take k)) (o.syms.l.take j)) y := by
     unfold er; rw [List.take_add_one, hy, List.foldl_append]; rfl
   refine aq (az (aH (aI (aSR ?_))))
   refine cJ true rfl rfl (fun _ => av Tryz.underlying51 tk63 rfl ((ax.f_syms ((bj.f_objsA (.of (aF 1 rfl))).all ho))) rfl (aQ hy) rfl rfl) (fun h => absurd h (by decide)) (fun ⟨b7_0, o7_0⟩ => ?_)
   refine aU rfl (aP (o := 0) tk63 rfl (aF 0 rfl) rfl rfl) ?_
   refine an (q := true) rfl (bc (zs := [.string .empty, .string .empty, .bool false, .int .i64 0, .int .i64 0, .int .i64 0, .int .i64 0, .int .i64 0, .int .i64 0, .int .i64 0]) (by kernel_rfl) rfl (fun b7_2 => ?_))
   refine aHN ?_
   refine an rfl (aV 1 tk63 rfl rfl rfl rfl ?_)
   refine aHK ?_
   refine aNn (aSR ?_)
   refine aU rfl (qFA (off := 3) rfl) ?_
   refine aU rfl (ah 1 tk3 rfl rfl rfl) (aU rfl (dB rfl rfl) (aM rfl ?_))
   refine aG rfl rfl (fun hc => qFA (off := 4) rfl) ?_
   refine aG rfl rfl (fun hc => ah 1 tk3 (ae rfl hc) rfl rfl) (aG rfl rfl (fun hc => bx (ae rfl hc) rfl) (aU rfl (bJ rfl rfl (fun h => gt rfl h)) (aNn ?_)))
   refine al _ rfl (fun h3 => ?_) (fun h3 => ?_)
   ·skip
    refine aj (aM rfl ?_)
    refine aU rfl (qFA (off := 0) rfl) ?_
    refine aU rfl (ah 1 tk9 rfl rfl rfl) ?_
    refine an rfl (dQ (k := y.name) (v := true) 0 Tryz.underlying125 (acq) rfl rfl rfl rfl ?_)
    refine aHK ?_
    refine cn (bB (az (aj ?_)))
    refine aU rfl (bd rfl rfl (by omega)) ?_
    refine aM rfl (aNn ?_)
    refine ⟨[3, 12, 13, 14, 19, 20, 21], [1, 0], [0], rfl, ?_⟩
    refine ⟨j + 1, ⟨by omega, ?_⟩, by omega⟩
    rw [hstep]
    first
    | (rw [show jf (er (gI (x.objs.l.take k)) (o.syms.l.take j)) y = cO (er (gI (x.objs.l.take k)) (o.syms.l.take j)) y.name true from if_pos (by simpa using h3)]; rfl)
    | (rw [show jf (er (gI (x.objs.l.take k)) (o.syms.l.take j)) y = er (gI (x.objs.l.take k)) (o.syms.l.take j) from if_neg (by simpa using h3)]; rfl)
   ·skip
    refine aq (bB (az (aj ?_)))
    refine aU rfl (bd rfl rfl (by omega)) ?_
    refine aM rfl (aNn ?_)
    refine ⟨[3, 12, 13, 14, 19, 20, 21], [1, 0], [0], rfl, ?_⟩
    refine ⟨j + 1, ⟨by omega, ?_⟩, by omega⟩
    rw [hstep]
    first
    | (rw [show jf (er (gI (x.objs.l.take k)) (o.syms.l.take j)) y = cO (er (gI (x.objs.l.take k)) (o.syms.l.take j)) y.name true from if_pos (by simpa using h3)]; rfl)
    | (rw [show jf (er (gI (x.objs.l.take k)) (o.syms.l.take j)) y = er (gI (x.objs.l.take k)) (o.syms.l.take j) from if_neg (by simpa using h3)]; rfl)
  ·skip
   refine aX (aY (aY (bf (bB (az (aj ?_))))))
   refine aU rfl (bd rfl rfl (by omega)) ?_
   refine aM rfl (aNn ?_)
   refine ⟨[3, 12, 13, 14], [1, 0], [0], rfl, ?_⟩
   refine ⟨k + 1, ⟨by omega, ?_⟩, by omega⟩
   rw [show gI (x.objs.l.take (k + 1)) = er (gI (x.objs.l.take k)) (o.syms.l.take j) by
     rw [List.take_of_length_le (l := o.syms.l) (by simpa using h2)]
     unfold gI; rw [List.take_add_one, ho, List.foldl_append]; rfl]
   rfl
 ·skip
  refine aX (aY (aY (bf (az (aSR (aM rfl (aA rfl (aNn (aJ ?_)))))))))
  refine br [] [0] rfl Tryz.results125 rfl ?_ (.inr rfl)
  refine ⟨rfl, _, rfl, ?_⟩
  rw [List.take_of_length_le (by simpa using h1)]; rfl
end Go.Proofs.YtgmiihmahaahiaaGreatDoor

namespace Go.Proofs.YtgmiihmahaahiaaGreatDoor
open Go.RowKit Go.Lp Go.Sy
open Go.Proofs.Tryz
attribute [local irreducible] aL aB awp aC fwp
def iR (l : List Int) : List (List D) := l.map fun z => [.v (.int .i64 z)]
theorem uQ (l : List Int) : (iR l).length = l.length := List.length_map ..
theorem wb (l : List Int) (z : Int) : iR (l ++ [z]) = iR l ++ [[.v (.int .i64 z)]] := by simp [iR]
theorem oB (x : bj) (hx : uC x) (bl lb bo : Nat) (o k : Int) (ho : 0 ≤ o ∧ o < x.objs.l.length) (v : Value) (acc : List Int) (hacc : acc.length ≤ 1000000) :
   Con Tryz.prog 124 [.int .i64 o, .int .i64 k, .pointer (some ⟨bl, 0, none⟩), .pointer (some ⟨bo, 0, none⟩)] [At bl 0 [.v (.pointer (some ⟨lb, 0, none⟩))], At lb 0 x.row, x.ok] [Box bo 90 [v], bg v 3 1 (iR acc)]
     fun _ ps hp => ps = [] ∧ ∃ v', hp = [Box bo 90 [v'], bg v' 3 1 (iR (acc ++ (cH x o k).toList))] := by
 refine Con.enter Tryz.func124 rfl (by simp [Tryz.ntmps124]) ?_
 show awp _ _ _ _ ⟨[(0, true, _), (1, true, _), (2, true, _), (3, true, _)], _, _⟩
 refine aSR (aU rfl (aN (o := 0) tk136 rfl (.of (aF 0 rfl)) rfl) (aM rfl (aM rfl ?_)))
 refine aU rfl (bC (by kernel_rfl) rfl (fun w S fp hst => (mE x hx lb o k ho).quiet2 (aF 1 rfl) (aF 2 rfl) hst)) ?_
 refine aM rfl (aU rfl (bD rfl rfl) (aU rfl (bD rfl rfl) (aA rfl (aA rfl (aNn (aSR (aM rfl (aNn ?_))))))))
 refine al _ rfl (fun h1 => ?_) (fun h1 => ?_)
 ·skip
  obtain ⟨z, hz⟩ := Option.isSome_iff_exists.1 h1
  rw [hz]
  refine aj (aU rfl (ah 0 tk90 rfl rfl rfl) (aM rfl ?_))
  refine an (q := true) rfl (cB (zs := [.int .i64 0]) (l := [(0, .tmp 17)]) el90 (by kernel_rfl) (by decide) (by decide) (by decide) rfl rfl rfl (.more rfl (.v rfl .nil) .nil) rfl rfl (fun v2_2 => ?_))
  refine aHN ?_
  refine an rfl (cL 1 el90 rfl rfl rfl rfl (dR 2 el90 rfl (by simp)) (by first | assumption | simp) (by simp [uQ]; omega) _ rfl (fun v2_3 c2_3 => ?_))
  refine aHK ?_
  refine an rfl (aV 0 tk90 rfl rfl rfl rfl ?_)
  refine aHK ?_
  refine cn ?_
  refine ir [] [0, 1] rfl Tryz.results124 ?_ (.inl rfl)
  exact ⟨rfl, _, by rw [show acc ++ (some z).toList = acc ++ [z] from rfl, wb]; rfl⟩
 ·skip
  have hz : cH x o k = none := by simpa using h1
  refine aq ?_
  refine ir [] [0, 1] rfl Tryz.results124 ?_ (.inl rfl)
  exact ⟨rfl, _, by rw [hz, show acc ++ (none : Option Int).toList = acc by simp]; rfl⟩
def gj (x : bj) (o s k : Int) : List dy :=
 if (cH x o k).isSome && cM x.objs.l x.keep.l o s then [⟨elt x.first.l o + s, (cH x o k).getD 0⟩] else []
theorem qf (x : bj) (hx : uC x) (bl lb bo : Nat) (o s k : Int) (ho : 0 ≤ o ∧ o < x.objs.l.length) (v : Value) (acc : List dy) (hacc : acc.length ≤ 1000000) :
   Con Tryz.prog 122 [.int .i64 o, .int .i64 s, .int .i64 k, .pointer (some ⟨bl, 0, none⟩), .pointer (some ⟨bo, 0, none⟩)] [At bl 0 [.v (.pointer (some ⟨lb, 0, none⟩))], At lb 0 x.row, x.ok] [Box bo 141 [v], bg v 215 2 (acc.map dy.row)]
     fun _ ps hp => ps = [] ∧ ∃ v', hp = [Box bo 141 [v'], bg v' 215 2 ((acc ++ gj x o s k).map dy.row)] := by
 refine Con.enter Tryz.func122 rfl (by simp [Tryz.ntmps122]) ?_
 show awp _ _ _ _ ⟨[(0, true, _), (1, true, _), (2, true, _), (3, true, _), (4, true, _)], _, _⟩
 refine aSR (aU rfl (aN (o := 0) tk136 rfl (.of (aF 0 rfl)) rfl) (aM rfl (aM rfl ?_)))
 refine aU rfl (bC (by kernel_rfl) rfl (fun w S fp hst => (mE x hx lb o k ho).quiet2 (aF 1 rfl) (aF 2 rfl) hst)) ?_
 refine aM rfl (aU rfl (bD rfl rfl) (aU rfl (bD rfl rfl) (aA rfl (aA rfl (aNn (aSR (aM rfl (aM rfl (aG rfl rfl (fun hc => aN (o := 0) tk136 rfl (.of (aF 0 rfl)) rfl) (aG rfl rfl (fun hc => aD rfl) (aG rfl rfl (fun hc => aD rfl) ?_)))))))))))
 refine aG rfl rfl (fun hc => dz (l := [(0, .tmp 20), (1, .tmp 21)]) (zs := [.int .i64 0, .int .i64 0]) (pl := [(0, 1), (1, 1)]) (by kernel_rfl) (by kernel_rfl) (by kernel_rfl) rfl (aS (ae rfl hc) (aS (ae rfl hc) rfl)) rfl) ?_
 refine aG rfl rfl (fun hc => bC (by kernel_rfl) (aS (ae rfl hc) (aS (ae rfl hc) rfl)) (fun w S fp hst => (lO x lb _ _).quiet2 (aF 1 rfl) (aF 2 rfl) hst)) ?_
 refine aU rfl (bJ rfl rfl (fun h => gt rfl h)) (aNn ?_)
 refine al _ rfl (fun h1 => ?_) (fun h1 => ?_)
 ·skip
  have hc1 : ((cH x o k).isSome && cM x.objs.l x.keep.l o s) = true := by simpa using h1
  have hl := hx.len
  have hb := hx.bound o s (by simp at h1; exact h1.2)
  have hkk := eV (by simp at h1; exact h1.2 : cM x.objs.l x.keep.l o s = true)
  refine cP [13, 14] [14] [bo] (by kernel_rfl) ?_
  show aC _ _ _ _ _ _ _ 15 #[false, false, false, false, false, false, false, false, false, false, false, false, false, false, false] _
  refine db 0 0 rfl (by kernel_rfl) true rfl rfl (by simp) tk141 (fun _ => rfl) rfl rfl ?_
  refine bt 1 rfl (by kernel_rfl) true rfl rfl (fun _ => aN (o := 0) tk136 rfl (.of (aF 0 rfl)) rfl) ?_
  refine bt 2 rfl (by kernel_rfl) true rfl rfl (fun _ => aR rfl) ?_
  refine bt 3 rfl (by kernel_rfl) true rfl rfl (fun _ => qFA (off := 10) rfl) ?_
  refine bt 4 rfl (by kernel_rfl) true rfl rfl (fun _ => aN (o := 10) tk90 rfl (.of (aF 1 rfl)) rfl) ?_
  refine bt 5 rfl (by kernel_rfl) true rfl rfl (fun _ => aD rfl) ?_
  refine jo 6 rfl (by kernel_rfl) rfl rfl (cD Tryz.underlying90 tk3 rfl ((bj.f_first (.of (aF 2 rfl)))) rfl (bI (i := o) (by omega) (by omega)) (by omega) rfl) (fun ⟨b2_6, o2_6⟩ => ?_)
  refine bt 7 rfl (by kernel_rfl) true rfl rfl (fun _ => aN (o := 0) tk3 rfl (.of (aF 0 rfl)) rfl) ?_
  refine bt 8 rfl (by kernel_rfl) true rfl rfl (fun _ => aD rfl) ?_
  refine bt 9 rfl (by kernel_rfl) true rfl rfl (fun _ => bd rfl rfl (by omega)) ?_
  refine bt 10 rfl (by kernel_rfl) true rfl rfl (fun _ => aD rfl) ?_
  refine bt 11 rfl (by kernel_rfl) true rfl rfl (fun _ => dz (l := [(0, .tmp 34), (1, .tmp 35)]) (zs := [.int .i64 0, .int .i64 0]) (pl := [(0, 1), (1, 1)]) (by kernel_rfl) (by kernel_rfl) (by kernel_rfl) rfl rfl rfl) ?_
  refine cq 12 [] (by kernel_rfl) (bL ?_ bX)
  refine cR 12 rfl rfl (Eff.x ?_)
  refine id (cB (zs := [.int .i64 0, .int .i64 0]) (l := [(0, .tmp 36)]) el141 (by kernel_rfl) (by decide) (by decide) (by decide) rfl rfl rfl (.more rfl (.v rfl (.v rfl .nil)) .nil) rfl rfl (fun v2_12 => ?_))
  refine dD (by (try simp only [nO, nK, nL]); rfl) (by (try simp only [nM, nN]); rfl) (by (try simp only [bK, nQ, nR, dp, place, Nat.reduceBEq, if_true, if_false, reduceIte, Nat.reduceAdd, nW]); rfl) ?_
  refine cq 13 [] (by kernel_rfl) (bL ?_ bX)
  refine cR 13 rfl rfl (Eff.framed (q := false) [1, 2] rfl rfl (jq 0 rfl rfl qN) ?_)
  refine id (cL 0 el141 rfl rfl rfl rfl (dR 1 el141 rfl (by simp)) (by first | assumption | simp) (by simp; omega) _ rfl (fun v2_13 c2_13 => ?_))
  refine kQ ?_
  refine dD (by (try simp only [nO, nK, nL]); rfl) (by (try simp only [nM, nN]); rfl) (by (try simp only [bK, nQ, nR, dp, place, Nat.reduceBEq, if_true, if_false, reduceIte, Nat.reduceAdd, nW]); rfl) ?_
  refine cq 14 [] (by kernel_rfl) (bL ?_ bX)
  refine cR 14 rfl rfl (Eff.wild (q := false) ?_)
  refine id (aV 0 tk141 rfl rfl rfl rfl ?_)
  refine dD (by (try simp only [nO, nK, nL]); rfl) (by (try simp only [nM, nN]); rfl) (by (try simp only [bK, nQ, nR, dp, place, Nat.reduceBEq, if_true, if_false, reduceIte, Nat.reduceAdd, nW]); rfl) ?_
  refine eN (by kernel_rfl) ?_
  refine ir [] [0, 1] rfl Tryz.results122 ?_ (.inl rfl)
  exact ⟨rfl, _, by rw [show gj x o s k = [⟨elt x.first.l o + s, (cH x o k).getD 0⟩] from if_pos hc1, List.map_append]; rfl⟩
 ·skip
  have hc1 : ((cH x o k).isSome && cM x.objs.l x.keep.l o s) = false := by simpa using h1
  refine aq ?_
  refine ir [] [0, 1] rfl Tryz.results122 ?_ (.inl rfl)
  exact ⟨rfl, _, by rw [show gj x o s k = [] from if_neg (by rw [hc1]; simp), List.append_nil]; rfl⟩
end Go.Proofs.YtgmiihmahaahiaaGreatDoor

namespace Go.Proofs.YtgmiihmahaahiaaGreatDoor
open Go.RowKit Go.Lp Go.Sy
open Go.Proofs.Tryz
attribute [local irreducible] aL aB awp aC fwp
theorem eB {α β : Type} (f : α → List β) (h : ∀ a, (f a).length ≤ 1) : ∀ l : List α, (l.flatMap f).length ≤ l.length
 | [] => Nat.le_refl _
 | a :: l => by rw [List.flatMap_cons, List.length_append, List.length_cons]; have := h a; have := eB f h l; omega
theorem jz (x : bj) (o s k : Int) : (gj x o s k).length ≤ 1 := by unfold gj; split <;> simp
def ep (x : bj) (k : Nat) (l : List ju) : List dy := l.flatMap fun r => gj x k r.sec r.sym
def gn (x : bj) (k : Nat) (l : List dx) : List dy := l.flatMap fun c => gj x k c.sec c.code
def kJ (x : bj) (k : Nat) : List dy := ep x k (elt x.objs.l (k : Int)).rels.l ++ gn x k (elt x.objs.l (k : Int)).converts.l
def eo (x : bj) (n : Nat) : List dy := (List.range n).flatMap (kJ x)
structure mL (os : List ax) : Prop where
 n : os.length ≤ 4
 of : ∀ o ∈ os, o.secs.l.length ≤ 6 ∧ o.syms.l.length ≤ 14 ∧ o.rels.l.length ≤ 14 ∧ o.inits.l.length ≤ 6 ∧ o.converts.l.length ≤ 6
theorem kR {x : bj} (hf : mL x.objs.l) : ∀ n, n ≤ x.objs.l.length → (eo x n).length ≤ 20 * n
 | 0, _ => Nat.le_refl _
 | n + 1, h => by
   have ih := kR hf n (by omega)
   have hm := hf.of _ (List.mem_of_getElem? (bM (l := x.objs.l) (i := n) h))
   have h1 := eB (fun r : ju => gj x n r.sec r.sym) (fun _ => jz _ _ _ _) (elt x.objs.l (n : Int)).rels.l
   have h2 := eB (fun c : dx => gj x n c.sec c.code) (fun _ => jz _ _ _ _) (elt x.objs.l (n : Int)).converts.l
   have e : (kJ x n).length ≤ 20 := by unfold kJ ep gn; rw [List.length_append]; omega
   unfold eo at ih ⊢
   rw [List.range_succ, List.flatMap_append, List.length_append, List.flatMap_cons, List.flatMap_nil, List.append_nil]
   omega
theorem ue (x : bj) (hx : uC x) (hf : mL x.objs.l) (lb : Nat) : Con Tryz.prog 65 [.pointer (some ⟨lb, 0, none⟩)] [At lb 0 x.row, x.ok] []
   fun r ps hp => hp = [] ∧ ∃ ad c, r = .slice ad (eo x x.objs.l.length).length c ∧ ps = [Sh (.slice ad (eo x x.objs.l.length).length c) (.sl ((eo x x.objs.l.length).map dy.row))] := by
 refine Con.enter Tryz.func65 rfl (by simp [Tryz.ntmps65]) ?_
 show awp _ _ _ _ ⟨[(0, true, _)], _, _⟩
 refine bA (bj.f_objs (.of (aF 1 rfl))) (fun hlen => ?_)
 refine aSR ?_
 refine an (q := true) rfl (cx rfl rfl rfl (fun b0_0 => ?_))
 refine aHN ?_
 refine aA rfl (aNs (cX 0 rfl rfl ?_))
 show awp _ _ _ _ ⟨_, At _ 0 _ :: _, _⟩
 refine aj ?_
 refine an (q := true) rfl (bc (zs := [.slice none 0 0]) (by kernel_rfl) rfl (fun b1_0 => ?_))
 refine aHN ?_
 refine aNs (eD 215 2 ?_)
 show awp _ _ _ _ ⟨_, _, [_, _, _]⟩
 refine aj (aU rfl (im (l := [.tmp 1, .tmp 3]) rfl) (aA rfl (aNs (aSR (aU rfl (aN (o := 0) tk136 rfl (.of (aF 0 rfl)) rfl) (aU rfl (aR rfl) ?_))))))
 refine aU rfl (qFA (off := 7) rfl) ?_
 refine aU rfl (aN (o := 7) tk22 rfl (.of (aF 1 rfl)) rfl) (aU rfl (aZ Tryz.underlying22 rfl) (aM rfl (aNn (aI ?_))))
 refine aT [3, 4, 15, 16, 17] [2, 1, 0] [1, 2] (fun (p : Nat × Value) s => p.1 ≤ x.objs.l.length ∧ s = ⟨[(3, true, .pointer (some ⟨b1_0, 0, none⟩)), (4, true, .func (.func 122) #[] #[.pointer (some ⟨b0_0, 0, none⟩), .pointer (some ⟨b1_0, 0, none⟩)]), (15, true, x.objs.val), (16, true, .int .i64 x.objs.l.length), (17, true, .int .i64 p.1)],
   [At b0_0 0 [.v (.pointer (some ⟨lb, 0, none⟩))], At lb 0 x.row, x.ok], [Box b1_0 141 [p.2], bg p.2 215 2 ((eo x p.1).map dy.row)]⟩) (fun p => x.objs.l.length - p.1) rfl (⟨(0, _), Nat.zero_le _, rfl⟩) ?_
 rintro ⟨k, v⟩ s ⟨hk, rfl⟩
 dsimp only at hk
 refine aSR (aU rfl (bw rfl rfl) (aNs ?_))
 refine al _ rfl (fun h1 => ?_) (fun h1 => ?_)
 ·skip
  have hk' : k < x.objs.l.length := by simpa using h1
  have ho := bM hk'
  have hfo := hf.of _ (List.mem_of_getElem? ho)
  have hacc := kR hf k hk
  have hn4 := hf.n
  have hoi : (0 : Int) ≤ k ∧ (k : Int) < x.objs.l.length := by omega
  generalize hoo : elt x.objs.l (k : Int) = o at ho hfo
  refine aq (az (aH (aI (aSR (aM rfl ?_)))))
  refine cJ true rfl rfl (fun _ => av Tryz.underlying22 tk61 rfl ((bj.f_objs (.of (aF 2 rfl)))) rfl (aQ ho) rfl rfl) (fun h => absurd h (by decide)) (fun ⟨b5_1, o5_1⟩ => ?_)
  refine aU rfl (aP (o := 0) tk61 rfl (aF 0 rfl) rfl rfl) ?_
  refine an (q := true) rfl (bc (zs := [.string .empty, .slice none 0 0, .slice none 0 0, .slice none 0 0, .slice none 0 0, .slice none 0 0, .slice none 0 0, .slice none 0 0, .slice none 0 0, .slice none 0 0, .slice none 0 0]) (by kernel_rfl) rfl (fun b5_3 => ?_))
  refine aHN ?_
  refine aA rfl ?_
  refine an rfl (aV 2 tk61 rfl rfl rfl rfl ?_)
  refine aHK ?_
  refine aNs (aSR ?_)
  refine aU rfl (qFA (off := 3) rfl) ?_
  refine aU rfl (ah 2 tk52 rfl rfl rfl) (aU rfl (aZ Tryz.underlying52 rfl) (aM rfl (aNn (aI ?_))))
  refine aT [3, 4, 5, 15, 16, 17, 6, 23, 24, 25] [2, 1, 0] [0, 1, 2] (fun (p : Nat × Value) s => p.1 ≤ o.rels.l.length ∧ s = ⟨[(3, true, .pointer (some ⟨b1_0, 0, none⟩)), (4, true, .func (.func 122) #[] #[.pointer (some ⟨b0_0, 0, none⟩), .pointer (some ⟨b1_0, 0, none⟩)]), (5, true, .int .i64 k), (15, true, x.objs.val), (16, true, .int .i64 x.objs.l.length), (17, true, .int .i64 k), (6, true, .pointer (some ⟨b5_3, 0, none⟩)), (23, true, o.rels.val), (24, true, .int .i64 o.rels.l.length), (25, true, .int .i64 p.1)],
    [At b0_0 0 [.v (.pointer (some ⟨lb, 0, none⟩))], At lb 0 x.row, x.ok], [Box b1_0 141 [p.2], bg p.2 215 2 ((eo x k ++ ep x k (o.rels.l.take p.1)).map dy.row), Box b5_3 61 o.vs]⟩) (fun p => o.rels.l.length - p.1) rfl (⟨(0, _), Nat.zero_le _, by rw [List.take_zero, show ep x k [] = [] from rfl, List.append_nil]; rfl⟩) ?_
  rintro ⟨j, v⟩ s ⟨hj, rfl⟩
  dsimp only at hj
  refine aSR (aU rfl (bw rfl rfl) (aNs ?_))
  refine al _ rfl (fun h2 => ?_) (fun h2 => ?_)
  ·skip
   have hj' : j < o.rels.l.length := by simpa using h2
   obtain ⟨y, hy⟩ : ∃ y, o.rels.l[j]? = some y := ⟨o.rels.l[j]'hj', by simp⟩
   have hlr : (eo x k ++ ep x k (o.rels.l.take j)).length ≤ 1000000 := by
     have := eB (fun r : ju => gj x k r.sec r.sym) (fun _ => jz _ _ _ _) (o.rels.l.take j)
     rw [List.length_take] at this; rw [List.length_append]; unfold ep; omega
   refine aq (az (aH (aI (aSR ?_))))
   refine cJ true rfl rfl (fun _ => av Tryz.underlying52 tk182 rfl ((ax.f_rels ((bj.f_objsA (.of (aF 2 rfl))).all ho))) rfl (aQ hy) rfl rfl) (fun h => absurd h (by decide)) (fun ⟨b8_0, o8_0⟩ => ?_)
   refine aU rfl (aP (o := 0) tk182 rfl (aF 0 rfl) rfl rfl) ?_
   refine an (q := true) rfl (bc (zs := [.int .i64 0, .int .i64 0, .int .i64 0, .int .i64 0, .int .i64 0]) (by kernel_rfl) rfl (fun b8_2 => ?_))
   refine aHN ?_
   refine an rfl (aV 3 tk182 rfl rfl rfl rfl ?_)
   refine aHK ?_
   refine aNn (aj (aM rfl (aM rfl ?_)))
   refine aU rfl (qFA (off := 0) rfl) ?_
   refine aU rfl (ah 3 tk3 rfl rfl rfl) ?_
   refine aU rfl (qFA (off := 3) rfl) ?_
   refine aU rfl (ah 3 tk3 rfl rfl rfl) ?_
   refine an (q := false) rfl (gA [2, 1, 0] [0, 1] (by kernel_rfl) rfl rfl rfl rfl rfl (qf x hx _ lb _ k y.sec y.sym hoi _ _ hlr) ?_)
   rintro r9 _ _ ⟨rfl, v', rfl⟩
   refine aST ?_
   refine cn (bB (az (aj ?_)))
   refine aU rfl (bd rfl rfl (by omega)) ?_
   refine aM rfl (aNn ?_)
   refine ⟨[3, 4, 5, 15, 16, 17, 6, 23, 24, 25], [2, 1, 0], [0, 1, 2], rfl, ?_⟩
   refine ⟨(j + 1, v'), ⟨by dsimp only; omega, ?_⟩, by dsimp only; omega⟩
   rw [show eo x k ++ ep x k (o.rels.l.take (j + 1)) = eo x k ++ ep x k (o.rels.l.take j) ++ gj x k y.sec y.sym by
     unfold ep; rw [List.take_add_one, hy, List.flatMap_append, List.append_assoc]; simp]
   rfl
  ·skip
   have hj2 : o.rels.l.take j = o.rels.l := List.take_of_length_le (by simpa using h2)
   refine bA (ax.f_converts ((bj.f_objsA (.of (aF 2 rfl))).all ho)) (fun hlenc => ?_)
   refine aX (aY (aY (bf (az (aSR ?_)))))
   refine aU rfl (qFA (off := 10) rfl) ?_
   refine aU rfl (ah 2 tk59 rfl rfl rfl) (aU rfl (aZ Tryz.underlying59 rfl) (aM rfl (aNn (aI ?_))))
   refine aT [3, 4, 5, 15, 16, 17, 38, 39, 40] [2, 1, 0] [0, 1] (fun (p : Nat × Value) s => p.1 ≤ o.converts.l.length ∧ s = ⟨[(3, true, .pointer (some ⟨b1_0, 0, none⟩)), (4, true, .func (.func 122) #[] #[.pointer (some ⟨b0_0, 0, none⟩), .pointer (some ⟨b1_0, 0, none⟩)]), (5, true, .int .i64 k), (15, true, x.objs.val), (16, true, .int .i64 x.objs.l.length), (17, true, .int .i64 k), (38, true, o.converts.val), (39, true, .int .i64 o.converts.l.length), (40, true, .int .i64 p.1)],
     [At b0_0 0 [.v (.pointer (some ⟨lb, 0, none⟩))], At lb 0 x.row, x.ok], [Box b1_0 141 [p.2], bg p.2 215 2 ((eo x k ++ ep x k o.rels.l ++ gn x k (o.converts.l.take p.1)).map dy.row)]⟩) (fun p => o.converts.l.length - p.1) rfl (⟨(0, _), Nat.zero_le _, by rw [List.take_zero, show gn x k [] = [] from rfl, List.append_nil, hj2]; rfl⟩) ?_
   rintro ⟨i, v⟩ s ⟨hi, rfl⟩
   dsimp only at hi
   refine aSR (aU rfl (bw rfl rfl) (aNs ?_))
   refine al _ rfl (fun h3 => ?_) (fun h3 => ?_)
   ·skip
    have hi' : i < o.converts.l.length := by simpa using h3
    obtain ⟨y, hy⟩ : ∃ y, o.converts.l[i]? = some y := ⟨o.converts.l[i]'hi', by simp⟩
    have hlr : (eo x k ++ ep x k o.rels.l ++ gn x k (o.converts.l.take i)).length ≤ 1000000 := by
      have := eB (fun r : ju => gj x k r.sec r.sym) (fun _ => jz _ _ _ _) o.rels.l
      have := eB (fun r : dx => gj x k r.sec r.code) (fun _ => jz _ _ _ _) (o.converts.l.take i)
      rw [List.length_take] at this; rw [List.length_append, List.length_append]; unfold ep gn; omega
    refine aq (az (aH (aI (aSR ?_))))
    refine cJ true rfl rfl (fun _ => av Tryz.underlying59 tk210 rfl ((ax.f_converts ((bj.f_objsA (.of (aF 2 rfl))).all ho))) rfl (aQ hy) rfl rfl) (fun h => absurd h (by decide)) (fun ⟨b13_0, o13_0⟩ => ?_)
    refine aU rfl (aP (o := 0) tk210 rfl (aF 0 rfl) rfl rfl) ?_
    refine an (q := true) rfl (bc (zs := [.int .i64 0, .string .empty, .slice none 0 0, .int .i64 0]) (by kernel_rfl) rfl (fun b13_2 => ?_))
    refine aHN ?_
    refine an rfl (aV 2 tk210 rfl rfl rfl rfl ?_)
    refine aHK ?_
    refine aNn (aj (aM rfl (aM rfl ?_)))
    refine aU rfl (qFA (off := 0) rfl) ?_
    refine aU rfl (ah 2 tk3 rfl rfl rfl) ?_
    refine aU rfl (qFA (off := 3) rfl) ?_
    refine aU rfl (ah 2 tk3 rfl rfl rfl) ?_
    refine an (q := false) rfl (gA [2, 1, 0] [0, 1] (by kernel_rfl) rfl rfl rfl rfl rfl (qf x hx _ lb _ k y.sec y.code hoi _ _ hlr) ?_)
    rintro r14 _ _ ⟨rfl, v', rfl⟩
    refine aST ?_
    refine cn (bB (az (aj ?_)))
    refine aU rfl (bd rfl rfl (by omega)) ?_
    refine aM rfl (aNn ?_)
    refine ⟨[3, 4, 5, 15, 16, 17, 38, 39, 40], [2, 1, 0], [0, 1], rfl, ?_⟩
    refine ⟨(i + 1, v'), ⟨by dsimp only; omega, ?_⟩, by dsimp only; omega⟩
    rw [show eo x k ++ ep x k o.rels.l ++ gn x k (o.converts.l.take (i + 1)) = eo x k ++ ep x k o.rels.l ++ gn x k (o.converts.l.take i) ++ gj x k y.sec y.code by
      unfold gn; rw [List.take_add_one, hy, List.flatMap_append, List.append_assoc]; simp]
    rfl
   ·skip
    have hi2 : o.converts.l.take i = o.converts.l := List.take_of_length_le (by simpa using h3)
    refine aX (aY (aY (bf (bB (az (aj ?_))))))
    refine aU rfl (bd rfl rfl (by omega)) ?_
    refine aM rfl (aNn ?_)
    refine ⟨[3, 4, 15, 16, 17], [2, 1, 0], [0, 1], rfl, ?_⟩
    refine ⟨(k + 1, v), ⟨by dsimp only; omega, ?_⟩, by dsimp only; omega⟩
    rw [hi2, show eo x (k + 1) = eo x k ++ ep x k o.rels.l ++ gn x k o.converts.l by
      unfold eo; rw [List.range_succ, List.flatMap_append, List.append_assoc, List.flatMap_cons, List.flatMap_nil, List.append_nil]
      unfold kJ; rw [hoo]]
    rfl
 ·skip
  obtain rfl : k = x.objs.l.length := by have := (by simpa using h1 : x.objs.l.length ≤ k); omega
  refine aX (aY (aY (bf (az (aSR (aU rfl (ah 0 tk141 rfl rfl rfl) ?_))))))
  refine aA rfl (aNn (fN 1 rfl ?_))
  refine jN (.of (aF 0 rfl)) (fun ad kc hv => ?_)
  rw [List.length_map] at hv
  refine aJ ?_
  refine br [3] [] rfl Tryz.results65 rfl ?_ (.inr rfl)
  exact ⟨rfl, ad, kc, hv, by rw [← hv]; rfl⟩
end Go.Proofs.YtgmiihmahaahiaaGreatDoor

namespace Go.Proofs.YtgmiihmahaahiaaGreatDoor
open Go.RowKit Go.Lp Go.Sy
open Go.Proofs.Tryz
attribute [local irreducible] aL aB awp aC fwp
def eh (x : bj) (k j : Nat) : List dr := (List.range j).filterMap fun s : Nat => if cM x.objs.l x.keep.l (k : Int) (s : Int) then some ⟨k, s⟩ else none
def dn (x : bj) (n : Nat) : List dr := (List.range n).flatMap fun k => eh x k (elt x.objs.l (k : Int)).secs.l.length
theorem iI (x : bj) (k j : Nat) : eh x k (j + 1) = eh x k j ++ (if cM x.objs.l x.keep.l (k : Int) (j : Int) then [⟨k, j⟩] else []) := by
 unfold eh; rw [List.range_succ, List.filterMap_append]; congr 1; simp only [List.filterMap_cons, List.filterMap_nil]; split <;> rename_i h <;> split at h <;> simp_all
theorem iy (x : bj) (n : Nat) : dn x (n + 1) = dn x n ++ eh x n (elt x.objs.l (n : Int)).secs.l.length := by
 unfold dn; rw [List.range_succ, List.flatMap_append]; simp
theorem qW (x : bj) (k : Nat) {i j : Nat} (h : i ≤ j) : eh x k i <+: eh x k j := by
 induction j with
 | zero => obtain rfl : i = 0 := by omega
           exact List.prefix_refl _
 | succ j ih =>
   by_cases hij : i = j + 1
   · rw [hij]; exact List.prefix_refl _
   · exact (ih (by omega)).trans (by rw [iI]; exact List.prefix_append _ _)
theorem uF (x : bj) {i j : Nat} (h : i ≤ j) : dn x i <+: dn x j := by
 induction j with
 | zero => obtain rfl : i = 0 := by omega
           exact List.prefix_refl _
 | succ j ih =>
   by_cases hij : i = j + 1
   · rw [hij]; exact List.prefix_refl _
   · exact (ih (by omega)).trans (by rw [iy]; exact List.prefix_append _ _)
theorem rY (x : bj) {k j : Nat} (hk : k < x.objs.l.length) (hj : j < (elt x.objs.l (k : Int)).secs.l.length) (h : cM x.objs.l x.keep.l (k : Int) (j : Int) = true) : (dn x x.objs.l.length)[(dn x k ++ eh x k j).length]? = some ⟨k, j⟩ := by
 have p1 : dn x k ++ eh x k j ++ [⟨k, j⟩] <+: dn x x.objs.l.length := by
   refine List.IsPrefix.trans ?_ (uF x (show k + 1 ≤ x.objs.l.length by omega))
   rw [iy, List.append_assoc]
   refine (List.prefix_append_right_inj _).2 ?_
   have := qW x k (show j + 1 ≤ _ by omega : j + 1 ≤ (elt x.objs.l (k : Int)).secs.l.length)
   rw [iI, if_pos h] at this
   exact this
 obtain ⟨t, ht⟩ := p1
 rw [← ht, List.append_assoc, List.getElem?_append_right (Nat.le_refl _), Nat.sub_self]
 rfl
theorem pL (x : bj) (lb : Nat) : Con Tryz.prog 106 [.pointer (some ⟨lb, 0, none⟩)] [] [] fun r ps hp => hp = [] ∧ ∃ b, r = .func (.func 210) #[] #[.pointer (some ⟨b, 0, none⟩)] ∧ ps = [At b 0 [.v (.pointer (some ⟨lb, 0, none⟩))]] := by
 refine Con.enter Tryz.func106 rfl (by simp [Tryz.ntmps106]) ?_
 show awp _ _ _ _ ⟨[(0, true, _)], _, _⟩
 refine aSR ?_
 refine an (q := true) rfl (cx rfl rfl rfl (fun b0_0 => ?_))
 refine aHN ?_
 refine aA rfl (aNs (cX 0 rfl rfl ?_))
 show awp _ _ _ _ ⟨_, At _ 0 _ :: _, _⟩
 refine aj (aU rfl (im (l := [.tmp 1]) rfl) (aA rfl (aNn (aJ ?_))))
 refine br [0] [] rfl Tryz.results106 rfl ?_ (.inr rfl)
 exact ⟨rfl, _, rfl, rfl⟩
theorem oQ (x : bj) (hx : uC x) (lb b yl : Nat) {X : Type} (J : X → Res) (Inv : Nat → X → Prop) (Ff : Per) (x0 : X) (h0 : Inv 0 x0)
   (hY : ∀ (i : Nat) (p : dr) (q : X), (dn x x.objs.l.length)[i]? = some p → Inv i q → kx Tryz.prog yl [.int .i64 (elt x.first.l p.obj + p.sec), p.val] [Ff] [J q] fun v ps' hp' => v = .bool true ∧ ps' = [] ∧ ∃ q', Inv (i + 1) q' ∧ hp' = [J q']) :
   Con Tryz.prog 210 [.func (.yield yl) #[] #[], .pointer (some ⟨b, 0, none⟩)] [Ff, At b 0 [.v (.pointer (some ⟨lb, 0, none⟩))], At lb 0 x.row, x.ok] [J x0] fun _ ps hp => ps = [] ∧ ∃ q, Inv (dn x x.objs.l.length).length q ∧ hp = [J q] := by
 refine Con.enter Tryz.func210 rfl (by simp [Tryz.ntmps210]) ?_
 show awp _ _ _ _ ⟨[(0, true, _), (1, true, _)], _, _⟩
 refine bA (bj.f_objs (.of (aF 3 rfl))) (fun hlen => ?_)
 refine aSR (aU rfl (aN (o := 0) tk136 rfl (.of (aF 1 rfl)) rfl) (aU rfl (aR rfl) ?_))
 refine aU rfl (qFA (off := 7) rfl) ?_
 refine aU rfl (aN (o := 7) tk22 rfl (.of (aF 2 rfl)) rfl) (aU rfl (aZ Tryz.underlying22 rfl) (aM rfl (aNn (aI ?_))))
 refine aT [0, 1, 10, 11, 12] [3, 2, 1, 0] [0] (fun (p : Nat × X) s => p.1 ≤ x.objs.l.length ∧ Inv (dn x p.1).length p.2 ∧ s = ⟨[(0, true, .func (.yield yl) #[] #[]), (1, true, .pointer (some ⟨b, 0, none⟩)), (10, true, x.objs.val), (11, true, .int .i64 x.objs.l.length), (12, true, .int .i64 p.1)],
   [Ff, At b 0 [.v (.pointer (some ⟨lb, 0, none⟩))], At lb 0 x.row, x.ok], [J p.2]⟩) (fun p => x.objs.l.length - p.1) rfl (⟨(0, x0), Nat.zero_le _, h0, rfl⟩) ?_
 rintro ⟨k, q⟩ s ⟨hk, hq, rfl⟩
 dsimp only at hk hq
 refine aSR (aU rfl (bw rfl rfl) (aNs ?_))
 refine al _ rfl (fun h1 => ?_) (fun h1 => ?_)
 ·skip
  have hk' : k < x.objs.l.length := by simpa using h1
  have ho := bM hk'
  have hfl := hx.len
  generalize hoo : elt x.objs.l (k : Int) = o at ho
  refine bA (ax.f_secs ((bj.f_objsA (.of (aF 3 rfl))).all ho)) (fun hlen2 => ?_)
  refine aq (az (aH (aI (aSR (aM rfl ?_)))))
  refine cJ true rfl rfl (fun _ => av Tryz.underlying22 tk61 rfl ((bj.f_objs (.of (aF 3 rfl)))) rfl (aQ ho) rfl rfl) (fun h => absurd h (by decide)) (fun ⟨b2_1, o2_1⟩ => ?_)
  refine aU rfl (aP (o := 0) tk61 rfl (aF 0 rfl) rfl rfl) ?_
  refine an (q := true) rfl (bc (zs := [.string .empty, .slice none 0 0, .slice none 0 0, .slice none 0 0, .slice none 0 0, .slice none 0 0, .slice none 0 0, .slice none 0 0, .slice none 0 0, .slice none 0 0, .slice none 0 0]) (by kernel_rfl) rfl (fun b2_3 => ?_))
  refine aHN ?_
  refine aA rfl ?_
  refine an rfl (aV 1 tk61 rfl rfl rfl rfl ?_)
  refine aHK ?_
  refine aNn (aSR ?_)
  refine aU rfl (qFA (off := 1) rfl) ?_
  refine aU rfl (ah 1 tk50 rfl rfl rfl) (aU rfl (aZ Tryz.underlying50 rfl) (aM rfl (aNn (aI ?_))))
  refine aT [0, 1, 3, 10, 11, 12, 18, 19, 20] [3, 2, 1, 0] [0] (fun (p : Nat × X) s => p.1 ≤ o.secs.l.length ∧ Inv (dn x k ++ eh x k p.1).length p.2 ∧ s = ⟨[(0, true, .func (.yield yl) #[] #[]), (1, true, .pointer (some ⟨b, 0, none⟩)), (3, true, .int .i64 k), (10, true, x.objs.val), (11, true, .int .i64 x.objs.l.length), (12, true, .int .i64 k), (18, true, o.secs.val), (19, true, .int .i64 o.secs.l.length), (20, true, .int .i64 p.1)],
    [Ff, At b 0 [.v (.pointer (some ⟨lb, 0, none⟩))], At lb 0 x.row, x.ok], [J p.2]⟩) (fun p => o.secs.l.length - p.1) rfl (⟨(0, q), Nat.zero_le _, by simpa [eh] using hq, rfl⟩) ?_
  rintro ⟨j, q2⟩ s ⟨hj, hq2, rfl⟩
  dsimp only at hj hq2
  refine aSR (aU rfl (bw rfl rfl) (aNs ?_))
  refine al _ rfl (fun h2 => ?_) (fun h2 => ?_)
  ·skip
   have hj' : j < o.secs.l.length := by simpa using h2
   refine aq (az (aH (aI (aSR (aM rfl (aA rfl (aNn (aSR (aM rfl (aM rfl ?_))))))))))
   refine aU rfl (dz (l := [(0, .tmp 23), (1, .tmp 24)]) (zs := [.int .i64 0, .int .i64 0]) (pl := [(0, 1), (1, 1)]) (by kernel_rfl) (by kernel_rfl) (by kernel_rfl) rfl rfl rfl) ?_
   refine an (q := true) rfl (bc (zs := [.int .i64 0, .int .i64 0]) (by kernel_rfl) rfl (fun b6_3 => ?_))
   refine aHN ?_
   refine an rfl (aV 1 tk133 rfl rfl rfl rfl ?_)
   refine aHK ?_
   refine aNs ?_
   refine cP [15] [15] [b6_3] (by kernel_rfl) ?_
   show aC _ _ _ _ _ _ _ 18 #[false, false, false, false, false, false, false, false, false, false, false, false, false, false, false, false, false, false] _
   refine bt 0 rfl (by kernel_rfl) true rfl rfl (fun _ => aN (o := 0) tk136 rfl (.of (aF 1 rfl)) rfl) ?_
   refine db 1 1 rfl (by kernel_rfl) true rfl rfl (by simp) tk133 (fun _ => rfl) rfl rfl ?_
   refine bt 2 rfl (by kernel_rfl) true rfl rfl (fun _ => bC (by kernel_rfl) rfl (fun w S fp hst => (lO x lb _ _).quiet2 (aF 2 rfl) (aF 3 rfl) hst)) ?_
   refine bt 3 rfl (by kernel_rfl) true rfl rfl (fun _ => aD rfl) ?_
   refine bt 4 rfl (by kernel_rfl) _ rfl rfl (fun hc => aD rfl) ?_
   refine bt 5 rfl (by kernel_rfl) _ rfl rfl (fun hc => aN (o := 0) tk136 rfl (.of (aF 1 rfl)) rfl) ?_
   refine bt 6 rfl (by kernel_rfl) _ rfl rfl (fun hc => aR (ae rfl hc)) ?_
   refine bt 7 rfl (by kernel_rfl) _ rfl rfl (fun hc => qFA (off := 10) (ae rfl hc)) ?_
   refine bt 8 rfl (by kernel_rfl) _ rfl rfl (fun hc => aN (o := 10) tk90 (ae rfl hc) (.of (aF 2 rfl)) rfl) ?_
   refine bt 9 rfl (by kernel_rfl) _ rfl rfl (fun hc => aD rfl) ?_
   refine acp 10 rfl (by kernel_rfl) _ rfl rfl (fun hc => cD Tryz.underlying90 tk3 (ae rfl hc) ((bj.f_first (.of (aF 3 rfl)))) (ae rfl hc) (bI (i := (k : Int)) (by omega) (by omega)) (by omega) rfl) (fun _ => ⟨(0, 0)⟩) (fun ⟨b7_10, o7_10⟩ => ?_)
   refine bt 11 rfl (by kernel_rfl) _ rfl rfl (fun hc => aP (o := 0) tk3 (ae rfl hc) (aF 0 rfl) hc rfl) ?_
   refine bt 12 rfl (by kernel_rfl) _ rfl rfl (fun hc => aD rfl) ?_
   refine bt 13 rfl (by kernel_rfl) _ rfl rfl (fun hc => bd (ae rfl hc) (ae rfl hc) (by (have hb := hx.bound (k : Int) (j : Int) (by simpa using hc); have hkk := eV (by simpa using hc : cM x.objs.l x.keep.l (k : Int) (j : Int) = true); omega))) ?_
   refine db 14 1 rfl (by kernel_rfl) _ rfl rfl (by simp) tk133 (fun hc => rfl) rfl rfl ?_
   refine xD (J := J) (Post := fun c q' => Inv ((dn x k ++ eh x k j).length + (if c then 1 else 0)) q') (x0 := q2) 15 0 [3] rfl (by kernel_rfl) rfl rfl _ rfl rfl rfl (fun hc => ae rfl hc) (fun hc => aS (ae rfl hc) (aS (ae rfl hc) rfl)) (fun hc => ?_) (fun _ => hq2) (fun q3 hq3 => ?_)
   · have hkp : cM x.objs.l x.keep.l (k : Int) (j : Int) = true := by simpa using hc
     exact hY _ ⟨k, j⟩ q2 (rY x hk' (by rw [hoo]; exact hj') hkp) hq2
   refine bt 16 rfl (by kernel_rfl) _ rfl rfl (fun hc => bZ (ae rfl hc)) ?_
   refine bt 17 rfl (by kernel_rfl) true rfl rfl (fun _ => bJ rfl rfl (fun h => gt rfl h)) ?_
   refine eN (by kernel_rfl) ?_
   refine az ?_
   refine al _ rfl (fun h3 => ?_) (fun h3 => ?_)
   ·skip
    exfalso; simp at h3
   ·skip
    refine aq (bB (az (aj ?_)))
    refine aU rfl (bd rfl rfl (by omega)) ?_
    refine aM rfl (aNn ?_)
    refine ⟨[0, 1, 3, 10, 11, 12, 18, 19, 20], [3, 2, 1, 0], [0], rfl, ?_⟩
    refine ⟨(j + 1, q3), ⟨by dsimp only; omega, ?_, rfl⟩, by dsimp only; omega⟩
    dsimp only
    rw [iI, ← List.append_assoc, List.length_append]
    cases hkp : cM x.objs.l x.keep.l (k : Int) (j : Int) <;> simpa [hkp] using hq3
  ·skip
   refine aX (aY (aY (bf (bB (az (aj ?_))))))
   refine aU rfl (bd rfl rfl (by omega)) ?_
   refine aM rfl (aNn ?_)
   refine ⟨[0, 1, 10, 11, 12], [3, 2, 1, 0], [0], rfl, ?_⟩
   refine ⟨(k + 1, q2), ⟨by dsimp only; omega, ?_, rfl⟩, by dsimp only; omega⟩
   dsimp only
   rw [iy, hoo]
   obtain rfl : j = o.secs.l.length := by have := (by simpa using h2 : o.secs.l.length ≤ j); omega
   exact hq2
 ·skip
  obtain rfl : k = x.objs.l.length := by have := (by simpa using h1 : x.objs.l.length ≤ k); omega
  refine aX (aY (aY (bf ?_)))
  refine ir [] [0] rfl Tryz.results210 ?_ (.inl rfl)
  exact ⟨rfl, q, hq, rfl⟩
end Go.Proofs.YtgmiihmahaahiaaGreatDoor

namespace Go.Proofs.YtgmiihmahaahiaaGreatDoor
open Go.RowKit Go.Lp Go.Sy
open Go.Proofs.Tryz
attribute [local irreducible] aL aB awp aC fwp
def numOf (x : bj) (p : dr) : Int := elt x.first.l p.obj + p.sec
def jP (x : bj) (p : dr) : List Int := if (elt (elt x.objs.l p.obj).secs.l p.sec).keep then [numOf x p] else []
def ik (x : bj) (L : List dr) : List Int := L.flatMap (jP x)
theorem tN (x : bj) (p : dr) : (jP x p).length ≤ 1 := by unfold jP; split <;> simp
theorem ri {x : bj} {k j : Nat} {p : dr} (h : p ∈ eh x k j) : ∃ s : Nat, s < j ∧ p = ⟨k, s⟩ ∧ cM x.objs.l x.keep.l (k : Int) (s : Int) = true := by
 obtain ⟨s, hs, h⟩ := List.mem_filterMap.1 h
 split at h
 · rename_i hk; simp only [Option.some.injEq] at h; exact ⟨s, List.mem_range.1 hs, h.symm, hk⟩
 · cases h
theorem nh {x : bj} {n : Nat} {p : dr} (h : p ∈ dn x n) : ∃ k s : Nat, k < n ∧ p = ⟨k, s⟩ ∧ cM x.objs.l x.keep.l (k : Int) (s : Int) = true := by
 obtain ⟨k, hk, h⟩ := List.mem_flatMap.1 h
 obtain ⟨s, _, h1, h2⟩ := ri h
 exact ⟨k, s, List.mem_range.1 hk, h1, h2⟩
theorem tp (x : bj) (k j : Nat) : (eh x k j).length ≤ j := by
 unfold eh; exact Nat.le_trans (List.length_filterMap_le _ _) (by simp)
theorem lR {x : bj} (hf : mL x.objs.l) : ∀ n, n ≤ x.objs.l.length → (dn x n).length ≤ 6 * n
 | 0, _ => Nat.le_refl _
 | n + 1, h => by
   have ih := lR hf n (by omega)
   have hm := hf.of _ (List.mem_of_getElem? (bM (l := x.objs.l) (i := n) h))
   have := tp x n (elt x.objs.l (n : Int)).secs.l.length
   rw [iy, List.length_append]; omega
def iF (x : bj) (y : bE) : Bool := (!x.r.lib && decide (y.name.toList = x.r.entry.toList)) && (decide (y.version.toList = []) || y.main)
def fh (x : bj) (k j : Nat) (y : bE) : List Int :=
 if (bP x.choices.l (k : Int) (j : Int)).kind = 2 ∧ (bP x.choices.l (k : Int) (j : Int)).obj = k ∧ (bP x.choices.l (k : Int) (j : Int)).sym = j ∧ (iF x y = true ∨ (gI x.objs.l y.name).getD false = false) then (cH x k j).toList else []
def dM (x : bj) (k : Nat) (l : List bE) (n : Nat) : List Int := (List.range n).flatMap fun j => fh x k j (elt l (j : Int))
def eP (x : bj) (k : Nat) (l : List kh) : List Int := l.flatMap fun i => (cH x k i.sym).toList
def jm (x : bj) (k : Nat) : List Int := dM x k (elt x.objs.l (k : Int)).syms.l (elt x.objs.l (k : Int)).syms.l.length ++ eP x k (elt x.objs.l (k : Int)).inits.l
def cY (x : bj) (n : Nat) : List Int := ik x (dn x x.objs.l.length) ++ (List.range n).flatMap (jm x)
theorem aal (o : Option Int) : o.toList.length ≤ 1 := by cases o <;> simp
theorem uN (x : bj) (k j : Nat) (y : bE) : (fh x k j y).length ≤ 1 := by unfold fh; split <;> simp [aal]
theorem jj (x : bj) (k : Nat) (l : List bE) (n : Nat) : (dM x k l n).length ≤ n := by have := eB (fun j => fh x k j (elt l (j : Int))) (fun _ => uN _ _ _ _) (List.range n); simpa [dM] using this
theorem ke (x : bj) (k : Nat) (l : List kh) : (eP x k l).length ≤ l.length := eB _ (fun _ => aal _) l
theorem my (x : bj) (n : Nat) : cY x (n + 1) = cY x n ++ jm x n := by unfold cY; rw [List.range_succ, List.flatMap_append, List.append_assoc]; simp
theorem iS {x : bj} (hf : mL x.objs.l) : ∀ n, n ≤ x.objs.l.length → (cY x n).length ≤ 24 + 20 * n
 | 0, _ => by
   have h1 := eB (jP x) (tN x) (dn x x.objs.l.length)
   have h2 := lR hf _ (Nat.le_refl _)
   have := hf.n
   simp only [cY, List.range_zero, List.flatMap_nil, List.append_nil, ik]; omega
 | n + 1, h => by
   have ih := iS hf n (by omega)
   have hm := hf.of _ (List.mem_of_getElem? (bM (l := x.objs.l) (i := n) h))
   have h1 := jj x n (elt x.objs.l (n : Int)).syms.l (elt x.objs.l (n : Int)).syms.l.length
   have h2 := ke x n (elt x.objs.l (n : Int)).inits.l
   rw [my, List.length_append]
   unfold jm; rw [List.length_append]; omega
theorem qy (x : bj) (hx : uC x) (hf : mL x.objs.l) (lb : Nat) : Con Tryz.prog 66 [.pointer (some ⟨lb, 0, none⟩)] [At lb 0 x.row, x.ok] []
   fun r ps hp => hp = [] ∧ ∃ ad c, r = .slice ad (cY x x.objs.l.length).length c ∧ ps = [Sh (.slice ad (cY x x.objs.l.length).length c) (.sl (iR (cY x x.objs.l.length)))] := by
 refine Con.enterM Tryz.func66 rfl (by simp [Tryz.ntmps66]) ?_
 show fwp _ _ _ _ _ ⟨[(0, true, _)], _, _⟩
 refine i7 (aj ?_)
 refine an (q := true) rfl (cx rfl rfl rfl (fun b0_0 => ?_))
 refine aHN ?_
 refine aA rfl (aNn (i7 (cX 0 rfl rfl ?_)))
 show awp _ _ _ _ ⟨_, At _ 0 _ :: _, _⟩
 refine aj ?_
 refine an (q := true) rfl (bc (zs := [.slice none 0 0]) (by kernel_rfl) rfl (fun b1_0 => ?_))
 refine aHN ?_
 refine aNn (i7 (eD 3 1 ?_))
 show awp _ _ _ _ ⟨_, _, [_, _, _]⟩
 refine aj (aU rfl (im (l := [.tmp 1, .tmp 3]) rfl) (aA rfl (aNn (uy (aj (aU rfl (aN (o := 0) tk136 rfl (.of (aF 0 rfl)) rfl) ?_))))))
 refine an (q := true) rfl (bH [] [] (by kernel_rfl) rfl rfl rfl rfl (pL x lb) ?_)
 rintro _ _ _ ⟨rfl, bk, rfl, rfl⟩
 refine aST ?_
 refine aNn ?_
 refine qC (Rr := fun _ ps hp2 => ps = [] ∧ ∃ v, hp2 = [Box b1_0 90 [v], bg v 3 1 (iR (ik x (dn x x.objs.l.length)))]) [3, 2, 1, 0] [1, 2] rfl rfl (by kernel_rfl) rfl (fun l1 r1 ht1 he1 hs1 hn1 hp1 ha1 hb1 => ?_) (fun D1 RA1 RB1 w1 ps1 hq1 hR1 => ?_)
 ·skip
  refine wm (((oQ x hx lb bk l1 (X := List Int × Value) (fun q => Bun [et l1 r1, Box b1_0 90 [q.2], bg q.2 3 1 (iR q.1)]) (fun i q => q.1 = ik x ((dn x x.objs.l.length).take i)) (cA (At b0_0 0 [.v (.pointer (some ⟨lb, 0, none⟩))]) (cA (At lb 0 x.row) x.ok)) ([], .slice none 0 0) rfl (fun i p q hp hq => ?_)).pre ?_).post (fun v ps' hp' ⟨e1, q, hq, e2⟩ => ⟨_, e2, r1, _, rfl, by rw [hs1]; decide, hn1, e1, q.2, by rw [hq, List.take_length]⟩))
  · have hpr : (0 ≤ p.obj ∧ p.obj < x.objs.l.length) ∧ (0 ≤ p.sec ∧ p.sec < (elt x.objs.l p.obj).secs.l.length) := by
      obtain ⟨kk, ss, _, rfl, hkp⟩ := nh (List.mem_of_getElem? hp)
      have := eV hkp
      exact ⟨this.1, this.2.1⟩
    have hql : q.1.length ≤ 24 := by
      have h1 := eB (jP x) (tN x) ((dn x x.objs.l.length).take i)
      have h2 := lR hf _ (Nat.le_refl _)
      have := hf.n
      rw [hq]; unfold ik; rw [List.length_take] at h1; omega
    refine kx.post (kx.pre (ug (R := fun v ps hp => v = .bool true ∧ ps = [] ∧ ∃ v', hp = [et l1 r1, Box b1_0 90 [v'], bg v' 3 1 (iR (q.1 ++ jP x p))]) (ps := [At b0_0 0 [.v (.pointer (some ⟨lb, 0, none⟩))], At lb 0 x.row, x.ok]) ?_) ?_) ?_
    · skip
      refine p8 ht1 hp1 ha1 hb1 hs1 rfl he1 rfl (aSR (aA rfl (aNn (aj ?_))))
      refine an (q := true) rfl (bc (zs := [.int .i64 0, .int .i64 0]) (by kernel_rfl) rfl (fun b5_0 => ?_))
      refine aHN ?_
      refine an rfl (aV 3 tk133 rfl rfl rfl rfl ?_)
      refine aHK ?_
      refine cn ?_
      refine az ⟨rfl, ?_⟩
      refine nq (by (try simp only [nK, nL]); rfl) ?_
      refine aI (aH ?_)
      refine cP [] [] [b5_0] (by kernel_rfl) ?_
      show aC _ _ _ _ _ _ _ 14 #[false, false, false, false, false, false, false, false, false, false, false, false, false, false] _
      refine bt 0 rfl (by kernel_rfl) true rfl rfl (fun _ => aN (o := 0) tk136 rfl (.of (aF 0 rfl)) rfl) ?_
      refine bt 1 rfl (by kernel_rfl) true rfl rfl (fun _ => aR rfl) ?_
      refine bt 2 rfl (by kernel_rfl) true rfl rfl (fun _ => qFA (off := 7) rfl) ?_
      refine bt 3 rfl (by kernel_rfl) true rfl rfl (fun _ => aN (o := 7) tk22 rfl (.of (aF 1 rfl)) rfl) ?_
      refine bt 4 rfl (by kernel_rfl) true rfl rfl (fun _ => qFA (off := 0) rfl) ?_
      refine db 5 3 rfl (by kernel_rfl) true rfl rfl (by simp) tk3 (fun _ => rfl) rfl rfl ?_
      refine jo 6 rfl (by kernel_rfl) rfl rfl (cD Tryz.underlying22 tk61 rfl ((bj.f_objs (.of (aF 2 rfl)))) rfl (bI (i := p.obj) (by omega) (by omega)) (by omega) rfl) (fun ⟨b6_6, o6_6⟩ => ?_)
      refine bt 7 rfl (by kernel_rfl) true rfl rfl (fun _ => qFA (off := 1) rfl) ?_
      refine bt 8 rfl (by kernel_rfl) true rfl rfl (fun _ => aN (o := 1) tk50 rfl (.of (aF 0 rfl)) rfl) ?_
      refine bt 9 rfl (by kernel_rfl) true rfl rfl (fun _ => qFA (off := 1) rfl) ?_
      refine db 10 3 rfl (by kernel_rfl) true rfl rfl (by simp) tk3 (fun _ => rfl) rfl rfl ?_
      refine jo 11 rfl (by kernel_rfl) rfl rfl (cD Tryz.underlying50 tk85 rfl ((ax.f_secs ((bj.f_objsA (.of (aF 3 rfl))).elt (i := p.obj) (by omega) (by omega)))) rfl (bI (i := p.sec) (by omega) (by omega)) (by omega) rfl) (fun ⟨b6_11, o6_11⟩ => ?_)
      refine bt 12 rfl (by kernel_rfl) true rfl rfl (fun _ => qFA (off := 5) rfl) ?_
      refine bt 13 rfl (by kernel_rfl) true rfl rfl (fun _ => aN (o := 5) tk4 rfl (.of (aF 0 rfl)) rfl) ?_
      refine eN (by kernel_rfl) ?_
      refine az ?_
      refine al _ rfl (fun h1 => ?_) (fun h1 => ?_)
      ·skip
       refine aj (aU rfl (ah 1 tk90 rfl rfl rfl) (aM rfl ?_))
       refine an (q := true) rfl (cB (zs := [.int .i64 0]) (l := [(0, .tmp 36)]) el90 (by kernel_rfl) (by decide) (by decide) (by decide) rfl rfl rfl (.more rfl (.v rfl .nil) .nil) rfl rfl (fun v7_2 => ?_))
       refine aHN ?_
       refine an rfl (cL 2 el90 rfl rfl rfl rfl (dR 4 el90 rfl (by simp)) (by first | assumption | simp) (by simp [uQ]; omega) _ rfl (fun v7_3 c7_3 => ?_))
       refine aHK ?_
       refine an rfl (aV 1 tk90 rfl rfl rfl rfl ?_)
       refine aHK ?_
       refine cn (bB ?_)
       refine ⟨none, [], [0, 1, 2], rfl, rfl, rfl, ?_⟩
       simp only [nK, nL]
       exact ⟨rfl, rfl, _, by rw [kC hs1 hn1, show jP x p = [numOf x p] from if_pos h1, wb]; rfl⟩
      ·skip
       refine aq (bB ?_)
       refine ⟨none, [], [0, 1, 2], rfl, rfl, rfl, ?_⟩
       simp only [nK, nL]
       exact ⟨rfl, rfl, _, by rw [kC hs1 hn1, show jP x p = [] from if_neg (by rw [h1]; decide), List.append_nil]; rfl⟩
    · intro p' hp'
      simp only [List.mem_cons, List.not_mem_nil, or_false] at hp'
      rcases hp' with rfl | rfl | rfl
      · exact (Ent.of List.mem_cons_self).left
      · exact (Ent.of List.mem_cons_self).right.left
      · exact (Ent.of List.mem_cons_self).right.right
    · rintro v ps' hp' ⟨l', e, h1, h2, v', h3⟩
      refine ⟨h1, h2, (q.1 ++ jP x p, v'), ?_, e.trans (by rw [h3])⟩
      dsimp only
      rw [hq, List.take_add_one, hp]; unfold ik; rw [List.flatMap_append]; simp
  · intro p' hp'
    simp only [List.mem_cons, List.not_mem_nil, or_false] at hp'
    rcases hp' with rfl | rfl | rfl | rfl
    · exact .mk2 (.of (aF 1 rfl)) (.mk2 (.of (aF 2 rfl)) (.of (aF 3 rfl)))
    · exact .of (aF 0 rfl)
    · exact .of (aF 2 rfl)
    · exact .of (aF 3 rfl)
 obtain ⟨rfl, v, rfl⟩ := hR1
 refine zd (by (try simp only [nM, nN]); rfl) (by (try simp only [nM, nN, nK, nL, nH, nI, dp, place, Nat.reduceBEq, if_true, if_false, reduceIte, Nat.reduceAdd, nW]); rfl) ?_
 refine ng (aSR (aU rfl (aN (o := 0) tk136 rfl (.of (aF 1 rfl)) rfl) ?_))
 refine an (q := true) rfl (bH [1, 0] [] (by kernel_rfl) rfl rfl rfl rfl (vF x lb) ?_)
 rintro _ _ _ ⟨rfl, bh, rfl, rfl⟩
 refine aST ?_
 refine aA rfl (aNs (aSR (aU rfl (aN (o := 0) tk136 rfl (.of (aF 1 rfl)) rfl) (aU rfl (aR rfl) ?_))))
 refine aU rfl (qFA (off := 7) rfl) ?_
 refine aU rfl (aN (o := 7) tk22 rfl (.of (aF 2 rfl)) rfl) (aU rfl (aZ Tryz.underlying22 rfl) (aM rfl (aNn (aI ?_))))
 refine bA (bj.f_objs (.of (aF 3 rfl))) (fun hlen => ?_)
 refine aT [1, 3, 4, 7, 44, 45, 46] [2, 1, 0] [1, 2, 3, 5] (fun (p : Nat × Value) s => p.1 ≤ x.objs.l.length ∧ s = ⟨[(1, true, .pointer (some ⟨b0_0, 0, none⟩)), (3, true, .pointer (some ⟨b1_0, 0, none⟩)), (4, true, .func (.func 124) #[] #[.pointer (some ⟨b0_0, 0, none⟩), .pointer (some ⟨b1_0, 0, none⟩)]), (7, true, .map (some bh)), (44, true, x.objs.val), (45, true, .int .i64 x.objs.l.length), (46, true, .int .i64 p.1)],
   [At b0_0 0 [.v (.pointer (some ⟨lb, 0, none⟩))], At lb 0 x.row, x.ok], [Box b1_0 90 [p.2], bg p.2 3 1 (iR (cY x p.1)), j8 D1, dg bh kS vB (gI x.objs.l)]⟩) (fun p => x.objs.l.length - p.1) rfl (⟨(0, _), Nat.zero_le _, by rw [show cY x 0 = ik x (dn x x.objs.l.length) by simp [cY]]; rfl⟩) ?_
 rintro ⟨k, v⟩ s ⟨hk, rfl⟩
 dsimp only at hk
 refine aSR (aU rfl (bw rfl rfl) (aNs ?_))
 refine al _ rfl (fun h1 => ?_) (fun h1 => ?_)
 ·skip
  have hk' : k < x.objs.l.length := by simpa using h1
  have ho := bM hk'
  have hfo := hf.of _ (List.mem_of_getElem? ho)
  have hacc := iS hf k hk
  have hn4 := hf.n
  have hoi : (0 : Int) ≤ k ∧ (k : Int) < x.objs.l.length := by omega
  generalize hoo : elt x.objs.l (k : Int) = o at ho hfo
  refine aq (az (aH (aI (aSR (aM rfl ?_)))))
  refine cJ true rfl rfl (fun _ => av Tryz.underlying22 tk61 rfl ((bj.f_objs (.of (aF 2 rfl)))) rfl (aQ ho) rfl rfl) (fun h => absurd h (by decide)) (fun ⟨b11_1, o11_1⟩ => ?_)
  refine aU rfl (aP (o := 0) tk61 rfl (aF 0 rfl) rfl rfl) ?_
  refine an (q := true) rfl (bc (zs := [.string .empty, .slice none 0 0, .slice none 0 0, .slice none 0 0, .slice none 0 0, .slice none 0 0, .slice none 0 0, .slice none 0 0, .slice none 0 0, .slice none 0 0, .slice none 0 0]) (by kernel_rfl) rfl (fun b11_3 => ?_))
  refine aHN ?_
  refine aA rfl ?_
  refine an rfl (aV 4 tk61 rfl rfl rfl rfl ?_)
  refine aHK ?_
  refine aNs (aSR ?_)
  refine aU rfl (qFA (off := 2) rfl) ?_
  refine aU rfl (ah 4 tk51 rfl rfl rfl) (aU rfl (aZ Tryz.underlying51 rfl) (aM rfl (aNn (aI ?_))))
  refine aT [1, 3, 4, 7, 8, 44, 45, 46, 9, 52, 53, 54] [2, 1, 0] [0, 1, 2, 3, 4] (fun (p : Nat × Value) s => p.1 ≤ o.syms.l.length ∧ s = ⟨[(1, true, .pointer (some ⟨b0_0, 0, none⟩)), (3, true, .pointer (some ⟨b1_0, 0, none⟩)), (4, true, .func (.func 124) #[] #[.pointer (some ⟨b0_0, 0, none⟩), .pointer (some ⟨b1_0, 0, none⟩)]), (7, true, .map (some bh)), (8, true, .int .i64 k), (44, true, x.objs.val), (45, true, .int .i64 x.objs.l.length), (46, true, .int .i64 k), (9, true, .pointer (some ⟨b11_3, 0, none⟩)), (52, true, o.syms.val), (53, true, .int .i64 o.syms.l.length), (54, true, .int .i64 p.1)],
    [At b0_0 0 [.v (.pointer (some ⟨lb, 0, none⟩))], At lb 0 x.row, x.ok], [Box b1_0 90 [p.2], bg p.2 3 1 (iR (cY x k ++ dM x k o.syms.l p.1)), j8 D1, dg bh kS vB (gI x.objs.l), Box b11_3 61 o.vs]⟩) (fun p => o.syms.l.length - p.1) rfl (⟨(0, _), Nat.zero_le _, by rw [show dM x k o.syms.l 0 = [] from rfl, List.append_nil]; rfl⟩) ?_
  rintro ⟨j, v⟩ s ⟨hj, rfl⟩
  dsimp only at hj
  refine aSR (aU rfl (bw rfl rfl) (aNs ?_))
  refine al _ rfl (fun h2 => ?_) (fun h2 => ?_)
  ·skip
   have hj' : j < o.syms.l.length := by simpa using h2
   have hy := bM hj'
   generalize hyy : elt o.syms.l (j : Int) = y at hy
   have hlr : (cY x k ++ dM x k o.syms.l j).length ≤ 1000000 := by
     have := jj x k o.syms.l j
     rw [List.length_append]; omega
   have hstep : cY x k ++ dM x k o.syms.l (j + 1) = cY x k ++ dM x k o.syms.l j ++ fh x k j y := by
     unfold dM; rw [List.range_succ, List.flatMap_append, List.append_assoc]; simp [hyy]
   refine aq (az (aH (aI (aSR (aM rfl ?_)))))
   refine cJ true rfl rfl (fun _ => av Tryz.underlying51 tk63 rfl ((ax.f_syms ((bj.f_objsA (.of (aF 2 rfl))).all ho))) rfl (aQ hy) rfl rfl) (fun h => absurd h (by decide)) (fun ⟨b14_1, o14_1⟩ => ?_)
   refine aU rfl (aP (o := 0) tk63 rfl (aF 0 rfl) rfl rfl) ?_
   refine an (q := true) rfl (bc (zs := [.string .empty, .string .empty, .bool false, .int .i64 0, .int .i64 0, .int .i64 0, .int .i64 0, .int .i64 0, .int .i64 0, .int .i64 0]) (by kernel_rfl) rfl (fun b14_3 => ?_))
   refine aHN ?_
   refine aA rfl ?_
   refine an rfl (aV 5 tk63 rfl rfl rfl rfl ?_)
   refine aHK ?_
   refine aNn (aSR (aU rfl (aN (o := 0) tk136 rfl (.of (aF 1 rfl)) rfl) (aM rfl (aM rfl ?_))))
   refine aU rfl (bC (by kernel_rfl) rfl (fun w S fp hst => (mw x lb _ _).quiet2 (aF 2 rfl) (aF 3 rfl) hst)) ?_
   refine an (q := true) rfl (bc (zs := [.int .i64 0, .int .i64 0, .int .i64 0, .int .i64 0, .int .i64 0, .bool false]) (by kernel_rfl) rfl (fun b15_4 => ?_))
   refine aHN ?_
   refine an rfl (aV 6 tk65 rfl rfl rfl rfl ?_)
   refine aHK ?_
   refine aNs ?_
   refine cP [] [] [b14_3] (by kernel_rfl) ?_
   show aC _ _ _ _ _ _ _ 26 #[false, false, false, false, false, false, false, false, false, false, false, false, false, false, false, false, false, false, false, false, false, false, false, false, false, false] _
   refine bt 0 rfl (by kernel_rfl) true rfl rfl (fun _ => aN (o := 0) tk136 rfl (.of (aF 1 rfl)) rfl) ?_
   refine bt 1 rfl (by kernel_rfl) true rfl rfl (fun _ => aR rfl) ?_
   refine bt 2 rfl (by kernel_rfl) true rfl rfl (fun _ => qFA (off := 0) rfl) ?_
   refine bt 3 rfl (by kernel_rfl) true rfl rfl (fun _ => qFA (off := 1) rfl) ?_
   refine bt 4 rfl (by kernel_rfl) true rfl rfl (fun _ => aN (o := 1) tk4 rfl (.of (aF 2 rfl)) rfl) ?_
   refine bt 5 rfl (by kernel_rfl) true rfl rfl (fun _ => bZ rfl) ?_
   refine bt 6 rfl (by kernel_rfl) true rfl rfl (fun _ => aD rfl) ?_
   refine bt 7 rfl (by kernel_rfl) _ rfl rfl (fun hc => qFA (off := 0) rfl) ?_
   refine db 8 5 rfl (by kernel_rfl) _ rfl rfl (by simp) tk9 (fun hc => (ae rfl hc)) rfl rfl ?_
   refine bt 9 rfl (by kernel_rfl) _ rfl rfl (fun hc => aN (o := 0) tk136 rfl (.of (aF 1 rfl)) rfl) ?_
   refine bt 10 rfl (by kernel_rfl) _ rfl rfl (fun hc => aR (ae rfl hc)) ?_
   refine bt 11 rfl (by kernel_rfl) _ rfl rfl (fun hc => qFA (off := 0) (ae rfl hc)) ?_
   refine bt 12 rfl (by kernel_rfl) _ rfl rfl (fun hc => qFA (off := 4) (ae rfl hc)) ?_
   refine bt 13 rfl (by kernel_rfl) _ rfl rfl (fun hc => aN (o := 4) tk9 (ae rfl hc) (.of (aF 2 rfl)) rfl) ?_
   refine bt 14 rfl (by kernel_rfl) _ rfl rfl (fun hc => uA (ae rfl hc) (ae rfl hc)) ?_
   refine bt 15 rfl (by kernel_rfl) true rfl rfl (fun _ => bJ rfl rfl (fun h => gt rfl h)) ?_
   refine bt 16 rfl (by kernel_rfl) true rfl rfl (fun _ => aD rfl) ?_
   refine bt 17 rfl (by kernel_rfl) _ rfl rfl (fun hc => qFA (off := 1) rfl) ?_
   refine db 18 5 rfl (by kernel_rfl) _ rfl rfl (by simp) tk9 (fun hc => (ae rfl hc)) rfl rfl ?_
   refine bt 19 rfl (by kernel_rfl) _ rfl rfl (fun hc => uA (ae rfl hc) rfl) ?_
   refine bt 20 rfl (by kernel_rfl) _ rfl rfl (fun hc => aD (ae rfl hc)) ?_
   refine bt 21 rfl (by kernel_rfl) _ rfl rfl (fun hc => qFA (off := 2) rfl) ?_
   refine db 22 5 rfl (by kernel_rfl) _ rfl rfl (by simp) tk4 (fun hc => (ae rfl hc)) rfl rfl ?_
   refine bt 23 rfl (by kernel_rfl) _ rfl rfl (fun hc => bY (ae rfl hc) rfl (fun h => gf hc h)) ?_
   refine bt 24 rfl (by kernel_rfl) true rfl rfl (fun _ => bJ rfl rfl (fun h => gt rfl h)) ?_
   refine bt 25 rfl (by kernel_rfl) true rfl rfl (fun _ => cz rfl) ?_
   refine eN (by kernel_rfl) ?_
   refine az (aSR ?_)
   refine aU rfl (qFA (off := 0) rfl) ?_
   refine aU rfl (ah 6 tk3 rfl rfl rfl) (aU rfl (bx rfl rfl) (aM rfl ?_))
   refine aG rfl rfl (fun hc => qFA (off := 1) rfl) ?_
   refine aG rfl rfl (fun hc => ah 6 tk3 (ae rfl hc) rfl rfl) (aG rfl rfl (fun hc => aD rfl) (aG rfl rfl (fun hc => bx (ae rfl hc) (ae rfl hc)) (aU rfl (bJ rfl rfl (fun h => gt rfl h)) (aM rfl ?_))))
   refine aG rfl rfl (fun hc => qFA (off := 2) rfl) ?_
   refine aG rfl rfl (fun hc => ah 6 tk3 (ae rfl hc) rfl rfl) (aG rfl rfl (fun hc => aD rfl) (aG rfl rfl (fun hc => bx (ae rfl hc) (ae rfl hc)) (aU rfl (bJ rfl rfl (fun h => gt rfl h)) (aM rfl (aG rfl rfl (fun hc => aD rfl) (aG rfl rfl (fun hc => aD (ae rfl hc)) (aG rfl rfl (fun hc => aD rfl) ?_)))))))
   refine aG rfl rfl (fun hc => qFA (off := 0) rfl) ?_
   refine aG rfl rfl (fun hc => ah 5 tk9 (ae rfl hc) rfl rfl) ?_
   refine aG rfl rfl (fun hc => jd (k := y.name) (v0 := false) 3 Tryz.underlying125 (acq) (by kernel_rfl) (ae rfl hc) (ae rfl hc) rfl) ?_
   refine aG rfl rfl (fun hc => bZ (ae rfl hc)) (aG rfl rfl (fun hc => bY (ae rfl hc) rfl (fun h => gf hc h)) (aU rfl (bJ rfl rfl (fun h => gt rfl h)) (aNn ?_)))
   refine al _ rfl (fun h3 => ?_) (fun h3 => ?_)
   ·skip
    refine aj (aM rfl (aM rfl (aM rfl ?_)))
    refine an (q := false) rfl (gA [2, 1, 0] [0, 1] (by kernel_rfl) rfl rfl rfl rfl rfl (oB x hx _ lb _ k j hoi _ _ hlr) ?_)
    rintro r18 _ _ ⟨rfl, v', rfl⟩
    refine aST ?_
    refine cn (bB (az (aj ?_)))
    refine aU rfl (bd rfl rfl (by omega)) ?_
    refine aM rfl (aNn ?_)
    refine ⟨[1, 3, 4, 7, 8, 44, 45, 46, 9, 52, 53, 54], [2, 1, 0], [0, 1, 2, 3, 4], rfl, ?_⟩
    refine ⟨(j + 1, v'), ⟨by dsimp only; omega, ?_⟩, by dsimp only; omega⟩
    rw [hstep, show fh x k j y = (cH x k j).toList from if_pos (by simpa [iF, and_assoc] using h3)]
    rfl
   ·skip
    refine aq (bB (az (aj ?_)))
    refine aU rfl (bd rfl rfl (by omega)) ?_
    refine aM rfl (aNn ?_)
    refine ⟨[1, 3, 4, 7, 8, 44, 45, 46, 9, 52, 53, 54], [2, 1, 0], [0, 1, 2, 3, 4], rfl, ?_⟩
    refine ⟨(j + 1, v), ⟨by dsimp only; omega, ?_⟩, by dsimp only; omega⟩
    rw [hstep, show fh x k j y = [] from if_neg (by simpa [iF] using h3), List.append_nil]
    rfl
  ·skip
   obtain rfl : j = o.syms.l.length := by have := (by simpa using h2 : o.syms.l.length ≤ j); omega
   refine bA (ax.f_inits ((bj.f_objsA (.of (aF 2 rfl))).all ho)) (fun hleni => ?_)
   refine aX (aY (aY (bf (az (aSR ?_)))))
   refine aU rfl (qFA (off := 5) rfl) ?_
   refine aU rfl (ah 4 tk54 rfl rfl rfl) (aU rfl (aZ Tryz.underlying54 rfl) (aM rfl (aNn (aI ?_))))
   refine aT [1, 3, 4, 7, 8, 44, 45, 46, 119, 120, 121] [2, 1, 0] [0, 1, 2, 3] (fun (p : Nat × Value) s => p.1 ≤ o.inits.l.length ∧ s = ⟨[(1, true, .pointer (some ⟨b0_0, 0, none⟩)), (3, true, .pointer (some ⟨b1_0, 0, none⟩)), (4, true, .func (.func 124) #[] #[.pointer (some ⟨b0_0, 0, none⟩), .pointer (some ⟨b1_0, 0, none⟩)]), (7, true, .map (some bh)), (8, true, .int .i64 k), (44, true, x.objs.val), (45, true, .int .i64 x.objs.l.length), (46, true, .int .i64 k), (119, true, o.inits.val), (120, true, .int .i64 o.inits.l.length), (121, true, .int .i64 p.1)],
     [At b0_0 0 [.v (.pointer (some ⟨lb, 0, none⟩))], At lb 0 x.row, x.ok], [Box b1_0 90 [p.2], bg p.2 3 1 (iR (cY x k ++ dM x k o.syms.l o.syms.l.length ++ eP x k (o.inits.l.take p.1))), j8 D1, dg bh kS vB (gI x.objs.l)]⟩) (fun p => o.inits.l.length - p.1) rfl (⟨(0, _), Nat.zero_le _, by rw [List.take_zero, show eP x k [] = [] from rfl, List.append_nil]; rfl⟩) ?_
   rintro ⟨i, v⟩ s ⟨hi, rfl⟩
   dsimp only at hi
   refine aSR (aU rfl (bw rfl rfl) (aNs ?_))
   refine al _ rfl (fun h4 => ?_) (fun h4 => ?_)
   ·skip
    have hi' : i < o.inits.l.length := by simpa using h4
    obtain ⟨z, hz⟩ : ∃ z, o.inits.l[i]? = some z := ⟨o.inits.l[i]'hi', by simp⟩
    have hlr : (cY x k ++ dM x k o.syms.l o.syms.l.length ++ eP x k (o.inits.l.take i)).length ≤ 1000000 := by
      have := jj x k o.syms.l o.syms.l.length
      have := ke x k (o.inits.l.take i)
      rw [List.length_take] at this; rw [List.length_append, List.length_append]; omega
    refine aq (az (aH (aI (aSR ?_))))
    refine cJ true rfl rfl (fun _ => av Tryz.underlying54 tk195 rfl ((ax.f_inits ((bj.f_objsA (.of (aF 2 rfl))).all ho))) rfl (aQ hz) rfl rfl) (fun h => absurd h (by decide)) (fun ⟨b22_0, o22_0⟩ => ?_)
    refine aU rfl (aP (o := 0) tk195 rfl (aF 0 rfl) rfl rfl) ?_
    refine an (q := true) rfl (bc (zs := [.int .i64 0, .int .i64 0, .bool false]) (by kernel_rfl) rfl (fun b22_2 => ?_))
    refine aHN ?_
    refine an rfl (aV 4 tk195 rfl rfl rfl rfl ?_)
    refine aHK ?_
    refine aNn (aj (aM rfl (aM rfl ?_)))
    refine aU rfl (qFA (off := 0) rfl) ?_
    refine aU rfl (ah 4 tk3 rfl rfl rfl) ?_
    refine an (q := false) rfl (gA [2, 1, 0] [0, 1] (by kernel_rfl) rfl rfl rfl rfl rfl (oB x hx _ lb _ k z.sym hoi _ _ hlr) ?_)
    rintro r23 _ _ ⟨rfl, v', rfl⟩
    refine aST ?_
    refine cn (bB (az (aj ?_)))
    refine aU rfl (bd rfl rfl (by omega)) ?_
    refine aM rfl (aNn ?_)
    refine ⟨[1, 3, 4, 7, 8, 44, 45, 46, 119, 120, 121], [2, 1, 0], [0, 1, 2, 3], rfl, ?_⟩
    refine ⟨(i + 1, v'), ⟨by dsimp only; omega, ?_⟩, by dsimp only; omega⟩
    rw [show cY x k ++ dM x k o.syms.l o.syms.l.length ++ eP x k (o.inits.l.take (i + 1)) = cY x k ++ dM x k o.syms.l o.syms.l.length ++ eP x k (o.inits.l.take i) ++ (cH x k z.sym).toList by
      unfold eP; rw [List.take_add_one, hz, List.flatMap_append, List.append_assoc]; simp]
    rfl
   ·skip
    have hi2 : o.inits.l.take i = o.inits.l := List.take_of_length_le (by simpa using h4)
    refine aX (aY (aY (bf (bB (az (aj ?_))))))
    refine aU rfl (bd rfl rfl (by omega)) ?_
    refine aM rfl (aNn ?_)
    refine ⟨[1, 3, 4, 7, 44, 45, 46], [2, 1, 0], [0, 1, 2, 3], rfl, ?_⟩
    refine ⟨(k + 1, v), ⟨by dsimp only; omega, ?_⟩, by dsimp only; omega⟩
    rw [hi2, my]; unfold jm; rw [hoo, ← List.append_assoc]
    rfl
 ·skip
  obtain rfl : k = x.objs.l.length := by have := (by simpa using h1 : x.objs.l.length ≤ k); omega
  refine aX (aY (aY (bf (az (aSR (aU rfl (ah 0 tk90 rfl rfl rfl) ?_))))))
  refine aA rfl (aNn (fN 1 rfl ?_))
  refine jN (.of (aF 0 rfl)) (fun ad kc hv => ?_)
  rw [uQ] at hv
  refine aJ ?_
  refine z8 [3] [] [2] [D1] rfl Tryz.results66 rfl rfl rfl ?_ (.inr rfl)
  exact ⟨rfl, ad, kc, hv, by rw [← hv]; rfl⟩
end Go.Proofs.YtgmiihmahaahiaaGreatDoor

namespace Go.Proofs.YtgmiihmahaahiaaGreatDoor
open Go.RowKit Go.Lp Go.Sy
open Go.Proofs.Tryz
attribute [local irreducible] aL aB awp aC fwp
def cF (os : List ax) : Nat → Nat
 | 0 => 0
 | k + 1 => cF os k + (elt os (k : Int)).secs.l.length
def dH (os : List ax) (k : Nat) : List Int := (List.range k).map fun i : Nat => (cF os i : Int)
theorem gW (os : List ax) (k : Nat) : (dH os k).length = k := by simp [dH]
theorem tz (os : List ax) (k : Nat) : dH os (k + 1) = dH os k ++ [(cF os k : Int)] := by simp [dH, List.range_succ]
abbrev lkF (x : bj) (ad : Option Addr) (cap : Nat) (k : Nat) : bj := ⟨x.r, x.objs, x.keep, x.choices, ⟨ad, cap, dH x.objs.l k⟩, (cF x.objs.l k : Int)⟩
theorem bj.ok_first {x : bj} {f : Sl Int} {c : Int} {w : World} {S : bz} (h : x.ok.holds w S) (hf : (ShF (fun z => [.v (.int .i64 z)]) f).holds w S) : (bj.ok ⟨x.r, x.objs, x.keep, x.choices, f, c⟩).holds w S :=
 ⟨h.1, h.2.1, h.2.2.1, h.2.2.2.1, h.2.2.2.2.1, h.2.2.2.2.2.1, h.2.2.2.2.2.2.1, hf⟩
theorem oI {os : List ax} (hf : ∀ o ∈ os, o.secs.l.length ≤ 6) : ∀ k, k ≤ os.length → cF os k ≤ 6 * k
 | 0, _ => Nat.le_refl _
 | k + 1, h => by
   have ih := oI hf k (by omega)
   have := hf _ (List.mem_of_getElem? (bM (l := os) (i := k) h))
   unfold cF; omega
theorem sf (x : bj) (hn : x.objs.l.length ≤ 4) (hs : ∀ o ∈ x.objs.l, o.secs.l.length ≤ 6) : Con Tryz.prog 63 [x.r.val, x.objs.val, x.keep.val, x.choices.val] [x.ok] []
   fun r ps hp => hp = [] ∧ ∃ lb ad cap, r = .pointer (some ⟨lb, 0, none⟩) ∧ ps = [At lb 0 (lkF x ad cap x.objs.l.length).row, (lkF x ad cap x.objs.l.length).ok] := by
 refine Con.enter Tryz.func63 rfl (by simp [Tryz.ntmps63]) ?_
 show awp _ _ _ _ ⟨[(0, true, _), (1, true, _), (2, true, _), (3, true, _)], _, _⟩
 refine aSR ?_
 refine an (q := true) rfl (cx rfl rfl rfl (fun b0_0 => ?_))
 refine aHN ?_
 refine aA rfl (aNn (aSR (aU rfl (ah 0 tk79 rfl rfl rfl) (aM rfl (aM rfl (aM rfl ?_))))))
 refine aU rfl (dz (l := [(0, .tmp 12), (1, .tmp 13), (2, .tmp 14), (3, .tmp 15)]) (zs := [.string .empty, .bool false, .slice none 0 0, .slice none 0 0, .string .empty, .int .i64 0, .slice none 0 0, .slice none 0 0, .slice none 0 0, .slice none 0 0, .slice none 0 0, .int .i64 0]) (pl := [(0, 7), (7, 1), (8, 1), (9, 1), (10, 1), (11, 1)]) (by kernel_rfl) (by kernel_rfl) (by kernel_rfl) rfl rfl rfl) ?_
 refine an (q := true) rfl (cx rfl rfl rfl (fun b1_5 => ?_))
 refine aHN ?_
 refine aA rfl (aNs (aH (eD 3 1 ?_)))
 show awp _ _ _ _ ⟨_, _, [_, _, _]⟩
 refine aj (aM rfl (aU rfl (aZ Tryz.underlying22 rfl) (aM rfl (aNn (aI (aT [9, 18, 19, 20] [0] [1, 2] (fun (p : Nat × Option Addr × Nat) s => p.1 ≤ x.objs.l.length ∧ s = ⟨[(9, true, .pointer (some ⟨b1_5, 0, none⟩)), (18, true, x.objs.val), (19, true, .int .i64 x.objs.l.length), (20, true, .int .i64 p.1)], [x.ok], [Box b1_5 139 (lkF x p.2.1 p.2.2 p.1).vs, bg (.slice p.2.1 (dH x.objs.l p.1).length p.2.2) 3 1 (bS encI (dH x.objs.l p.1))]⟩) (fun p => x.objs.l.length - p.1) rfl (⟨(0, none, 0), Nat.zero_le _, rfl⟩) ?_))))))
 rintro ⟨k, ad, cap⟩ s ⟨hk, rfl⟩
 dsimp only at hk
 refine aSR (aU rfl (bw rfl rfl) (aNs ?_))
 refine al _ rfl (fun h1 => ?_) (fun h1 => ?_)
 ·skip
  have hk' : k < x.objs.l.length := by simpa using h1
  have ho := bM hk'
  have hcnt := oI hs k hk
  have hos := hs _ (List.mem_of_getElem? ho)
  refine aq (az (aH (aI (aSR ?_))))
  refine cJ true rfl rfl (fun _ => av Tryz.underlying22 tk61 rfl ((bj.f_objs (.of (aF 0 rfl)))) rfl (aQ ho) rfl rfl) (fun h => absurd h (by decide)) (fun ⟨b4_0, o4_0⟩ => ?_)
  refine aU rfl (aP (o := 0) tk61 rfl (aF 0 rfl) rfl rfl) ?_
  refine an (q := true) rfl (bc (zs := [.string .empty, .slice none 0 0, .slice none 0 0, .slice none 0 0, .slice none 0 0, .slice none 0 0, .slice none 0 0, .slice none 0 0, .slice none 0 0, .slice none 0 0, .slice none 0 0]) (by kernel_rfl) rfl (fun b4_2 => ?_))
  refine aHN ?_
  refine an rfl (aV 2 tk61 rfl rfl rfl rfl ?_)
  refine aHK ?_
  refine aNs ?_
  refine cP [10, 13] [13] [b1_5, b4_2] (by kernel_rfl) ?_
  show aC _ _ _ _ _ _ _ 14 #[false, false, false, false, false, false, false, false, false, false, false, false, false, false] _
  refine bt 0 rfl (by kernel_rfl) true rfl rfl (fun _ => aD rfl) ?_
  refine bt 1 rfl (by kernel_rfl) true rfl rfl (fun _ => aD rfl) ?_
  refine bt 2 rfl (by kernel_rfl) true rfl rfl (fun _ => aR rfl) ?_
  refine bt 3 rfl (by kernel_rfl) true rfl rfl (fun _ => qFA (off := 10) rfl) ?_
  refine db 4 0 rfl (by kernel_rfl) true rfl rfl (by simp) tk90 (fun _ => rfl) rfl rfl ?_
  refine bt 5 rfl (by kernel_rfl) true rfl rfl (fun _ => aD rfl) ?_
  refine bt 6 rfl (by kernel_rfl) true rfl rfl (fun _ => aR rfl) ?_
  refine bt 7 rfl (by kernel_rfl) true rfl rfl (fun _ => qFA (off := 11) rfl) ?_
  refine db 8 0 rfl (by kernel_rfl) true rfl rfl (by simp) tk3 (fun _ => rfl) rfl rfl ?_
  refine cq 9 [] (by kernel_rfl) (bL ?_ bX)
  refine cR 9 rfl rfl (Eff.x ?_)
  refine id (cB (zs := [.int .i64 0]) (l := [(0, .tmp 32)]) el90 (by kernel_rfl) (by decide) (by decide) (by decide) rfl rfl rfl (.more rfl (.v rfl .nil) .nil) rfl rfl (fun v5_9 => ?_))
  refine dD (by (try simp only [nO, nK, nL]); rfl) (by (try simp only [nM, nN]); rfl) (by (try simp only [bK, nQ, nR, dp, place, Nat.reduceBEq, if_true, if_false, reduceIte, Nat.reduceAdd, nW]); rfl) ?_
  refine cq 10 [] (by kernel_rfl) (bL ?_ bX)
  refine cR 10 rfl rfl (Eff.framed (q := false) [1, 3] rfl rfl (jq 0 rfl rfl (jq 2 rfl rfl qN)) ?_)
  refine id (cL 0 el90 rfl rfl rfl rfl (dR 1 el90 rfl (by simp)) (by first | assumption | simp) (by rw [cT, gW]; simp; omega) ((dH x.objs.l (k + 1)).length) (by rw [cT, gW, gW]; rfl) (fun v5_10 c5_10 => ?_))
  refine kQ ?_
  refine dD (by (try simp only [nO, nK, nL]); rfl) (by (try simp only [nM, nN]); rfl) (by (try simp only [bK, nQ, nR, dp, place, Nat.reduceBEq, if_true, if_false, reduceIte, Nat.reduceAdd, nW]); rfl) ?_
  refine bt 11 rfl (by kernel_rfl) true rfl rfl (fun _ => aR rfl) ?_
  refine bt 12 rfl (by kernel_rfl) true rfl rfl (fun _ => qFA (off := 10) rfl) ?_
  refine cq 13 [] (by kernel_rfl) (bL ?_ bX)
  refine cR 13 rfl rfl (Eff.wild (q := false) ?_)
  refine id (aV 0 tk90 rfl rfl rfl rfl ?_)
  refine dD (by (try simp only [nO, nK, nL]); rfl) (by (try simp only [nM, nN]); rfl) (by (try simp only [bK, nQ, nR, dp, place, Nat.reduceBEq, if_true, if_false, reduceIte, Nat.reduceAdd, nW]); rfl) ?_
  refine eN (by kernel_rfl) ?_
  refine az ?_
  refine cP [10] [10] [b1_5, b4_2] (by kernel_rfl) ?_
  show aC _ _ _ _ _ _ _ 11 #[false, false, false, false, false, false, false, false, false, false, false] _
  refine bt 0 rfl (by kernel_rfl) true rfl rfl (fun _ => aD rfl) ?_
  refine bt 1 rfl (by kernel_rfl) true rfl rfl (fun _ => aR rfl) ?_
  refine bt 2 rfl (by kernel_rfl) true rfl rfl (fun _ => qFA (off := 11) rfl) ?_
  refine db 3 0 rfl (by kernel_rfl) true rfl rfl (by simp) tk3 (fun _ => rfl) rfl rfl ?_
  refine bt 4 rfl (by kernel_rfl) true rfl rfl (fun _ => qFA (off := 1) rfl) ?_
  refine db 5 2 rfl (by kernel_rfl) true rfl rfl (by simp) tk50 (fun _ => rfl) rfl rfl ?_
  refine bt 6 rfl (by kernel_rfl) true rfl rfl (fun _ => aZ Tryz.underlying50 rfl) ?_
  refine bt 7 rfl (by kernel_rfl) true rfl rfl (fun _ => bd rfl rfl (by omega)) ?_
  refine bt 8 rfl (by kernel_rfl) true rfl rfl (fun _ => aR rfl) ?_
  refine bt 9 rfl (by kernel_rfl) true rfl rfl (fun _ => qFA (off := 11) rfl) ?_
  refine cq 10 [] (by kernel_rfl) (bL ?_ bX)
  refine cR 10 rfl rfl (Eff.wild (q := false) ?_)
  refine id (aV 0 tk3 rfl rfl rfl rfl ?_)
  refine dD (by (try simp only [nO, nK, nL]); rfl) (by (try simp only [nM, nN]); rfl) (by (try simp only [bK, nQ, nR, dp, place, Nat.reduceBEq, if_true, if_false, reduceIte, Nat.reduceAdd, nW]); rfl) ?_
  refine eN (by kernel_rfl) ?_
  refine bB (az (aj ?_))
  refine aU rfl (bd rfl rfl (by omega)) ?_
  refine aM rfl (aNn ?_)
  refine ⟨[9, 18, 19, 20], [0], [0, 1], rfl, ?_⟩
  refine ⟨(k + 1, v5_10, c5_10), ⟨by dsimp only; omega, ?_⟩, by dsimp only; omega⟩
  dsimp only
  rw [show bS encI (dH x.objs.l (k + 1)) = bS encI (dH x.objs.l k) ++ [[.v (encI (cF x.objs.l k : Int))]] by simp [bS, tz]]
  rfl
 ·skip
  have hkn : k = x.objs.l.length := by simp at h1; omega
  subst hkn
  dsimp only
  refine aX (aY (aY (bf (az (aH (fN 1 rfl (ti (lkF x ad cap x.objs.l.length).ok (fun w S hps => bj.ok_first (hps _ (List.mem_cons_of_mem _ List.mem_cons_self)) (hps _ List.mem_cons_self)) ?_)))))))
  refine cX 0 rfl rfl (aj (aM rfl (aA rfl (aNn (aJ ?_)))))
  refine br [3, 2] [] rfl Tryz.results63 rfl ?_ (.inr rfl)
  exact ⟨rfl, b1_5, ad, cap, rfl, rfl⟩
end Go.Proofs.YtgmiihmahaahiaaGreatDoor

