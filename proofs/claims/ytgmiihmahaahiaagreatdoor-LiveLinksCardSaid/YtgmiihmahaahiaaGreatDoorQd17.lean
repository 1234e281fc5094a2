/- Parts of the proof, in build order. No condition. -/
import Derived.Test.YtgmiihmahaahiaaGreatDoorQd13
import Derived.Test.YtgmiihmahaahiaaGreatDoorQd14
import Derived.Test.YtgmiihmahaahiaaGreatDoorQd16
import Derived.Test.YtgmiihmahaahiaaGreatDoorQd03
set_option linter.unusedSimpArgs false
set_option linter.unusedVariables false
set_option maxHeartbeats 1000000
set_option maxRecDepth 20000
namespace Go.Proofs.YtgmiihmahaahiaaGreatDoor
open Go.RowKit Go.Lp Go.Sy Go.Lv
open Go.Proofs.Tryz
attribute [local irreducible] aL aB awp aC fwp
structure L14 where
 r : ff
 os : Sl ax
def L14.ok (y : L14) : Per := cA dF (cA dG (cA y.r.ok (cA (ShF ax.row y.os) (cv ax.ok y.os.l))))
def L14.ln (y : L14) (K : Sl (Sl Bool)) (S : Sl (Sl bq)) : bj := ⟨y.r, y.os, K, S, default, 0⟩
def L14.rl (y : L14) (K : Sl (Sl Bool)) : cm := ⟨y.os, K, y.r.lib, ⟨none, 0, []⟩, ⟨none, 0, []⟩, 0, 0, 0, 0⟩
section
variable {ps : List Per} {y : L14} (h : Ent ps y.ok)
include h
theorem L14.f_turns : Ent ps dF := h.left
theorem L14.f_const : Ent ps dG := h.right.left
theorem L14.f_os : Ent ps (ShF ax.row y.os) := h.right.right.right.left
theorem L14.f_osA : Ent ps (cv ax.ok y.os.l) := h.right.right.right.right
theorem L14.f_ln {K : Sl (Sl Bool)} {S : Sl (Sl bq)} (h1 : Ent ps (cv (ShF bR) K.l)) (h2 : Ent ps (ShF slR K)) (h3 : Ent ps (cv (ShF bq.row) S.l)) (h4 : Ent ps (ShF slR S)) : Ent ps (y.ln K S).ok := fun w B hps =>
 ⟨(h w B hps).2.2.1, (h w B hps).2.2.2.1, (h w B hps).2.2.2.2, h2 w B hps, h1 w B hps, h4 w B hps, h3 w B hps, .e none 0 (by unfold maxLen; omega)⟩
theorem L14.f_rl {K : Sl (Sl Bool)} (h1 : Ent ps (cv (ShF bR) K.l)) (h2 : Ent ps (ShF slR K)) : Ent ps (y.rl K).ok := fun w B hps =>
 ⟨(h w B hps).2.2.2.1, (h w B hps).2.2.2.2, h2 w B hps, h1 w B hps, .e none 0 (by unfold maxLen; omega), fun _ h => (by cases h), .e none 0 (by unfold maxLen; omega), fun _ h => by cases h⟩
end
theorem xt (y : L14) : Con Tryz.prog 25 [y.os.val, .slice none 0 0, .slice none 0 0] [y.ok] [] fun r _ _ => r = .bool (tY (y.ln ⟨none, 0, []⟩ ⟨none, 0, []⟩)) :=
 (yL (y.ln ⟨none, 0, []⟩ ⟨none, 0, []⟩)).pre fun p hp => (List.mem_singleton.1 hp) ▸ L14.f_ln aaJ (fun _ _ _ _ h => by cases h) (fun _ _ _ => .e none 0 (by unfold maxLen; omega)) (fun _ _ _ _ h => by cases h) (fun _ _ _ => .e none 0 (by unfold maxLen; omega))
theorem nk (y : L14) (t : Sl (Sl Bool)) : Con Tryz.prog 28 [t.val, y.os.val] [fK t, y.ok] [] fun r _ _ => r = .bool (kg t y.os.l) :=
 (wX (y.ln ⟨none, 0, []⟩ ⟨none, 0, []⟩) t).pre (rD (.of (aF 0 rfl)) (L14.f_ln (.of (aF 1 rfl)) (fun _ _ _ _ h => by cases h) (fun _ _ _ => .e none 0 (by unfold maxLen; omega)) (fun _ _ _ _ h => by cases h) (fun _ _ _ => .e none 0 (by unfold maxLen; omega))))
theorem abz {o : ax} (h : uw o) : ab1 o := ⟨h.secs, fun s hs => (h.syms s hs).1, h.groups⟩
theorem uY (y : L14) (hf : mL y.os.l) (hr : ∀ o ∈ y.os.l, uw o) :
   Con Tryz.prog 12 [y.os.val] [y.ok] [] fun r ps hp => hp = [] ∧ ∃ (K : Sl (Sl Bool)) (dv : Value), r = .tuple #[K.val, dv] ∧ jv y.os.l K.l ∧ ps = [cv (ShF bR) K.l, ShF slR K] := by
 refine ((aad y.os (by have := hf.n; omega) (fun o ho => ⟨by have := (hf.of o ho).1; omega, by have := (hf.of o ho).1; have := (hr o ho).few; omega⟩) (fun o ho => abz (hr o ho))).pre fun p hp => ?_).post ?_
 · have h : Ent [y.ok] y.ok := aaJ
   simp only [List.mem_cons, List.not_mem_nil, or_false] at hp
   rcases hp with rfl | rfl | rfl | rfl
   · exact L14.f_const h
   · exact L14.f_turns h
   · exact L14.f_os h
   · exact L14.f_osA h
 · rintro r ps hp ⟨h1, K, dv, h2, h3, h4, h5⟩
   exact ⟨h1, K, dv, h2, ⟨by have := hf.n; omega, fun o ho => (hf.of o ho).2.1, h3, h4, fun o ho s hs => ((hr o ho).syms s hs).1⟩, h5⟩
noncomputable abbrev sv0 : ByteArray → ByteArray → Bool := uZ []
noncomputable abbrev lf0 : ByteArray → ByteArray → Int := eY []
theorem uP (y : L14) (K : Sl (Sl Bool)) (hok : jv y.os.l K.l) :
   Con Tryz.prog 13 [y.os.val, K.val, .bool y.r.lib, .slice none 0 0, .slice none 0 0] [cv (ShF bR) K.l, ShF slR K, y.ok] [] fun r ps hp => hp = [] ∧ ∃ S : Sl (Sl bq), ps = [cv (ShF bq.row) S.l, ShF slR S] ∧
     r = .tuple #[S.val, .int .i64 (sY (eT K.l (bQ y.os.l) sv0 lf0 y.r.lib)), (zJ (eT K.l (bQ y.os.l) sv0 lf0 y.r.lib)).val] ∧
     S.l.map (·.l) = if eT K.l (bQ y.os.l) sv0 lf0 y.r.lib = none then oD y.os.l K.l sv0 lf0 y.r.lib else [] :=
 (yG (y.rl K) hok (uZ []) fun _ _ => tg).pre fun p hp => (List.mem_singleton.1 hp) ▸ L14.f_rl (.of (aF 2 rfl)) (.of (aF 0 rfl)) (.of (aF 1 rfl))
theorem oU (y : L14) (K : Sl (Sl Bool)) (hok : jv y.os.l K.l) (S : Sl (Sl bq)) {sv : ByteArray → ByteArray → Bool} {lf : ByteArray → ByteArray → Int} {lib : Bool} (hB : abc y.os.l K.l sv lf lib S.l) :
   Con Tryz.prog 18 [y.os.val, K.val, S.val] [cv (ShF bq.row) S.l, ShF slR S, y.ok] [] fun r ps hp => ps = [] ∧ hp = [bg r 46 7 ((vM K.l (bQ y.os.l)).map bF.row)] := by
 refine ((rj y.os K.l K.val hok S hB.fits.1 hB.fits.2).pre fun p hp => ?_).post ?_
 · have h : Ent [cv (ShF bq.row) S.l, ShF slR S, y.ok] y.ok := .of (aF 2 rfl)
   simp only [List.mem_cons, List.not_mem_nil, or_false] at hp
   rcases hp with rfl | rfl | rfl | rfl
   · exact L14.f_os h
   · exact L14.f_osA h
   · exact .of (aF 0 rfl)
   · exact .of (aF 1 rfl)
 · rintro r ps hp ⟨h1, v, q, rfl, hq, hs, rfl⟩
   rw [abf hB] at hq
   rw [uz hB.rb.asc hq hs]
   exact ⟨h1, rfl⟩
theorem vS (y : L14) (hf : mL y.os.l) (K : Sl (Sl Bool)) (S : Sl (Sl bq)) :
   Con Tryz.prog 27 [y.r.val, y.os.val, K.val, S.val] [cv (ShF bq.row) S.l, ShF slR S, cv (ShF bR) K.l, ShF slR K, y.ok] []
   fun r ps hp => ps = [] ∧ ∃ (t : Sl (Sl Bool)) (ad : Option Addr) (cap : Nat), r = t.val ∧ eX t = jr (lkF (y.ln K S) ad cap y.os.l.length) ∧ hp = [qk (fK t)] :=
 (sS (y.ln K S) hf).pre fun p hp => (List.mem_singleton.1 hp) ▸ L14.f_ln (.of (aF 4 rfl)) (.of (aF 2 rfl)) (.of (aF 3 rfl)) (.of (aF 0 rfl)) (.of (aF 1 rfl))
theorem acy {l k p : Bool} (h1 : l = true → k = true) (h2 : k = true → p = true → l = true) (h : (l && !k || (k && p) && !l) = true) : False := by cases l <;> cases k <;> cases p <;> simp_all
set_option maxHeartbeats 1000000 in
theorem xV (y : L14) : Con Tryz.prog 9 [y.r.val, y.os.val] [y.ok] [] fun r _ _ => r = .bool true := by
 refine Con.enter Tryz.func9 rfl (by simp [Tryz.ntmps9]) ?_
 show awp _ _ _ _ ⟨[(0, true, _), (1, true, _)], _, _⟩
 refine bA (L14.f_os (.of (aF 0 rfl))) (fun hlen => ?_)
 refine aSR ?_
 refine an (q := true) rfl (cx rfl rfl rfl (fun b0_0 => ?_))
 refine aHN ?_
 refine aA rfl (aNn (aSR ?_))
 refine an (q := true) rfl (bH [] [] (by kernel_rfl) rfl rfl rfl rfl (xG) ?_)
 rintro _ _ _ ⟨rfl, rfl, rfl⟩
 refine aST ?_
 refine aA rfl (aNs (aSR (aM rfl ?_)))
 refine aU rfl (bC (by kernel_rfl) rfl (fun w S fp hst => (xt y).quiet1 (aF 0 rfl) hst)) ?_
 refine aU rfl (bZ rfl) (aNn ?_)
 refine al _ rfl (fun h1 => ?_) (fun h1 => ?_)
 ·skip
  refine aSR (aM rfl (aA rfl (aNn (aJ (aO ?_)))))
  refine br [] [] rfl Tryz.results9 rfl ?_ (.inr rfl)
  rfl
 ·skip
  have hF : mL y.os.l := abw (x := y.ln ⟨none, 0, []⟩ ⟨none, 0, []⟩) (by simpa using h1)
  have hn4 := hF.n
  refine aq (az (aH (aSR (aA rfl (aNn (aI ?_))))))
  refine aT [1, 2, 5, 6] [0] [0] (fun (k : Nat) st => (k ≤ y.os.l.length ∧ ∀ o ∈ y.os.l.take k, uw o) ∧ st = ⟨[(1, true, y.os.val), (2, true, .pointer (some ⟨b0_0, 0, none⟩)), (5, true, .bool true), (6, true, .int .i64 k)], [y.ok], [Box b0_0 79 y.r.vs]⟩) (fun k => y.os.l.length - k) rfl (⟨0, ⟨Nat.zero_le _, fun o ho => by cases ho⟩, rfl⟩) ?_
  rintro k st ⟨⟨hk, hR⟩, rfl⟩
  refine aH (aSR (aM rfl (aM rfl (aU rfl (aZ Tryz.underlying22 rfl) (aU rfl (bw rfl rfl) (aNn ?_))))))
  refine al _ rfl (fun h2 => ?_) (fun h2 => ?_)
  ·skip
   have hk' : k < y.os.l.length := by simp at h2; omega
   obtain ⟨o, ho⟩ : ∃ o, y.os.l[k]? = some o := ⟨_, List.getElem?_eq_getElem hk'⟩
   refine aq (az (aH (aI (aSR (aM rfl (aM rfl ?_))))))
   refine cJ true rfl rfl (fun _ => av Tryz.underlying22 tk61 rfl ((L14.f_os (.of (aF 0 rfl)))) rfl (aQ ho) rfl rfl) (fun h => absurd h (by decide)) (fun ⟨b7_2, o7_2⟩ => ?_)
   refine aU rfl (aP (o := 0) tk61 rfl (aF 0 rfl) rfl rfl) ?_
   refine bT (caps := []) [0] (false) (by kernel_rfl) true rfl rfl (fun _ => rfl) (fun hc => rfl) (fun hc => by rw [List.append_nil]; exact (uM o (by have := (hF.of o (List.mem_of_getElem? ho)).1; omega)).pre (fun p hp => (List.mem_singleton.1 hp) ▸ Ent.all (L14.f_osA (.of (aF 0 rfl))) ho)) (fun c1 hc1 => ?_)
   refine aU rfl (bZ rfl) (aNn ?_)
   refine al _ rfl (fun h3 => ?_) (fun h3 => ?_)
   ·skip
    refine aSR (aM rfl (aA rfl (aNn (aJ (bu (aO (aO (bu (aO ?_)))))))))
    refine br [] [] rfl Tryz.results9 rfl ?_ (.inr rfl)
    rfl
   ·skip
    have hro := hc1 rfl (by simpa using h3)
    refine aq (bB (az (aj (aM rfl ?_))))
    refine aU rfl (bd rfl rfl (by omega)) ?_
    refine aA rfl (aNn ?_)
    refine ⟨[1, 2, 5, 6], [0], [0], rfl, ?_⟩
    refine ⟨k + 1, ⟨⟨by omega, fun o2 ho2 => ?_⟩, rfl⟩, by omega⟩
    rw [List.take_add_one, ho, List.mem_append] at ho2
    rcases ho2 with ho2 | ho2
    · exact hR o2 ho2
    · simp at ho2; subst ho2; exact hro
  ·skip
   have hR2 : ∀ o ∈ y.os.l, uw o := by rw [List.take_of_length_le (by simp at h2; omega)] at hR; exact hR
   refine aX (aY (aY (bf (az (aSR (aM rfl ?_))))))
   refine an (q := true) rfl (bH [0] [] (by kernel_rfl) rfl rfl rfl rfl (uY y hF hR2) ?_)
   rintro _ _ _ ⟨rfl, K, dv, rfl, hok, rfl⟩
   refine aST ?_
   refine aM rfl (aU rfl (bD rfl rfl) (aU rfl (bD rfl rfl) (aA rfl (aA rfl (aNn (aSR (aM rfl (aM rfl ?_))))))))
   refine aU rfl (qFA (off := 1) rfl) ?_
   refine aU rfl (ah 0 tk4 rfl rfl rfl) ?_
   refine an (q := true) rfl (bH [2, 1, 0] [] (by kernel_rfl) rfl rfl rfl rfl (uP y K hok) ?_)
   rintro _ _ _ ⟨rfl, Cs, rfl, rfl, hS⟩
   refine aST ?_
   refine aM rfl (aU rfl (bD rfl rfl) (aU rfl (bD rfl rfl) (aU rfl (bD rfl rfl) ?_)))
   refine an (q := true) rfl (bc (zs := [.int .i64 0, .int .i64 0]) (by kernel_rfl) rfl (fun b10_9 => ?_))
   refine aHN ?_
   refine aA rfl (aA rfl ?_)
   refine an rfl (aV 1 tk34 rfl rfl rfl rfl ?_)
   refine aHK ?_
   refine aNs (aSR (aM rfl (aU rfl (dB rfl rfl) (aNn ?_))))
   refine al _ rfl (fun h4 => ?_) (fun h4 => ?_)
   ·skip
    refine aSR (aM rfl (aA rfl (aNn (aJ (aO ?_)))))
    refine br [] [] rfl Tryz.results9 rfl ?_ (.inr rfl)
    rfl
   ·skip
    have hB := aaV hS (aaI (by simpa using h4))
    refine aq (az (aSR (aU rfl (ah 0 tk79 rfl rfl rfl) (aM rfl (aM rfl (aM rfl ?_))))))
    refine an (q := true) rfl (bH [4, 3, 2, 1, 0] [] (by kernel_rfl) rfl rfl rfl rfl (vS y hF K Cs) ?_)
    rintro _ _ _ ⟨rfl, t, la, lc, rfl, ht, rfl⟩
    refine aST ?_
    refine aA rfl (aNs (aH (eC 2 (fK t) rfl (fun w S F h => (fK t).mono h (fun _ _ => rfl) (fun b hb => .inr hb)) (jK (fK K) (.mk2 (.of (aF 4 rfl)) (.of (aF 3 rfl))) ?_))))
    have hfit := yQ (x := y.ln K Cs) ht
    have hft := iU.1 hfit
    have hfitK : kg K y.os.l = true := iU.2 ⟨hok.kn, hok.ks⟩
    refine aj (aM rfl (aM rfl ?_))
    refine aU rfl (bC (by kernel_rfl) rfl (fun w S fp hst => (nk y t).quiet2 (aF 1 rfl) (aF 6 rfl) hst)) ?_
    refine aU rfl (bZ rfl) (aM rfl (aG rfl rfl (fun hc => aD rfl) (aG rfl rfl (fun hc => aD rfl) ?_)))
    refine aG rfl rfl (fun hc => bC (by kernel_rfl) (aS (ae rfl hc) (aS (ae rfl hc) rfl)) (fun w S fp hst => (nk y K).quiet2 (aF 0 rfl) (aF 6 rfl) hst)) ?_
    refine aG rfl rfl (fun hc => bZ (ae rfl hc)) (aU rfl (bY rfl rfl (fun h => gf rfl h)) (aNn ?_))
    refine al _ rfl (fun h5 => ?_) (fun h5 => ?_)
    ·skip
     exact absurd h5 (by rw [show kg t y.os.l = true from hfit, hfitK]; decide)
    ·skip
     refine aq (az (aSR (aM rfl (aM rfl (aM rfl ?_)))))
     refine an (q := true) rfl (bH [4, 3, 0] [] (by kernel_rfl) rfl rfl rfl rfl (oU y K hok Cs hB) ?_)
     rintro v _ _ ⟨rfl, rfl⟩
     refine aST ?_
     refine aA rfl (aNs (aH (fN 3 rfl ?_)))
     have hxm : ∀ z, z ∈ vM K.l (bQ y.os.l) ↔ ∃ d ∈ mQ K.l (bQ y.os.l), z = lS d := fun z => sA
     generalize vM K.l (bQ y.os.l) = xs at hxm
     refine jN (.of (aF 0 rfl)) (fun ad cp hv => ?_)
     subst hv
     rw [List.length_map]
     refine bA (.of (aF 0 rfl)) (fun hlx => ?_)
     refine aj (aA rfl (aNn (aI (aT [1, 5, 7, 12, 13, 14] [7, 6, 5, 0] [] (fun (i : Nat) st => i ≤ xs.length ∧ st = ⟨[(1, true, y.os.val), (5, true, .bool true), (7, true, K.val), (12, true, t.val), (13, true, .slice ad xs.length cp), (14, true, .int .i64 i)], [Sh (.slice ad xs.length cp) (.sl (xs.map bF.row)), fK K, fK t, y.ok], []⟩) (fun i => xs.length - i) rfl (⟨0, Nat.zero_le _, rfl⟩) ?_))))
     rintro i st ⟨hi, rfl⟩
     refine aH (aSR (aM rfl (aM rfl (aU rfl (aZ Tryz.underlying41 rfl) (aU rfl (bw rfl rfl) (aNn ?_))))))
     refine al _ rfl (fun h6 => ?_) (fun h6 => ?_)
     ·skip
      have hi' : i < xs.length := by simp at h6; omega
      obtain ⟨z, hz⟩ : ∃ z, xs[i]? = some z := ⟨_, List.getElem?_eq_getElem hi'⟩
      obtain ⟨d, hd, hzd⟩ := (hxm z).1 (List.mem_of_getElem? hz)
      obtain ⟨zn, zv, zm, zk, zo, zs, zc⟩ := z
      simp only [lS, bF.mk.injEq] at hzd
      obtain ⟨-, -, -, -, hzo, hzs, hzc⟩ := hzd
      refine aq (az (aH (aI (aH (aSR (aM rfl (aM rfl ?_)))))))
      refine cJ true rfl rfl (fun _ => av Tryz.underlying41 tk46 rfl ((.of (aF 0 rfl))) rfl (aQ hz) rfl rfl) (fun h => absurd h (by decide)) (fun ⟨b20_2, o20_2⟩ => ?_)
      refine aU rfl (qFA (off := 6) rfl) ?_
      refine aU rfl (aP (o := 6) tk4 rfl (aF 0 rfl) rfl rfl) (aNn ?_)
      refine al _ rfl (fun h7 => ?_) (fun h7 => ?_)
      ·skip
       refine aX (aY (bf (az (aj (aM rfl ?_)))))
       refine aU rfl (bd rfl rfl (by omega)) ?_
       refine aA rfl (aNn ?_)
       refine ⟨[1, 5, 7, 12, 13, 14], [3, 2, 1, 0], [], rfl, ?_⟩
       exact ⟨i + 1, ⟨by omega, rfl⟩, by omega⟩
      ·skip
       have hb3 : d.s.bind ≠ 3 := by
         have h7' : zc = false := h7
         rw [h7'] at hzc; simpa using hzc
       obtain ⟨a, b, c, ha, hab, hp, hsec, hc, hlive⟩ := zf (x := y.ln K Cs) hok hB (fun o ho s hs => ((hR2 o ho).syms s hs).2) hd hb3
       have hlv := (sF (x := y.ln K Cs) ht ha hc).2 hlive
       replace hab : (elt y.os.l (a : Int)).syms.l[b]? = some d.s := hab
       replace hc : c < (elt y.os.l (a : Int)).secs.l.length := hc
       replace ha : a < y.os.l.length := ha
       have hoa := bM ha
       have hbl : b < (elt y.os.l (a : Int)).syms.l.length := (List.getElem?_eq_some_iff.1 hab).1
       have hta := bM (l := t.l) (i := a) (by have := hft.1; show a < t.l.length; rw [this]; exact ha)
       have htc := bM (l := (elt t.l (a : Int)).l) (i := c) (by have := hft.2 a ha; rw [this]; exact hc)
       rw [hp] at hzo hzs
       dsimp only at hzo hzs
       subst hzo hzs
       refine bA (ax.f_syms (Ent.all (L14.f_osA (.of (aF 4 rfl))) hoa)) (fun hlsy => ?_)
       refine aq (az (aH (aH ?_)))
       refine bp [] (by kernel_rfl) ?_
       show aB _ _ _ _ _ 42 #[false, false, false, false, false, false, false, false, false, false, false, false, false, false, false, false, false, false, false, false, false, false, false, false, false, false, false, false, false, false, false, false, false, false, false, false, false, false, false, false, false, false] _
       refine bV 0 rfl rfl (aD rfl) ?_
       refine bV 1 rfl rfl (aD rfl) ?_
       refine dC 2 rfl (by kernel_rfl) true rfl rfl (fun _ => av Tryz.underlying41 tk46 rfl ((.of (aF 1 rfl))) rfl (aQ hz) rfl rfl) (fun h => absurd h (by decide)) (fun ⟨b21_2, o21_2⟩ => ?_)
       refine bV 3 rfl rfl (qFA (off := 4) rfl) ?_
       refine bV 4 rfl rfl (aP (o := 4) tk3 rfl (aF 0 rfl) rfl rfl) ?_
       refine bV 5 rfl rfl (bw rfl rfl) ?_
       refine bV 6 rfl rfl (aD rfl) ?_
       refine bW 7 rfl rfl rfl (fun hc => aD rfl) ?_
       refine bW 8 rfl rfl rfl (fun hc => aD rfl) ?_
       refine dC 9 rfl (by kernel_rfl) _ rfl rfl (fun hc => av Tryz.underlying41 tk46 (ae rfl hc) ((.of (aF 2 rfl))) (ae rfl hc) (aQ hz) rfl rfl) (fun _ => ⟨(0, 0)⟩) (fun ⟨b21_9, o21_9⟩ => ?_)
       refine bW 10 rfl rfl rfl (fun hc => qFA (off := 4) (ae rfl hc)) ?_
       refine bW 11 rfl rfl rfl (fun hc => aP (o := 4) tk3 (ae rfl hc) (aF 0 rfl) hc rfl) ?_
       refine bW 12 rfl rfl rfl (fun hc => aD rfl) ?_
       refine bW 13 rfl rfl rfl (fun hc => aZ Tryz.underlying22 (ae rfl hc)) ?_
       refine bW 14 rfl rfl rfl (fun hc => eu (ae rfl hc) (ae rfl hc)) ?_
       refine bV 15 rfl rfl (bY rfl rfl (fun h => gf rfl h)) ?_
       refine bV 16 rfl rfl (aD rfl) ?_
       refine bW 17 rfl rfl rfl (fun hc => aD rfl) ?_
       refine bW 18 rfl rfl rfl (fun hc => aD rfl) ?_
       refine dC 19 rfl (by kernel_rfl) _ rfl rfl (fun hc => av Tryz.underlying41 tk46 (ae rfl hc) ((.of (aF 3 rfl))) (ae rfl hc) (aQ hz) rfl rfl) (fun _ => ⟨(0, 0)⟩) (fun ⟨b21_19, o21_19⟩ => ?_)
       refine bW 20 rfl rfl rfl (fun hc => qFA (off := 5) (ae rfl hc)) ?_
       refine bW 21 rfl rfl rfl (fun hc => aP (o := 5) tk3 (ae rfl hc) (aF 0 rfl) hc rfl) ?_
       refine bW 22 rfl rfl rfl (fun hc => bw (ae rfl hc) rfl) ?_
       refine bV 23 rfl rfl (bY rfl rfl (fun h => gf rfl h)) ?_
       refine bV 24 rfl rfl (aD rfl) ?_
       refine bW 25 rfl rfl rfl (fun hc => aD rfl) ?_
       refine bW 26 rfl rfl rfl (fun hc => aD rfl) ?_
       refine dC 27 rfl (by kernel_rfl) _ rfl rfl (fun hc => av Tryz.underlying41 tk46 (ae rfl hc) ((.of (aF 4 rfl))) (ae rfl hc) (aQ hz) rfl rfl) (fun _ => ⟨(0, 0)⟩) (fun ⟨b21_27, o21_27⟩ => ?_)
       refine bW 28 rfl rfl rfl (fun hc => qFA (off := 5) (ae rfl hc)) ?_
       refine bW 29 rfl rfl rfl (fun hc => aP (o := 5) tk3 (ae rfl hc) (aF 0 rfl) hc rfl) ?_
       refine bW 30 rfl rfl rfl (fun hc => aD rfl) ?_
       refine bW 31 rfl rfl rfl (fun hc => aD rfl) ?_
       refine bW 32 rfl rfl rfl (fun hc => aD rfl) ?_
       refine dC 33 rfl (by kernel_rfl) _ rfl rfl (fun hc => av Tryz.underlying41 tk46 (ae rfl hc) ((.of (aF 5 rfl))) (ae rfl hc) (aQ hz) rfl rfl) (fun _ => ⟨(0, 0)⟩) (fun ⟨b21_33, o21_33⟩ => ?_)
       refine bW 34 rfl rfl rfl (fun hc => qFA (off := 4) (ae rfl hc)) ?_
       refine bW 35 rfl rfl rfl (fun hc => aP (o := 4) tk3 (ae rfl hc) (aF 0 rfl) hc rfl) ?_
       refine dC 36 rfl (by kernel_rfl) _ rfl rfl (fun hc => av Tryz.underlying22 tk61 (ae rfl hc) ((L14.f_os (.of (aF 9 rfl)))) (ae rfl hc) (aQ hoa) rfl rfl) (fun _ => ⟨(0, 0)⟩) (fun ⟨b21_36, o21_36⟩ => ?_)
       refine bW 37 rfl rfl rfl (fun hc => qFA (off := 2) (ae rfl hc)) ?_
       refine bW 38 rfl rfl rfl (fun hc => aP (o := 2) tk51 (ae rfl hc) (aF 0 rfl) hc rfl) ?_
       refine bW 39 rfl rfl rfl (fun hc => aZ Tryz.underlying51 (ae rfl hc)) ?_
       refine bW 40 rfl rfl rfl (fun hc => eu (ae rfl hc) (ae rfl hc)) ?_
       refine bV 41 rfl rfl (bY rfl rfl (fun h => gf rfl h)) ?_
       refine bO (by kernel_rfl) ?_
       refine az ?_
       refine al _ rfl (fun h8 => ?_) (fun h8 => ?_)
       ·skip
        exfalso; simp at h8; omega
       ·skip
        refine aq (az (aH ?_))
        refine bp [] (by kernel_rfl) ?_
        show aB _ _ _ _ _ 18 #[false, false, false, false, false, false, false, false, false, false, false, false, false, false, false, false, false, false] _
        refine bV 0 rfl rfl (aD rfl) ?_
        refine bV 1 rfl rfl (aD rfl) ?_
        refine bV 2 rfl rfl (aD rfl) ?_
        refine dC 3 rfl (by kernel_rfl) true rfl rfl (fun _ => av Tryz.underlying41 tk46 rfl ((.of (aF 7 rfl))) rfl (aQ hz) rfl rfl) (fun h => absurd h (by decide)) (fun ⟨b23_3, o23_3⟩ => ?_)
        refine bV 4 rfl rfl (qFA (off := 4) rfl) ?_
        refine bV 5 rfl rfl (aP (o := 4) tk3 rfl (aF 0 rfl) rfl rfl) ?_
        refine dC 6 rfl (by kernel_rfl) true rfl rfl (fun _ => av Tryz.underlying22 tk61 rfl ((L14.f_os (.of (aF 11 rfl)))) rfl (aQ hoa) rfl rfl) (fun h => absurd h (by decide)) (fun ⟨b23_6, o23_6⟩ => ?_)
        refine bV 7 rfl rfl (qFA (off := 2) rfl) ?_
        refine bV 8 rfl rfl (aP (o := 2) tk51 rfl (aF 0 rfl) rfl rfl) ?_
        refine bV 9 rfl rfl (aD rfl) ?_
        refine bV 10 rfl rfl (aD rfl) ?_
        refine dC 11 rfl (by kernel_rfl) true rfl rfl (fun _ => av Tryz.underlying41 tk46 rfl ((.of (aF 9 rfl))) rfl (aQ hz) rfl rfl) (fun h => absurd h (by decide)) (fun ⟨b23_11, o23_11⟩ => ?_)
        refine bV 12 rfl rfl (qFA (off := 5) rfl) ?_
        refine bV 13 rfl rfl (aP (o := 5) tk3 rfl (aF 0 rfl) rfl rfl) ?_
        refine dC 14 rfl (by kernel_rfl) true rfl rfl (fun _ => av Tryz.underlying51 tk63 rfl ((ax.f_syms (Ent.all (L14.f_osA (.of (aF 13 rfl))) hoa))) rfl (aQ hab) rfl rfl) (fun h => absurd h (by decide)) (fun ⟨b23_14, o23_14⟩ => ?_)
        refine bV 15 rfl rfl (qFA (off := 6) rfl) ?_
        refine bV 16 rfl rfl (aP (o := 6) tk3 rfl (aF 0 rfl) rfl rfl) ?_
        refine bV 17 rfl rfl (cz rfl) ?_
        refine bO (by kernel_rfl) ?_
        refine az (aSR (aM rfl (aU rfl (bw rfl rfl) (aM rfl (aG rfl rfl (fun hc => aD rfl) (aG rfl rfl (fun hc => aD rfl) (aG rfl rfl (fun hc => aD rfl) ?_)))))))
        refine cJ _ rfl rfl (fun hc => av Tryz.underlying41 tk46 (ae rfl hc) ((.of (aF 11 rfl))) (ae rfl hc) (aQ hz) rfl rfl) (fun _ => ⟨(0, 0)⟩) (fun ⟨b24_6, o24_6⟩ => ?_)
        refine aG rfl rfl (fun hc => qFA (off := 4) (ae rfl hc)) ?_
        refine aG rfl rfl (fun hc => aP (o := 4) tk3 (ae rfl hc) (aF 0 rfl) hc rfl) ?_
        refine cJ _ rfl rfl (fun hc => av Tryz.underlying27 tk68 (ae rfl hc) ((.left (.of (aF 14 rfl)))) (ae rfl hc) (aQ hta) rfl rfl) (fun _ => ⟨(0, 0)⟩) (fun ⟨b24_9, o24_9⟩ => ?_)
        refine aG rfl rfl (fun hc => aP (o := 0) tk68 (ae rfl hc) (aF 0 rfl) hc rfl) (aG rfl rfl (fun hc => aD rfl) ?_)
        refine cJ _ rfl rfl (fun hc => av Tryz.underlying68 tk4 (ae rfl hc) ((Ent.all (f := ShF fun b : Bool => [.v (.bool b)]) (Ent.right (.of (aF 15 rfl))) hta)) (ae rfl hc) (aQ htc) (hsec) rfl) (fun _ => ⟨(0, 0)⟩) (fun ⟨b24_12, o24_12⟩ => ?_)
        refine aG rfl rfl (fun hc => aP (o := 0) tk4 (ae rfl hc) (aF 0 rfl) hc rfl) (aG rfl rfl (fun hc => bZ (ae rfl hc)) (aU rfl (bY rfl rfl (fun h => gf rfl h)) (aNn ?_)))
        refine al _ rfl (fun h9 => ?_) (fun h9 => ?_)
        ·skip
         exfalso; rw [hlv] at h9; simp at h9; omega
        ·skip
         refine aq (bB (az (aj (aM rfl ?_))))
         refine aU rfl (bd rfl rfl (by omega)) ?_
         refine aA rfl (aNn ?_)
         refine ⟨[1, 5, 7, 12, 13, 14], [3, 2, 1, 0], [], rfl, ?_⟩
         exact ⟨i + 1, ⟨by omega, rfl⟩, by omega⟩
     ·skip
      refine aX (aY (aY (bf (az (aH (aSR ?_))))))
      refine aA rfl (aNn (aI (aT [1, 5, 7, 12, 16] [2, 1, 0] [] (fun (i : Nat) st => i ≤ y.os.l.length ∧ st = ⟨[(1, true, y.os.val), (5, true, .bool true), (7, true, K.val), (12, true, t.val), (16, true, .int .i64 i)], [fK K, fK t, y.ok], []⟩) (fun i => y.os.l.length - i) rfl (⟨0, Nat.zero_le _, rfl⟩) ?_)))
      clear hi
      rintro i st ⟨hi, rfl⟩
      refine aH (aSR (aM rfl (aM rfl (aU rfl (aZ Tryz.underlying22 rfl) (aU rfl (bw rfl rfl) (aNn ?_))))))
      refine al _ rfl (fun h10 => ?_) (fun h10 => ?_)
      ·skip
       have hi' : i < y.os.l.length := by simp at h10; omega
       have ho := bM hi'
       have hti := bM (l := t.l) (i := i) (by have := hft.1; rw [this]; exact hi')
       have hKi := bM (l := K.l) (i := i) (by have := hok.kn; omega)
       have hfti : (elt t.l (i : Int)).l.length = (elt y.os.l (i : Int)).secs.l.length := hft.2 i hi'
       have hfKi := hok.ks i hi'
       refine bA (ax.f_secs (Ent.all (L14.f_osA (.of (aF 2 rfl))) ho)) (fun hlen2 => ?_)
       refine aq (az (aH (aI (aSR (aA rfl (cn ?_))))))
       refine az (aI (aT [1, 5, 7, 12, 16, 17] [2, 1, 0] [] (fun (k : Nat) st => k ≤ (elt y.os.l (i : Int)).secs.l.length ∧ st = ⟨[(1, true, y.os.val), (5, true, .bool true), (7, true, K.val), (12, true, t.val), (16, true, .int .i64 i), (17, true, .int .i64 k)], [fK K, fK t, y.ok], []⟩) (fun k => (elt y.os.l (i : Int)).secs.l.length - k) rfl (⟨0, Nat.zero_le _, rfl⟩) ?_))
       rintro k st ⟨hk, rfl⟩
       refine aH (aSR (aM rfl (aM rfl (aM rfl ?_))))
       refine cJ true rfl rfl (fun _ => av Tryz.underlying22 tk61 rfl ((L14.f_os (.of (aF 2 rfl)))) rfl (aQ ho) rfl rfl) (fun h => absurd h (by decide)) (fun ⟨b30_3, o30_3⟩ => ?_)
       refine aU rfl (qFA (off := 1) rfl) ?_
       refine aU rfl (aP (o := 1) tk50 rfl (aF 0 rfl) rfl rfl) (aU rfl (aZ Tryz.underlying50 rfl) (aU rfl (bw rfl rfl) (aNn ?_)))
       refine al _ rfl (fun h11 => ?_) (fun h11 => ?_)
       ·skip
        have hk' : k < (elt y.os.l (i : Int)).secs.l.length := by simp at h11; omega
        have htk := bM (l := (elt t.l (i : Int)).l) (i := k) (by omega)
        have hKk := bM (l := (elt K.l (i : Int)).l) (i := k) (by omega)
        have hsk := bM hk'
        have hlv := sF (x := y.ln K Cs) ht hi' hk'
        have hkp : cM y.os.l K.l (i : Int) (k : Int) = elt (elt K.l (i : Int)).l (k : Int) := by
          unfold cM cS
          have h1 := hok.kn
          have e : (decide ((i : Int) ≥ 0) && decide ((i : Int) < (y.os.l.length : Int)) && (decide ((k : Int) ≥ 0) && decide ((k : Int) < ((elt y.os.l (i : Int)).secs.l.length : Int))) && decide ((i : Int) < (K.l.length : Int)) && decide ((k : Int) < ((elt K.l (i : Int)).l.length : Int))) = true := by
            simp only [Bool.and_eq_true, decide_eq_true_eq, ge_iff_le]; omega
          rw [e, Bool.true_and]
        refine aq (az (aH (aI (aSR (aM rfl (aM rfl ?_))))))
        refine cJ true rfl rfl (fun _ => av Tryz.underlying27 tk68 rfl ((.left (.of (aF 2 rfl)))) rfl (aQ hti) rfl rfl) (fun h => absurd h (by decide)) (fun ⟨b32_2, o32_2⟩ => ?_)
        refine aU rfl (aP (o := 0) tk68 rfl (aF 0 rfl) rfl rfl) (aM rfl ?_)
        refine cJ true rfl rfl (fun _ => av Tryz.underlying68 tk4 rfl ((Ent.all (f := ShF fun b : Bool => [.v (.bool b)]) (Ent.right (.of (aF 3 rfl))) hti)) rfl (aQ htk) rfl rfl) (fun h => absurd h (by decide)) (fun ⟨b32_5, o32_5⟩ => ?_)
        refine aU rfl (aP (o := 0) tk4 rfl (aF 0 rfl) rfl rfl) (aM rfl (aG rfl rfl (fun hc => aD rfl) (aG rfl rfl (fun hc => aD rfl) ?_)))
        refine cJ _ rfl rfl (fun hc => av Tryz.underlying27 tk68 (ae rfl hc) ((.left (.of (aF 3 rfl)))) (ae rfl hc) (aQ hKi) rfl rfl) (fun _ => ⟨(0, 0)⟩) (fun ⟨b32_10, o32_10⟩ => ?_)
        refine aG rfl rfl (fun hc => aP (o := 0) tk68 (ae rfl hc) (aF 0 rfl) hc rfl) (aG rfl rfl (fun hc => aD rfl) ?_)
        refine cJ _ rfl rfl (fun hc => av Tryz.underlying68 tk4 (ae rfl hc) ((Ent.all (f := ShF fun b : Bool => [.v (.bool b)]) (Ent.right (.of (aF 4 rfl))) hKi)) (ae rfl hc) (aQ hKk) rfl rfl) (fun _ => ⟨(0, 0)⟩) (fun ⟨b32_13, o32_13⟩ => ?_)
        refine aG rfl rfl (fun hc => aP (o := 0) tk4 (ae rfl hc) (aF 0 rfl) hc rfl) (aG rfl rfl (fun hc => bZ (ae rfl hc)) (aU rfl (bJ rfl rfl (fun h => gt rfl h)) (aM rfl (aG rfl rfl (fun hc => aD rfl) (aG rfl rfl (fun hc => aD rfl) ?_)))))
        refine cJ _ rfl rfl (fun hc => av Tryz.underlying27 tk68 (ae rfl hc) ((.left (.of (aF 5 rfl)))) (ae rfl hc) (aQ hKi) rfl rfl) (fun _ => ⟨(0, 0)⟩) (fun ⟨b32_20, o32_20⟩ => ?_)
        refine aG rfl rfl (fun hc => aP (o := 0) tk68 (ae rfl hc) (aF 0 rfl) hc rfl) (aG rfl rfl (fun hc => aD rfl) ?_)
        refine cJ _ rfl rfl (fun hc => av Tryz.underlying68 tk4 (ae rfl hc) ((Ent.all (f := ShF fun b : Bool => [.v (.bool b)]) (Ent.right (.of (aF 6 rfl))) hKi)) (ae rfl hc) (aQ hKk) rfl rfl) (fun _ => ⟨(0, 0)⟩) (fun ⟨b32_23, o32_23⟩ => ?_)
        refine aG rfl rfl (fun hc => aP (o := 0) tk4 (ae rfl hc) (aF 0 rfl) hc rfl) (aG rfl rfl (fun hc => aD (ae rfl hc)) (aG rfl rfl (fun hc => aD rfl) (aG rfl rfl (fun hc => aD rfl) ?_)))
        refine cJ _ rfl rfl (fun hc => av Tryz.underlying22 tk61 (ae rfl hc) ((L14.f_os (.of (aF 9 rfl)))) (ae rfl hc) (aQ ho) rfl rfl) (fun _ => ⟨(0, 0)⟩) (fun ⟨b32_28, o32_28⟩ => ?_)
        refine aG rfl rfl (fun hc => qFA (off := 1) (ae rfl hc)) ?_
        refine aG rfl rfl (fun hc => aP (o := 1) tk50 (ae rfl hc) (aF 0 rfl) hc rfl) (aG rfl rfl (fun hc => aD rfl) ?_)
        refine cJ _ rfl rfl (fun hc => av Tryz.underlying50 tk85 (ae rfl hc) ((ax.f_secs (Ent.all (L14.f_osA (.of (aF 10 rfl))) ho))) (ae rfl hc) (aQ hsk) rfl rfl) (fun _ => ⟨(0, 0)⟩) (fun ⟨b32_32, o32_32⟩ => ?_)
        refine aG rfl rfl (fun hc => qFA (off := 5) (ae rfl hc)) ?_
        refine aG rfl rfl (fun hc => aP (o := 5) tk4 (ae rfl hc) (aF 0 rfl) hc rfl) (aG rfl rfl (fun hc => bJ (ae rfl hc) rfl (fun h => gt hc h)) (aG rfl rfl (fun hc => aD (ae rfl hc)) (aG rfl rfl (fun hc => aD rfl) (aG rfl rfl (fun hc => aD rfl) ?_))))
        refine cJ _ rfl rfl (fun hc => av Tryz.underlying27 tk68 (ae rfl hc) ((.left (.of (aF 10 rfl)))) (ae rfl hc) (aQ hti) rfl rfl) (fun _ => ⟨(0, 0)⟩) (fun ⟨b32_39, o32_39⟩ => ?_)
        refine aG rfl rfl (fun hc => aP (o := 0) tk68 (ae rfl hc) (aF 0 rfl) hc rfl) (aG rfl rfl (fun hc => aD rfl) ?_)
        refine cJ _ rfl rfl (fun hc => av Tryz.underlying68 tk4 (ae rfl hc) ((Ent.all (f := ShF fun b : Bool => [.v (.bool b)]) (Ent.right (.of (aF 11 rfl))) hti)) (ae rfl hc) (aQ htk) rfl rfl) (fun _ => ⟨(0, 0)⟩) (fun ⟨b32_42, o32_42⟩ => ?_)
        refine aG rfl rfl (fun hc => aP (o := 0) tk4 (ae rfl hc) (aF 0 rfl) hc rfl) (aG rfl rfl (fun hc => bZ (ae rfl hc)) (aG rfl rfl (fun hc => bJ (ae rfl hc) rfl (fun h => gt hc h)) (aU rfl (bY rfl rfl (fun h => gf rfl h)) (aNn ?_))))
        refine al _ rfl (fun h12 => ?_) (fun h12 => ?_)
        ·skip
         exact (acy (fun h => by have h2 := (hlv.1 h).kept; rw [← hkp]; exact h2) (fun h1 h2 => hlv.2 (.root (by
           unfold od
           rw [show cM (y.ln K Cs).objs.l (y.ln K Cs).keep.l (i : Int) (k : Int) = true from hkp.trans h1, Bool.true_and, Bool.or_eq_true]; exact .inl h2))) h12).elim
        ·skip
         refine aq (bB (az (aj (aM rfl ?_))))
         refine aU rfl (bd rfl rfl (by omega)) ?_
         refine aA rfl (aNn ?_)
         refine ⟨[1, 5, 7, 12, 16, 17], [2, 1, 0], [], rfl, ?_⟩
         exact ⟨k + 1, ⟨by omega, rfl⟩, by omega⟩
       ·skip
        refine aX (aY (aY (bf (bB (az (aj (aM rfl ?_)))))))
        refine aU rfl (bd rfl rfl (by omega)) ?_
        refine aA rfl (aNn ?_)
        refine ⟨[1, 5, 7, 12, 16], [2, 1, 0], [], rfl, ?_⟩
        exact ⟨i + 1, ⟨by omega, rfl⟩, by omega⟩
      ·skip
       refine aX (aY (aY (bf (az (aSR (aM rfl (aA rfl (aNn (aJ ?_)))))))))
       refine br [] [] rfl Tryz.results9 rfl ?_ (.inr rfl)
       rfl
end Go.Proofs.YtgmiihmahaahiaaGreatDoor

