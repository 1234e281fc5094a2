/- Parts of the proof, in build order. No condition. -/
import Derived.Test.YtgmiihmahaahiaaGreatDoorQb14
import Derived.Test.YtgmiihmahaahiaaGreatDoorQb13
import Derived.Test.YtgmiihmahaahiaaGreatDoorQb15
import Derived.Test.YtgmiihmahaahiaaGreatDoorQb03
set_option linter.unusedSimpArgs false
set_option linter.unusedVariables false
set_option maxHeartbeats 1000000
set_option maxRecDepth 20000
namespace Go.Proofs.YtgmiihmahaahiaaGreatDoor
open Go.RowKit Go.Lp Go.Sy
open Go.Proofs.Tryz
attribute [local irreducible] aL aB awp aC fwp
abbrev x3 (x : G13) (ad : Option Addr) (cp : Nat) (mo : bw) : G13 := ⟨x.os, x.lib, ⟨ad, cp, x.ifs.l ++ [mo]⟩, x.vs⟩
theorem sj {x : G13} {ad : Option Addr} {cp : Nat} {mo : bw} {ps : List Per} (h : Ent ps x.ok) (hm : Ent ps mo.ok) (hs : Ent ps (Sh (.slice ad (x.ifs.l ++ [mo]).length cp) (.sl (x.ifs.l.map bw.row ++ [mo.row])))) : Ent ps (x3 x ad cp mo).ok := fun w S hp => by
 obtain ⟨g1, g2, g3, g4, g5, g6, g7, g8⟩ := h w S hp
 refine ⟨g1, g2, g3, g4, g5, ?_, fun f hf => ?_, g8⟩
 · have := hs w S hp
   show ei w S _ (.sl ((x.ifs.l ++ [mo]).map bw.row))
   rw [List.map_append]; exact this
 · rcases List.mem_append.1 hf with hf | hf
   · exact g7 f hf
   · rw [List.mem_singleton.1 hf]; exact hm w S hp
theorem lu (x : G13) (mo : bw) (ad : Option Addr) (cp : Nat) : Con Tryz.prog 11 [x.os.val, .slice ad (x.ifs.l ++ [mo]).length cp, x.vs.val] [Sh (.slice ad (x.ifs.l ++ [mo]).length cp) (.sl (x.ifs.l.map bw.row ++ [mo.row])), mo.ok, x.ok] [] (YB (mz x.os.l (x.ifs.l ++ [mo]) x.vs.l)) :=
 (sJ (x3 x ad cp mo)).pre fun p hp => by
   rw [List.mem_singleton.1 hp]
   exact sj (.of (an 2 rfl)) (.of (an 1 rfl)) (.of (an 0 rfl))
abbrev ChF (S : Sl (Sl aT)) : Per := cw (bW (ShF aT.row) S.l) (ShF slR S)
theorem cP (x : G13) (mo : bw) (ad : Option Addr) (cp : Nat) (K : Sl (Sl Bool)) (hok : gG x.os.l K.l) :
   Con Tryz.prog 13 [x.os.val, K.val, .bool x.lib, .slice ad (x.ifs.l ++ [mo]).length cp, x.vs.val] [bW (ShF bR) K.l, ShF slR K, Sh (.slice ad (x.ifs.l ++ [mo]).length cp) (.sl (x.ifs.l.map bw.row ++ [mo.row])), mo.ok, x.ok] [] fun r ps hp => hp = [] ∧ ∃ S : Sl (Sl aT), ps = [ChF S] ∧
     r = .tuple #[S.val, .int .i64 (fF (cM K.l (bQ x.os.l) (eB x.vs.l) (cK (x.ifs.l ++ [mo])) x.lib)), (qT (cM K.l (bQ x.os.l) (eB x.vs.l) (cK (x.ifs.l ++ [mo])) x.lib)).val] ∧
     S.l.map (·.l) = if cM K.l (bQ x.os.l) (eB x.vs.l) (cK (x.ifs.l ++ [mo])) x.lib = none then hJ x.os.l K.l (eB x.vs.l) (cK (x.ifs.l ++ [mo])) x.lib else [] := by
 have h := (lC (x3 x ad cp mo) K hok).pre (ps0 := [bW (ShF bR) K.l, ShF slR K, Sh (.slice ad (x.ifs.l ++ [mo]).length cp) (.sl (x.ifs.l.map bw.row ++ [mo.row])), mo.ok, x.ok]) fun p hp => by
   simp only [List.mem_cons, List.not_mem_nil, or_false] at hp
   rcases hp with rfl | rfl | rfl
   · exact .of (an 0 rfl)
   · exact .of (an 1 rfl)
   · exact sj (.of (an 4 rfl)) (.of (an 3 rfl)) (.of (an 2 rfl))
 refine Con.conv h ?_
 rintro r ps hp ⟨rfl, S, rfl, h3, h4⟩
 exact ⟨_, _, StE.ents (ps' := [ChF S]) (fun q hq => by
   rw [List.mem_singleton.1 hq]
   exact fun w T hps => ⟨hps _ (an 0 rfl), hps _ (an 1 rfl)⟩), rfl, S, rfl, h3, h4⟩
theorem yy (ifs : List bw) (mo : bw) (n v : ByteArray) : cK (ifs ++ [mo]) n v = cK ifs n v ∨ (cK ifs n v < 0 ∧ (cK (ifs ++ [mo]) n v = (ifs.length : Int) ∨ cK (ifs ++ [mo]) n v < 0)) := by
 unfold cK
 rw [List.findIdx?_append]
 cases h : ifs.findIdx? (ifR (n, v)) with
 | some i => left; rfl
 | none =>
   right
   refine ⟨by simp [jD], ?_⟩
   cases h2 : [mo].findIdx? (ifR (n, v)) with
   | none => right; simp [jD]
   | some j =>
     left
     have : j = 0 := by
       rw [List.findIdx?_eq_some_iff_getElem] at h2
       obtain ⟨hj, _⟩ := h2
       simp at hj; exact hj
     subst this
     simp [jD]
theorem vH {kp : List (Sl Bool)} {L : List Dfn} {sv : ByteArray → ByteArray → Bool} {lf lf2 : ByteArray → ByteArray → Int} {lib : Bool} (h : fF (cM kp L sv lf lib) = 4 ∨ fF (cM kp L sv lf2 lib) = 4) : fF (cM kp L sv lf lib) = fF (cM kp L sv lf2 lib) := by
 rcases j8 (kp := kp) (L := L) (sv := sv) (lf := lf) (lib := lib) with ⟨p, h1, h2⟩ | ⟨t1, t2, h1⟩
 · rw [h1, h2 lf2]
 · exfalso
   have h3 : fF (cM kp L sv lf lib) ≠ 4 := by
     rcases h1 with ⟨p, h1⟩ | h1 <;> rw [h1] <;> simp [fF]
   have h4 : fF (cM kp L sv lf2 lib) ≠ 4 := by
     unfold cM
     rw [t1, t2]
     cases i7 kp L sv lf2 lib <;> simp [fF]
   rcases h with h | h
   · exact h3 h
   · exact h4 h
structure vi (x : G13) : Prop where
 ni : x.ifs.l.length ≤ 100000000
 par : ∀ f ∈ x.ifs.l, (f.versions.l.flatMap fun d => d.parents.l).length ≤ 800000000
theorem sU (x : G13) (hZ : vi x) (n v : ByteArray) : Con Tryz.prog 23 [x.ifs.val, .string n, .string v] [x.ok] [] fun r _ _ => r = .int .i64 (cK x.ifs.l n v) :=
 (vA x.ifs n v hZ.par).pre fun p hp => by
   have h : Ent [x.ok] x.ok := .of (an 0 rfl)
   simp only [List.mem_cons, List.not_mem_nil, or_false] at hp
   rcases hp with rfl | rfl
   · exact G13.f_ifs h
   · exact G13.f_ifsA h
theorem sS (x : G13) (S : Sl (Sl aT)) (hF : Fits x.os.l S.l) : Con Tryz.prog 20 [x.os.val, S.val] [ChF S, x.ok] [] (fun r _ _ => r = .bool true) :=
 (kg x S hF).pre fun p hp => by
   simp only [List.mem_cons, List.not_mem_nil, or_false] at hp
   rcases hp with rfl | rfl | rfl
   · exact Ent.left (.of (an 0 rfl))
   · exact Ent.right (.of (an 0 rfl))
   · exact .of (an 1 rfl)
theorem wE {x y : aT} {N : Int} (h : x = y ∨ ((x.kind = 5 ∨ x.kind = 0) ∧ y.kind = 4 ∧ y.lib = N)) (hb : (!decide (x = y) && (!decide (x.kind = 5) && !decide (x.kind = 0) || !decide (y.kind = 4) || !decide (y.lib = N))) = true) : False := by
 rcases h with h | ⟨h1, h2, h3⟩
 · simp [h] at hb
 · rcases h1 with h1 | h1 <;> simp [h1, h2, h3] at hb
set_option maxHeartbeats 1000000 in
theorem uu (x : G13) (mo : bw) (hZ : vi x) : Con Tryz.prog 6 [x.os.val, .bool x.lib, x.ifs.val, mo.val, x.vs.val] [mo.ok, x.ok] [] fun r _ _ => r = .bool true := by
 refine Con.enter Tryz.func6 rfl (by simp [Tryz.ntmps6]) ?_
 show awp _ _ _ _ ⟨[(0, true, _), (1, true, _), (2, true, _), (3, true, _), (4, true, _)], _, _⟩
 refine aSR ?_
 refine al (q := true) rfl (bO rfl rfl rfl (fun b0_0 => ?_))
 refine aH (by (try simp only [nM, nN]); rfl) ?_
 refine aA rfl (aNn (aSR ?_))
 refine aU rfl (bP (by kernel_rfl) rfl (fun w S fp hst => pJ.quiet0 hst)) ?_
 refine aA rfl (aNs ?_)
 refine pe (ShF bw.row x.ifs) (fun w S hps => (hps x.ok (by simp)).2.2.2.2.2.1) ?_
 have hni := hZ.ni
 refine dQ [3, 6] [] [b0_0] (by kernel_rfl) ?_
 show aC _ _ _ _ _ _ _ 10 #[false, false, false, false, false, false, false, false, false, false] _
 refine se (X := {b : Bool // b = true → mz x.os.l (x.ifs.l ++ [mo]) x.vs.l}) (fun q => ⟨[(0, true, x.os.val), (1, true, .bool x.lib), (2, true, x.ifs.val), (4, true, x.vs.val), (8, true, .pointer (some ⟨b0_0, 0, none⟩)), (11, true, .bool true), (12, true, .bool q.1)], [mo.ok, x.ok], [Box b0_0 73 mo.vs]⟩) ?_ ?_
 ·skip
  refine bD 0 rfl (by kernel_rfl) true rfl rfl (fun _ => aq rfl) ?_
  refine bD 2 rfl (by kernel_rfl) true rfl rfl (fun _ => aq rfl) ?_
  refine ez 4 0 rfl (by kernel_rfl) true rfl rfl (by simp) tk73 (fun _ => rfl) rfl rfl ?_
  refine bD 7 rfl (by kernel_rfl) true rfl rfl (fun _ => aq rfl) ?_
  refine aY 1 [5] (by kernel_rfl) (aI ?_ (aI ?_ aP))
  ·skip
   refine bd 1 rfl rfl (Eff.x ?_)
   refine id (iy el23 rfl (fun v2_1 => ?_))
   refine bt (by (try simp only [nO, nK, nL]); rfl) (by (try simp only [nM, nN]); rfl) (by (try simp only [aX, nQ, nR, aV, place, Nat.reduceBEq, if_true, if_false, reduceIte, Nat.reduceAdd, nW]); rfl) ?_
   refine aY 3 [5] (by kernel_rfl) (aI ?_ (aI ?_ aP))
   ·skip
    refine bd 3 rfl rfl (Eff.framed (q := false) [1] rfl rfl (cY 0 rfl rfl eb) ?_)
    refine id (du 0 el23 el23 rfl rfl rfl rfl (an 0 rfl) ((fun r hr => by obtain ⟨o, _, rfl⟩ := List.mem_map.1 hr; rfl)) (by simp; omega) (x.ifs.l.length) (by simp; try omega) (fun v2_3 c2_3 => ?_))
    refine dg ?_
    refine bt (by (try simp only [nO, nK, nL]); rfl) (by (try simp only [nM, nN]); rfl) (by (try simp only [aX, nQ, nR, aV, place, Nat.reduceBEq, if_true, if_false, reduceIte, Nat.reduceAdd, nW]); rfl) ?_
    refine aY 5 [] (by kernel_rfl) (aI ?_ aP)
    refine bd 5 rfl rfl (Eff.x ?_)
    refine id (cz (zs := [.string .empty, .slice none 0 0, .slice none 0 0]) (l := [(0, .tmp 30)]) el23 (by kernel_rfl) (by decide) (by decide) (by decide) rfl rfl rfl (.more rfl (.v rfl (.v rfl (.v rfl .nil))) .nil) rfl rfl (fun v2_5 => ?_))
    refine bt (by (try simp only [nO, nK, nL]); rfl) (by (try simp only [nM, nN]); rfl) (by (try simp only [aX, nQ, nR, aV, place, Nat.reduceBEq, if_true, if_false, reduceIte, Nat.reduceAdd, nW]); rfl) ?_
    refine aY 6 [] (by kernel_rfl) (aI ?_ aP)
    refine bd 6 rfl rfl (Eff.framed (q := false) [1, 2] rfl rfl (cY 0 rfl rfl eb) ?_)
    refine id (bX 0 el23 rfl rfl rfl rfl (cH 1 el23 rfl (by simp)) (by first | assumption | simp) (by simp; omega) ((x.ifs.l ++ [mo]).length) (by simp) (fun v2_6 c2_6 => ?_))
    refine dg ?_
    refine bt (by (try simp only [nO, nK, nL]); rfl) (by (try simp only [nM, nN]); rfl) (by (try simp only [aX, nQ, nR, aV, place, Nat.reduceBEq, if_true, if_false, reduceIte, Nat.reduceAdd, nW]); rfl) ?_
    refine dm 1 rfl ?_
    refine bt (by (try simp only [nO, nK, nL]); rfl) (by (try simp only [nM, nN]); rfl) (by (try simp only [aX, nQ, nR, aV, place, Nat.reduceBEq, if_true, if_false, reduceIte, Nat.reduceAdd, nW]); rfl) ?_
    refine aY 8 [] (by kernel_rfl) (aI ?_ aP)
    refine bd 8 rfl rfl (Eff.x ?_)
    refine id (bF [3, 1, 0] [] (by kernel_rfl) rfl rfl rfl rfl (lu x mo _ _) ?_)
    rintro _ _ _ ⟨⟨rfl, rfl⟩, cf, rfl, hcf⟩
    refine bt (by (try simp only [nO, nK, nL]); rfl) (by (try simp only [nM, nN]); rfl) (by (try simp only [aX, nQ, nR, aV, place, Nat.reduceBEq, if_true, if_false, reduceIte, Nat.reduceAdd, nW]); rfl) ?_
    refine bD 9 rfl (by kernel_rfl) true rfl rfl (fun _ => bk rfl) ?_
    refine db (by kernel_rfl) ?_
    exact ⟨rfl, [0, 1, 2, 4, 8, 11, 12], [1, 0], [0], ⟨cf, hcf⟩, rfl, rfl⟩
   ·skip
    refine bd 5 rfl rfl (Eff.x ?_)
    refine id (cz (zs := [.string .empty, .slice none 0 0, .slice none 0 0]) (l := [(0, .tmp 30)]) el23 (by kernel_rfl) (by decide) (by decide) (by decide) rfl rfl rfl (.more rfl (.v rfl (.v rfl (.v rfl .nil))) .nil) rfl rfl (fun v2_5 => ?_))
    refine bt (by (try simp only [nO, nK, nL]); rfl) (by (try simp only [nM, nN]); rfl) (by (try simp only [aX, nQ, nR, aV, place, Nat.reduceBEq, if_true, if_false, reduceIte, Nat.reduceAdd, nW]); rfl) ?_
    refine aY 3 [] (by kernel_rfl) (aI ?_ aP)
    refine bd 3 rfl rfl (Eff.framed (q := false) [1] rfl rfl (cY 0 rfl rfl eb) ?_)
    refine id (du 0 el23 el23 rfl rfl rfl rfl (an 0 rfl) ((fun r hr => by obtain ⟨o, _, rfl⟩ := List.mem_map.1 hr; rfl)) (by simp; omega) (x.ifs.l.length) (by simp; try omega) (fun v2_3 c2_3 => ?_))
    refine dg ?_
    refine bt (by (try simp only [nO, nK, nL]); rfl) (by (try simp only [nM, nN]); rfl) (by (try simp only [aX, nQ, nR, aV, place, Nat.reduceBEq, if_true, if_false, reduceIte, Nat.reduceAdd, nW]); rfl) ?_
    refine aY 6 [] (by kernel_rfl) (aI ?_ aP)
    refine bd 6 rfl rfl (Eff.framed (q := false) [1, 2] rfl rfl (cY 0 rfl rfl eb) ?_)
    refine id (bX 0 el23 rfl rfl rfl rfl (cH 1 el23 rfl (by simp)) (by first | assumption | simp) (by simp; omega) ((x.ifs.l ++ [mo]).length) (by simp) (fun v2_6 c2_6 => ?_))
    refine dg ?_
    refine bt (by (try simp only [nO, nK, nL]); rfl) (by (try simp only [nM, nN]); rfl) (by (try simp only [aX, nQ, nR, aV, place, Nat.reduceBEq, if_true, if_false, reduceIte, Nat.reduceAdd, nW]); rfl) ?_
    refine dm 1 rfl ?_
    refine bt (by (try simp only [nO, nK, nL]); rfl) (by (try simp only [nM, nN]); rfl) (by (try simp only [aX, nQ, nR, aV, place, Nat.reduceBEq, if_true, if_false, reduceIte, Nat.reduceAdd, nW]); rfl) ?_
    refine aY 8 [] (by kernel_rfl) (aI ?_ aP)
    refine bd 8 rfl rfl (Eff.x ?_)
    refine id (bF [3, 1, 0] [] (by kernel_rfl) rfl rfl rfl rfl (lu x mo _ _) ?_)
    rintro _ _ _ ⟨⟨rfl, rfl⟩, cf, rfl, hcf⟩
    refine bt (by (try simp only [nO, nK, nL]); rfl) (by (try simp only [nM, nN]); rfl) (by (try simp only [aX, nQ, nR, aV, place, Nat.reduceBEq, if_true, if_false, reduceIte, Nat.reduceAdd, nW]); rfl) ?_
    refine bD 9 rfl (by kernel_rfl) true rfl rfl (fun _ => bk rfl) ?_
    refine db (by kernel_rfl) ?_
    exact ⟨rfl, [0, 1, 2, 4, 8, 11, 12], [1, 0], [0], ⟨cf, hcf⟩, rfl, rfl⟩
  ·skip
   refine bd 5 rfl rfl (Eff.x ?_)
   refine id (cz (zs := [.string .empty, .slice none 0 0, .slice none 0 0]) (l := [(0, .tmp 30)]) el23 (by kernel_rfl) (by decide) (by decide) (by decide) rfl rfl rfl (.more rfl (.v rfl (.v rfl (.v rfl .nil))) .nil) rfl rfl (fun v2_5 => ?_))
   refine bt (by (try simp only [nO, nK, nL]); rfl) (by (try simp only [nM, nN]); rfl) (by (try simp only [aX, nQ, nR, aV, place, Nat.reduceBEq, if_true, if_false, reduceIte, Nat.reduceAdd, nW]); rfl) ?_
   refine aY 1 [] (by kernel_rfl) (aI ?_ aP)
   refine bd 1 rfl rfl (Eff.x ?_)
   refine id (iy el23 rfl (fun v2_1 => ?_))
   refine bt (by (try simp only [nO, nK, nL]); rfl) (by (try simp only [nM, nN]); rfl) (by (try simp only [aX, nQ, nR, aV, place, Nat.reduceBEq, if_true, if_false, reduceIte, Nat.reduceAdd, nW]); rfl) ?_
   refine aY 3 [] (by kernel_rfl) (aI ?_ aP)
   refine bd 3 rfl rfl (Eff.framed (q := false) [2] rfl rfl (cY 0 rfl rfl eb) ?_)
   refine id (du 0 el23 el23 rfl rfl rfl rfl (an 0 rfl) ((fun r hr => by obtain ⟨o, _, rfl⟩ := List.mem_map.1 hr; rfl)) (by simp; omega) (x.ifs.l.length) (by simp; try omega) (fun v2_3 c2_3 => ?_))
   refine dg ?_
   refine bt (by (try simp only [nO, nK, nL]); rfl) (by (try simp only [nM, nN]); rfl) (by (try simp only [aX, nQ, nR, aV, place, Nat.reduceBEq, if_true, if_false, reduceIte, Nat.reduceAdd, nW]); rfl) ?_
   refine aY 6 [] (by kernel_rfl) (aI ?_ aP)
   refine bd 6 rfl rfl (Eff.framed (q := false) [2, 1] rfl rfl (cY 0 rfl rfl eb) ?_)
   refine id (bX 0 el23 rfl rfl rfl rfl (cH 1 el23 rfl (by simp)) (by first | assumption | simp) (by simp; omega) ((x.ifs.l ++ [mo]).length) (by simp) (fun v2_6 c2_6 => ?_))
   refine dg ?_
   refine bt (by (try simp only [nO, nK, nL]); rfl) (by (try simp only [nM, nN]); rfl) (by (try simp only [aX, nQ, nR, aV, place, Nat.reduceBEq, if_true, if_false, reduceIte, Nat.reduceAdd, nW]); rfl) ?_
   refine dm 2 rfl ?_
   refine bt (by (try simp only [nO, nK, nL]); rfl) (by (try simp only [nM, nN]); rfl) (by (try simp only [aX, nQ, nR, aV, place, Nat.reduceBEq, if_true, if_false, reduceIte, Nat.reduceAdd, nW]); rfl) ?_
   refine aY 8 [] (by kernel_rfl) (aI ?_ aP)
   refine bd 8 rfl rfl (Eff.x ?_)
   refine id (bF [3, 1, 0] [] (by kernel_rfl) rfl rfl rfl rfl (lu x mo _ _) ?_)
   rintro _ _ _ ⟨⟨rfl, rfl⟩, cf, rfl, hcf⟩
   refine bt (by (try simp only [nO, nK, nL]); rfl) (by (try simp only [nM, nN]); rfl) (by (try simp only [aX, nQ, nR, aV, place, Nat.reduceBEq, if_true, if_false, reduceIte, Nat.reduceAdd, nW]); rfl) ?_
   refine bD 9 rfl (by kernel_rfl) true rfl rfl (fun _ => bk rfl) ?_
   refine db (by kernel_rfl) ?_
   exact ⟨rfl, [0, 1, 2, 4, 8, 11, 12], [1, 0], [0], ⟨cf, hcf⟩, rfl, rfl⟩
 ·skip
  rintro ⟨cf, hcf⟩
  refine aw (az (aSR (aM rfl (aU rfl (cm rfl) (aNn ?_)))))
  refine ah _ rfl (fun h1 => ?_) (fun h1 => ?_)
  ·skip
   refine aSR (aM rfl (aA rfl (aNn (aj (aO ?_)))))
   refine bc [] [] rfl Tryz.results6 rfl ?_ (.inr rfl)
   rfl
  ·skip
   have hF2 := hcf (by simpa using h1)
   have hF : mz x.os.l x.ifs.l x.vs.l := ⟨hF2.n, hF2.o, by have := hF2.ni; rw [List.length_append] at this; omega, hF2.nv, fun f hf => hF2.i f (List.mem_append_left _ hf)⟩
   refine au (aw (aSR (aM rfl ?_)))
   refine al (q := true) rfl (bF [0] [] (by kernel_rfl) rfl rfl rfl rfl (qP x hF) ?_)
   rintro _ _ _ ⟨rfl, K, dv, rfl, hok, rfl⟩
   refine cB (by (try simp only [nM, nN]); rfl) (by (try simp only [aV, place, Nat.reduceBEq, if_true, if_false, reduceIte, Nat.reduceAdd, nW]); rfl) ?_
   refine aM rfl (aU rfl (aJ rfl rfl) (aU rfl (aJ rfl rfl) (aA rfl (aA rfl (aNn (aSR (aM rfl (aM rfl (aM rfl (aM rfl (aM rfl ?_)))))))))))
   refine al (q := true) rfl (bF [3, 2, 0] [] (by kernel_rfl) rfl rfl rfl rfl (lC x K hok) ?_)
   rintro _ _ _ ⟨rfl, Cs, rfl, rfl, hS⟩
   refine cB (by (try simp only [nM, nN]); rfl) (by (try simp only [aV, place, Nat.reduceBEq, if_true, if_false, reduceIte, Nat.reduceAdd, nW]); rfl) ?_
   refine aM rfl (aU rfl (aJ rfl rfl) (aU rfl (aJ rfl rfl) (aU rfl (aJ rfl rfl) ?_)))
   refine al (q := true) rfl (bp (zs := [.int .i64 0, .int .i64 0]) (by kernel_rfl) rfl (fun b6_10 => ?_))
   refine aH (by (try simp only [nM, nN]); rfl) ?_
   refine aA rfl (aA rfl ?_)
   refine al rfl (aW 1 tk34 rfl rfl rfl rfl ?_)
   refine aH (by (try simp only [nK, nL]); rfl) ?_
   refine aNs ?_
   refine pe (ShF bw.row x.ifs) (fun w S hps => (hps x.ok (by simp)).2.2.2.2.2.1) ?_
   refine dQ [5, 8, 18] [18] [b0_0] (by kernel_rfl) ?_
   show aC _ _ _ _ _ _ _ 19 #[false, false, false, false, false, false, false, false, false, false, false, false, false, false, false, false, false, false, false] _
   refine se (X := {Ds : Sl (Sl aT) // Ds.l.map (·.l) = if cM K.l (bQ x.os.l) (eB x.vs.l) (cK (x.ifs.l ++ [mo])) x.lib = none then hJ x.os.l K.l (eB x.vs.l) (cK (x.ifs.l ++ [mo])) x.lib else []}) (fun q => ⟨[(0, true, x.os.val), (2, true, x.ifs.val), (11, true, .bool true), (15, true, Cs.val), (16, true, .int .i64 (fF (cM K.l (bQ x.os.l) (eB x.vs.l) (cK x.ifs.l) x.lib))), (18, true, q.1.val), (19, true, .int .i64 (fF (cM K.l (bQ x.os.l) (eB x.vs.l) (cK (x.ifs.l ++ [mo])) x.lib)))], [ChF q.1, bW (ShF aT.row) Cs.l, ShF slR Cs, x.ok], []⟩) ?_ ?_
   ·skip
    refine bD 0 rfl (by kernel_rfl) true rfl rfl (fun _ => aq rfl) ?_
    refine bD 1 rfl (by kernel_rfl) true rfl rfl (fun _ => aq rfl) ?_
    refine bD 2 rfl (by kernel_rfl) true rfl rfl (fun _ => aq rfl) ?_
    refine bD 4 rfl (by kernel_rfl) true rfl rfl (fun _ => aq rfl) ?_
    refine ez 6 0 rfl (by kernel_rfl) true rfl rfl (by simp) tk73 (fun _ => rfl) rfl rfl ?_
    refine bD 9 rfl (by kernel_rfl) true rfl rfl (fun _ => aq rfl) ?_
    refine aY 3 [7, 15] (by kernel_rfl) (aI ?_ (aI ?_ (aI ?_ aP)))
    ·skip
     refine bd 3 rfl rfl (Eff.x ?_)
     refine id (iy el23 rfl (fun v7_3 => ?_))
     refine bt (by (try simp only [nO, nK, nL]); rfl) (by (try simp only [nM, nN]); rfl) (by (try simp only [aX, nQ, nR, aV, place, Nat.reduceBEq, if_true, if_false, reduceIte, Nat.reduceAdd, nW]); rfl) ?_
     refine aY 5 [7, 15] (by kernel_rfl) (aI ?_ (aI ?_ (aI ?_ aP)))
     ·skip
      refine bd 5 rfl rfl (Eff.framed (q := false) [2] rfl rfl (cY 0 rfl rfl eb) ?_)
      refine id (du 0 el23 el23 rfl rfl rfl rfl (an 0 rfl) ((fun r hr => by obtain ⟨o, _, rfl⟩ := List.mem_map.1 hr; rfl)) (by simp; omega) (x.ifs.l.length) (by simp; try omega) (fun v7_5 c7_5 => ?_))
      refine dg ?_
      refine bt (by (try simp only [nO, nK, nL]); rfl) (by (try simp only [nM, nN]); rfl) (by (try simp only [aX, nQ, nR, aV, place, Nat.reduceBEq, if_true, if_false, reduceIte, Nat.reduceAdd, nW]); rfl) ?_
      refine aY 7 [15] (by kernel_rfl) (aI ?_ (aI ?_ aP))
      ·skip
       refine bd 7 rfl rfl (Eff.x ?_)
       refine id (cz (zs := [.string .empty, .slice none 0 0, .slice none 0 0]) (l := [(0, .tmp 60)]) el23 (by kernel_rfl) (by decide) (by decide) (by decide) rfl rfl rfl (.more rfl (.v rfl (.v rfl (.v rfl .nil))) .nil) rfl rfl (fun v7_7 => ?_))
       refine bt (by (try simp only [nO, nK, nL]); rfl) (by (try simp only [nM, nN]); rfl) (by (try simp only [aX, nQ, nR, aV, place, Nat.reduceBEq, if_true, if_false, reduceIte, Nat.reduceAdd, nW]); rfl) ?_
       refine aY 8 [15] (by kernel_rfl) (aI ?_ (aI ?_ aP))
       ·skip
        refine bd 8 rfl rfl (Eff.framed (q := false) [2, 3] rfl rfl (cY 0 rfl rfl eb) ?_)
        refine id (bX 0 el23 rfl rfl rfl rfl (cH 1 el23 rfl (by simp)) (by first | assumption | simp) (by simp; omega) ((x.ifs.l ++ [mo]).length) (by simp) (fun v7_8 c7_8 => ?_))
        refine dg ?_
        refine bt (by (try simp only [nO, nK, nL]); rfl) (by (try simp only [nM, nN]); rfl) (by (try simp only [aX, nQ, nR, aV, place, Nat.reduceBEq, if_true, if_false, reduceIte, Nat.reduceAdd, nW]); rfl) ?_
        refine dm 2 rfl ?_
        refine bt (by (try simp only [nO, nK, nL]); rfl) (by (try simp only [nM, nN]); rfl) (by (try simp only [aX, nQ, nR, aV, place, Nat.reduceBEq, if_true, if_false, reduceIte, Nat.reduceAdd, nW]); rfl) ?_
        refine aY 10 [15] (by kernel_rfl) (aI ?_ (aI ?_ aP))
        ·skip
         refine bd 10 rfl rfl (Eff.x ?_)
         refine id (bF [3, 2, 7, 1, 0] [] (by kernel_rfl) rfl rfl rfl rfl (cP x mo _ _ K hok) ?_)
         rintro _ _ _ ⟨rfl, Ds, rfl, rfl, hD⟩
         refine bt (by (try simp only [nO, nK, nL]); rfl) (by (try simp only [nM, nN]); rfl) (by (try simp only [aX, nQ, nR, aV, place, Nat.reduceBEq, if_true, if_false, reduceIte, Nat.reduceAdd, nW]); rfl) ?_
         refine bD 11 rfl (by kernel_rfl) true rfl rfl (fun _ => aq rfl) ?_
         refine bD 12 rfl (by kernel_rfl) true rfl rfl (fun _ => aJ rfl rfl) ?_
         refine bD 13 rfl (by kernel_rfl) true rfl rfl (fun _ => aJ rfl rfl) ?_
         refine bD 14 rfl (by kernel_rfl) true rfl rfl (fun _ => aJ rfl rfl) ?_
         refine aY 15 [] (by kernel_rfl) (aI ?_ aP)
         refine bd 15 rfl rfl (Eff.x ?_)
         refine id (bp (zs := [.int .i64 0, .int .i64 0]) (by kernel_rfl) rfl (fun b7_15 => ?_))
         refine bt (by (try simp only [nO, nK, nL]); rfl) (by (try simp only [nM, nN]); rfl) (by (try simp only [aX, nQ, nR, aV, place, Nat.reduceBEq, if_true, if_false, reduceIte, Nat.reduceAdd, nW]); rfl) ?_
         refine bD 16 rfl (by kernel_rfl) true rfl rfl (fun _ => bk rfl) ?_
         refine bD 17 rfl (by kernel_rfl) true rfl rfl (fun _ => bk rfl) ?_
         refine aY 18 [] (by kernel_rfl) (aI ?_ aP)
         refine bd 18 rfl rfl (Eff.wild (q := false) ?_)
         refine id (aW 4 tk34 rfl rfl rfl rfl ?_)
         refine bt (by (try simp only [nO, nK, nL]); rfl) (by (try simp only [nM, nN]); rfl) (by (try simp only [aX, nQ, nR, aV, place, Nat.reduceBEq, if_true, if_false, reduceIte, Nat.reduceAdd, nW]); rfl) ?_
         refine db (by kernel_rfl) ?_
         exact ⟨rfl, [0, 2, 11, 15, 16, 18, 19], [8, 5, 4, 0], [], ⟨Ds, hD⟩, rfl, rfl⟩
        ·skip
         refine bd 15 rfl rfl (Eff.x ?_)
         refine id (bp (zs := [.int .i64 0, .int .i64 0]) (by kernel_rfl) rfl (fun b7_15 => ?_))
         refine bt (by (try simp only [nO, nK, nL]); rfl) (by (try simp only [nM, nN]); rfl) (by (try simp only [aX, nQ, nR, aV, place, Nat.reduceBEq, if_true, if_false, reduceIte, Nat.reduceAdd, nW]); rfl) ?_
         refine aY 10 [] (by kernel_rfl) (aI ?_ aP)
         refine bd 10 rfl rfl (Eff.x ?_)
         refine id (bF [3, 2, 7, 1, 0] [] (by kernel_rfl) rfl rfl rfl rfl (cP x mo _ _ K hok) ?_)
         rintro _ _ _ ⟨rfl, Ds, rfl, rfl, hD⟩
         refine bt (by (try simp only [nO, nK, nL]); rfl) (by (try simp only [nM, nN]); rfl) (by (try simp only [aX, nQ, nR, aV, place, Nat.reduceBEq, if_true, if_false, reduceIte, Nat.reduceAdd, nW]); rfl) ?_
         refine bD 11 rfl (by kernel_rfl) true rfl rfl (fun _ => aq rfl) ?_
         refine bD 12 rfl (by kernel_rfl) true rfl rfl (fun _ => aJ rfl rfl) ?_
         refine bD 13 rfl (by kernel_rfl) true rfl rfl (fun _ => aJ rfl rfl) ?_
         refine bD 14 rfl (by kernel_rfl) true rfl rfl (fun _ => aJ rfl rfl) ?_
         refine bD 16 rfl (by kernel_rfl) true rfl rfl (fun _ => bk rfl) ?_
         refine bD 17 rfl (by kernel_rfl) true rfl rfl (fun _ => bk rfl) ?_
         refine aY 18 [] (by kernel_rfl) (aI ?_ aP)
         refine bd 18 rfl rfl (Eff.wild (q := false) ?_)
         refine id (aW 4 tk34 rfl rfl rfl rfl ?_)
         refine bt (by (try simp only [nO, nK, nL]); rfl) (by (try simp only [nM, nN]); rfl) (by (try simp only [aX, nQ, nR, aV, place, Nat.reduceBEq, if_true, if_false, reduceIte, Nat.reduceAdd, nW]); rfl) ?_
         refine db (by kernel_rfl) ?_
         exact ⟨rfl, [0, 2, 11, 15, 16, 18, 19], [8, 5, 4, 0], [], ⟨Ds, hD⟩, rfl, rfl⟩
       ·skip
        refine bd 15 rfl rfl (Eff.x ?_)
        refine id (bp (zs := [.int .i64 0, .int .i64 0]) (by kernel_rfl) rfl (fun b7_15 => ?_))
        refine bt (by (try simp only [nO, nK, nL]); rfl) (by (try simp only [nM, nN]); rfl) (by (try simp only [aX, nQ, nR, aV, place, Nat.reduceBEq, if_true, if_false, reduceIte, Nat.reduceAdd, nW]); rfl) ?_
        refine aY 8 [] (by kernel_rfl) (aI ?_ aP)
        refine bd 8 rfl rfl (Eff.framed (q := false) [2, 3] rfl rfl (cY 0 rfl rfl eb) ?_)
        refine id (bX 0 el23 rfl rfl rfl rfl (cH 1 el23 rfl (by simp)) (by first | assumption | simp) (by simp; omega) ((x.ifs.l ++ [mo]).length) (by simp) (fun v7_8 c7_8 => ?_))
        refine dg ?_
        refine bt (by (try simp only [nO, nK, nL]); rfl) (by (try simp only [nM, nN]); rfl) (by (try simp only [aX, nQ, nR, aV, place, Nat.reduceBEq, if_true, if_false, reduceIte, Nat.reduceAdd, nW]); rfl) ?_
        refine dm 2 rfl ?_
        refine bt (by (try simp only [nO, nK, nL]); rfl) (by (try simp only [nM, nN]); rfl) (by (try simp only [aX, nQ, nR, aV, place, Nat.reduceBEq, if_true, if_false, reduceIte, Nat.reduceAdd, nW]); rfl) ?_
        refine aY 10 [] (by kernel_rfl) (aI ?_ aP)
        refine bd 10 rfl rfl (Eff.x ?_)
        refine id (bF [3, 2, 7, 1, 0] [] (by kernel_rfl) rfl rfl rfl rfl (cP x mo _ _ K hok) ?_)
        rintro _ _ _ ⟨rfl, Ds, rfl, rfl, hD⟩
        refine bt (by (try simp only [nO, nK, nL]); rfl) (by (try simp only [nM, nN]); rfl) (by (try simp only [aX, nQ, nR, aV, place, Nat.reduceBEq, if_true, if_false, reduceIte, Nat.reduceAdd, nW]); rfl) ?_
        refine bD 11 rfl (by kernel_rfl) true rfl rfl (fun _ => aq rfl) ?_
        refine bD 12 rfl (by kernel_rfl) true rfl rfl (fun _ => aJ rfl rfl) ?_
        refine bD 13 rfl (by kernel_rfl) true rfl rfl (fun _ => aJ rfl rfl) ?_
        refine bD 14 rfl (by kernel_rfl) true rfl rfl (fun _ => aJ rfl rfl) ?_
        refine bD 16 rfl (by kernel_rfl) true rfl rfl (fun _ => bk rfl) ?_
        refine bD 17 rfl (by kernel_rfl) true rfl rfl (fun _ => bk rfl) ?_
        refine aY 18 [] (by kernel_rfl) (aI ?_ aP)
        refine bd 18 rfl rfl (Eff.wild (q := false) ?_)
        refine id (aW 4 tk34 rfl rfl rfl rfl ?_)
        refine bt (by (try simp only [nO, nK, nL]); rfl) (by (try simp only [nM, nN]); rfl) (by (try simp only [aX, nQ, nR, aV, place, Nat.reduceBEq, if_true, if_false, reduceIte, Nat.reduceAdd, nW]); rfl) ?_
        refine db (by kernel_rfl) ?_
        exact ⟨rfl, [0, 2, 11, 15, 16, 18, 19], [8, 5, 4, 0], [], ⟨Ds, hD⟩, rfl, rfl⟩
      ·skip
       refine bd 15 rfl rfl (Eff.x ?_)
       refine id (bp (zs := [.int .i64 0, .int .i64 0]) (by kernel_rfl) rfl (fun b7_15 => ?_))
       refine bt (by (try simp only [nO, nK, nL]); rfl) (by (try simp only [nM, nN]); rfl) (by (try simp only [aX, nQ, nR, aV, place, Nat.reduceBEq, if_true, if_false, reduceIte, Nat.reduceAdd, nW]); rfl) ?_
       refine aY 7 [] (by kernel_rfl) (aI ?_ aP)
       refine bd 7 rfl rfl (Eff.x ?_)
       refine id (cz (zs := [.string .empty, .slice none 0 0, .slice none 0 0]) (l := [(0, .tmp 60)]) el23 (by kernel_rfl) (by decide) (by decide) (by decide) rfl rfl rfl (.more rfl (.v rfl (.v rfl (.v rfl .nil))) .nil) rfl rfl (fun v7_7 => ?_))
       refine bt (by (try simp only [nO, nK, nL]); rfl) (by (try simp only [nM, nN]); rfl) (by (try simp only [aX, nQ, nR, aV, place, Nat.reduceBEq, if_true, if_false, reduceIte, Nat.reduceAdd, nW]); rfl) ?_
       refine aY 8 [] (by kernel_rfl) (aI ?_ aP)
       refine bd 8 rfl rfl (Eff.framed (q := false) [2, 4] rfl rfl (cY 0 rfl rfl eb) ?_)
       refine id (bX 0 el23 rfl rfl rfl rfl (cH 1 el23 rfl (by simp)) (by first | assumption | simp) (by simp; omega) ((x.ifs.l ++ [mo]).length) (by simp) (fun v7_8 c7_8 => ?_))
       refine dg ?_
       refine bt (by (try simp only [nO, nK, nL]); rfl) (by (try simp only [nM, nN]); rfl) (by (try simp only [aX, nQ, nR, aV, place, Nat.reduceBEq, if_true, if_false, reduceIte, Nat.reduceAdd, nW]); rfl) ?_
       refine dm 2 rfl ?_
       refine bt (by (try simp only [nO, nK, nL]); rfl) (by (try simp only [nM, nN]); rfl) (by (try simp only [aX, nQ, nR, aV, place, Nat.reduceBEq, if_true, if_false, reduceIte, Nat.reduceAdd, nW]); rfl) ?_
       refine aY 10 [] (by kernel_rfl) (aI ?_ aP)
       refine bd 10 rfl rfl (Eff.x ?_)
       refine id (bF [3, 2, 7, 1, 0] [] (by kernel_rfl) rfl rfl rfl rfl (cP x mo _ _ K hok) ?_)
       rintro _ _ _ ⟨rfl, Ds, rfl, rfl, hD⟩
       refine bt (by (try simp only [nO, nK, nL]); rfl) (by (try simp only [nM, nN]); rfl) (by (try simp only [aX, nQ, nR, aV, place, Nat.reduceBEq, if_true, if_false, reduceIte, Nat.reduceAdd, nW]); rfl) ?_
       refine bD 11 rfl (by kernel_rfl) true rfl rfl (fun _ => aq rfl) ?_
       refine bD 12 rfl (by kernel_rfl) true rfl rfl (fun _ => aJ rfl rfl) ?_
       refine bD 13 rfl (by kernel_rfl) true rfl rfl (fun _ => aJ rfl rfl) ?_
       refine bD 14 rfl (by kernel_rfl) true rfl rfl (fun _ => aJ rfl rfl) ?_
       refine bD 16 rfl (by kernel_rfl) true rfl rfl (fun _ => bk rfl) ?_
       refine bD 17 rfl (by kernel_rfl) true rfl rfl (fun _ => bk rfl) ?_
       refine aY 18 [] (by kernel_rfl) (aI ?_ aP)
       refine bd 18 rfl rfl (Eff.wild (q := false) ?_)
       refine id (aW 3 tk34 rfl rfl rfl rfl ?_)
       refine bt (by (try simp only [nO, nK, nL]); rfl) (by (try simp only [nM, nN]); rfl) (by (try simp only [aX, nQ, nR, aV, place, Nat.reduceBEq, if_true, if_false, reduceIte, Nat.reduceAdd, nW]); rfl) ?_
       refine db (by kernel_rfl) ?_
       exact ⟨rfl, [0, 2, 11, 15, 16, 18, 19], [8, 5, 4, 0], [], ⟨Ds, hD⟩, rfl, rfl⟩
     ·skip
      refine bd 7 rfl rfl (Eff.x ?_)
      refine id (cz (zs := [.string .empty, .slice none 0 0, .slice none 0 0]) (l := [(0, .tmp 60)]) el23 (by kernel_rfl) (by decide) (by decide) (by decide) rfl rfl rfl (.more rfl (.v rfl (.v rfl (.v rfl .nil))) .nil) rfl rfl (fun v7_7 => ?_))
      refine bt (by (try simp only [nO, nK, nL]); rfl) (by (try simp only [nM, nN]); rfl) (by (try simp only [aX, nQ, nR, aV, place, Nat.reduceBEq, if_true, if_false, reduceIte, Nat.reduceAdd, nW]); rfl) ?_
      refine aY 5 [15] (by kernel_rfl) (aI ?_ (aI ?_ aP))
      ·skip
       refine bd 5 rfl rfl (Eff.framed (q := false) [2] rfl rfl (cY 0 rfl rfl eb) ?_)
       refine id (du 0 el23 el23 rfl rfl rfl rfl (an 0 rfl) ((fun r hr => by obtain ⟨o, _, rfl⟩ := List.mem_map.1 hr; rfl)) (by simp; omega) (x.ifs.l.length) (by simp; try omega) (fun v7_5 c7_5 => ?_))
       refine dg ?_
       refine bt (by (try simp only [nO, nK, nL]); rfl) (by (try simp only [nM, nN]); rfl) (by (try simp only [aX, nQ, nR, aV, place, Nat.reduceBEq, if_true, if_false, reduceIte, Nat.reduceAdd, nW]); rfl) ?_
       refine aY 8 [15] (by kernel_rfl) (aI ?_ (aI ?_ aP))
       ·skip
        refine bd 8 rfl rfl (Eff.framed (q := false) [2, 3] rfl rfl (cY 0 rfl rfl eb) ?_)
        refine id (bX 0 el23 rfl rfl rfl rfl (cH 1 el23 rfl (by simp)) (by first | assumption | simp) (by simp; omega) ((x.ifs.l ++ [mo]).length) (by simp) (fun v7_8 c7_8 => ?_))
        refine dg ?_
        refine bt (by (try simp only [nO, nK, nL]); rfl) (by (try simp only [nM, nN]); rfl) (by (try simp only [aX, nQ, nR, aV, place, Nat.reduceBEq, if_true, if_false, reduceIte, Nat.reduceAdd, nW]); rfl) ?_
        refine dm 2 rfl ?_
        refine bt (by (try simp only [nO, nK, nL]); rfl) (by (try simp only [nM, nN]); rfl) (by (try simp only [aX, nQ, nR, aV, place, Nat.reduceBEq, if_true, if_false, reduceIte, Nat.reduceAdd, nW]); rfl) ?_
        refine aY 10 [15] (by kernel_rfl) (aI ?_ (aI ?_ aP))
        ·skip
         refine bd 10 rfl rfl (Eff.x ?_)
         refine id (bF [3, 2, 7, 1, 0] [] (by kernel_rfl) rfl rfl rfl rfl (cP x mo _ _ K hok) ?_)
         rintro _ _ _ ⟨rfl, Ds, rfl, rfl, hD⟩
         refine bt (by (try simp only [nO, nK, nL]); rfl) (by (try simp only [nM, nN]); rfl) (by (try simp only [aX, nQ, nR, aV, place, Nat.reduceBEq, if_true, if_false, reduceIte, Nat.reduceAdd, nW]); rfl) ?_
         refine bD 11 rfl (by kernel_rfl) true rfl rfl (fun _ => aq rfl) ?_
         refine bD 12 rfl (by kernel_rfl) true rfl rfl (fun _ => aJ rfl rfl) ?_
         refine bD 13 rfl (by kernel_rfl) true rfl rfl (fun _ => aJ rfl rfl) ?_
         refine bD 14 rfl (by kernel_rfl) true rfl rfl (fun _ => aJ rfl rfl) ?_
         refine aY 15 [] (by kernel_rfl) (aI ?_ aP)
         refine bd 15 rfl rfl (Eff.x ?_)
         refine id (bp (zs := [.int .i64 0, .int .i64 0]) (by kernel_rfl) rfl (fun b7_15 => ?_))
         refine bt (by (try simp only [nO, nK, nL]); rfl) (by (try simp only [nM, nN]); rfl) (by (try simp only [aX, nQ, nR, aV, place, Nat.reduceBEq, if_true, if_false, reduceIte, Nat.reduceAdd, nW]); rfl) ?_
         refine bD 16 rfl (by kernel_rfl) true rfl rfl (fun _ => bk rfl) ?_
         refine bD 17 rfl (by kernel_rfl) true rfl rfl (fun _ => bk rfl) ?_
         refine aY 18 [] (by kernel_rfl) (aI ?_ aP)
         refine bd 18 rfl rfl (Eff.wild (q := false) ?_)
         refine id (aW 4 tk34 rfl rfl rfl rfl ?_)
         refine bt (by (try simp only [nO, nK, nL]); rfl) (by (try simp only [nM, nN]); rfl) (by (try simp only [aX, nQ, nR, aV, place, Nat.reduceBEq, if_true, if_false, reduceIte, Nat.reduceAdd, nW]); rfl) ?_
         refine db (by kernel_rfl) ?_
         exact ⟨rfl, [0, 2, 11, 15, 16, 18, 19], [8, 5, 4, 0], [], ⟨Ds, hD⟩, rfl, rfl⟩
        ·skip
         refine bd 15 rfl rfl (Eff.x ?_)
         refine id (bp (zs := [.int .i64 0, .int .i64 0]) (by kernel_rfl) rfl (fun b7_15 => ?_))
         refine bt (by (try simp only [nO, nK, nL]); rfl) (by (try simp only [nM, nN]); rfl) (by (try simp only [aX, nQ, nR, aV, place, Nat.reduceBEq, if_true, if_false, reduceIte, Nat.reduceAdd, nW]); rfl) ?_
         refine aY 10 [] (by kernel_rfl) (aI ?_ aP)
         refine bd 10 rfl rfl (Eff.x ?_)
         refine id (bF [3, 2, 7, 1, 0] [] (by kernel_rfl) rfl rfl rfl rfl (cP x mo _ _ K hok) ?_)
         rintro _ _ _ ⟨rfl, Ds, rfl, rfl, hD⟩
         refine bt (by (try simp only [nO, nK, nL]); rfl) (by (try simp only [nM, nN]); rfl) (by (try simp only [aX, nQ, nR, aV, place, Nat.reduceBEq, if_true, if_false, reduceIte, Nat.reduceAdd, nW]); rfl) ?_
         refine bD 11 rfl (by kernel_rfl) true rfl rfl (fun _ => aq rfl) ?_
         refine bD 12 rfl (by kernel_rfl) true rfl rfl (fun _ => aJ rfl rfl) ?_
         refine bD 13 rfl (by kernel_rfl) true rfl rfl (fun _ => aJ rfl rfl) ?_
         refine bD 14 rfl (by kernel_rfl) true rfl rfl (fun _ => aJ rfl rfl) ?_
         refine bD 16 rfl (by kernel_rfl) true rfl rfl (fun _ => bk rfl) ?_
         refine bD 17 rfl (by kernel_rfl) true rfl rfl (fun _ => bk rfl) ?_
         refine aY 18 [] (by kernel_rfl) (aI ?_ aP)
         refine bd 18 rfl rfl (Eff.wild (q := false) ?_)
         refine id (aW 4 tk34 rfl rfl rfl rfl ?_)
         refine bt (by (try simp only [nO, nK, nL]); rfl) (by (try simp only [nM, nN]); rfl) (by (try simp only [aX, nQ, nR, aV, place, Nat.reduceBEq, if_true, if_false, reduceIte, Nat.reduceAdd, nW]); rfl) ?_
         refine db (by kernel_rfl) ?_
         exact ⟨rfl, [0, 2, 11, 15, 16, 18, 19], [8, 5, 4, 0], [], ⟨Ds, hD⟩, rfl, rfl⟩
       ·skip
        refine bd 15 rfl rfl (Eff.x ?_)
        refine id (bp (zs := [.int .i64 0, .int .i64 0]) (by kernel_rfl) rfl (fun b7_15 => ?_))
        refine bt (by (try simp only [nO, nK, nL]); rfl) (by (try simp only [nM, nN]); rfl) (by (try simp only [aX, nQ, nR, aV, place, Nat.reduceBEq, if_true, if_false, reduceIte, Nat.reduceAdd, nW]); rfl) ?_
        refine aY 8 [] (by kernel_rfl) (aI ?_ aP)
        refine bd 8 rfl rfl (Eff.framed (q := false) [2, 3] rfl rfl (cY 0 rfl rfl eb) ?_)
        refine id (bX 0 el23 rfl rfl rfl rfl (cH 1 el23 rfl (by simp)) (by first | assumption | simp) (by simp; omega) ((x.ifs.l ++ [mo]).length) (by simp) (fun v7_8 c7_8 => ?_))
        refine dg ?_
        refine bt (by (try simp only [nO, nK, nL]); rfl) (by (try simp only [nM, nN]); rfl) (by (try simp only [aX, nQ, nR, aV, place, Nat.reduceBEq, if_true, if_false, reduceIte, Nat.reduceAdd, nW]); rfl) ?_
        refine dm 2 rfl ?_
        refine bt (by (try simp only [nO, nK, nL]); rfl) (by (try simp only [nM, nN]); rfl) (by (try simp only [aX, nQ, nR, aV, place, Nat.reduceBEq, if_true, if_false, reduceIte, Nat.reduceAdd, nW]); rfl) ?_
        refine aY 10 [] (by kernel_rfl) (aI ?_ aP)
        refine bd 10 rfl rfl (Eff.x ?_)
        refine id (bF [3, 2, 7, 1, 0] [] (by kernel_rfl) rfl rfl rfl rfl (cP x mo _ _ K hok) ?_)
        rintro _ _ _ ⟨rfl, Ds, rfl, rfl, hD⟩
        refine bt (by (try simp only [nO, nK, nL]); rfl) (by (try simp only [nM, nN]); rfl) (by (try simp only [aX, nQ, nR, aV, place, Nat.reduceBEq, if_true, if_false, reduceIte, Nat.reduceAdd, nW]); rfl) ?_
        refine bD 11 rfl (by kernel_rfl) true rfl rfl (fun _ => aq rfl) ?_
        refine bD 12 rfl (by kernel_rfl) true rfl rfl (fun _ => aJ rfl rfl) ?_
        refine bD 13 rfl (by kernel_rfl) true rfl rfl (fun _ => aJ rfl rfl) ?_
        refine bD 14 rfl (by kernel_rfl) true rfl rfl (fun _ => aJ rfl rfl) ?_
        refine bD 16 rfl (by kernel_rfl) true rfl rfl (fun _ => bk rfl) ?_
        refine bD 17 rfl (by kernel_rfl) true rfl rfl (fun _ => bk rfl) ?_
        refine aY 18 [] (by kernel_rfl) (aI ?_ aP)
        refine bd 18 rfl rfl (Eff.wild (q := false) ?_)
        refine id (aW 4 tk34 rfl rfl rfl rfl ?_)
        refine bt (by (try simp only [nO, nK, nL]); rfl) (by (try simp only [nM, nN]); rfl) (by (try simp only [aX, nQ, nR, aV, place, Nat.reduceBEq, if_true, if_false, reduceIte, Nat.reduceAdd, nW]); rfl) ?_
        refine db (by kernel_rfl) ?_
        exact ⟨rfl, [0, 2, 11, 15, 16, 18, 19], [8, 5, 4, 0], [], ⟨Ds, hD⟩, rfl, rfl⟩
      ·skip
       refine bd 15 rfl rfl (Eff.x ?_)
       refine id (bp (zs := [.int .i64 0, .int .i64 0]) (by kernel_rfl) rfl (fun b7_15 => ?_))
       refine bt (by (try simp only [nO, nK, nL]); rfl) (by (try simp only [nM, nN]); rfl) (by (try simp only [aX, nQ, nR, aV, place, Nat.reduceBEq, if_true, if_false, reduceIte, Nat.reduceAdd, nW]); rfl) ?_
       refine aY 5 [] (by kernel_rfl) (aI ?_ aP)
       refine bd 5 rfl rfl (Eff.framed (q := false) [2] rfl rfl (cY 0 rfl rfl eb) ?_)
       refine id (du 0 el23 el23 rfl rfl rfl rfl (an 0 rfl) ((fun r hr => by obtain ⟨o, _, rfl⟩ := List.mem_map.1 hr; rfl)) (by simp; omega) (x.ifs.l.length) (by simp; try omega) (fun v7_5 c7_5 => ?_))
       refine dg ?_
       refine bt (by (try simp only [nO, nK, nL]); rfl) (by (try simp only [nM, nN]); rfl) (by (try simp only [aX, nQ, nR, aV, place, Nat.reduceBEq, if_true, if_false, reduceIte, Nat.reduceAdd, nW]); rfl) ?_
       refine aY 8 [] (by kernel_rfl) (aI ?_ aP)
       refine bd 8 rfl rfl (Eff.framed (q := false) [2, 3] rfl rfl (cY 0 rfl rfl eb) ?_)
       refine id (bX 0 el23 rfl rfl rfl rfl (cH 1 el23 rfl (by simp)) (by first | assumption | simp) (by simp; omega) ((x.ifs.l ++ [mo]).length) (by simp) (fun v7_8 c7_8 => ?_))
       refine dg ?_
       refine bt (by (try simp only [nO, nK, nL]); rfl) (by (try simp only [nM, nN]); rfl) (by (try simp only [aX, nQ, nR, aV, place, Nat.reduceBEq, if_true, if_false, reduceIte, Nat.reduceAdd, nW]); rfl) ?_
       refine dm 2 rfl ?_
       refine bt (by (try simp only [nO, nK, nL]); rfl) (by (try simp only [nM, nN]); rfl) (by (try simp only [aX, nQ, nR, aV, place, Nat.reduceBEq, if_true, if_false, reduceIte, Nat.reduceAdd, nW]); rfl) ?_
       refine aY 10 [] (by kernel_rfl) (aI ?_ aP)
       refine bd 10 rfl rfl (Eff.x ?_)
       refine id (bF [3, 2, 7, 1, 0] [] (by kernel_rfl) rfl rfl rfl rfl (cP x mo _ _ K hok) ?_)
       rintro _ _ _ ⟨rfl, Ds, rfl, rfl, hD⟩
       refine bt (by (try simp only [nO, nK, nL]); rfl) (by (try simp only [nM, nN]); rfl) (by (try simp only [aX, nQ, nR, aV, place, Nat.reduceBEq, if_true, if_false, reduceIte, Nat.reduceAdd, nW]); rfl) ?_
       refine bD 11 rfl (by kernel_rfl) true rfl rfl (fun _ => aq rfl) ?_
       refine bD 12 rfl (by kernel_rfl) true rfl rfl (fun _ => aJ rfl rfl) ?_
       refine bD 13 rfl (by kernel_rfl) true rfl rfl (fun _ => aJ rfl rfl) ?_
       refine bD 14 rfl (by kernel_rfl) true rfl rfl (fun _ => aJ rfl rfl) ?_
       refine bD 16 rfl (by kernel_rfl) true rfl rfl (fun _ => bk rfl) ?_
       refine bD 17 rfl (by kernel_rfl) true rfl rfl (fun _ => bk rfl) ?_
       refine aY 18 [] (by kernel_rfl) (aI ?_ aP)
       refine bd 18 rfl rfl (Eff.wild (q := false) ?_)
       refine id (aW 4 tk34 rfl rfl rfl rfl ?_)
       refine bt (by (try simp only [nO, nK, nL]); rfl) (by (try simp only [nM, nN]); rfl) (by (try simp only [aX, nQ, nR, aV, place, Nat.reduceBEq, if_true, if_false, reduceIte, Nat.reduceAdd, nW]); rfl) ?_
       refine db (by kernel_rfl) ?_
       exact ⟨rfl, [0, 2, 11, 15, 16, 18, 19], [8, 5, 4, 0], [], ⟨Ds, hD⟩, rfl, rfl⟩
     ·skip
      refine bd 15 rfl rfl (Eff.x ?_)
      refine id (bp (zs := [.int .i64 0, .int .i64 0]) (by kernel_rfl) rfl (fun b7_15 => ?_))
      refine bt (by (try simp only [nO, nK, nL]); rfl) (by (try simp only [nM, nN]); rfl) (by (try simp only [aX, nQ, nR, aV, place, Nat.reduceBEq, if_true, if_false, reduceIte, Nat.reduceAdd, nW]); rfl) ?_
      refine aY 5 [7] (by kernel_rfl) (aI ?_ (aI ?_ aP))
      ·skip
       refine bd 5 rfl rfl (Eff.framed (q := false) [2] rfl rfl (cY 0 rfl rfl eb) ?_)
       refine id (du 0 el23 el23 rfl rfl rfl rfl (an 0 rfl) ((fun r hr => by obtain ⟨o, _, rfl⟩ := List.mem_map.1 hr; rfl)) (by simp; omega) (x.ifs.l.length) (by simp; try omega) (fun v7_5 c7_5 => ?_))
       refine dg ?_
       refine bt (by (try simp only [nO, nK, nL]); rfl) (by (try simp only [nM, nN]); rfl) (by (try simp only [aX, nQ, nR, aV, place, Nat.reduceBEq, if_true, if_false, reduceIte, Nat.reduceAdd, nW]); rfl) ?_
       refine aY 7 [] (by kernel_rfl) (aI ?_ aP)
       refine bd 7 rfl rfl (Eff.x ?_)
       refine id (cz (zs := [.string .empty, .slice none 0 0, .slice none 0 0]) (l := [(0, .tmp 60)]) el23 (by kernel_rfl) (by decide) (by decide) (by decide) rfl rfl rfl (.more rfl (.v rfl (.v rfl (.v rfl .nil))) .nil) rfl rfl (fun v7_7 => ?_))
       refine bt (by (try simp only [nO, nK, nL]); rfl) (by (try simp only [nM, nN]); rfl) (by (try simp only [aX, nQ, nR, aV, place, Nat.reduceBEq, if_true, if_false, reduceIte, Nat.reduceAdd, nW]); rfl) ?_
       refine aY 8 [] (by kernel_rfl) (aI ?_ aP)
       refine bd 8 rfl rfl (Eff.framed (q := false) [2, 4] rfl rfl (cY 0 rfl rfl eb) ?_)
       refine id (bX 0 el23 rfl rfl rfl rfl (cH 1 el23 rfl (by simp)) (by first | assumption | simp) (by simp; omega) ((x.ifs.l ++ [mo]).length) (by simp) (fun v7_8 c7_8 => ?_))
       refine dg ?_
       refine bt (by (try simp only [nO, nK, nL]); rfl) (by (try simp only [nM, nN]); rfl) (by (try simp only [aX, nQ, nR, aV, place, Nat.reduceBEq, if_true, if_false, reduceIte, Nat.reduceAdd, nW]); rfl) ?_
       refine dm 2 rfl ?_
       refine bt (by (try simp only [nO, nK, nL]); rfl) (by (try simp only [nM, nN]); rfl) (by (try simp only [aX, nQ, nR, aV, place, Nat.reduceBEq, if_true, if_false, reduceIte, Nat.reduceAdd, nW]); rfl) ?_
       refine aY 10 [] (by kernel_rfl) (aI ?_ aP)
       refine bd 10 rfl rfl (Eff.x ?_)
       refine id (bF [3, 2, 7, 1, 0] [] (by kernel_rfl) rfl rfl rfl rfl (cP x mo _ _ K hok) ?_)
       rintro _ _ _ ⟨rfl, Ds, rfl, rfl, hD⟩
       refine bt (by (try simp only [nO, nK, nL]); rfl) (by (try simp only [nM, nN]); rfl) (by (try simp only [aX, nQ, nR, aV, place, Nat.reduceBEq, if_true, if_false, reduceIte, Nat.reduceAdd, nW]); rfl) ?_
       refine bD 11 rfl (by kernel_rfl) true rfl rfl (fun _ => aq rfl) ?_
       refine bD 12 rfl (by kernel_rfl) true rfl rfl (fun _ => aJ rfl rfl) ?_
       refine bD 13 rfl (by kernel_rfl) true rfl rfl (fun _ => aJ rfl rfl) ?_
       refine bD 14 rfl (by kernel_rfl) true rfl rfl (fun _ => aJ rfl rfl) ?_
       refine bD 16 rfl (by kernel_rfl) true rfl rfl (fun _ => bk rfl) ?_
       refine bD 17 rfl (by kernel_rfl) true rfl rfl (fun _ => bk rfl) ?_
       refine aY 18 [] (by kernel_rfl) (aI ?_ aP)
       refine bd 18 rfl rfl (Eff.wild (q := false) ?_)
       refine id (aW 3 tk34 rfl rfl rfl rfl ?_)
       refine bt (by (try simp only [nO, nK, nL]); rfl) (by (try simp only [nM, nN]); rfl) (by (try simp only [aX, nQ, nR, aV, place, Nat.reduceBEq, if_true, if_false, reduceIte, Nat.reduceAdd, nW]); rfl) ?_
       refine db (by kernel_rfl) ?_
       exact ⟨rfl, [0, 2, 11, 15, 16, 18, 19], [8, 5, 4, 0], [], ⟨Ds, hD⟩, rfl, rfl⟩
      ·skip
       refine bd 7 rfl rfl (Eff.x ?_)
       refine id (cz (zs := [.string .empty, .slice none 0 0, .slice none 0 0]) (l := [(0, .tmp 60)]) el23 (by kernel_rfl) (by decide) (by decide) (by decide) rfl rfl rfl (.more rfl (.v rfl (.v rfl (.v rfl .nil))) .nil) rfl rfl (fun v7_7 => ?_))
       refine bt (by (try simp only [nO, nK, nL]); rfl) (by (try simp only [nM, nN]); rfl) (by (try simp only [aX, nQ, nR, aV, place, Nat.reduceBEq, if_true, if_false, reduceIte, Nat.reduceAdd, nW]); rfl) ?_
       refine aY 5 [] (by kernel_rfl) (aI ?_ aP)
       refine bd 5 rfl rfl (Eff.framed (q := false) [2] rfl rfl (cY 0 rfl rfl eb) ?_)
       refine id (du 0 el23 el23 rfl rfl rfl rfl (an 0 rfl) ((fun r hr => by obtain ⟨o, _, rfl⟩ := List.mem_map.1 hr; rfl)) (by simp; omega) (x.ifs.l.length) (by simp; try omega) (fun v7_5 c7_5 => ?_))
       refine dg ?_
       refine bt (by (try simp only [nO, nK, nL]); rfl) (by (try simp only [nM, nN]); rfl) (by (try simp only [aX, nQ, nR, aV, place, Nat.reduceBEq, if_true, if_false, reduceIte, Nat.reduceAdd, nW]); rfl) ?_
       refine aY 8 [] (by kernel_rfl) (aI ?_ aP)
       refine bd 8 rfl rfl (Eff.framed (q := false) [2, 4] rfl rfl (cY 0 rfl rfl eb) ?_)
       refine id (bX 0 el23 rfl rfl rfl rfl (cH 1 el23 rfl (by simp)) (by first | assumption | simp) (by simp; omega) ((x.ifs.l ++ [mo]).length) (by simp) (fun v7_8 c7_8 => ?_))
       refine dg ?_
       refine bt (by (try simp only [nO, nK, nL]); rfl) (by (try simp only [nM, nN]); rfl) (by (try simp only [aX, nQ, nR, aV, place, Nat.reduceBEq, if_true, if_false, reduceIte, Nat.reduceAdd, nW]); rfl) ?_
       refine dm 2 rfl ?_
       refine bt (by (try simp only [nO, nK, nL]); rfl) (by (try simp only [nM, nN]); rfl) (by (try simp only [aX, nQ, nR, aV, place, Nat.reduceBEq, if_true, if_false, reduceIte, Nat.reduceAdd, nW]); rfl) ?_
       refine aY 10 [] (by kernel_rfl) (aI ?_ aP)
       refine bd 10 rfl rfl (Eff.x ?_)
       refine id (bF [3, 2, 7, 1, 0] [] (by kernel_rfl) rfl rfl rfl rfl (cP x mo _ _ K hok) ?_)
       rintro _ _ _ ⟨rfl, Ds, rfl, rfl, hD⟩
       refine bt (by (try simp only [nO, nK, nL]); rfl) (by (try simp only [nM, nN]); rfl) (by (try simp only [aX, nQ, nR, aV, place, Nat.reduceBEq, if_true, if_false, reduceIte, Nat.reduceAdd, nW]); rfl) ?_
       refine bD 11 rfl (by kernel_rfl) true rfl rfl (fun _ => aq rfl) ?_
       refine bD 12 rfl (by kernel_rfl) true rfl rfl (fun _ => aJ rfl rfl) ?_
       refine bD 13 rfl (by kernel_rfl) true rfl rfl (fun _ => aJ rfl rfl) ?_
       refine bD 14 rfl (by kernel_rfl) true rfl rfl (fun _ => aJ rfl rfl) ?_
       refine bD 16 rfl (by kernel_rfl) true rfl rfl (fun _ => bk rfl) ?_
       refine bD 17 rfl (by kernel_rfl) true rfl rfl (fun _ => bk rfl) ?_
       refine aY 18 [] (by kernel_rfl) (aI ?_ aP)
       refine bd 18 rfl rfl (Eff.wild (q := false) ?_)
       refine id (aW 3 tk34 rfl rfl rfl rfl ?_)
       refine bt (by (try simp only [nO, nK, nL]); rfl) (by (try simp only [nM, nN]); rfl) (by (try simp only [aX, nQ, nR, aV, place, Nat.reduceBEq, if_true, if_false, reduceIte, Nat.reduceAdd, nW]); rfl) ?_
       refine db (by kernel_rfl) ?_
       exact ⟨rfl, [0, 2, 11, 15, 16, 18, 19], [8, 5, 4, 0], [], ⟨Ds, hD⟩, rfl, rfl⟩
    ·skip
     refine bd 7 rfl rfl (Eff.x ?_)
     refine id (cz (zs := [.string .empty, .slice none 0 0, .slice none 0 0]) (l := [(0, .tmp 60)]) el23 (by kernel_rfl) (by decide) (by decide) (by decide) rfl rfl rfl (.more rfl (.v rfl (.v rfl (.v rfl .nil))) .nil) rfl rfl (fun v7_7 => ?_))
     refine bt (by (try simp only [nO, nK, nL]); rfl) (by (try simp only [nM, nN]); rfl) (by (try simp only [aX, nQ, nR, aV, place, Nat.reduceBEq, if_true, if_false, reduceIte, Nat.reduceAdd, nW]); rfl) ?_
     refine aY 3 [15] (by kernel_rfl) (aI ?_ (aI ?_ aP))
     ·skip
      refine bd 3 rfl rfl (Eff.x ?_)
      refine id (iy el23 rfl (fun v7_3 => ?_))
      refine bt (by (try simp only [nO, nK, nL]); rfl) (by (try simp only [nM, nN]); rfl) (by (try simp only [aX, nQ, nR, aV, place, Nat.reduceBEq, if_true, if_false, reduceIte, Nat.reduceAdd, nW]); rfl) ?_
      refine aY 5 [15] (by kernel_rfl) (aI ?_ (aI ?_ aP))
      ·skip
       refine bd 5 rfl rfl (Eff.framed (q := false) [3] rfl rfl (cY 0 rfl rfl eb) ?_)
       refine id (du 0 el23 el23 rfl rfl rfl rfl (an 0 rfl) ((fun r hr => by obtain ⟨o, _, rfl⟩ := List.mem_map.1 hr; rfl)) (by simp; omega) (x.ifs.l.length) (by simp; try omega) (fun v7_5 c7_5 => ?_))
       refine dg ?_
       refine bt (by (try simp only [nO, nK, nL]); rfl) (by (try simp only [nM, nN]); rfl) (by (try simp only [aX, nQ, nR, aV, place, Nat.reduceBEq, if_true, if_false, reduceIte, Nat.reduceAdd, nW]); rfl) ?_
       refine aY 8 [15] (by kernel_rfl) (aI ?_ (aI ?_ aP))
       ·skip
        refine bd 8 rfl rfl (Eff.framed (q := false) [3, 2] rfl rfl (cY 0 rfl rfl eb) ?_)
        refine id (bX 0 el23 rfl rfl rfl rfl (cH 1 el23 rfl (by simp)) (by first | assumption | simp) (by simp; omega) ((x.ifs.l ++ [mo]).length) (by simp) (fun v7_8 c7_8 => ?_))
        refine dg ?_
        refine bt (by (try simp only [nO, nK, nL]); rfl) (by (try simp only [nM, nN]); rfl) (by (try simp only [aX, nQ, nR, aV, place, Nat.reduceBEq, if_true, if_false, reduceIte, Nat.reduceAdd, nW]); rfl) ?_
        refine dm 3 rfl ?_
        refine bt (by (try simp only [nO, nK, nL]); rfl) (by (try simp only [nM, nN]); rfl) (by (try simp only [aX, nQ, nR, aV, place, Nat.reduceBEq, if_true, if_false, reduceIte, Nat.reduceAdd, nW]); rfl) ?_
        refine aY 10 [15] (by kernel_rfl) (aI ?_ (aI ?_ aP))
        ·skip
         refine bd 10 rfl rfl (Eff.x ?_)
         refine id (bF [3, 2, 7, 1, 0] [] (by kernel_rfl) rfl rfl rfl rfl (cP x mo _ _ K hok) ?_)
         rintro _ _ _ ⟨rfl, Ds, rfl, rfl, hD⟩
         refine bt (by (try simp only [nO, nK, nL]); rfl) (by (try simp only [nM, nN]); rfl) (by (try simp only [aX, nQ, nR, aV, place, Nat.reduceBEq, if_true, if_false, reduceIte, Nat.reduceAdd, nW]); rfl) ?_
         refine bD 11 rfl (by kernel_rfl) true rfl rfl (fun _ => aq rfl) ?_
         refine bD 12 rfl (by kernel_rfl) true rfl rfl (fun _ => aJ rfl rfl) ?_
         refine bD 13 rfl (by kernel_rfl) true rfl rfl (fun _ => aJ rfl rfl) ?_
         refine bD 14 rfl (by kernel_rfl) true rfl rfl (fun _ => aJ rfl rfl) ?_
         refine aY 15 [] (by kernel_rfl) (aI ?_ aP)
         refine bd 15 rfl rfl (Eff.x ?_)
         refine id (bp (zs := [.int .i64 0, .int .i64 0]) (by kernel_rfl) rfl (fun b7_15 => ?_))
         refine bt (by (try simp only [nO, nK, nL]); rfl) (by (try simp only [nM, nN]); rfl) (by (try simp only [aX, nQ, nR, aV, place, Nat.reduceBEq, if_true, if_false, reduceIte, Nat.reduceAdd, nW]); rfl) ?_
         refine bD 16 rfl (by kernel_rfl) true rfl rfl (fun _ => bk rfl) ?_
         refine bD 17 rfl (by kernel_rfl) true rfl rfl (fun _ => bk rfl) ?_
         refine aY 18 [] (by kernel_rfl) (aI ?_ aP)
         refine bd 18 rfl rfl (Eff.wild (q := false) ?_)
         refine id (aW 4 tk34 rfl rfl rfl rfl ?_)
         refine bt (by (try simp only [nO, nK, nL]); rfl) (by (try simp only [nM, nN]); rfl) (by (try simp only [aX, nQ, nR, aV, place, Nat.reduceBEq, if_true, if_false, reduceIte, Nat.reduceAdd, nW]); rfl) ?_
         refine db (by kernel_rfl) ?_
         exact ⟨rfl, [0, 2, 11, 15, 16, 18, 19], [8, 5, 4, 0], [], ⟨Ds, hD⟩, rfl, rfl⟩
        ·skip
         refine bd 15 rfl rfl (Eff.x ?_)
         refine id (bp (zs := [.int .i64 0, .int .i64 0]) (by kernel_rfl) rfl (fun b7_15 => ?_))
         refine bt (by (try simp only [nO, nK, nL]); rfl) (by (try simp only [nM, nN]); rfl) (by (try simp only [aX, nQ, nR, aV, place, Nat.reduceBEq, if_true, if_false, reduceIte, Nat.reduceAdd, nW]); rfl) ?_
         refine aY 10 [] (by kernel_rfl) (aI ?_ aP)
         refine bd 10 rfl rfl (Eff.x ?_)
         refine id (bF [3, 2, 7, 1, 0] [] (by kernel_rfl) rfl rfl rfl rfl (cP x mo _ _ K hok) ?_)
         rintro _ _ _ ⟨rfl, Ds, rfl, rfl, hD⟩
         refine bt (by (try simp only [nO, nK, nL]); rfl) (by (try simp only [nM, nN]); rfl) (by (try simp only [aX, nQ, nR, aV, place, Nat.reduceBEq, if_true, if_false, reduceIte, Nat.reduceAdd, nW]); rfl) ?_
         refine bD 11 rfl (by kernel_rfl) true rfl rfl (fun _ => aq rfl) ?_
         refine bD 12 rfl (by kernel_rfl) true rfl rfl (fun _ => aJ rfl rfl) ?_
         refine bD 13 rfl (by kernel_rfl) true rfl rfl (fun _ => aJ rfl rfl) ?_
         refine bD 14 rfl (by kernel_rfl) true rfl rfl (fun _ => aJ rfl rfl) ?_
         refine bD 16 rfl (by kernel_rfl) true rfl rfl (fun _ => bk rfl) ?_
         refine bD 17 rfl (by kernel_rfl) true rfl rfl (fun _ => bk rfl) ?_
         refine aY 18 [] (by kernel_rfl) (aI ?_ aP)
         refine bd 18 rfl rfl (Eff.wild (q := false) ?_)
         refine id (aW 4 tk34 rfl rfl rfl rfl ?_)
         refine bt (by (try simp only [nO, nK, nL]); rfl) (by (try simp only [nM, nN]); rfl) (by (try simp only [aX, nQ, nR, aV, place, Nat.reduceBEq, if_true, if_false, reduceIte, Nat.reduceAdd, nW]); rfl) ?_
         refine db (by kernel_rfl) ?_
         exact ⟨rfl, [0, 2, 11, 15, 16, 18, 19], [8, 5, 4, 0], [], ⟨Ds, hD⟩, rfl, rfl⟩
       ·skip
        refine bd 15 rfl rfl (Eff.x ?_)
        refine id (bp (zs := [.int .i64 0, .int .i64 0]) (by kernel_rfl) rfl (fun b7_15 => ?_))
        refine bt (by (try simp only [nO, nK, nL]); rfl) (by (try simp only [nM, nN]); rfl) (by (try simp only [aX, nQ, nR, aV, place, Nat.reduceBEq, if_true, if_false, reduceIte, Nat.reduceAdd, nW]); rfl) ?_
        refine aY 8 [] (by kernel_rfl) (aI ?_ aP)
        refine bd 8 rfl rfl (Eff.framed (q := false) [3, 2] rfl rfl (cY 0 rfl rfl eb) ?_)
        refine id (bX 0 el23 rfl rfl rfl rfl (cH 1 el23 rfl (by simp)) (by first | assumption | simp) (by simp; omega) ((x.ifs.l ++ [mo]).length) (by simp) (fun v7_8 c7_8 => ?_))
        refine dg ?_
        refine bt (by (try simp only [nO, nK, nL]); rfl) (by (try simp only [nM, nN]); rfl) (by (try simp only [aX, nQ, nR, aV, place, Nat.reduceBEq, if_true, if_false, reduceIte, Nat.reduceAdd, nW]); rfl) ?_
        refine dm 3 rfl ?_
        refine bt (by (try simp only [nO, nK, nL]); rfl) (by (try simp only [nM, nN]); rfl) (by (try simp only [aX, nQ, nR, aV, place, Nat.reduceBEq, if_true, if_false, reduceIte, Nat.reduceAdd, nW]); rfl) ?_
        refine aY 10 [] (by kernel_rfl) (aI ?_ aP)
        refine bd 10 rfl rfl (Eff.x ?_)
        refine id (bF [3, 2, 7, 1, 0] [] (by kernel_rfl) rfl rfl rfl rfl (cP x mo _ _ K hok) ?_)
        rintro _ _ _ ⟨rfl, Ds, rfl, rfl, hD⟩
        refine bt (by (try simp only [nO, nK, nL]); rfl) (by (try simp only [nM, nN]); rfl) (by (try simp only [aX, nQ, nR, aV, place, Nat.reduceBEq, if_true, if_false, reduceIte, Nat.reduceAdd, nW]); rfl) ?_
        refine bD 11 rfl (by kernel_rfl) true rfl rfl (fun _ => aq rfl) ?_
        refine bD 12 rfl (by kernel_rfl) true rfl rfl (fun _ => aJ rfl rfl) ?_
        refine bD 13 rfl (by kernel_rfl) true rfl rfl (fun _ => aJ rfl rfl) ?_
        refine bD 14 rfl (by kernel_rfl) true rfl rfl (fun _ => aJ rfl rfl) ?_
        refine bD 16 rfl (by kernel_rfl) true rfl rfl (fun _ => bk rfl) ?_
        refine bD 17 rfl (by kernel_rfl) true rfl rfl (fun _ => bk rfl) ?_
        refine aY 18 [] (by kernel_rfl) (aI ?_ aP)
        refine bd 18 rfl rfl (Eff.wild (q := false) ?_)
        refine id (aW 4 tk34 rfl rfl rfl rfl ?_)
        refine bt (by (try simp only [nO, nK, nL]); rfl) (by (try simp only [nM, nN]); rfl) (by (try simp only [aX, nQ, nR, aV, place, Nat.reduceBEq, if_true, if_false, reduceIte, Nat.reduceAdd, nW]); rfl) ?_
        refine db (by kernel_rfl) ?_
        exact ⟨rfl, [0, 2, 11, 15, 16, 18, 19], [8, 5, 4, 0], [], ⟨Ds, hD⟩, rfl, rfl⟩
      ·skip
       refine bd 15 rfl rfl (Eff.x ?_)
       refine id (bp (zs := [.int .i64 0, .int .i64 0]) (by kernel_rfl) rfl (fun b7_15 => ?_))
       refine bt (by (try simp only [nO, nK, nL]); rfl) (by (try simp only [nM, nN]); rfl) (by (try simp only [aX, nQ, nR, aV, place, Nat.reduceBEq, if_true, if_false, reduceIte, Nat.reduceAdd, nW]); rfl) ?_
       refine aY 5 [] (by kernel_rfl) (aI ?_ aP)
       refine bd 5 rfl rfl (Eff.framed (q := false) [3] rfl rfl (cY 0 rfl rfl eb) ?_)
       refine id (du 0 el23 el23 rfl rfl rfl rfl (an 0 rfl) ((fun r hr => by obtain ⟨o, _, rfl⟩ := List.mem_map.1 hr; rfl)) (by simp; omega) (x.ifs.l.length) (by simp; try omega) (fun v7_5 c7_5 => ?_))
       refine dg ?_
       refine bt (by (try simp only [nO, nK, nL]); rfl) (by (try simp only [nM, nN]); rfl) (by (try simp only [aX, nQ, nR, aV, place, Nat.reduceBEq, if_true, if_false, reduceIte, Nat.reduceAdd, nW]); rfl) ?_
       refine aY 8 [] (by kernel_rfl) (aI ?_ aP)
       refine bd 8 rfl rfl (Eff.framed (q := false) [3, 2] rfl rfl (cY 0 rfl rfl eb) ?_)
       refine id (bX 0 el23 rfl rfl rfl rfl (cH 1 el23 rfl (by simp)) (by first | assumption | simp) (by simp; omega) ((x.ifs.l ++ [mo]).length) (by simp) (fun v7_8 c7_8 => ?_))
       refine dg ?_
       refine bt (by (try simp only [nO, nK, nL]); rfl) (by (try simp only [nM, nN]); rfl) (by (try simp only [aX, nQ, nR, aV, place, Nat.reduceBEq, if_true, if_false, reduceIte, Nat.reduceAdd, nW]); rfl) ?_
       refine dm 3 rfl ?_
       refine bt (by (try simp only [nO, nK, nL]); rfl) (by (try simp only [nM, nN]); rfl) (by (try simp only [aX, nQ, nR, aV, place, Nat.reduceBEq, if_true, if_false, reduceIte, Nat.reduceAdd, nW]); rfl) ?_
       refine aY 10 [] (by kernel_rfl) (aI ?_ aP)
       refine bd 10 rfl rfl (Eff.x ?_)
       refine id (bF [3, 2, 7, 1, 0] [] (by kernel_rfl) rfl rfl rfl rfl (cP x mo _ _ K hok) ?_)
       rintro _ _ _ ⟨rfl, Ds, rfl, rfl, hD⟩
       refine bt (by (try simp only [nO, nK, nL]); rfl) (by (try simp only [nM, nN]); rfl) (by (try simp only [aX, nQ, nR, aV, place, Nat.reduceBEq, if_true, if_false, reduceIte, Nat.reduceAdd, nW]); rfl) ?_
       refine bD 11 rfl (by kernel_rfl) true rfl rfl (fun _ => aq rfl) ?_
       refine bD 12 rfl (by kernel_rfl) true rfl rfl (fun _ => aJ rfl rfl) ?_
       refine bD 13 rfl (by kernel_rfl) true rfl rfl (fun _ => aJ rfl rfl) ?_
       refine bD 14 rfl (by kernel_rfl) true rfl rfl (fun _ => aJ rfl rfl) ?_
       refine bD 16 rfl (by kernel_rfl) true rfl rfl (fun _ => bk rfl) ?_
       refine bD 17 rfl (by kernel_rfl) true rfl rfl (fun _ => bk rfl) ?_
       refine aY 18 [] (by kernel_rfl) (aI ?_ aP)
       refine bd 18 rfl rfl (Eff.wild (q := false) ?_)
       refine id (aW 4 tk34 rfl rfl rfl rfl ?_)
       refine bt (by (try simp only [nO, nK, nL]); rfl) (by (try simp only [nM, nN]); rfl) (by (try simp only [aX, nQ, nR, aV, place, Nat.reduceBEq, if_true, if_false, reduceIte, Nat.reduceAdd, nW]); rfl) ?_
       refine db (by kernel_rfl) ?_
       exact ⟨rfl, [0, 2, 11, 15, 16, 18, 19], [8, 5, 4, 0], [], ⟨Ds, hD⟩, rfl, rfl⟩
     ·skip
      refine bd 15 rfl rfl (Eff.x ?_)
      refine id (bp (zs := [.int .i64 0, .int .i64 0]) (by kernel_rfl) rfl (fun b7_15 => ?_))
      refine bt (by (try simp only [nO, nK, nL]); rfl) (by (try simp only [nM, nN]); rfl) (by (try simp only [aX, nQ, nR, aV, place, Nat.reduceBEq, if_true, if_false, reduceIte, Nat.reduceAdd, nW]); rfl) ?_
      refine aY 3 [] (by kernel_rfl) (aI ?_ aP)
      refine bd 3 rfl rfl (Eff.x ?_)
      refine id (iy el23 rfl (fun v7_3 => ?_))
      refine bt (by (try simp only [nO, nK, nL]); rfl) (by (try simp only [nM, nN]); rfl) (by (try simp only [aX, nQ, nR, aV, place, Nat.reduceBEq, if_true, if_false, reduceIte, Nat.reduceAdd, nW]); rfl) ?_
      refine aY 5 [] (by kernel_rfl) (aI ?_ aP)
      refine bd 5 rfl rfl (Eff.framed (q := false) [4] rfl rfl (cY 0 rfl rfl eb) ?_)
      refine id (du 0 el23 el23 rfl rfl rfl rfl (an 0 rfl) ((fun r hr => by obtain ⟨o, _, rfl⟩ := List.mem_map.1 hr; rfl)) (by simp; omega) (x.ifs.l.length) (by simp; try omega) (fun v7_5 c7_5 => ?_))
      refine dg ?_
      refine bt (by (try simp only [nO, nK, nL]); rfl) (by (try simp only [nM, nN]); rfl) (by (try simp only [aX, nQ, nR, aV, place, Nat.reduceBEq, if_true, if_false, reduceIte, Nat.reduceAdd, nW]); rfl) ?_
      refine aY 8 [] (by kernel_rfl) (aI ?_ aP)
      refine bd 8 rfl rfl (Eff.framed (q := false) [4, 2] rfl rfl (cY 0 rfl rfl eb) ?_)
      refine id (bX 0 el23 rfl rfl rfl rfl (cH 1 el23 rfl (by simp)) (by first | assumption | simp) (by simp; omega) ((x.ifs.l ++ [mo]).length) (by simp) (fun v7_8 c7_8 => ?_))
      refine dg ?_
      refine bt (by (try simp only [nO, nK, nL]); rfl) (by (try simp only [nM, nN]); rfl) (by (try simp only [aX, nQ, nR, aV, place, Nat.reduceBEq, if_true, if_false, reduceIte, Nat.reduceAdd, nW]); rfl) ?_
      refine dm 4 rfl ?_
      refine bt (by (try simp only [nO, nK, nL]); rfl) (by (try simp only [nM, nN]); rfl) (by (try simp only [aX, nQ, nR, aV, place, Nat.reduceBEq, if_true, if_false, reduceIte, Nat.reduceAdd, nW]); rfl) ?_
      refine aY 10 [] (by kernel_rfl) (aI ?_ aP)
      refine bd 10 rfl rfl (Eff.x ?_)
      refine id (bF [3, 2, 7, 1, 0] [] (by kernel_rfl) rfl rfl rfl rfl (cP x mo _ _ K hok) ?_)
      rintro _ _ _ ⟨rfl, Ds, rfl, rfl, hD⟩
      refine bt (by (try simp only [nO, nK, nL]); rfl) (by (try simp only [nM, nN]); rfl) (by (try simp only [aX, nQ, nR, aV, place, Nat.reduceBEq, if_true, if_false, reduceIte, Nat.reduceAdd, nW]); rfl) ?_
      refine bD 11 rfl (by kernel_rfl) true rfl rfl (fun _ => aq rfl) ?_
      refine bD 12 rfl (by kernel_rfl) true rfl rfl (fun _ => aJ rfl rfl) ?_
      refine bD 13 rfl (by kernel_rfl) true rfl rfl (fun _ => aJ rfl rfl) ?_
      refine bD 14 rfl (by kernel_rfl) true rfl rfl (fun _ => aJ rfl rfl) ?_
      refine bD 16 rfl (by kernel_rfl) true rfl rfl (fun _ => bk rfl) ?_
      refine bD 17 rfl (by kernel_rfl) true rfl rfl (fun _ => bk rfl) ?_
      refine aY 18 [] (by kernel_rfl) (aI ?_ aP)
      refine bd 18 rfl rfl (Eff.wild (q := false) ?_)
      refine id (aW 3 tk34 rfl rfl rfl rfl ?_)
      refine bt (by (try simp only [nO, nK, nL]); rfl) (by (try simp only [nM, nN]); rfl) (by (try simp only [aX, nQ, nR, aV, place, Nat.reduceBEq, if_true, if_false, reduceIte, Nat.reduceAdd, nW]); rfl) ?_
      refine db (by kernel_rfl) ?_
      exact ⟨rfl, [0, 2, 11, 15, 16, 18, 19], [8, 5, 4, 0], [], ⟨Ds, hD⟩, rfl, rfl⟩
    ·skip
     refine bd 15 rfl rfl (Eff.x ?_)
     refine id (bp (zs := [.int .i64 0, .int .i64 0]) (by kernel_rfl) rfl (fun b7_15 => ?_))
     refine bt (by (try simp only [nO, nK, nL]); rfl) (by (try simp only [nM, nN]); rfl) (by (try simp only [aX, nQ, nR, aV, place, Nat.reduceBEq, if_true, if_false, reduceIte, Nat.reduceAdd, nW]); rfl) ?_
     refine aY 3 [7] (by kernel_rfl) (aI ?_ (aI ?_ aP))
     ·skip
      refine bd 3 rfl rfl (Eff.x ?_)
      refine id (iy el23 rfl (fun v7_3 => ?_))
      refine bt (by (try simp only [nO, nK, nL]); rfl) (by (try simp only [nM, nN]); rfl) (by (try simp only [aX, nQ, nR, aV, place, Nat.reduceBEq, if_true, if_false, reduceIte, Nat.reduceAdd, nW]); rfl) ?_
      refine aY 5 [7] (by kernel_rfl) (aI ?_ (aI ?_ aP))
      ·skip
       refine bd 5 rfl rfl (Eff.framed (q := false) [3] rfl rfl (cY 0 rfl rfl eb) ?_)
       refine id (du 0 el23 el23 rfl rfl rfl rfl (an 0 rfl) ((fun r hr => by obtain ⟨o, _, rfl⟩ := List.mem_map.1 hr; rfl)) (by simp; omega) (x.ifs.l.length) (by simp; try omega) (fun v7_5 c7_5 => ?_))
       refine dg ?_
       refine bt (by (try simp only [nO, nK, nL]); rfl) (by (try simp only [nM, nN]); rfl) (by (try simp only [aX, nQ, nR, aV, place, Nat.reduceBEq, if_true, if_false, reduceIte, Nat.reduceAdd, nW]); rfl) ?_
       refine aY 7 [] (by kernel_rfl) (aI ?_ aP)
       refine bd 7 rfl rfl (Eff.x ?_)
       refine id (cz (zs := [.string .empty, .slice none 0 0, .slice none 0 0]) (l := [(0, .tmp 60)]) el23 (by kernel_rfl) (by decide) (by decide) (by decide) rfl rfl rfl (.more rfl (.v rfl (.v rfl (.v rfl .nil))) .nil) rfl rfl (fun v7_7 => ?_))
       refine bt (by (try simp only [nO, nK, nL]); rfl) (by (try simp only [nM, nN]); rfl) (by (try simp only [aX, nQ, nR, aV, place, Nat.reduceBEq, if_true, if_false, reduceIte, Nat.reduceAdd, nW]); rfl) ?_
       refine aY 8 [] (by kernel_rfl) (aI ?_ aP)
       refine bd 8 rfl rfl (Eff.framed (q := false) [3, 4] rfl rfl (cY 0 rfl rfl eb) ?_)
       refine id (bX 0 el23 rfl rfl rfl rfl (cH 1 el23 rfl (by simp)) (by first | assumption | simp) (by simp; omega) ((x.ifs.l ++ [mo]).length) (by simp) (fun v7_8 c7_8 => ?_))
       refine dg ?_
       refine bt (by (try simp only [nO, nK, nL]); rfl) (by (try simp only [nM, nN]); rfl) (by (try simp only [aX, nQ, nR, aV, place, Nat.reduceBEq, if_true, if_false, reduceIte, Nat.reduceAdd, nW]); rfl) ?_
       refine dm 3 rfl ?_
       refine bt (by (try simp only [nO, nK, nL]); rfl) (by (try simp only [nM, nN]); rfl) (by (try simp only [aX, nQ, nR, aV, place, Nat.reduceBEq, if_true, if_false, reduceIte, Nat.reduceAdd, nW]); rfl) ?_
       refine aY 10 [] (by kernel_rfl) (aI ?_ aP)
       refine bd 10 rfl rfl (Eff.x ?_)
       refine id (bF [3, 2, 7, 1, 0] [] (by kernel_rfl) rfl rfl rfl rfl (cP x mo _ _ K hok) ?_)
       rintro _ _ _ ⟨rfl, Ds, rfl, rfl, hD⟩
       refine bt (by (try simp only [nO, nK, nL]); rfl) (by (try simp only [nM, nN]); rfl) (by (try simp only [aX, nQ, nR, aV, place, Nat.reduceBEq, if_true, if_false, reduceIte, Nat.reduceAdd, nW]); rfl) ?_
       refine bD 11 rfl (by kernel_rfl) true rfl rfl (fun _ => aq rfl) ?_
       refine bD 12 rfl (by kernel_rfl) true rfl rfl (fun _ => aJ rfl rfl) ?_
       refine bD 13 rfl (by kernel_rfl) true rfl rfl (fun _ => aJ rfl rfl) ?_
       refine bD 14 rfl (by kernel_rfl) true rfl rfl (fun _ => aJ rfl rfl) ?_
       refine bD 16 rfl (by kernel_rfl) true rfl rfl (fun _ => bk rfl) ?_
       refine bD 17 rfl (by kernel_rfl) true rfl rfl (fun _ => bk rfl) ?_
       refine aY 18 [] (by kernel_rfl) (aI ?_ aP)
       refine bd 18 rfl rfl (Eff.wild (q := false) ?_)
       refine id (aW 2 tk34 rfl rfl rfl rfl ?_)
       refine bt (by (try simp only [nO, nK, nL]); rfl) (by (try simp only [nM, nN]); rfl) (by (try simp only [aX, nQ, nR, aV, place, Nat.reduceBEq, if_true, if_false, reduceIte, Nat.reduceAdd, nW]); rfl) ?_
       refine db (by kernel_rfl) ?_
       exact ⟨rfl, [0, 2, 11, 15, 16, 18, 19], [8, 5, 4, 0], [], ⟨Ds, hD⟩, rfl, rfl⟩
      ·skip
       refine bd 7 rfl rfl (Eff.x ?_)
       refine id (cz (zs := [.string .empty, .slice none 0 0, .slice none 0 0]) (l := [(0, .tmp 60)]) el23 (by kernel_rfl) (by decide) (by decide) (by decide) rfl rfl rfl (.more rfl (.v rfl (.v rfl (.v rfl .nil))) .nil) rfl rfl (fun v7_7 => ?_))
       refine bt (by (try simp only [nO, nK, nL]); rfl) (by (try simp only [nM, nN]); rfl) (by (try simp only [aX, nQ, nR, aV, place, Nat.reduceBEq, if_true, if_false, reduceIte, Nat.reduceAdd, nW]); rfl) ?_
       refine aY 5 [] (by kernel_rfl) (aI ?_ aP)
       refine bd 5 rfl rfl (Eff.framed (q := false) [3] rfl rfl (cY 0 rfl rfl eb) ?_)
       refine id (du 0 el23 el23 rfl rfl rfl rfl (an 0 rfl) ((fun r hr => by obtain ⟨o, _, rfl⟩ := List.mem_map.1 hr; rfl)) (by simp; omega) (x.ifs.l.length) (by simp; try omega) (fun v7_5 c7_5 => ?_))
       refine dg ?_
       refine bt (by (try simp only [nO, nK, nL]); rfl) (by (try simp only [nM, nN]); rfl) (by (try simp only [aX, nQ, nR, aV, place, Nat.reduceBEq, if_true, if_false, reduceIte, Nat.reduceAdd, nW]); rfl) ?_
       refine aY 8 [] (by kernel_rfl) (aI ?_ aP)
       refine bd 8 rfl rfl (Eff.framed (q := false) [3, 4] rfl rfl (cY 0 rfl rfl eb) ?_)
       refine id (bX 0 el23 rfl rfl rfl rfl (cH 1 el23 rfl (by simp)) (by first | assumption | simp) (by simp; omega) ((x.ifs.l ++ [mo]).length) (by simp) (fun v7_8 c7_8 => ?_))
       refine dg ?_
       refine bt (by (try simp only [nO, nK, nL]); rfl) (by (try simp only [nM, nN]); rfl) (by (try simp only [aX, nQ, nR, aV, place, Nat.reduceBEq, if_true, if_false, reduceIte, Nat.reduceAdd, nW]); rfl) ?_
       refine dm 3 rfl ?_
       refine bt (by (try simp only [nO, nK, nL]); rfl) (by (try simp only [nM, nN]); rfl) (by (try simp only [aX, nQ, nR, aV, place, Nat.reduceBEq, if_true, if_false, reduceIte, Nat.reduceAdd, nW]); rfl) ?_
       refine aY 10 [] (by kernel_rfl) (aI ?_ aP)
       refine bd 10 rfl rfl (Eff.x ?_)
       refine id (bF [3, 2, 7, 1, 0] [] (by kernel_rfl) rfl rfl rfl rfl (cP x mo _ _ K hok) ?_)
       rintro _ _ _ ⟨rfl, Ds, rfl, rfl, hD⟩
       refine bt (by (try simp only [nO, nK, nL]); rfl) (by (try simp only [nM, nN]); rfl) (by (try simp only [aX, nQ, nR, aV, place, Nat.reduceBEq, if_true, if_false, reduceIte, Nat.reduceAdd, nW]); rfl) ?_
       refine bD 11 rfl (by kernel_rfl) true rfl rfl (fun _ => aq rfl) ?_
       refine bD 12 rfl (by kernel_rfl) true rfl rfl (fun _ => aJ rfl rfl) ?_
       refine bD 13 rfl (by kernel_rfl) true rfl rfl (fun _ => aJ rfl rfl) ?_
       refine bD 14 rfl (by kernel_rfl) true rfl rfl (fun _ => aJ rfl rfl) ?_
       refine bD 16 rfl (by kernel_rfl) true rfl rfl (fun _ => bk rfl) ?_
       refine bD 17 rfl (by kernel_rfl) true rfl rfl (fun _ => bk rfl) ?_
       refine aY 18 [] (by kernel_rfl) (aI ?_ aP)
       refine bd 18 rfl rfl (Eff.wild (q := false) ?_)
       refine id (aW 2 tk34 rfl rfl rfl rfl ?_)
       refine bt (by (try simp only [nO, nK, nL]); rfl) (by (try simp only [nM, nN]); rfl) (by (try simp only [aX, nQ, nR, aV, place, Nat.reduceBEq, if_true, if_false, reduceIte, Nat.reduceAdd, nW]); rfl) ?_
       refine db (by kernel_rfl) ?_
       exact ⟨rfl, [0, 2, 11, 15, 16, 18, 19], [8, 5, 4, 0], [], ⟨Ds, hD⟩, rfl, rfl⟩
     ·skip
      refine bd 7 rfl rfl (Eff.x ?_)
      refine id (cz (zs := [.string .empty, .slice none 0 0, .slice none 0 0]) (l := [(0, .tmp 60)]) el23 (by kernel_rfl) (by decide) (by decide) (by decide) rfl rfl rfl (.more rfl (.v rfl (.v rfl (.v rfl .nil))) .nil) rfl rfl (fun v7_7 => ?_))
      refine bt (by (try simp only [nO, nK, nL]); rfl) (by (try simp only [nM, nN]); rfl) (by (try simp only [aX, nQ, nR, aV, place, Nat.reduceBEq, if_true, if_false, reduceIte, Nat.reduceAdd, nW]); rfl) ?_
      refine aY 3 [] (by kernel_rfl) (aI ?_ aP)
      refine bd 3 rfl rfl (Eff.x ?_)
      refine id (iy el23 rfl (fun v7_3 => ?_))
      refine bt (by (try simp only [nO, nK, nL]); rfl) (by (try simp only [nM, nN]); rfl) (by (try simp only [aX, nQ, nR, aV, place, Nat.reduceBEq, if_true, if_false, reduceIte, Nat.reduceAdd, nW]); rfl) ?_
      refine aY 5 [] (by kernel_rfl) (aI ?_ aP)
      refine bd 5 rfl rfl (Eff.framed (q := false) [4] rfl rfl (cY 0 rfl rfl eb) ?_)
      refine id (du 0 el23 el23 rfl rfl rfl rfl (an 0 rfl) ((fun r hr => by obtain ⟨o, _, rfl⟩ := List.mem_map.1 hr; rfl)) (by simp; omega) (x.ifs.l.length) (by simp; try omega) (fun v7_5 c7_5 => ?_))
      refine dg ?_
      refine bt (by (try simp only [nO, nK, nL]); rfl) (by (try simp only [nM, nN]); rfl) (by (try simp only [aX, nQ, nR, aV, place, Nat.reduceBEq, if_true, if_false, reduceIte, Nat.reduceAdd, nW]); rfl) ?_
      refine aY 8 [] (by kernel_rfl) (aI ?_ aP)
      refine bd 8 rfl rfl (Eff.framed (q := false) [4, 3] rfl rfl (cY 0 rfl rfl eb) ?_)
      refine id (bX 0 el23 rfl rfl rfl rfl (cH 1 el23 rfl (by simp)) (by first | assumption | simp) (by simp; omega) ((x.ifs.l ++ [mo]).length) (by simp) (fun v7_8 c7_8 => ?_))
      refine dg ?_
      refine bt (by (try simp only [nO, nK, nL]); rfl) (by (try simp only [nM, nN]); rfl) (by (try simp only [aX, nQ, nR, aV, place, Nat.reduceBEq, if_true, if_false, reduceIte, Nat.reduceAdd, nW]); rfl) ?_
      refine dm 4 rfl ?_
      refine bt (by (try simp only [nO, nK, nL]); rfl) (by (try simp only [nM, nN]); rfl) (by (try simp only [aX, nQ, nR, aV, place, Nat.reduceBEq, if_true, if_false, reduceIte, Nat.reduceAdd, nW]); rfl) ?_
      refine aY 10 [] (by kernel_rfl) (aI ?_ aP)
      refine bd 10 rfl rfl (Eff.x ?_)
      refine id (bF [3, 2, 7, 1, 0] [] (by kernel_rfl) rfl rfl rfl rfl (cP x mo _ _ K hok) ?_)
      rintro _ _ _ ⟨rfl, Ds, rfl, rfl, hD⟩
      refine bt (by (try simp only [nO, nK, nL]); rfl) (by (try simp only [nM, nN]); rfl) (by (try simp only [aX, nQ, nR, aV, place, Nat.reduceBEq, if_true, if_false, reduceIte, Nat.reduceAdd, nW]); rfl) ?_
      refine bD 11 rfl (by kernel_rfl) true rfl rfl (fun _ => aq rfl) ?_
      refine bD 12 rfl (by kernel_rfl) true rfl rfl (fun _ => aJ rfl rfl) ?_
      refine bD 13 rfl (by kernel_rfl) true rfl rfl (fun _ => aJ rfl rfl) ?_
      refine bD 14 rfl (by kernel_rfl) true rfl rfl (fun _ => aJ rfl rfl) ?_
      refine bD 16 rfl (by kernel_rfl) true rfl rfl (fun _ => bk rfl) ?_
      refine bD 17 rfl (by kernel_rfl) true rfl rfl (fun _ => bk rfl) ?_
      refine aY 18 [] (by kernel_rfl) (aI ?_ aP)
      refine bd 18 rfl rfl (Eff.wild (q := false) ?_)
      refine id (aW 2 tk34 rfl rfl rfl rfl ?_)
      refine bt (by (try simp only [nO, nK, nL]); rfl) (by (try simp only [nM, nN]); rfl) (by (try simp only [aX, nQ, nR, aV, place, Nat.reduceBEq, if_true, if_false, reduceIte, Nat.reduceAdd, nW]); rfl) ?_
      refine db (by kernel_rfl) ?_
      exact ⟨rfl, [0, 2, 11, 15, 16, 18, 19], [8, 5, 4, 0], [], ⟨Ds, hD⟩, rfl, rfl⟩
   ·skip
    rintro ⟨Ds, hD⟩
    refine aw (az (aSR (aM rfl (aU rfl (bK rfl rfl) (aM rfl (aG rfl rfl (fun hc => aq rfl) (aG rfl rfl (fun hc => bK (ab rfl hc) rfl) (aU rfl (cx rfl rfl (fun h => gf rfl h)) (aNn ?_)))))))))
    refine ah _ rfl (fun h2 => ?_) (fun h2 => ?_)
    ·skip
     have hce := vH (kp := K.l) (L := bQ x.os.l) (sv := eB x.vs.l) (lf := cK x.ifs.l) (lf2 := cK (x.ifs.l ++ [mo])) (lib := x.lib) (by simpa using h2)
     refine aSR (aM rfl (aM rfl (aG rfl rfl (fun hc => aq rfl) (aG rfl rfl (fun hc => aq rfl) (aG rfl rfl (fun hc => bK (ab rfl hc) (ab rfl hc)) (aU rfl (bA rfl rfl (fun h => gt rfl h)) (aA rfl (aNn (aj (aO ?_))))))))))
     refine bc [] [] rfl Tryz.results6 rfl ?_ (.inr rfl)
     rw [hce]; simp
    ·skip
     refine au (aw (az (aSR (aM rfl (aU rfl (cN rfl rfl) (aNn ?_))))))
     refine ah _ rfl (fun h3 => ?_) (fun h3 => ?_)
     ·skip
      refine aSR (aM rfl (aA rfl (aNn (aj (aO ?_)))))
      refine bc [] [] rfl Tryz.results6 rfl ?_ (.inr rfl)
      rfl
     ·skip
      have hbn := wW (by simpa using h3)
      have hB := sh hS hbn
      have hrb2 := uw (N := (x.ifs.l.length : Int)) (fun n v => yy x.ifs.l mo n v) hB.rb
      have hB2 := sh hD hrb2.to
      have hn5 := hF.n
      refine au (aw (az (aSR (aM rfl (aU rfl (cN rfl rfl) (aM rfl (aG rfl rfl (fun hc => aq rfl) (aG rfl rfl (fun hc => aq rfl) ?_))))))))
      refine aG rfl rfl (fun hc => bP (by kernel_rfl) (aN (ab rfl hc) (aN (ab rfl hc) rfl)) (fun w S fp hst => oH (kg x Cs hB.fits) (an 1 rfl) (an 2 rfl) (an 3 rfl) hst)) ?_
      refine aG rfl rfl (fun hc => cm (ab rfl hc)) (aU rfl (cx rfl rfl (fun h => gf rfl h)) (aM rfl (aG rfl rfl (fun hc => aq rfl) (aG rfl rfl (fun hc => aq rfl) ?_))))
      refine aG rfl rfl (fun hc => bP (by kernel_rfl) (aN (ab rfl hc) (aN (ab rfl hc) rfl)) (fun w S fp hst => (sS x Ds hB2.fits).quiet2 (an 0 rfl) (an 3 rfl) hst)) ?_
      refine aG rfl rfl (fun hc => cm (ab rfl hc)) (aU rfl (cx rfl rfl (fun h => gf rfl h)) (aNn ?_))
      refine ah _ rfl (fun h4 => ?_) (fun h4 => ?_)
      ·skip
       exfalso
       rw [hrb2.to] at h4
       simp [fF] at h4
      ·skip
       refine au (aw (az (aSR (aA rfl (aNn ?_)))))
       refine ax (aZ [0, 2, 11, 15, 18, 21] [3, 2, 1, 0] [] (fun (i : Nat) st => i ≤ x.os.l.length ∧ st = ⟨[(0, true, x.os.val), (2, true, x.ifs.val), (11, true, .bool true), (15, true, Cs.val), (18, true, Ds.val), (21, true, .int .i64 i)], [ChF Ds, bW (ShF aT.row) Cs.l, ShF slR Cs, x.ok], []⟩) (fun i => x.os.l.length - i) rfl (⟨0, Nat.zero_le _, rfl⟩) ?_)
       rintro i st ⟨hi, rfl⟩
       refine az (aSR (aM rfl (aM rfl (aU rfl (bq Tryz.underlying22 rfl) (aU rfl (bJ rfl rfl) (aNn ?_))))))
       refine ah _ rfl (fun h5 => ?_) (fun h5 => ?_)
       ·skip
        have hi' : i < x.os.l.length := by simp at h5; omega
        have hoi := bY hi'
        have hs := bY (l := Cs.l) (i := i) (by have := hB.fits.1; omega)
        have hd := bY (l := Ds.l) (i := i) (by have := hB2.fits.1; omega)
        have hget := fun k s hk => hB.get i k s (elt Cs.l (i : Int)) hk hs
        have hgetd := fun k s hk => hB2.get i k s (elt Ds.l (i : Int)) hk hd
        generalize elt x.os.l (i : Int) = o at hoi hget hgetd
        generalize elt Cs.l (i : Int) = r at hs hget
        generalize elt Ds.l (i : Int) = rd at hd hgetd
        have hoi12 := (hF.o o (List.mem_of_getElem? hoi)).syms
        refine au (aw (az (ax (aSR (aA rfl (cA ?_))))))
        refine aw (ax (aZ [0, 2, 11, 15, 18, 21, 22] [3, 2, 1, 0] [] (fun (k : Nat) st => k ≤ o.syms.l.length ∧ st = ⟨[(0, true, x.os.val), (2, true, x.ifs.val), (11, true, .bool true), (15, true, Cs.val), (18, true, Ds.val), (21, true, .int .i64 i), (22, true, .int .i64 k)], [ChF Ds, bW (ShF aT.row) Cs.l, ShF slR Cs, x.ok], []⟩) (fun k => o.syms.l.length - k) rfl (⟨0, Nat.zero_le _, rfl⟩) ?_))
        rintro k st ⟨hk, rfl⟩
        refine az (aSR (aM rfl (aM rfl (aM rfl ?_))))
        refine cF true rfl rfl (fun _ => av Tryz.underlying22 tk61 rfl ((G13.f_os (.of (an 3 rfl)))) rfl (aS hoi) rfl rfl) (fun h => absurd h (by decide)) (fun ⟨b18_3, o18_3⟩ => ?_)
        refine aU rfl (aa (off := 2) (by kernel_rfl) rfl) ?_
        refine aU rfl (aR (o := 2) tk51 rfl (an 0 rfl) rfl rfl) (aU rfl (bq Tryz.underlying51 rfl) (aU rfl (bJ rfl rfl) (aNn ?_)))
        refine ah _ rfl (fun h6 => ?_) (fun h6 => ?_)
        ·skip
         have hk' : k < o.syms.l.length := by simp at h6; omega
         obtain ⟨t, htk⟩ : ∃ t, o.syms.l[k]? = some t := ⟨_, List.getElem?_eq_getElem hk'⟩
         have hx := hget k t htk
         have hz := hgetd k t htk
         have hms := su (kp := K.l) (L := bQ x.os.l) (sv := eB x.vs.l) (lib := x.lib) (fun n v => yy x.ifs.l mo n v) ⟨⟨(i : Int), (k : Int)⟩, t⟩
         have hli := xI (kp := K.l) (L := bQ x.os.l) (sv := eB x.vs.l) (lf := cK x.ifs.l) (lib := x.lib) ⟨⟨(i : Int), (k : Int)⟩, t⟩
         generalize chD K.l (bQ x.os.l) (eB x.vs.l) (cK x.ifs.l) x.lib ⟨⟨(i : Int), (k : Int)⟩, t⟩ = y at hx hms hli
         generalize chD K.l (bQ x.os.l) (eB x.vs.l) (cK (x.ifs.l ++ [mo])) x.lib ⟨⟨(i : Int), (k : Int)⟩, t⟩ = z at hz hms
         dsimp only at hli
         refine au (aw (az (ax (aSR (aM rfl (aM rfl ?_))))))
         refine cF true rfl rfl (fun _ => av Tryz.underlying31 tk66 rfl ((.of (an 3 rfl))) rfl (aS hs) rfl rfl) (fun h => absurd h (by decide)) (fun ⟨b20_2, o20_2⟩ => ?_)
         refine aU rfl (aR (o := 0) tk66 rfl (an 0 rfl) rfl rfl) (aM rfl ?_)
         refine cF true rfl rfl (fun _ => av Tryz.underlying66 tk65 rfl ((Ent.all (f := ShF aT.row) (.of (an 3 rfl)) hs)) rfl (aS hx) rfl rfl) (fun h => absurd h (by decide)) (fun ⟨b20_5, o20_5⟩ => ?_)
         refine aU rfl (aR (o := 0) tk65 rfl (an 0 rfl) rfl rfl) ?_
         refine al (q := true) rfl (bp (zs := [.int .i64 0, .int .i64 0, .int .i64 0, .int .i64 0, .int .i64 0, .bool false]) (by kernel_rfl) rfl (fun b20_7 => ?_))
         refine aH (by (try simp only [nM, nN]); rfl) ?_
         refine al rfl (aW 0 tk65 rfl rfl rfl rfl ?_)
         refine aH (by (try simp only [nK, nL]); rfl) ?_
         refine aNn (aSR (aM rfl (aM rfl ?_)))
         refine cF true rfl rfl (fun _ => av Tryz.underlying31 tk66 rfl ((Ent.right (.of (an 3 rfl)))) rfl (aS hd) rfl rfl) (fun h => absurd h (by decide)) (fun ⟨b21_2, o21_2⟩ => ?_)
         refine aU rfl (aR (o := 0) tk66 rfl (an 0 rfl) rfl rfl) (aM rfl ?_)
         refine cF true rfl rfl (fun _ => av Tryz.underlying66 tk65 rfl ((Ent.all (f := ShF aT.row) (Ent.left (.of (an 4 rfl))) hd)) rfl (aS hz) rfl rfl) (fun h => absurd h (by decide)) (fun ⟨b21_5, o21_5⟩ => ?_)
         refine aU rfl (aR (o := 0) tk65 rfl (an 0 rfl) rfl rfl) ?_
         refine al (q := true) rfl (bp (zs := [.int .i64 0, .int .i64 0, .int .i64 0, .int .i64 0, .int .i64 0, .bool false]) (by kernel_rfl) rfl (fun b21_7 => ?_))
         refine aH (by (try simp only [nM, nN]); rfl) ?_
         refine al rfl (aW 1 tk65 rfl rfl rfl rfl ?_)
         refine aH (by (try simp only [nK, nL]); rfl) ?_
         refine aNs (aSR (aU rfl (ae 0 tk65 rfl rfl rfl) (aU rfl (ae 1 tk65 rfl rfl rfl) (aU rfl (x8 y z rfl rfl) (aM rfl ?_)))))
         refine aG rfl rfl (fun hc => aa (off := 0) (by kernel_rfl) rfl) ?_
         refine aG rfl rfl (fun hc => ae 0 tk3 (ab rfl hc) rfl rfl) (aG rfl rfl (fun hc => cN (ab rfl hc) rfl) (aG rfl rfl (fun hc => aq (ab rfl hc)) ?_))
         refine aG rfl rfl (fun hc => aa (off := 0) (by kernel_rfl) rfl) ?_
         refine aG rfl rfl (fun hc => ae 0 tk3 (ab rfl hc) rfl rfl) (aG rfl rfl (fun hc => cN (ab rfl hc) rfl) (aG rfl rfl (fun hc => bA (ab rfl hc) rfl (fun h => gt hc h)) (aG rfl rfl (fun hc => aq (ab rfl hc)) ?_)))
         refine aG rfl rfl (fun hc => aa (off := 0) (by kernel_rfl) rfl) ?_
         refine aG rfl rfl (fun hc => ae 1 tk3 (ab rfl hc) rfl rfl) (aG rfl rfl (fun hc => cN (ab rfl hc) rfl) (aG rfl rfl (fun hc => cx (ab rfl hc) rfl (fun h => gf hc h)) (aG rfl rfl (fun hc => aq (ab rfl hc)) ?_)))
         refine aG rfl rfl (fun hc => aa (off := 3) (by kernel_rfl) rfl) ?_
         refine aG rfl rfl (fun hc => ae 1 tk3 (ab rfl hc) rfl rfl) (aG rfl rfl (fun hc => aq rfl) (aG rfl rfl (fun hc => bq Tryz.underlying23 (ab rfl hc)) (aG rfl rfl (fun hc => cN (ab rfl hc) (ab rfl hc)) (aG rfl rfl (fun hc => cx (ab rfl hc) rfl (fun h => gf hc h)) (aU rfl (bA rfl rfl (fun h => gt rfl h)) (aNn ?_))))))
         refine ah _ rfl (fun h7 => ?_) (fun h7 => ?_)
         ·skip
          exact (wE hms h7).elim
         ·skip
          refine au (aw (az ?_))
          refine bn [] (by kernel_rfl) ?_
          show aB _ _ _ _ _ 28 #[false, false, false, false, false, false, false, false, false, false, false, false, false, false, false, false, false, false, false, false, false, false, false, false, false, false, false, false] _
          refine bU 0 rfl (by kernel_rfl) rfl (aa (off := 0) (by kernel_rfl) rfl) ?_
          refine bU 1 rfl (by kernel_rfl) rfl (ae 0 tk3 rfl rfl rfl) ?_
          refine bU 2 rfl (by kernel_rfl) rfl (bK rfl rfl) ?_
          refine bU 3 rfl (by kernel_rfl) rfl (aq rfl) ?_
          refine bG 4 rfl (by kernel_rfl) rfl rfl (fun hc => aa (off := 3) (by kernel_rfl) rfl) ?_
          refine bG 5 rfl (by kernel_rfl) rfl rfl (fun hc => ae 0 tk3 (ab rfl hc) rfl rfl) ?_
          refine bG 6 rfl (by kernel_rfl) rfl rfl (fun hc => aq rfl) ?_
          refine bG 7 rfl (by kernel_rfl) rfl rfl (fun hc => aq rfl) ?_
          refine bG 8 rfl (by kernel_rfl) rfl rfl (fun hc => aq rfl) ?_
          refine dI 9 rfl (by kernel_rfl) _ rfl rfl (fun hc => av Tryz.underlying22 tk61 (ab rfl hc) ((G13.f_os (.of (an 8 rfl)))) (ab rfl hc) (aS hoi) rfl rfl) (fun _ => ⟨(0, 0)⟩) (fun ⟨b24_9, o24_9⟩ => ?_)
          refine bG 10 rfl (by kernel_rfl) rfl rfl (fun hc => aa (off := 2) (by kernel_rfl) (ab rfl hc)) ?_
          refine bG 11 rfl (by kernel_rfl) rfl rfl (fun hc => aR (o := 2) tk51 (ab rfl hc) (an 0 rfl) hc rfl) ?_
          refine bG 12 rfl (by kernel_rfl) rfl rfl (fun hc => aq rfl) ?_
          refine dI 13 rfl (by kernel_rfl) _ rfl rfl (fun hc => av Tryz.underlying51 tk63 (ab rfl hc) ((ar.f_syms (Ent.all (G13.f_osA (.of (an 9 rfl))) hoi))) (ab rfl hc) (aS htk) rfl rfl) (fun _ => ⟨(0, 0)⟩) (fun ⟨b24_13, o24_13⟩ => ?_)
          refine bG 14 rfl (by kernel_rfl) rfl rfl (fun hc => aa (off := 0) (by kernel_rfl) (ab rfl hc)) ?_
          refine bG 15 rfl (by kernel_rfl) rfl rfl (fun hc => aR (o := 0) tk9 (ab rfl hc) (an 0 rfl) hc rfl) ?_
          refine bG 16 rfl (by kernel_rfl) rfl rfl (fun hc => aq rfl) ?_
          refine bG 17 rfl (by kernel_rfl) rfl rfl (fun hc => aq rfl) ?_
          refine dI 18 rfl (by kernel_rfl) _ rfl rfl (fun hc => av Tryz.underlying22 tk61 (ab rfl hc) ((G13.f_os (.of (an 10 rfl)))) (ab rfl hc) (aS hoi) rfl rfl) (fun _ => ⟨(0, 0)⟩) (fun ⟨b24_18, o24_18⟩ => ?_)
          refine bG 19 rfl (by kernel_rfl) rfl rfl (fun hc => aa (off := 2) (by kernel_rfl) (ab rfl hc)) ?_
          refine bG 20 rfl (by kernel_rfl) rfl rfl (fun hc => aR (o := 2) tk51 (ab rfl hc) (an 0 rfl) hc rfl) ?_
          refine bG 21 rfl (by kernel_rfl) rfl rfl (fun hc => aq rfl) ?_
          refine dI 22 rfl (by kernel_rfl) _ rfl rfl (fun hc => av Tryz.underlying51 tk63 (ab rfl hc) ((ar.f_syms (Ent.all (G13.f_osA (.of (an 11 rfl))) hoi))) (ab rfl hc) (aS htk) rfl rfl) (fun _ => ⟨(0, 0)⟩) (fun ⟨b24_22, o24_22⟩ => ?_)
          refine bG 23 rfl (by kernel_rfl) rfl rfl (fun hc => aa (off := 1) (by kernel_rfl) (ab rfl hc)) ?_
          refine bG 24 rfl (by kernel_rfl) rfl rfl (fun hc => aR (o := 1) tk9 (ab rfl hc) (an 0 rfl) hc rfl) ?_
          refine bG 25 rfl (by kernel_rfl) rfl rfl (fun hc => bP (by kernel_rfl) (aN (ab rfl hc) (aN (ab rfl hc) (aN (ab rfl hc) rfl))) (fun w S fp hst => (sU x hZ _ _).quiet1 (an 12 rfl) hst)) ?_
          refine bG 26 rfl (by kernel_rfl) rfl rfl (fun hc => cN (ab rfl hc) (ab rfl hc)) ?_
          refine bU 27 rfl (by kernel_rfl) rfl (bA rfl rfl (fun h => gt rfl h)) ?_
          refine bS (by kernel_rfl) ?_
          refine aw ?_
          refine ah _ rfl (fun h8 => ?_) (fun h8 => ?_)
          ·skip
           exfalso
           simp at h8
           exact h8.2 (hli h8.1)
          ·skip
           refine au (bL (aw (ai (aM rfl ?_))))
           refine aU rfl (bB rfl rfl (by omega)) ?_
           refine aA rfl (aNn ?_)
           refine ⟨[0, 2, 11, 15, 18, 21, 22], [3, 2, 1, 0], [], rfl, ?_⟩
           exact ⟨k + 1, ⟨by omega, rfl⟩, by omega⟩
        ·skip
         refine bg (bj (bj (bz (bL (aw (ai (aM rfl ?_)))))))
         refine aU rfl (bB rfl rfl (by omega)) ?_
         refine aA rfl (aNn ?_)
         refine ⟨[0, 2, 11, 15, 18, 21], [3, 2, 1, 0], [], rfl, ?_⟩
         exact ⟨i + 1, ⟨by omega, rfl⟩, by omega⟩
       ·skip
        refine bg (bj (bj (bz (aw (aSR (aM rfl (aA rfl (aNn (aj ?_)))))))))
        refine bc [] [] rfl Tryz.results6 rfl ?_ (.inr rfl)
        rfl
end Go.Proofs.YtgmiihmahaahiaaGreatDoor

