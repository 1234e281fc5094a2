/- Parts of the proof, in build order. No condition. -/
import Derived.Test.YtgmiihmahaahiaaGreatDoorQc12
import Derived.Test.YtgmiihmahaahiaaGreatDoorQc03
import Derived.Test.YtgmiihmahaahiaaGreatDoorQc11
import Derived.Test.YtgmiihmahaahiaaGreatDoorQc06
import Derived.Test.YtgmiihmahaahiaaGreatDoorQc09
import Derived.Test.YtgmiihmahaahiaaGreatDoorQc02
import Derived.OpenShut
import Derived.Test.YtgmiihmahaahiaaGreatDoorRows
import Derived.Test.YtgmiihmahaahiaaGreatDoorQc04
import Derived.WalkKit
import Derived.ProofKit
import Derived.ShutString
import Derived.ChangeOld
import Derived.Below
import Derived.LaidMore
import Derived.Stop.Joined
set_option linter.unusedSimpArgs false
set_option linter.unusedVariables false
set_option maxHeartbeats 1000000
set_option maxRecDepth 20000
namespace Go.Sy
open Go.RowKit Go.Lp
theorem wT {P : Program} {s : Sta} {fn : Func} {r r' r2 : ResultVar} {v v' v2 : Value} {R : Value → List Per → List Res → Prop} {e : Exit} (lp lh : List Nat) (ok : okH s.hp lh = true) (hr : fn.results = #[r, r', r2]) (h1 : RV P s r v) (h2 : RV P s r' v') (h3 : RV P s r2 v2) (h : R (.tuple #[v, v', v2]) (fA s.ps lp) (bX s.hp lh)) (he : e = .normal ∨ e = .ret) : kO P fn R e s :=
 ⟨he, .tuple #[v, v', v2], lp, lh, ok, fun a w S fp hst henv => by
   have h1 := h1 a w S fp hst henv
   have h2 := h2 a w S fp hst henv
   have h3 := h3 a w S fp hst henv
   cases r with
   | tmp t =>
     cases r' with
     | tmp u =>
       cases r2 with
       | tmp x => simp only [results, hr]; simp at h1 h2 h3; simp [h1, h2, h3]
       | cell b t => obtain ⟨ad, g1, g2⟩ := h3; simp only [results, hr]; simp at g1 h1 h2; simp [g1, g2, h1, h2, dL]
     | cell b t =>
       obtain ⟨ad, g1, g2⟩ := h2
       cases r2 with
       | tmp x => simp only [results, hr]; simp at g1 h1 h3; simp [g1, g2, h1, h3, dL]
       | cell b t => obtain ⟨ad', k1, k2⟩ := h3; simp only [results, hr]; simp at g1 h1 k1; simp [g1, g2, h1, k1, k2, dL]
   | cell b t =>
     obtain ⟨ad, g1, g2⟩ := h1
     cases r' with
     | tmp u =>
       cases r2 with
       | tmp x => simp only [results, hr]; simp at g1 h2 h3; simp [g1, g2, h2, h3, dL]
       | cell b t => obtain ⟨ad', k1, k2⟩ := h3; simp only [results, hr]; simp at g1 h2 k1; simp [g1, g2, h2, k1, k2, dL]
     | cell b t =>
       obtain ⟨ad', k1, k2⟩ := h2
       cases r2 with
       | tmp x => simp only [results, hr]; simp at g1 k1 h3; simp [g1, g2, k1, k2, h3, dL]
       | cell b t => obtain ⟨ad'', m1, m2⟩ := h3; simp only [results, hr]; simp at g1 k1 m1; simp [g1, g2, k1, k2, m1, m2, dL], h⟩
end Go.Sy
namespace Go.Proofs.YtgmiihmahaahiaaGreatDoor
open Go.RowKit Go.Lp Go.Sy
open Go.Proofs.Tryz
attribute [local irreducible] aL aB awp aC fwp
theorem StE.ents {ps ps' : List Per} {hp : List Res} (h : ∀ p ∈ ps', Ent ps p) : StE ps hp ps' hp := fun w S fp hst =>
 ⟨S, fp, ⟨fun p hp => h p hp w S hst.per, hst.res, hst.lt, hst.dj, hst.slt⟩, fun _ h => h, fun _ h => .inl h, fun _ h => h⟩
theorem py (x : br) (hok : ew x.objs.l x.kp.l) (lb : Nat) : Con Tryz.prog 35 [.pointer (some ⟨lb, 0, none⟩)] [At lb 0 x.row, x.ok]
   [dg x.ball cj slV (fun _ => none : cW → Option (Sl aD)), dS 34 2 aD.row (fun _ => none : cW → Option (Sl aD)), dg x.bch cj aD.val (fun _ => none : cW → Option aD), dg x.bnm dK slV (fun _ => none : ByteArray → Option (Sl cW)), dS 157 2 gO (fun _ => none : ByteArray → Option (Sl cW)), dg x.bmn dK aD.val (fun _ => none : ByteArray → Option aD)]
   fun r ps hp => ps = [] ∧ ∃ (st : CS) (at_ : aD) (mM : ByteArray → Option aD), hJ x.kp.l (aW x.objs.l) st ∧ r = .tuple #[.int .i64 (if (fx x.kp.l (aW x.objs.l)).isSome then 4 else 0), at_.val] ∧ (∀ p, fx x.kp.l (aW x.objs.l) = some p → at_ = p) ∧
     (fx x.kp.l (aW x.objs.l) = none → ∀ n, mM n = (cF x.kp.l (aW x.objs.l) n).head?.map (·.p)) ∧
     hp = [dg x.ball cj slV st.mA, dS 34 2 aD.row st.mA, dg x.bch cj aD.val (chP x.kp.l (aW x.objs.l)), dg x.bnm dK slV st.mN, dS 157 2 gO st.mN, dg x.bmn dK aD.val mM] := qT x hok lb
theorem oG (x : br) (hok : ew x.objs.l x.kp.l) (lb bl bo : Nat) (L : List Dfn) (st : CS) (mM : ByteArray → Option aD) (hF : kP x L st mM) (SV : ByteArray → ByteArray → Bool) (hSV : ∀ p q, SV p q = true ↔ Srv x.vs.l p q) (vo : Value) (a b : Nat) :
   Con Tryz.prog 36 [.pointer (some ⟨lb, 0, none⟩), .func (.func 37) #[] #[.pointer (some ⟨bl, 0, none⟩), .pointer (some ⟨a, 0, none⟩), .pointer (some ⟨b, 0, none⟩), .pointer (some ⟨bo, 0, none⟩)]]
   [At bl 0 [.v (.pointer (some ⟨lb, 0, none⟩))], At bo 0 [.v vo], Go.Sy.fL gO st.mN, ShM x.bmn dK aD.val mM, ShM x.bnm dK slV st.mN, ShM x.bch cj aD.val (chP x.kp.l L), ShM x.ball cj slV st.mA, At lb 0 x.row, x.ok] (ru vo a b x.objs.l.length ⟨fun _ => none, (⟨0, 0⟩, false)⟩)
   fun _ ps hp => ps = [] ∧ ∃ t, ju (bS x.kp.l L SV (cA x.ifs.l) x.lib) (aW x.objs.l) t ∧ hp = ru vo a b x.objs.l.length t := by
 refine (lE (I := ju (bS x.kp.l L SV (cA x.ifs.l) x.lib) []) (I' := ju (bS x.kp.l L SV (cA x.ifs.l) x.lib) (aW x.objs.l)) (l := ru vo a b x.objs.l.length) (l' := ru vo a b x.objs.l.length) (x := ⟨fun _ => none, (⟨0, 0⟩, false)⟩)
   ((pT x hok.n hok.sy lb 37 [.pointer (some ⟨bl, 0, none⟩), .pointer (some ⟨a, 0, none⟩), .pointer (some ⟨b, 0, none⟩), .pointer (some ⟨bo, 0, none⟩)] (cx (At bl 0 [.v (.pointer (some ⟨lb, 0, none⟩))]) (cx (At bo 0 [.v vo]) (cx (At lb 0 x.row) (cx x.ok (x.fin L st mM))))) (fun M => mQ (ju (bS x.kp.l L SV (cA x.ifs.l) x.lib) M) (ru vo a b x.objs.l.length)) (by kernel_rfl)
     fun M d hd hl hp => ox fun t ht => (uY x hok lb bl bo L st mM hF SV hSV vo a b M d hd hl hp t ht).pre fun p hp => ?_).pre fun p hp => ?_) (.start _ _))
 · simp only [List.mem_cons, List.not_mem_nil, or_false] at hp
   have h0 := Ent.of (List.mem_singleton.2 (rfl : cx (At bl 0 [.v (.pointer (some ⟨lb, 0, none⟩))]) (cx (At bo 0 [.v vo]) (cx (At lb 0 x.row) (cx x.ok (x.fin L st mM)))) = _))
   rcases hp with rfl | rfl | rfl | rfl | rfl
   · exact h0.left
   · exact h0.right.left
   · exact h0.right.right.left
   · exact h0.right.right.right.left
   · exact h0.right.right.right.right
 · simp only [List.mem_cons, List.not_mem_nil, or_false] at hp
   rcases hp with rfl | rfl | rfl
   · exact .of (an 7 rfl)
   · exact .of (an 8 rfl)
   · exact .mk2 (.of (an 0 rfl)) (.mk2 (.of (an 1 rfl)) (.mk2 (.of (an 7 rfl)) (.mk2 (.of (an 8 rfl)) (.mk2 (.of (an 6 rfl)) (.mk2 (.of (an 5 rfl)) (.mk2 (.of (an 4 rfl)) (.mk2 (.of (an 3 rfl)) (.of (an 2 rfl)))))))))
theorem ra {i : Int} {l : List bg} {d : Dfn} (h : d ∈ cu i l) : d.p.obj = i := by
 obtain ⟨k, _, hp⟩ := iK h; rw [hp]
theorem gJ (os : List ax) (i : Nat) : ∀ n, (bQ os n).filter (fun d => decide (d.p.obj = (i : Int))) = if i < n then cu (i : Int) (elt os (i : Int)).syms.l else []
 | 0 => by rw [if_neg (by omega)]; rfl
 | n + 1 => by
   rw [cq, List.filter_append, gJ os i n]
   by_cases h : i = n
   · subst h
     rw [if_neg (by omega), if_pos (by omega), List.nil_append, List.filter_eq_self.2]
     exact fun d hd => by rw [decide_eq_true_eq]; exact ra hd
   · have : (cu (n : Int) (elt os (n : Int)).syms.l).filter (fun d => decide (d.p.obj = (i : Int))) = [] := by
       rw [List.filter_eq_nil_iff]
       exact fun d hd => by rw [decide_eq_true_eq, ra hd]; omega
     rw [this, List.append_nil]
     by_cases h2 : i < n
     · rw [if_pos h2, if_pos (by omega)]
     · rw [if_neg h2, if_neg (by omega)]
def lB (e : Option (Int × aD)) : Int := match e with
 | some (c, _) => c
 | none => 0
def kz (e : Option (Int × aD)) : aD := match e with
 | some (_, p) => p
 | none => ⟨0, 0⟩
abbrev chS (ad : Option Addr) (n : Nat) (m : Nat → Option (Sl aO)) : Sl (Sl aO) := ⟨ad, n, (List.range n).map (cn m)⟩
abbrev mkL (x : br) (a b c d : Nat) : br := ⟨x.objs, x.kp, x.lib, x.ifs, x.vs, a, b, c, d⟩
theorem vW (n : Nat) : ix (fun _ => none) n = List.replicate n [.v (.slice none 0 0)] := by
 unfold ix
 rw [List.eq_replicate_iff]
 refine ⟨by simp, fun r hr => ?_⟩
 obtain ⟨i, _, rfl⟩ := List.mem_map.1 hr; rfl
theorem j9 (x : br) (hok : ew x.objs.l x.kp.l) (SV : ByteArray → ByteArray → Bool) (hSV : ∀ p q, SV p q = true ↔ Srv x.vs.l p q) :
   Con Tryz.prog 13 [x.objs.val, x.kp.val, .bool x.lib, x.ifs.val, x.vs.val] [x.ok] [] (fun r ps hp => ps = [] ∧ ((∃ c p, cI x.kp.l (aW x.objs.l) SV (cA x.ifs.l) x.lib = some (c, p) ∧ r = .tuple #[.slice none 0 0, .int .i64 c, p.val] ∧ hp = []) ∨
   (cI x.kp.l (aW x.objs.l) SV (cA x.ifs.l) x.lib = none ∧ ∃ (ad : Option Addr) (t : BS), ju (bS x.kp.l (aW x.objs.l) SV (cA x.ifs.l) x.lib) (aW x.objs.l) t ∧ r = .tuple #[.slice ad x.objs.l.length x.objs.l.length, .int .i64 0, (⟨0, 0⟩ : aD).val] ∧
     hp = [bA (.slice ad x.objs.l.length x.objs.l.length) 66 1 (ix t.mC x.objs.l.length), dS 65 6 aO.row t.mC]))) := by
 refine Con.enter Tryz.func13 rfl (by simp [Tryz.ntmps13]) ?_
 show awp _ _ _ _ ⟨[(0, true, _), (1, true, _), (2, true, _), (3, true, _), (4, true, _)], _, _⟩
 refine aSR (aA rfl (aA rfl ?_))
 refine aj (q := true) rfl (bp (zs := [.int .i64 0, .int .i64 0]) (by kernel_rfl) rfl (fun b0_2 => ?_))
 refine aHN ?_
 refine aNn (aSR (aM rfl (aM rfl (aM rfl (aM rfl (aM rfl ?_))))))
 refine aj (q := true) rfl (dY (cj) ((slV : Sl aD → Value)) rfl (fun b1_5 => ?_))
 refine aHN ?_
 refine aj (q := true) rfl (dY (cj) (aD.val) rfl (fun b1_6 => ?_))
 refine aHN ?_
 refine aj (q := true) rfl (dY (dK) ((slV : Sl cW → Value)) rfl (fun b1_7 => ?_))
 refine aHN ?_
 refine aj (q := true) rfl (dY (dK) (aD.val) rfl (fun b1_8 => ?_))
 refine aHN ?_
 refine aU rfl (cU (l := [(0, .tmp 19), (1, .tmp 20), (2, .tmp 21), (3, .tmp 22), (4, .tmp 23), (5, .tmp 24), (6, .tmp 25), (7, .tmp 26), (8, .tmp 27)]) (zs := [.slice none 0 0, .slice none 0 0, .bool false, .slice none 0 0, .slice none 0 0, .map none, .map none, .map none, .map none]) (pl := [(0, 1), (1, 1), (2, 1), (3, 1), (4, 1), (5, 1), (6, 1), (7, 1), (8, 1)]) (by kernel_rfl) (by kernel_rfl) (by kernel_rfl) rfl rfl rfl) ?_
 refine aj (q := true) rfl (bI rfl rfl rfl (fun b1_10 => ?_))
 refine aHN ?_
 refine aj (q := true) rfl (bp (zs := [.pointer none]) (by kernel_rfl) rfl (fun b1_11 => ?_))
 refine aHN ?_
 refine aj rfl (aT 6 tk101 rfl rfl rfl rfl ?_)
 refine aHK ?_
 refine aNs (az (iH cW 34 2 aD.row (iH ByteArray 157 2 gO ?_)))
 show awp _ _ _ _ ⟨_, _, [_, _, _, _, _, _, _, _, _]⟩
 refine bL 5 rfl rfl ?_
 show awp _ _ _ _ ⟨_, At _ 0 _ :: _, _⟩
 refine ae (aU rfl (ab 6 tk101 rfl rfl rfl) ?_)
 refine aj (q := false) rfl (bF [1, 0] [1, 7, 2, 3, 8, 4] (by kernel_rfl) rfl rfl rfl rfl (py (mkL x b1_5 b1_6 b1_7 b1_8) hok b1_10) ?_)
 rintro _ _ _ ⟨rfl, st, at_, mM, hI, rfl, hat, hmm, rfl⟩
 refine aST ?_
 refine aM rfl (aU rfl (bc rfl rfl) (aU rfl (bc rfl rfl) ?_))
 refine aj (q := true) rfl (bp (zs := [.int .i64 0, .int .i64 0]) (by kernel_rfl) rfl (fun b2_5 => ?_))
 refine aHN ?_
 refine aA rfl ?_
 refine aj rfl (aT 9 tk34 rfl rfl rfl rfl ?_)
 refine aHK ?_
 refine aNn (aSR (aM rfl (aU rfl (cN rfl rfl) (aNn ?_))))
 refine ah _ rfl (fun h1 => ?_) (fun h1 => ?_)
 ·skip
  have hce : ∃ p, fx x.kp.l (aW x.objs.l) = some p := by
    cases hc : fx x.kp.l (aW x.objs.l) with
    | some p => exact ⟨p, rfl⟩
    | none => exfalso; simp [hc] at h1
  obtain ⟨p, hce⟩ := hce
  obtain rfl := hat p hce
  have hb : cI x.kp.l (aW x.objs.l) SV (cA x.ifs.l) x.lib = some (4, at_) := by
    unfold fx at hce
    unfold cI
    rw [Option.or_eq_some_iff] at hce
    rcases hce with h | ⟨h, h2⟩
    · rw [h]
    · rw [h]; dsimp only; rw [h2]
  refine az ?_
  refine ec [4] [4] [b0_2, b2_5] (by kernel_rfl) ?_
  show aC _ _ _ _ _ _ _ 5 #[false, false, false, false, false] _
  refine cX 0 rfl (by kernel_rfl) true rfl rfl (fun _ => ar rfl) ?_
  refine eU 1 9 rfl (by kernel_rfl) true rfl rfl (by simp) tk34 (fun _ => rfl) rfl rfl ?_
  refine cX 2 rfl (by kernel_rfl) true rfl rfl (fun _ => bJ rfl) ?_
  refine cX 3 rfl (by kernel_rfl) true rfl rfl (fun _ => bJ rfl) ?_
  refine cz 4 [] (by kernel_rfl) (bO ?_ cm)
  refine cM 4 rfl rfl (Eff.wild (q := false) ?_)
  refine id (aT 0 tk34 rfl rfl rfl rfl ?_)
  refine dy (by (try simp only [nO, nK, nL]); rfl) (by (try simp only [nM, nN]); rfl) (by (try simp only [bX, nQ, nR, dt, place, Nat.reduceBEq, if_true, if_false, reduceIte, Nat.reduceAdd, nW]); rfl) ?_
  refine gu (by kernel_rfl) ?_
  refine av (aq (aK ?_))
  refine wT [] [] rfl Tryz.results13 (cT rfl) (cT rfl) (cv 0 tk34 rfl rfl rfl) ?_ (.inr rfl)
  exact ⟨rfl, .inl ⟨4, at_, hb, by rw [hce]; rfl, rfl⟩⟩
 ·skip
  have hce : fx x.kp.l (aW x.objs.l) = none := by
    cases hc : fx x.kp.l (aW x.objs.l) with
    | none => rfl
    | some p => exfalso; simp [hc] at h1
  obtain ⟨ht1, ht2⟩ : ea x.kp.l (aW x.objs.l) = none ∧ dQ x.kp.l (aW x.objs.l) = none := by
    unfold fx at hce; rwa [Option.or_eq_none_iff] at hce
  have hF : kP (mkL x b1_5 b1_6 b1_7 b1_8) (aW x.objs.l) st mM := ⟨rfl, hI, hmm hce, ht2⟩
  refine au (av (aSR (aM rfl (aU rfl (aZ Tryz.underlying22 rfl) ?_))))
  refine aj (q := true) rfl (oH (m := x.objs.l.length) (zs := [.slice none 0 0]) el31 (by kernel_rfl) rfl (by decide) (iz rfl (rfl)) (iz rfl (rfl)) (by have := hok.n; omega) rfl (fun v5_2 => ?_))
  refine aHN ?_
  refine aj (q := true) rfl (bp (zs := [.slice none 0 0]) (by kernel_rfl) rfl (fun b5_3 => ?_))
  refine aHN ?_
  refine aj rfl (aT 11 tk31 rfl rfl rfl rfl ?_)
  refine aHK ?_
  refine aNn (aSR ?_)
  refine aj (q := true) rfl (bp (zs := [.int .i64 0, .int .i64 0]) (by kernel_rfl) rfl (fun b6_0 => ?_))
  refine aHN ?_
  refine aNn (aSR ?_)
  refine aj (q := true) rfl (bp (zs := [.bool false]) (by kernel_rfl) rfl (fun b7_0 => ?_))
  refine aHN ?_
  refine aj rfl (aT 13 tk4 rfl rfl rfl rfl ?_)
  refine aHK ?_
  refine aNs ?_
  refine fi 10 (bA _ _ 1 (ix (fun _ => none) x.objs.l.length)) rfl (fun _ _ _ h => by rw [vW]; exact h) ?_
  refine iH Nat 65 6 aO.row ?_
  refine fZ 1 rfl (fZ 2 rfl (fZ 3 rfl (fZ 4 rfl (mJ 8 rfl (bL 11 rfl rfl (bL 6 rfl rfl ?_))))))
  show awp _ _ _ _ ⟨_, [At b1_11 0 _, At b5_3 0 _, _, _, _, _, _, _, _], [_, _, _, _, _, _, _, _, _, _, _, _, _, _, _]⟩
  refine ae (aU rfl (aN (o := 0) tk101 rfl (.of (an 0 rfl)) rfl) (aU rfl (dq (l := [.tmp 13, .tmp 17, .tmp 18, .tmp 16]) rfl) ?_))
  refine aj (q := false) rfl (bF [8, 7, 6, 5, 4, 3, 2, 1, 0] [10, 14, 12, 13] (by kernel_rfl) rfl rfl rfl rfl (oG (mkL x b1_5 b1_6 b1_7 b1_8) hok b1_10 b1_11 b5_3 (aW x.objs.l) st mM hF SV hSV (.slice v5_2 x.objs.l.length x.objs.l.length) b6_0 b7_0) ?_)
  rintro _ _ _ ⟨rfl, t, hT, rfl⟩
  refine aST ?_
  refine aNs (aSR (aU rfl (ab 13 tk4 rfl rfl rfl) (aNn ?_)))
  refine ah _ rfl (fun h2 => ?_) (fun h2 => ?_)
  ·skip
   have hb : cI x.kp.l (aW x.objs.l) SV (cA x.ifs.l) x.lib = some (3, t.fa.1) := by
     have := hT.tw
     rw [if_pos h2] at this
     unfold cI; rw [ht1]; dsimp only; rw [ht2]; dsimp only
     show (jw _ _ _ _ _).map _ = _
     unfold jw; rw [this]; rfl
   refine az ?_
   refine ec [3] [3] [b0_2, b6_0] (by kernel_rfl) ?_
   show aC _ _ _ _ _ _ _ 4 #[false, false, false, false] _
   refine eU 0 12 rfl (by kernel_rfl) true rfl rfl (by simp) tk34 (fun _ => rfl) rfl rfl ?_
   refine cX 1 rfl (by kernel_rfl) true rfl rfl (fun _ => bJ rfl) ?_
   refine cX 2 rfl (by kernel_rfl) true rfl rfl (fun _ => bJ rfl) ?_
   refine cz 3 [] (by kernel_rfl) (bO ?_ cm)
   refine cM 3 rfl rfl (Eff.wild (q := false) ?_)
   refine id (aT 0 tk34 rfl rfl rfl rfl ?_)
   refine dy (by (try simp only [nO, nK, nL]); rfl) (by (try simp only [nM, nN]); rfl) (by (try simp only [bX, nQ, nR, dt, place, Nat.reduceBEq, if_true, if_false, reduceIte, Nat.reduceAdd, nW]); rfl) ?_
   refine gu (by kernel_rfl) ?_
   refine av (aq (aK ?_))
   refine wT [] [] rfl Tryz.results13 (cT rfl) (cT rfl) (cv 0 tk34 rfl rfl rfl) ?_ (.inr rfl)
   exact ⟨rfl, .inl ⟨3, t.fa.1, hb, rfl, rfl⟩⟩
  ·skip
   have hb : cI x.kp.l (aW x.objs.l) SV (cA x.ifs.l) x.lib = none := by
     have := hT.tw
     rw [if_neg (by rw [h2]; decide)] at this
     unfold cI; rw [ht1]; dsimp only; rw [ht2]; dsimp only
     show (jw _ _ _ _ _).map _ = _
     unfold jw; rw [this]; rfl
   refine au (av (aSR (aU rfl (aN (o := 0) tk31 rfl (.of (an 1 rfl)) rfl) ?_)))
   refine aU rfl (cU (l := []) (zs := [.int .i64 0, .int .i64 0]) (pl := [(0, 1), (1, 1)]) (by kernel_rfl) (by kernel_rfl) (by kernel_rfl) rfl rfl rfl) ?_
   refine aA rfl (aA rfl ?_)
   refine aj rfl (aT 0 tk34 rfl rfl rfl rfl ?_)
   refine aHK ?_
   refine aNn (aq ?_)
   refine wT [] [10, 14] rfl Tryz.results13 (cT rfl) (cT rfl) (cv 0 tk34 rfl rfl rfl) ?_ (.inr rfl)
   exact ⟨rfl, .inr ⟨hb, v5_2, t, hT, rfl, rfl⟩⟩
theorem vG (x : br) (hok : ew x.objs.l x.kp.l) (SV : ByteArray → ByteArray → Bool) (hSV : ∀ p q, SV p q = true ↔ Srv x.vs.l p q) :
   Con Tryz.prog 13 [x.objs.val, x.kp.val, .bool x.lib, x.ifs.val, x.vs.val] [x.ok] [] fun r ps hp => hp = [] ∧ ∃ S : Sl (Sl aO), ps = [bP (ShF aO.row) S.l, ShF slR S] ∧
     r = .tuple #[S.val, .int .i64 (lB (cI x.kp.l (aW x.objs.l) SV (cA x.ifs.l) x.lib)), (kz (cI x.kp.l (aW x.objs.l) SV (cA x.ifs.l) x.lib)).val] ∧
     S.l.map (·.l) = if cI x.kp.l (aW x.objs.l) SV (cA x.ifs.l) x.lib = none then iE x.objs.l x.kp.l SV (cA x.ifs.l) x.lib else [] := by
 refine Con.conv (j9 x hok SV hSV) fun r ps' hp' ⟨h1, h⟩ => ?_
 · subst h1
   rcases h with ⟨c, p, hb, rfl, rfl⟩ | ⟨hb, ad, t, hT, rfl, rfl⟩
   · refine ⟨_, _, StE.ents (ps' := [bP (ShF aO.row) [], ShF slR (⟨none, 0, []⟩ : Sl (Sl aO))]) fun q hq => ?_, rfl, ⟨none, 0, []⟩, rfl, by rw [hb]; rfl, by rw [hb, if_neg (by simp)]; rfl⟩
     simp only [List.mem_cons, List.not_mem_nil, or_false] at hq
     rcases hq with rfl | rfl
     · exact fun _ _ _ s hs => by cases hs
     · exact fun _ _ _ => .e none 0 (by unfold maxLen; omega)
   · have hl : (chS ad x.objs.l.length t.mC).l.length = x.objs.l.length := by simp
     refine ⟨_, _, ((StE.share 0 (Sh (.slice ad x.objs.l.length x.objs.l.length) (.sl (ix t.mC x.objs.l.length))) rfl fun _ _ _ h => eF h).trans ((StE.share 1 (Go.Sy.fL aO.row t.mC) rfl fun _ _ _ h => lK h).trans ((StE.keep [0, 1] [] rfl).trans (StE.ents (ps' := [bP (ShF aO.row) (chS ad x.objs.l.length t.mC).l, ShF slR (chS ad x.objs.l.length t.mC)]) fun q hq => ?_)))), rfl, chS ad x.objs.l.length t.mC, rfl, ?_, ?_⟩
     · simp only [List.mem_cons, List.not_mem_nil, or_false] at hq
       rcases hq with rfl | rfl
       · intro w S hp s hs
         obtain ⟨i, _, rfl⟩ := List.mem_map.1 hs
         exact Ent.cn (row := aO.row) (m := t.mC) (.of (an 1 rfl)) i w S hp
       · intro w S hp
         have := hp _ (an 0 rfl)
         show ef w S (.slice ad (chS ad x.objs.l.length t.mC).l.length x.objs.l.length) (.sl ((chS ad x.objs.l.length t.mC).l.map slR))
         rw [hl, List.map_map]; exact this
     · rw [hb]
       show _ = Value.tuple #[.slice ad (chS ad x.objs.l.length t.mC).l.length x.objs.l.length, _, _]
       rw [hl]; rfl
     · rw [if_pos hb]
       show List.map (fun s : Sl aO => s.l) ((List.range x.objs.l.length).map (cn t.mC)) = _
       rw [List.map_map]
       unfold iE iy
       refine List.map_congr_left fun i hi => ?_
       show (cn t.mC i).l = _
       rw [hT.rows, show aW x.objs.l = bQ x.objs.l x.objs.l.length from rfl, gJ, if_pos (List.mem_range.1 hi)]
end Go.Proofs.YtgmiihmahaahiaaGreatDoor

namespace Go.Proofs.YtgmiihmahaahiaaGreatDoor
open Go.RowKit Go.Lp Go.Sy Go.Sort
open Go.Proofs.Tryz
attribute [local irreducible] aL aB awp aC fwp
def vr (p q : bk) : Int := if kY p.name q.name ≠ 0 then kY p.name q.name else kY p.version q.version
theorem rh (a b : ByteArray) : kY a b < 0 ↔ sLt a b := by
 unfold kY
 split
 · simp [*]
 · split <;> simp [*]
theorem tV (a b : ByteArray) : kY a b = 0 ↔ a = b := by
 unfold kY
 rcases lx a b with h | h | h
 · rw [if_pos h]
   exact ⟨fun h => by omega, fun e => (gE b (e ▸ h)).elim⟩
 · subst h; rw [if_neg (gE _), if_neg (gE _)]; simp
 · rw [if_neg (oz h), if_pos h]
   exact ⟨fun h => by omega, fun e => (gE b (e ▸ h)).elim⟩
theorem pY (p q : bk) : vr p q < 0 ↔ kLt p.key q.key := by
 unfold vr kLt
 have h1 := rh p.name q.name
 have h2 := tV p.name q.name
 have h3 := rh p.version q.version
 show _ ↔ sLt p.name q.name ∨ p.name = q.name ∧ sLt p.version q.version
 rw [← h1, ← h2, ← h3]
 split <;> omega
theorem kB (p q : bk) : ltOf vr p q = decide (kLt p.key q.key) := by
 unfold ltOf; rw [Bool.eq_iff_iff, decide_eq_true_eq, decide_eq_true_eq, pY]
theorem xH : SWO (ltOf vr) where
 irrefl x := by rw [kB, decide_eq_false_iff_not]; exact ly _
 trans x y z h1 h2 := by rw [kB, decide_eq_true_eq] at *; exact iT h1 h2
 ntrans x y z h1 h2 := by
   rw [kB, decide_eq_false_iff_not] at *
   intro h
   rcases oL x.key y.key with h3 | h3 | h3
   · exact h1 h3
   · rw [h3] at h; exact h2 h
   · exact h2 (iT h3 h)
theorem xh (p q : bk) : Con Tryz.prog 43 [p.val, q.val] [] [] (fun r _ _ => r = .int .i64 (vr p q)) := by
 refine Con.enter Tryz.func43 rfl (by simp [Tryz.ntmps43]) ?_
 show awp _ _ _ _ ⟨[(0, true, _), (1, true, _)], _, _⟩
 refine aSR ?_
 refine aj (q := true) rfl (bI rfl rfl rfl (fun b0_0 => ?_))
 refine aHN ?_
 refine aj (q := true) rfl (bI rfl rfl rfl (fun b0_1 => ?_))
 refine aHN ?_
 refine aA rfl (aNs ?_)
 refine aX [11] (by kernel_rfl) ?_
 show aB _ _ _ _ _ 13 #[false, false, false, false, false, false, false, false, false, false, false, false, false] _
 refine bV 0 rfl rfl (qFA (off := 0) rfl) ?_
 refine bV 1 rfl rfl (ab 0 tk9 rfl rfl rfl) ?_
 refine bV 2 rfl rfl (qFA (off := 0) rfl) ?_
 refine bV 3 rfl rfl (ab 1 tk9 rfl rfl rfl) ?_
 refine bV 4 rfl rfl (bw (by kernel_rfl) rfl (fun w S fp hst => (mi _ _).quiet0 hst)) ?_
 refine bV 5 rfl rfl (qFA (off := 1) rfl) ?_
 refine bV 6 rfl rfl (ab 0 tk9 rfl rfl rfl) ?_
 refine bV 7 rfl rfl (qFA (off := 1) rfl) ?_
 refine bV 8 rfl rfl (ab 1 tk9 rfl rfl rfl) ?_
 refine bV 9 rfl rfl (bw (by kernel_rfl) rfl (fun w S fp hst => (mi _ _).quiet0 hst)) ?_
 refine bM (q := true) 10 rfl (by kernel_rfl) rfl rfl (cG (zs := [.int .i64 0]) (l := [(0, .tmp 9), (1, .tmp 14)]) el90 (by kernel_rfl) (by decide) (by decide) (by decide) rfl rfl rfl (.more rfl (.v rfl .nil) (.more rfl (.v rfl .nil) .nil)) rfl rfl (fun v1_10 => ?_))
 refine bST rfl ?_
 refine bM (q := false) 11 rfl (by kernel_rfl) rfl rfl (bF [] [2] (by kernel_rfl) rfl rfl rfl rfl ((tG (.slice v1_10 2 2) _ _).clean (φ := fun r => r = _) (fun _ _ _ h => h)) ?_)
 rintro _ _ _ ⟨rfl, rfl, rfl⟩
 refine bST rfl ?_
 refine bV 12 rfl rfl (bJ rfl) ?_
 refine bD (by kernel_rfl) ?_
 refine av (aq ?_)
 refine aV [] [] rfl Tryz.results43 rfl ?_ (.inr rfl)
 rfl
theorem vb (v : Value) (zs : List bk) (hz : zs.length ≤ 1000) : Con Tryz.prog 42 [v, .func (.func 43) #[] #[]] [] [bA v 46 7 (zs.map bk.row)]
   fun _ ps hp => ps = [] ∧ ∃ q : List bk, q.Perm zs ∧ (q.Pairwise fun a b => ¬ kLt b.key a.key) ∧ hp = [bA v 46 7 (q.map bk.row)] :=
 (nS (enc := bk.vs) Tryz.sortO (by decide) Tryz.isAgg46 Tryz.sizeOf46 (fun _ => rfl) (fun x v hv => by simp at hv; rcases hv with rfl | rfl | rfl | rfl | rfl | rfl | rfl <;> rfl) vr xH 43 (by kernel_rfl) (fun x y => xh x y) (T := 46) (v := v) zs (by omega)).post
   fun _ _ _ ⟨h1, q, h2, h3, h4⟩ => ⟨h1, q, h2, h3.imp fun h => by rw [pY] at h; exact h, h4⟩
def qM (S : List (Sl aO)) (L : List Dfn) (d : Dfn) : Bool :=
 (decide ((elt (elt S d.p.obj).l d.p.sym).kind = 2) || decide ((elt (elt S d.p.obj).l d.p.sym).kind = 3)) && (decide ((elt (elt S d.p.obj).l d.p.sym).obj = d.p.obj) && (decide ((elt (elt S d.p.obj).l d.p.sym).sym = d.p.sym) && decide (fB L d.s.name ≠ 2)))
def iF (S : List (Sl aO)) (L M : List Dfn) : List bk := (M.filter (qM S L)).map jg
theorem uN (S : List (Sl aO)) (L M : List Dfn) (d : Dfn) : iF S L (M ++ [d]) = if qM S L d = true then iF S L M ++ [jg d] else iF S L M := by
 unfold iF
 rw [List.filter_append, List.map_append]
 by_cases h : qM S L d = true
 · rw [if_pos h, List.filter_cons_of_pos h]; rfl
 · rw [if_neg h, List.filter_cons_of_neg h]; simp
theorem pH (S : List (Sl aO)) (L M : List Dfn) : (iF S L M).length ≤ M.length := by
 unfold iF; rw [List.length_map]; exact List.length_filter_le _ _
theorem jJ (os : Sl ax) (kp : List (Sl Bool)) (kv : Value) (hok : ew os.l kp) (S : Sl (Sl aO)) (hS : S.l.length = os.l.length) (hR : ∀ i : Nat, i < os.l.length → (elt S.l (i : Int)).l.length = (elt os.l (i : Int)).syms.l.length) :
   Con Tryz.prog 18 [os.val, kv, S.val] [ShF ax.row os, bP ax.ok os.l, bP (ShF aO.row) S.l, ShF slR S] [] fun r ps hp => ps = [] ∧ ∃ (v : Value) (q : List bk), r = v ∧ q.Perm (iF S.l (aW os.l) (aW os.l)) ∧ (q.Pairwise fun a b => ¬ kLt b.key a.key) ∧ hp = [bA v 46 7 (q.map bk.row)] := by
 have hfl := gW hok
 have hpre : ∀ (i k : Nat) (o : ax), i < os.l.length → elt os.l (i : Int) = o → k ≤ o.syms.l.length → (bQ os.l i ++ cu (i : Int) (o.syms.l.take k)).length ≤ 70 := fun i k o hi ho hk => by
   obtain ⟨M, hM⟩ := gj os.l (i := i + 1) (n := os.l.length) (by omega)
   obtain ⟨M2, hM2⟩ := iB (i : Int) o.syms.l k
   have : aW os.l = (bQ os.l i ++ cu (i : Int) (o.syms.l.take k)) ++ (M2 ++ M) := by
     unfold aW; rw [hM, cq, ho, hM2]; simp
   rw [this, List.length_append] at hfl; omega
 generalize hL : aW os.l = L at hfl
 refine Con.enter Tryz.func18 rfl (by simp [Tryz.ntmps18]) ?_
 show awp _ _ _ _ ⟨[(0, true, _), (1, true, _), (2, true, _)], _, _⟩
 refine bd (.of (an 0 rfl)) (fun hlen => ?_)
 refine aSR (aA rfl (aNn (aSR (aA rfl ?_))))
 refine aNs (az (eb 46 7 ?_))
 show awp _ _ _ _ ⟨_, _, [_]⟩
 refine ae (aM rfl (aU rfl (aZ Tryz.underlying22 rfl) (aM rfl (aNn (aw (aP [0, 2, 7, 13, 14, 15] [3, 2, 1, 0] [0] (fun (q : Nat × Value) st => q.1 ≤ os.l.length ∧ st = ⟨[(0, true, os.val), (2, true, S.val), (7, true, q.2), (13, true, os.val), (14, true, .int .i64 os.l.length), (15, true, .int .i64 q.1)], [ShF ax.row os, bP ax.ok os.l, bP (ShF aO.row) S.l, ShF slR S], [bA q.2 46 7 ((iF S.l L (bQ os.l q.1)).map bk.row)]⟩) (fun q => os.l.length - q.1) rfl (⟨(0, _), Nat.zero_le _, rfl⟩) ?_))))))
 rintro ⟨i, v⟩ st ⟨hi, rfl⟩
 dsimp only at hi
 refine aSR (aU rfl (bt rfl rfl) (aNs ?_))
 refine ah _ rfl (fun h1 => ?_) (fun h1 => ?_)
 ·skip
  have hi' : i < os.l.length := by simp at h1; omega
  have ho := bN hi'
  have hsi := bN (l := S.l) (i := i) (by omega)
  have hri := hR i hi'
  generalize hoo : elt os.l (i : Int) = o at ho hri
  refine au (av (az (aw (aSR (aM rfl ?_)))))
  refine ck true rfl rfl (fun _ => ai Tryz.underlying22 tk61 rfl ((.of (an 0 rfl))) rfl (aJ ho) rfl rfl) (fun h => absurd h (by decide)) (fun ⟨b4_1, o4_1⟩ => ?_)
  refine aU rfl (aF (o := 0) tk61 rfl (an 0 rfl) rfl rfl) ?_
  refine aj (q := true) rfl (bp (zs := [.string .empty, .slice none 0 0, .slice none 0 0, .slice none 0 0, .slice none 0 0, .slice none 0 0, .slice none 0 0, .slice none 0 0, .slice none 0 0, .slice none 0 0, .slice none 0 0]) (by kernel_rfl) rfl (fun b4_3 => ?_))
  refine aHN ?_
  refine aA rfl ?_
  refine aj rfl (aT 1 tk61 rfl rfl rfl rfl ?_)
  refine aHK ?_
  refine aNs ?_
  refine bd (ax.f_syms (Ent.all (.of (an 2 rfl)) ho)) (fun hlen2 => ?_)
  refine ae ?_
  refine aU rfl (qFA (off := 2) rfl) ?_
  refine aU rfl (ab 1 tk51 rfl rfl rfl) (aU rfl (aZ Tryz.underlying51 rfl) (aM rfl (aNn (aw ?_))))
  refine aP [0, 2, 7, 8, 13, 14, 15, 21, 22, 23] [3, 2, 1, 0] [0] (fun (q : Nat × Value) st => q.1 ≤ o.syms.l.length ∧ st = ⟨[(0, true, os.val), (2, true, S.val), (7, true, q.2), (8, true, .int .i64 i), (13, true, os.val), (14, true, .int .i64 os.l.length), (15, true, .int .i64 i), (21, true, o.syms.val), (22, true, .int .i64 o.syms.l.length), (23, true, .int .i64 q.1)], [ShF ax.row os, bP ax.ok os.l, bP (ShF aO.row) S.l, ShF slR S], [bA q.2 46 7 ((iF S.l L (bQ os.l i ++ cu (i : Int) (o.syms.l.take q.1))).map bk.row)]⟩) (fun q => o.syms.l.length - q.1) rfl (⟨(0, v), Nat.zero_le _, by dsimp only; rw [List.take_zero, show cu (i : Int) [] = [] from rfl, List.append_nil]; rfl⟩) ?_
  rintro ⟨k, v2⟩ st ⟨hk, rfl⟩
  dsimp only at hk
  refine aSR (aU rfl (bt rfl rfl) (aNs ?_))
  refine ah _ rfl (fun h2 => ?_) (fun h2 => ?_)
  ·skip
   have hk' : k < o.syms.l.length := by simp at h2; omega
   obtain ⟨s, hs'⟩ : ∃ s, o.syms.l[k]? = some s := ⟨_, List.getElem?_eq_getElem hk'⟩
   have hck := bN (l := (elt S.l (i : Int)).l) (i := k) (by omega)
   have hlM := hpre i k o hi' hoo hk
   have hst2 := pH S.l L (bQ os.l i ++ cu (i : Int) (o.syms.l.take k))
   have hstep := uN S.l L (bQ os.l i ++ cu (i : Int) (o.syms.l.take k)) ⟨⟨(i : Int), (k : Int)⟩, s⟩
   rw [List.append_assoc, ← dz hs'] at hstep
   refine au (av (az (aw (aSR (aM rfl ?_)))))
   refine ck true rfl rfl (fun _ => ai Tryz.underlying51 tk63 rfl ((ax.f_syms (Ent.all (.of (an 1 rfl)) ho))) rfl (aJ hs') rfl rfl) (fun h => absurd h (by decide)) (fun ⟨b7_1, o7_1⟩ => ?_)
   refine aU rfl (aF (o := 0) tk63 rfl (an 0 rfl) rfl rfl) ?_
   refine aj (q := true) rfl (bp (zs := [.string .empty, .string .empty, .bool false, .int .i64 0, .int .i64 0, .int .i64 0, .int .i64 0, .int .i64 0, .int .i64 0, .int .i64 0]) (by kernel_rfl) rfl (fun b7_3 => ?_))
   refine aHN ?_
   refine aA rfl ?_
   refine aj rfl (aT 1 tk63 rfl rfl rfl rfl ?_)
   refine aHK ?_
   refine aNn (aSR (aM rfl (aM rfl ?_)))
   refine ck true rfl rfl (fun _ => ai Tryz.underlying31 tk66 rfl ((.of (an 4 rfl))) rfl (aJ hsi) rfl rfl) (fun h => absurd h (by decide)) (fun ⟨b8_2, o8_2⟩ => ?_)
   refine aU rfl (aF (o := 0) tk66 rfl (an 0 rfl) rfl rfl) (aM rfl ?_)
   refine ck true rfl rfl (fun _ => ai Tryz.underlying66 tk65 rfl ((Ent.all (f := ShF aO.row) (.of (an 4 rfl)) hsi)) rfl (aJ hck) rfl rfl) (fun h => absurd h (by decide)) (fun ⟨b8_5, o8_5⟩ => ?_)
   refine aU rfl (aF (o := 0) tk65 rfl (an 0 rfl) rfl rfl) ?_
   refine aj (q := true) rfl (bp (zs := [.int .i64 0, .int .i64 0, .int .i64 0, .int .i64 0, .int .i64 0, .bool false]) (by kernel_rfl) rfl (fun b8_7 => ?_))
   refine aHN ?_
   refine aj rfl (aT 2 tk65 rfl rfl rfl rfl ?_)
   refine aHK ?_
   refine aNs (aSR ?_)
   refine aU rfl (qFA (off := 0) rfl) ?_
   refine aU rfl (ab 2 tk3 rfl rfl rfl) (aU rfl (cN rfl rfl) (aM rfl ?_))
   refine aG rfl rfl (fun hc => qFA (off := 0) rfl) ?_
   refine aG rfl rfl (fun hc => ab 2 tk3 (aa rfl hc) rfl rfl) (aG rfl rfl (fun hc => cN (aa rfl hc) rfl) (aU rfl (bn rfl rfl (fun h => gt rfl h)) (aM rfl ?_)))
   refine aG rfl rfl (fun hc => qFA (off := 1) rfl) ?_
   refine aG rfl rfl (fun hc => ab 2 tk3 (aa rfl hc) rfl rfl) (aG rfl rfl (fun hc => ar rfl) (aG rfl rfl (fun hc => cN (aa rfl hc) (aa rfl hc)) (aU rfl (ct rfl rfl (fun h => gf rfl h)) (aM rfl ?_))))
   refine aG rfl rfl (fun hc => qFA (off := 2) rfl) ?_
   refine aG rfl rfl (fun hc => ab 2 tk3 (aa rfl hc) rfl rfl) (aG rfl rfl (fun hc => ar rfl) (aG rfl rfl (fun hc => cN (aa rfl hc) (aa rfl hc)) (aU rfl (ct rfl rfl (fun h => gf rfl h)) (aM rfl (aG rfl rfl (fun hc => ar rfl) ?_)))))
   refine aG rfl rfl (fun hc => qFA (off := 0) rfl) ?_
   refine aG rfl rfl (fun hc => ab 1 tk9 (aa rfl hc) rfl rfl) ?_
   refine aG rfl rfl (fun hc => bw (by kernel_rfl) (aI (aa rfl hc) (aI (aa rfl hc) rfl)) (fun w S fp hst => (pC os s.name).quiet2 (an 3 rfl) (an 4 rfl) hst)) ?_
   refine aG rfl rfl (fun hc => bB (aa rfl hc) rfl) (aU rfl (ct rfl rfl (fun h => gf rfl h)) (aNn ?_))
   refine ah _ rfl (fun h3 => ?_) (fun h3 => ?_)
   ·skip
    have hc3 : ¬ qM S.l L ⟨⟨(i : Int), (k : Int)⟩, s⟩ = true := by
      rw [hL] at h3
      intro hs1
      unfold qM at hs1
      simp only [Bool.or_eq_true, Bool.and_eq_true, Bool.not_eq_true', decide_eq_true_eq, decide_eq_false_iff_not] at h3 hs1
      omega
    refine aR (aS (aY (av (ae ?_))))
    refine aU rfl (bf rfl rfl (by omega)) ?_
    refine aM rfl (aNn ?_)
    refine ⟨[0, 2, 7, 8, 13, 14, 15, 21, 22, 23], [3, 2, 1, 0], [0], rfl, ?_⟩
    exact ⟨(k + 1, v2), ⟨by dsimp only; omega, by dsimp only; rw [hstep, if_neg hc3]; rfl⟩, by dsimp only; omega⟩
   ·skip
    have hc3 : qM S.l L ⟨⟨(i : Int), (k : Int)⟩, s⟩ = true := by
      rw [hL] at h3
      unfold qM
      simp only [Bool.or_eq_false_iff, Bool.and_eq_false_iff, Bool.not_eq_false', Bool.or_eq_true, Bool.and_eq_true, decide_eq_true_eq, decide_eq_false_iff_not] at h3 ⊢
      omega
    refine au (av (ae (aM rfl ?_)))
    refine aU rfl (qFA (off := 0) rfl) ?_
    refine aU rfl (ab 1 tk9 rfl rfl rfl) ?_
    refine aU rfl (qFA (off := 1) rfl) ?_
    refine aU rfl (ab 1 tk9 rfl rfl rfl) ?_
    refine aU rfl (qFA (off := 1) rfl) ?_
    refine aU rfl (ab 1 tk9 rfl rfl rfl) (aU rfl (cZ rfl rfl) (aM rfl ?_))
    refine aG rfl rfl (fun hc => qFA (off := 2) rfl) ?_
    refine aG rfl rfl (fun hc => ab 1 tk4 (aa rfl hc) rfl rfl) (aU rfl (ct rfl rfl (fun h => gf rfl h)) ?_)
    refine aU rfl (qFA (off := 5) rfl) ?_
    refine aU rfl (ab 1 tk3 rfl rfl rfl) (aM rfl (aM rfl ?_))
    refine aU rfl (qFA (off := 3) rfl) ?_
    refine aU rfl (ab 1 tk3 rfl rfl rfl) (aU rfl (bB rfl rfl) ?_)
    refine aU rfl (cU (l := [(0, .tmp 64), (1, .tmp 66), (2, .tmp 73), (3, .tmp 75), (4, .tmp 76), (5, .tmp 77), (6, .tmp 80)]) (zs := [.string .empty, .string .empty, .bool false, .int .i64 0, .int .i64 0, .int .i64 0, .bool false]) (pl := [(0, 1), (1, 1), (2, 1), (3, 1), (4, 1), (5, 1), (6, 1)]) (by kernel_rfl) (by kernel_rfl) (by kernel_rfl) rfl rfl rfl) ?_
    refine aj (q := true) rfl (cG (zs := [.string .empty, .string .empty, .bool false, .int .i64 0, .int .i64 0, .int .i64 0, .bool false]) (l := [(0, .tmp 81)]) el41 (by kernel_rfl) (by decide) (by decide) (by decide) rfl rfl rfl (.more rfl (.v rfl (.v rfl (.v rfl (.v rfl (.v rfl (.v rfl (.v rfl .nil))))))) .nil) rfl rfl (fun v10_20 => ?_))
    refine aHN ?_
    refine aj rfl (cE 0 el41 rfl rfl rfl rfl (dH 3 el41 rfl (by simp)) (by first | assumption | simp) (by show ((iF S.l L (bQ os.l i ++ cu (i : Int) (o.syms.l.take k))).map bk.row).length + 1 ≤ _; rw [List.length_map]; exact Nat.le_trans (Nat.add_le_add_right (Nat.le_trans hst2 hlM) 1) (by decide)) ((iF S.l L (bQ os.l i ++ cu (i : Int) (o.syms.l.take k)) ++ [jg ⟨⟨(i : Int), (k : Int)⟩, s⟩]).length) (by show ((iF S.l L (bQ os.l i ++ cu (i : Int) (o.syms.l.take k))).map bk.row).length + 1 = _; rw [List.length_map, List.length_append]; rfl) (fun v10_21 c10_21 => ?_))
    refine aHK ?_
    refine aA rfl (cr (bu (av (ae ?_))))
    refine aU rfl (bf rfl rfl (by omega)) ?_
    refine aM rfl (aNn ?_)
    refine ⟨[0, 2, 7, 8, 13, 14, 15, 21, 22, 23], [3, 2, 1, 0], [0], rfl, ?_⟩
    exact ⟨(k + 1, _), ⟨by dsimp only; omega, by dsimp only; rw [hstep, if_pos hc3, List.map_append]; rfl⟩, by dsimp only; omega⟩
  ·skip
   refine aR (aS (aS (aY (bu (av (ae ?_))))))
   refine aU rfl (bf rfl rfl (by omega)) ?_
   refine aM rfl (aNn ?_)
   refine ⟨[0, 2, 7, 13, 14, 15], [3, 2, 1, 0], [0], rfl, ?_⟩
   dsimp only
   rw [List.take_of_length_le (by simp at h2; omega)]
   exact ⟨(i + 1, v2), ⟨by dsimp only; omega, by dsimp only; rw [cq, hoo]; rfl⟩, by dsimp only; omega⟩
 ·skip
  refine aR (aS (aS (aY (av (aSR (aM rfl ?_))))))
  refine aj (q := false) rfl (bF [] [0] (by kernel_rfl) rfl rfl rfl rfl (vb v (iF S.l L (bQ os.l i)) (Nat.le_trans (pH _ _ _) (by rw [show i = os.l.length by simp at h1; omega, show bQ os.l os.l.length = L from hL]; omega))) ?_)
  rintro _ _ _ ⟨rfl, q, hqp, hqs, rfl⟩
  refine aST ?_
  refine aNn (aSR (aM rfl (aA rfl (aNn (aq ?_)))))
  refine aV [] [0] rfl Tryz.results18 rfl ?_ (.inr rfl)
  refine ⟨rfl, _, q, rfl, ?_, hqs, rfl⟩
  rw [show i = os.l.length by simp at h1; omega, show bQ os.l os.l.length = L from hL] at hqp
  exact hqp
end Go.Proofs.YtgmiihmahaahiaaGreatDoor

namespace Go.Proofs.YtgmiihmahaahiaaGreatDoor
open Go.RowKit Go.Lp Go.Sy
open Go.Proofs.Tryz
attribute [local irreducible] aL aB awp aC fwp
structure uC (o : ax) : Prop where
 secs : o.secs.l.length ≤ 12
 syms : o.syms.l.length ≤ 12
 groups : o.groups.l.length ≤ 12
 inl : o.inlines.l.length ≤ 60
 rt : yZ o
structure xq (os : List ax) (ifs : List bC) (vs : List aH) : Prop where
 n : os.length ≤ 5
 o : ∀ o ∈ os, uC o
 ni : ifs.length ≤ 4
 nv : vs.length ≤ 8
 i : ∀ f ∈ ifs, f.exports.l.length ≤ 12 ∧ f.versions.l.length ≤ 8
theorem x6 (os : Sl ax) (ifs : Sl bC) (vs : Sl aH) : Con Tryz.prog 11 [os.val, ifs.val, vs.val] [dT, ShF ax.row os, bP ax.ok os.l, ShF bC.row ifs, bP bC.ok ifs.l, ShF aH.row vs] [] (YB (xq os.l ifs.l vs.l)) := by
 refine Con.enter Tryz.func11 rfl (by simp [Tryz.ntmps11]) ?_
 show awp _ _ _ _ ⟨[(0, true, _), (1, true, _), (2, true, _)], _, _⟩
 refine bd (.of (an 1 rfl)) (fun hlo => ?_)
 refine bd (.of (an 3 rfl)) (fun hli => ?_)
 refine bd (.of (an 5 rfl)) (fun hlv => ?_)
 refine aSR (aA rfl (aNs (aSR (aM rfl (aU rfl (aZ Tryz.underlying22 rfl) (aU rfl (du rfl rfl) (aM rfl (aG rfl rfl (fun hc => ar rfl) (aG rfl rfl (fun hc => aZ Tryz.underlying23 (aa rfl hc)) (aG rfl rfl (fun hc => du (aa rfl hc) rfl) (aU rfl (ct rfl rfl (fun h => gf rfl h)) ?_)))))))))))
 refine aM rfl (aG rfl rfl (fun hc => ar rfl) (aG rfl rfl (fun hc => aZ Tryz.underlying24 (aa rfl hc)) (aG rfl rfl (fun hc => du (aa rfl hc) rfl) (aU rfl (ct rfl rfl (fun h => gf rfl h)) (aNn ?_)))))
 refine ah _ rfl (fun h1 => ?_) (fun h1 => ?_)
 ·skip
  refine aSR (aA rfl (aNn (aq (aK ?_))))
  refine aV [] [] rfl Tryz.results11 rfl ?_ (.inr rfl)
  exact ⟨⟨rfl, rfl⟩, _, rfl, fun h => by cases h⟩
 ·skip
  have hb : os.l.length ≤ 5 ∧ ifs.l.length ≤ 4 ∧ vs.l.length ≤ 8 := by simp at h1; omega
  refine au (av (az (aSR (aA rfl (aNn (aw ?_))))))
  refine aP [0, 1, 2, 7] [5, 4, 3, 2, 1, 0] [] (fun (k : Nat) s => (k ≤ os.l.length ∧ ∀ o ∈ os.l.take k, uC o) ∧ s = ⟨[(0, true, os.val), (1, true, ifs.val), (2, true, vs.val), (7, true, .int .i64 k)], [dT, ShF ax.row os, bP ax.ok os.l, ShF bC.row ifs, bP bC.ok ifs.l, ShF aH.row vs], []⟩) (fun k => os.l.length - k) rfl (⟨0, ⟨Nat.zero_le _, fun o ho => by cases ho⟩, rfl⟩) ?_
  rintro k s ⟨⟨hk, hO⟩, rfl⟩
  refine az (aSR (aM rfl (aM rfl (aU rfl (aZ Tryz.underlying22 rfl) (aU rfl (bt rfl rfl) (aNn ?_))))))
  refine ah _ rfl (fun h2 => ?_) (fun h2 => ?_)
  ·skip
   have hk' : k < os.l.length := by simpa using h2
   obtain ⟨o, ho⟩ : ∃ o, os.l[k]? = some o := ⟨_, List.getElem?_eq_getElem hk'⟩
   refine au (av (az (aw (aSR (aM rfl (aM rfl ?_))))))
   refine ck true rfl rfl (fun _ => ai Tryz.underlying22 tk61 rfl ((.of (an 1 rfl))) rfl (aJ ho) rfl rfl) (fun h => absurd h (by decide)) (fun ⟨b6_2, o6_2⟩ => ?_)
   refine aU rfl (aF (o := 0) tk61 rfl (an 0 rfl) rfl rfl) ?_
   refine aj (q := true) rfl (bp (zs := [.string .empty, .slice none 0 0, .slice none 0 0, .slice none 0 0, .slice none 0 0, .slice none 0 0, .slice none 0 0, .slice none 0 0, .slice none 0 0, .slice none 0 0, .slice none 0 0]) (by kernel_rfl) rfl (fun b6_4 => ?_))
   refine aHN ?_
   refine aj rfl (aT 0 tk61 rfl rfl rfl rfl ?_)
   refine aHK ?_
   refine aNs ?_
   have hok : ∀ {ps : List Per}, Ent ps (bP ax.ok os.l) → Ent ps o.ok := fun h => Ent.all h ho
   refine bd (ax.f_secs (hok (.of (an 3 rfl)))) (fun e1 => ?_)
   refine bd (ax.f_syms (hok (.of (an 3 rfl)))) (fun e2 => ?_)
   refine bd (ax.f_rels (hok (.of (an 3 rfl)))) (fun e3 => ?_)
   refine bd (ax.f_groups (hok (.of (an 3 rfl)))) (fun e4 => ?_)
   refine bd (ax.f_lines (hok (.of (an 3 rfl)))) (fun e5 => ?_)
   refine bd (ax.f_inlines (hok (.of (an 3 rfl)))) (fun e6 => ?_)
   refine bd (ax.f_vars (hok (.of (an 3 rfl)))) (fun e7 => ?_)
   refine bd (ax.f_depths (hok (.of (an 3 rfl)))) (fun e8 => ?_)
   refine bd (ax.f_converts (hok (.of (an 3 rfl)))) (fun e9 => ?_)
   refine bd (ax.f_inits (hok (.of (an 3 rfl)))) (fun e10 => ?_)
   refine ae ?_
   refine aU rfl (qFA (off := 1) rfl) ?_
   refine aU rfl (ab 0 tk50 rfl rfl rfl) (aU rfl (aZ Tryz.underlying50 rfl) (aU rfl (du rfl rfl) (aM rfl ?_)))
   refine aG rfl rfl (fun hc => qFA (off := 2) rfl) ?_
   refine aG rfl rfl (fun hc => ab 0 tk51 (aa rfl hc) rfl rfl) (aG rfl rfl (fun hc => aZ Tryz.underlying51 (aa rfl hc)) (aG rfl rfl (fun hc => du (aa rfl hc) rfl) (aU rfl (ct rfl rfl (fun h => gf rfl h)) (aM rfl ?_))))
   refine aG rfl rfl (fun hc => qFA (off := 3) rfl) ?_
   refine aG rfl rfl (fun hc => ab 0 tk52 (aa rfl hc) rfl rfl) (aG rfl rfl (fun hc => aZ Tryz.underlying52 (aa rfl hc)) (aG rfl rfl (fun hc => du (aa rfl hc) rfl) (aU rfl (ct rfl rfl (fun h => gf rfl h)) (aM rfl ?_))))
   refine aG rfl rfl (fun hc => qFA (off := 4) rfl) ?_
   refine aG rfl rfl (fun hc => ab 0 tk53 (aa rfl hc) rfl rfl) (aG rfl rfl (fun hc => aZ Tryz.underlying53 (aa rfl hc)) (aG rfl rfl (fun hc => du (aa rfl hc) rfl) (aU rfl (ct rfl rfl (fun h => gf rfl h)) (aM rfl ?_))))
   refine aG rfl rfl (fun hc => qFA (off := 6) rfl) ?_
   refine aG rfl rfl (fun hc => ab 0 tk55 (aa rfl hc) rfl rfl) (aG rfl rfl (fun hc => aZ Tryz.underlying55 (aa rfl hc)) (aG rfl rfl (fun hc => du (aa rfl hc) rfl) (aU rfl (ct rfl rfl (fun h => gf rfl h)) (aM rfl ?_))))
   refine aG rfl rfl (fun hc => qFA (off := 7) rfl) ?_
   refine aG rfl rfl (fun hc => ab 0 tk56 (aa rfl hc) rfl rfl) (aG rfl rfl (fun hc => aZ Tryz.underlying56 (aa rfl hc)) (aG rfl rfl (fun hc => du (aa rfl hc) rfl) (aU rfl (ct rfl rfl (fun h => gf rfl h)) (aM rfl ?_))))
   refine aG rfl rfl (fun hc => qFA (off := 8) rfl) ?_
   refine aG rfl rfl (fun hc => ab 0 tk57 (aa rfl hc) rfl rfl) (aG rfl rfl (fun hc => aZ Tryz.underlying57 (aa rfl hc)) (aG rfl rfl (fun hc => du (aa rfl hc) rfl) (aU rfl (ct rfl rfl (fun h => gf rfl h)) (aM rfl ?_))))
   refine aG rfl rfl (fun hc => qFA (off := 9) rfl) ?_
   refine aG rfl rfl (fun hc => ab 0 tk58 (aa rfl hc) rfl rfl) (aG rfl rfl (fun hc => aZ Tryz.underlying58 (aa rfl hc)) (aG rfl rfl (fun hc => du (aa rfl hc) rfl) (aU rfl (ct rfl rfl (fun h => gf rfl h)) (aM rfl ?_))))
   refine aG rfl rfl (fun hc => qFA (off := 10) rfl) ?_
   refine aG rfl rfl (fun hc => ab 0 tk59 (aa rfl hc) rfl rfl) (aG rfl rfl (fun hc => aZ Tryz.underlying59 (aa rfl hc)) (aG rfl rfl (fun hc => du (aa rfl hc) rfl) (aU rfl (ct rfl rfl (fun h => gf rfl h)) (aM rfl ?_))))
   refine aG rfl rfl (fun hc => qFA (off := 5) rfl) ?_
   refine aG rfl rfl (fun hc => ab 0 tk54 (aa rfl hc) rfl rfl) (aG rfl rfl (fun hc => aZ Tryz.underlying54 (aa rfl hc)) (aG rfl rfl (fun hc => du (aa rfl hc) rfl) (aU rfl (ct rfl rfl (fun h => gf rfl h)) (aM rfl (aG rfl rfl (fun hc => ab 0 tk61 rfl rfl rfl) ?_)))))
   refine aQ (caps := []) [5, 3] (false) (by kernel_rfl) _ rfl rfl (fun _ => rfl) (fun hc => (aI (aa rfl hc) rfl)) (fun hc => by rw [List.append_nil]; exact (rN o (by simp at hc; exact ⟨by omega, by omega, by omega⟩)).pre (eD (.of (an 0 rfl)) (hok (.of (an 1 rfl))))) (fun c1 hc1 => ?_)
   refine aG rfl rfl (fun hc => bT (aa rfl hc)) (aU rfl (ct rfl rfl (fun h => gf rfl h)) (aNn ?_))
   refine ah _ rfl (fun h3 => ?_) (fun h3 => ?_)
   ·skip
    refine aSR (aA rfl (aNn (aq (bj (aK (aK (bj (aK ?_))))))))
    refine aV [] [] rfl Tryz.results11 rfl ?_ (.inr rfl)
    exact ⟨⟨rfl, rfl⟩, _, rfl, fun h => by cases h⟩
   ·skip
    have hfo : uC o := by
      rw [Bool.or_eq_false_iff] at h3
      have hrt := hc1 (by rw [h3.1]; rfl) (by simpa using h3.2)
      have h6 := h3.1
      simp only [Bool.or_eq_false_iff, decide_eq_false_iff_not] at h6
      exact ⟨by omega, by omega, by omega, by omega, hrt⟩
    refine au (bu (av (ae (aM rfl ?_))))
    refine aU rfl (bf rfl rfl (by omega)) ?_
    refine aA rfl (aNn ?_)
    refine ⟨[0, 1, 2, 7], [5, 4, 3, 2, 1, 0], [], rfl, ?_⟩
    refine ⟨k + 1, ⟨⟨by omega, fun o2 ho2 => ?_⟩, rfl⟩, by omega⟩
    rw [List.take_add_one, ho, List.mem_append] at ho2
    rcases ho2 with ho2 | ho2
    · exact hO o2 ho2
    · simp at ho2; subst ho2; exact hfo
  ·skip
   have hO2 : ∀ o ∈ os.l, uC o := by rw [List.take_of_length_le (by simpa using h2)] at hO; exact hO
   refine aR (aS (aS (aY (av (az (aSR (aA rfl (aNn (aw ?_)))))))))
   refine aP [1, 9] [5, 4, 3, 2, 1, 0] [] (fun (k : Nat) s => (k ≤ ifs.l.length ∧ ∀ f ∈ ifs.l.take k, f.exports.l.length ≤ 12 ∧ f.versions.l.length ≤ 8) ∧ s = ⟨[(1, true, ifs.val), (9, true, .int .i64 k)], [dT, ShF ax.row os, bP ax.ok os.l, ShF bC.row ifs, bP bC.ok ifs.l, ShF aH.row vs], []⟩) (fun k => ifs.l.length - k) rfl (⟨0, ⟨Nat.zero_le _, fun f hf => by cases hf⟩, rfl⟩) ?_
   clear hk hO
   rintro k s ⟨⟨hk, hI⟩, rfl⟩
   refine az (aSR (aM rfl (aM rfl (aU rfl (aZ Tryz.underlying23 rfl) (aU rfl (bt rfl rfl) (aNn ?_))))))
   refine ah _ rfl (fun h4 => ?_) (fun h4 => ?_)
   ·skip
    have hk' : k < ifs.l.length := by simpa using h4
    obtain ⟨f, hf⟩ : ∃ f, ifs.l[k]? = some f := ⟨_, List.getElem?_eq_getElem hk'⟩
    refine au (av (az (aw (az ?_))))
    refine bd (bC.f_exports (Ent.all (.of (an 4 rfl)) hf)) (fun e1 => ?_)
    refine bd (bC.f_versions (Ent.all (.of (an 4 rfl)) hf)) (fun e2 => ?_)
    refine ae (aM rfl (aM rfl ?_))
    refine ck true rfl rfl (fun _ => ai Tryz.underlying23 tk73 rfl ((.of (an 3 rfl))) rfl (aJ hf) rfl rfl) (fun h => absurd h (by decide)) (fun ⟨b12_2, o12_2⟩ => ?_)
    refine aU rfl (qFA (off := 1) rfl) ?_
    refine aU rfl (aF (o := 1) tk71 rfl (an 0 rfl) rfl rfl) (aU rfl (aZ Tryz.underlying71 rfl) (aU rfl (du rfl rfl) (aM rfl (aG rfl rfl (fun hc => ar rfl) (aG rfl rfl (fun hc => ar rfl) ?_)))))
    refine ck _ rfl rfl (fun hc => ai Tryz.underlying23 tk73 (aa rfl hc) ((.of (an 4 rfl))) (aa rfl hc) (aJ hf) rfl rfl) (fun _ => ⟨(0, 0)⟩) (fun ⟨b12_10, o12_10⟩ => ?_)
    refine aG rfl rfl (fun hc => qFA (off := 2) (aa rfl hc)) ?_
    refine aG rfl rfl (fun hc => aF (o := 2) tk24 (aa rfl hc) (an 0 rfl) hc rfl) (aG rfl rfl (fun hc => aZ Tryz.underlying24 (aa rfl hc)) (aG rfl rfl (fun hc => du (aa rfl hc) rfl) (aU rfl (ct rfl rfl (fun h => gf rfl h)) (aNn ?_))))
    refine ah _ rfl (fun h5 => ?_) (fun h5 => ?_)
    ·skip
     refine aSR (aA rfl (aNn (aq (bj (aK (aK (bj (aK ?_))))))))
     refine aV [] [] rfl Tryz.results11 rfl ?_ (.inr rfl)
     exact ⟨⟨rfl, rfl⟩, _, rfl, fun h => by cases h⟩
    ·skip
     have hff : f.exports.l.length ≤ 12 ∧ f.versions.l.length ≤ 8 := by simp at h5; omega
     refine au (bu (av (ae (aM rfl ?_))))
     refine aU rfl (bf rfl rfl (by omega)) ?_
     refine aA rfl (aNn ?_)
     refine ⟨[1, 9], [5, 4, 3, 2, 1, 0], [], rfl, ?_⟩
     refine ⟨k + 1, ⟨⟨by omega, fun f2 hf2 => ?_⟩, rfl⟩, by omega⟩
     rw [List.take_add_one, hf, List.mem_append] at hf2
     rcases hf2 with hf2 | hf2
     · exact hI f2 hf2
     · simp at hf2; subst hf2; exact hff
   ·skip
    refine aR (aS (aS (aY (av (aSR (aA rfl (aNn (aq ?_))))))))
    refine aV [] [] rfl Tryz.results11 rfl ?_ (.inr rfl)
    refine ⟨⟨rfl, rfl⟩, _, rfl, fun _ => ⟨hb.1, hO2, hb.2.1, hb.2.2, ?_⟩⟩
    rw [List.take_of_length_le (by simpa using h4)] at hI; exact hI
def Fits (os : List ax) (S : List (Sl aO)) : Prop := S.length = os.length ∧ ∀ i : Nat, i < os.length → (elt S (i : Int)).l.length = (elt os (i : Int)).syms.l.length
end Go.Proofs.YtgmiihmahaahiaaGreatDoor

namespace Go.Sy
open Go.RowKit Go.Lp
section
variable {P : Program}
def x9 (P : Program) (f : Field) : Option (Nat × Nat) :=
 match P.underlying f.type with
 | some (.int _) => some (f.offset, 0)
 | some .bool => some (f.offset, 1)
 | some .string => some (f.offset, 2)
 | _ => none
def ry (k : Nat) (v : Option Value) : Bool := match v with
 | some (.int .i64 _) => k == 0
 | some (.bool _) => k == 1
 | some (.string _) => k == 2
 | _ => false
def qX (a b : Option Value) : Bool := match a, b with
 | some (.int _ x), some (.int _ y) => decide (x = y)
 | some (.bool x), some (.bool y) => decide (x = y)
 | some (.string x), some (.string y) => decide (x = y)
 | _, _ => true
def wK (xs : Array Value) (l : List (Nat × Nat)) : Bool := l.all fun o => ry o.2 xs[o.1]?
def sI (xs ys : Array Value) (l : List (Nat × Nat)) : Bool := l.all fun o => qX xs[o.1]? ys[o.1]?
theorem rj {v : Option Value} (h : ry 0 v = true) : ∃ a, v = some (.int .i64 a) := by
 unfold ry at h
 split at h
 · exact ⟨_, rfl⟩
 · cases h
 · cases h
 · cases h
theorem nh {v : Option Value} (h : ry 1 v = true) : ∃ a, v = some (.bool a) := by
 unfold ry at h
 split at h
 · cases h
 · exact ⟨_, rfl⟩
 · cases h
 · cases h
theorem qd {v : Option Value} (h : ry 2 v = true) : ∃ a, v = some (.string a) := by
 unfold ry at h
 split at h
 · cases h
 · cases h
 · exact ⟨_, rfl⟩
 · cases h
theorem gG (d : Nat) (xs ys : Array Value) : ∀ (fs : List Field) (l : List (Nat × Nat)) (w : World), fs.all (fun f => decide (f.name ≠ "_")) = true → fs.mapM (x9 P) = some l → wK xs l = true → wK ys l = true →
   (Op.eqFields (d + 1) xs ys fs).run P w = .ok (sI xs ys l) w
 | [], l, w, _, h, _, _ => by
   have : l = [] := by simpa using h.symm
   subst this; rfl
 | f :: fs, l, w, hn, h, hx, hy => by
   simp only [List.all_cons, Bool.and_eq_true, decide_eq_true_eq] at hn
   cases h1 : x9 P f with
   | none => simp [List.mapM_cons, h1] at h
   | some o =>
     cases h2 : fs.mapM (x9 P) with
     | none => simp [List.mapM_cons, h1, h2] at h
     | some l2 =>
       obtain rfl : l = o :: l2 := by simpa [List.mapM_cons, h1, h2] using h.symm
       simp only [wK, List.all_cons, Bool.and_eq_true] at hx hy
       have ih := gG d xs ys fs l2 w hn.2 h2 hx.2 hy.2
       have fin : ∀ (a b : Value), P.plainKey f.type = true → xs[f.offset]? = some a → ys[f.offset]? = some b → (Op.equalIn (d + 1) f.type a b).run P w = .ok (qX (some a) (some b)) w → o.1 = f.offset → (Op.eqFields (d + 1) xs ys (f :: fs)).run P w = .ok (sI xs ys (o :: l2)) w := fun a b hp g1 g2 g3 ho => by
         simp only [Op.eqFields, if_pos hn.1, Sem.run_bind, run_part_plain w hp g1, run_part_plain w hp g2, g3, Result.andThen_ok, Sem.run_ite, Sem.run_pure, ih]
         simp only [sI, List.all_cons, ho, g1, g2]
         cases qX (some a) (some b) <;> simp
       unfold x9 at h1
       split at h1
       · rename_i k hk
         obtain rfl := Option.some.inj h1
         obtain ⟨a, ha⟩ := rj hx.1
         obtain ⟨b, hb⟩ := rj hy.1
         refine fin _ _ (by unfold Program.plainKey; rw [hk]) ha hb ?_ rfl
         rw [run_equalIn_int w d f.type .i64 k _ _ hk]; rfl
       · rename_i hk
         obtain rfl := Option.some.inj h1
         obtain ⟨a, ha⟩ := nh hx.1
         obtain ⟨b, hb⟩ := nh hy.1
         refine fin _ _ (by unfold Program.plainKey; rw [hk]) ha hb ?_ rfl
         rw [run_equalIn_bool' w d f.type _ _ hk]; congr 1
       · rename_i hk
         obtain rfl := Option.some.inj h1
         obtain ⟨a, ha⟩ := qd hx.1
         obtain ⟨b, hb⟩ := qd hy.1
         refine fin _ _ (by unfold Program.plainKey; rw [hk]) ha hb ?_ rfl
         rw [run_equalIn_string w d f.type _ _ hk, pg]; rfl
       · cases h1
end
end Go.Sy

namespace Go.Proofs.YtgmiihmahaahiaaGreatDoor
open Go.RowKit Go.Lp Go.Sy
open Go.Proofs.Tryz
theorem lA {P : Program} {v : Value} {f : FuncId} {args : List Value} {p q r : Per} (h : Con P f args [p, q, r] [] fun u _ _ => u = v) {w : World} {S : bz} {fp : Nat → bz} {ps' : List Per} {hp : List Res} (hp1 : p ∈ ps') (hq1 : q ∈ ps') (hr1 : r ∈ ps') (hst : St w S fp ps' hp) :
   Calls P f args.toArray w fun e w' => e = .returned v ∧ Go.Sy.Below w.heap.size w w' := h.quiet (fun _ h => by
     rcases List.mem_cons.1 h with rfl | h
     · exact hp1
     · rcases List.mem_cons.1 h with rfl | h
       · exact hq1
       · rw [List.mem_singleton.1 h]; exact hr1) hst
theorem uh {os : List ax} {kp : List (Sl Bool)} {sv : ByteArray → ByteArray → Bool} {lf : ByteArray → ByteArray → Int} {lib : Bool} {i : Nat} (hi : i < os.length) :
   (iE os kp sv lf lib)[i]? = some (iy kp (aW os) sv lf lib (cu (i : Int) (elt os (i : Int)).syms.l)) := by
 unfold iE
 rw [List.getElem?_map, List.getElem?_range hi]; rfl
theorem rowD_get? {i : Int} {l : List bg} {k : Nat} {s : bg} (h : l[k]? = some s) : (cu i l)[k]? = some ⟨⟨i, (k : Int)⟩, s⟩ := by
 unfold cu
 rw [List.getElem?_map, List.getElem?_zipIdx, h]; simp
structure zx (os : List ax) (kp : List (Sl Bool)) (sv : ByteArray → ByteArray → Bool) (lf : ByteArray → ByteArray → Int) (lib : Bool) (S : List (Sl aO)) : Prop where
 fits : Fits os S
 rb : RB kp (aW os) sv lf lib
 get : ∀ (i k : Nat) (s : bg) (r : Sl aO), (elt os (i : Int)).syms.l[k]? = some s → S[i]? = some r → r.l[k]? = some (chD kp (aW os) sv lf lib ⟨⟨(i : Int), (k : Int)⟩, s⟩)
theorem yu {os : List ax} {kp : List (Sl Bool)} {sv : ByteArray → ByteArray → Bool} {lf : ByteArray → ByteArray → Int} {lib : Bool} {S : List (Sl aO)}
   (hS : S.map (·.l) = if cI kp (aW os) sv lf lib = none then iE os kp sv lf lib else []) (hb : cI kp (aW os) sv lf lib = none) : zx os kp sv lf lib S := by
 rw [if_pos hb] at hS
 have hl : S.length = os.length := by
   have := congrArg List.length hS
   rw [List.length_map] at this
   rw [this]; unfold iE; simp
 have row : ∀ (i : Nat) (r : Sl aO), S[i]? = some r → r.l = iy kp (aW os) sv lf lib (cu (i : Int) (elt os (i : Int)).syms.l) := fun i r hr => by
   have hi := (List.getElem?_eq_some_iff.1 hr).1
   have h1 : (S.map (·.l))[i]? = some r.l := by rw [List.getElem?_map, hr]; rfl
   rw [hS, uh (by omega)] at h1
   exact (Option.some.inj h1).symm
 refine ⟨⟨hl, fun i hi => ?_⟩, .of (ed _ _) hb, fun i k s r hs hr => ?_⟩
 · rw [row i _ (bN (by omega))]
   unfold iy cu; simp
 · rw [row i r hr]
   unfold iy
   rw [List.getElem?_map, rowD_get? hs]; rfl
theorem xT {kp : List (Sl Bool)} {L : List Dfn} {sv : ByteArray → ByteArray → Bool} {lf : ByteArray → ByteArray → Int} {lib : Bool} (h : lB (cI kp L sv lf lib) = 0) : cI kp L sv lf lib = none := by
 rcases qO (kp := kp) (L := L) (sv := sv) (lf := lf) (lib := lib) with ⟨p, h1, _⟩ | ⟨_, _, ⟨p, h1⟩ | h1⟩
 · rw [h1] at h; simp [lB] at h
 · rw [h1] at h; simp [lB] at h
 · exact h1
structure G13 where
 os : Sl ax
 lib : Bool
 ifs : Sl bC
 vs : Sl aH
def G13.ok (x : G13) : Per := cx dT (cx dm (cx dn (cx (ShF ax.row x.os) (cx (bP ax.ok x.os.l) (cx (ShF bC.row x.ifs) (cx (bP bC.ok x.ifs.l) (cx (ShF aH.row x.vs) (bP aH.ok x.vs.l))))))))
section
variable {ps : List Per} {x : G13} (h : Ent ps x.ok)
include h
theorem G13.forms : Ent ps dT := h.left
theorem G13.turns : Ent ps dm := h.right.left
theorem G13.cons : Ent ps dn := h.right.right.left
theorem G13.f_os : Ent ps (ShF ax.row x.os) := h.right.right.right.left
theorem G13.f_osA : Ent ps (bP ax.ok x.os.l) := h.right.right.right.right.left
theorem G13.f_ifs : Ent ps (ShF bC.row x.ifs) := h.right.right.right.right.right.left
theorem G13.f_ifsA : Ent ps (bP bC.ok x.ifs.l) := h.right.right.right.right.right.right.left
theorem G13.f_vs : Ent ps (ShF aH.row x.vs) := h.right.right.right.right.right.right.right.left
end
theorem uq (x : G13) : Con Tryz.prog 11 [x.os.val, x.ifs.val, x.vs.val] [x.ok] [] (YB (xq x.os.l x.ifs.l x.vs.l)) :=
 (x6 x.os x.ifs x.vs).pre fun p hp => by
   have h : Ent [x.ok] x.ok := .of (an 0 rfl)
   simp only [List.mem_cons, List.not_mem_nil, or_false] at hp
   rcases hp with rfl | rfl | rfl | rfl | rfl | rfl
   · exact G13.forms h
   · exact G13.f_os h
   · exact G13.f_osA h
   · exact G13.f_ifs h
   · exact G13.f_ifsA h
   · exact G13.f_vs h
theorem uC.few {o : ax} (h : uC o) : sP o := ⟨by have := h.secs; omega, by have := h.groups; omega, by have := h.inl; omega⟩
theorem sG (x : G13) (hf : xq x.os.l x.ifs.l x.vs.l) :
   Con Tryz.prog 12 [x.os.val] [x.ok] [] fun r ps hp => hp = [] ∧ ∃ (K : Sl (Sl Bool)) (dv : Value), r = .tuple #[K.val, dv] ∧ ew x.os.l K.l ∧ ps = [bP (ShF bR) K.l, ShF slR K] := by
 refine ((wA x.os (by have := hf.n; omega) (fun o ho => (hf.o o ho).few) (fun o ho => (hf.o o ho).rt)).pre fun p hp => ?_).post ?_
 · have h : Ent [x.ok] x.ok := .of (an 0 rfl)
   simp only [List.mem_cons, List.not_mem_nil, or_false] at hp
   rcases hp with rfl | rfl | rfl | rfl
   · exact G13.cons h
   · exact G13.turns h
   · exact G13.f_os h
   · exact G13.f_osA h
 · rintro r ps hp ⟨h1, K, dv, h2, h3, h4, h5⟩
   exact ⟨h1, K, dv, h2, ⟨hf.n, fun o ho => by have := (hf.o o ho).syms; omega, h3, h4, fun o ho => (hf.o o ho).rt.syms⟩, h5⟩
abbrev G13.ln (x : G13) (K : Sl (Sl Bool)) : br := ⟨x.os, K, x.lib, x.ifs, x.vs, 0, 0, 0, 0⟩
theorem sr (x : G13) (K : Sl (Sl Bool)) (hok : ew x.os.l K.l) :
   Con Tryz.prog 13 [x.os.val, K.val, .bool x.lib, x.ifs.val, x.vs.val] [bP (ShF bR) K.l, ShF slR K, x.ok] [] fun r ps hp => hp = [] ∧ ∃ S : Sl (Sl aO), ps = [bP (ShF aO.row) S.l, ShF slR S] ∧
     r = .tuple #[S.val, .int .i64 (lB (cI K.l (aW x.os.l) (di x.vs.l) (cA x.ifs.l) x.lib)), (kz (cI K.l (aW x.os.l) (di x.vs.l) (cA x.ifs.l) x.lib)).val] ∧
     S.l.map (·.l) = if cI K.l (aW x.os.l) (di x.vs.l) (cA x.ifs.l) x.lib = none then iE x.os.l K.l (di x.vs.l) (cA x.ifs.l) x.lib else [] :=
 (vG (x.ln K) hok (di x.vs.l) fun _ _ => iQ).pre fun p hp => by
   rw [List.mem_singleton.1 hp]
   intro w S hps
   have h := hps _ (an 2 rfl)
   exact ⟨h.2.2.2.1, h.2.2.2.2.1, hps _ (an 1 rfl), hps _ (an 0 rfl), h.2.2.2.2.2.1, h.2.2.2.2.2.2.1, h.2.2.2.2.2.2.2.1, h.2.2.2.2.2.2.2.2⟩
theorem tL (x : G13) (n : ByteArray) : Con Tryz.prog 16 [x.os.val, .string n] [x.ok] [] (fun r _ _ => r = .int .i64 (fB (aW x.os.l) n)) :=
 (pC x.os n).pre fun p hp => by
   have h : Ent [x.ok] x.ok := .of (an 0 rfl)
   simp only [List.mem_cons, List.not_mem_nil, or_false] at hp
   rcases hp with rfl | rfl
   · exact G13.f_os h
   · exact G13.f_osA h
theorem eqC (x y : aO) : sI x.vs.toArray y.vs.toArray [(0, 0), (1, 0), (2, 0), (3, 0), (4, 0), (5, 1)] = decide (x = y) := by
 cases x; cases y
 rw [Bool.eq_iff_iff, decide_eq_true_eq]
 simp [sI, qX]
section
variable {n : Fr} {s : Sta} {d : Option Tmp} {ty : TypeId} {pos : String} {af : Array Edge} {gd : Option (Nat × Bool)} {X Y : Operand} {t' : TypeId}
theorem y5 (x y : aO) (hx : ev s.env X = some (true, x.val)) (hy : ev s.env Y = some (true, y.val)) : Quiet Tryz.prog n ⟨d, .binOp .neq 65 X Y t', ty, pos, af, gd⟩ s (.bool (!decide (x = y))) := by
 have h := si (P := Tryz.prog) (n := n) (d := d) (ty := ty) (pos := pos) (af := af) (gd := gd) (t' := t') (t := 65) (xs := x.vs.toArray) (ys := y.vs.toArray) (by kernel_rfl) (by kernel_rfl) (by kernel_rfl) (fun w => gG 9998 _ _ _ [(0, 0), (1, 0), (2, 0), (3, 0), (4, 0), (5, 1)] w (by kernel_rfl) (by kernel_rfl) rfl rfl) hx hy
 rw [eqC] at h; exact h
theorem kq (x y : aO) (hx : ev s.env X = some (true, x.val)) (hy : ev s.env Y = some (true, y.val)) : Quiet Tryz.prog n ⟨d, .binOp .eql 65 X Y t', ty, pos, af, gd⟩ s (.bool (decide (x = y))) := by
 have h := mo (P := Tryz.prog) (n := n) (d := d) (ty := ty) (pos := pos) (af := af) (gd := gd) (t' := t') (t := 65) (xs := x.vs.toArray) (ys := y.vs.toArray) (by kernel_rfl) (by kernel_rfl) (by kernel_rfl) (fun w => gG 9998 _ _ _ [(0, 0), (1, 0), (2, 0), (3, 0), (4, 0), (5, 1)] w (by kernel_rfl) (by kernel_rfl) rfl rfl) hx hy
 rw [eqC] at h; exact h
end
end Go.Proofs.YtgmiihmahaahiaaGreatDoor

namespace Go.Sy
open Go.RowKit
mutual
/-- the cells of a datum of bools, integers, strings, arrays and structs -/
def gq {H : Type} : DataW H → Option (List Value)
 | .lit (.string bs) => some [.string ⟨bs.toArray⟩]
 | .lit (.int k n) => some [.int k n]
 | .lit (.bool b) => some [.bool b]
 | .agg ps => litAll ps
 | _ => none
def litAll {H : Type} : List (DataW H) → Option (List Value)
 | [] => some []
 | d :: ds => match gq d, litAll ds with
   | some a, some b => some (a ++ b)
   | _, _ => none
end
section
variable (P : Program)
def rdA : Nat → TypeId → Bool
 | 0, _ => false
 | k + 1, t => match P.underlying t with
   | some .bool => true
   | some (.int _) => true
   | some .string => true
   | some (.array n e) => decide (P.cellsOf t = n * P.cellsOf e) && rdA k e
   | some (.struct fs) => iw P 0 fs.toList (P.cellsOf t) && fs.toList.all (fun f => rdA k f.type)
   | _ => false
end
variable {P : Program} {H : Type} {enc : TypeId × Value → H} {w : World} {base : Nat} {spare : Nat → Bool} {held : Bool}
theorem oh {cs : List Value} {c : Nat} {F : Nat → Option (DataW H × List MemPlace)} (ih : ∀ i x, F i = some x → gq x.1 = some ((cs.drop (i * c)).take c)) :
   ∀ (n o : Nat) (xs : List (DataW H × List MemPlace)), xs.length = n → (∀ i, i < n → F (o + i) = xs[i]?) → (o + n) * c ≤ cs.length → litAll (xs.map (·.1)) = some ((cs.drop (o * c)).take (n * c))
 | 0, o, xs, hl, _, _ => by
   have : xs = [] := List.eq_nil_of_length_eq_zero hl
   subst this; simp [litAll]
 | n + 1, o, xs, hl, hx, hc => by
   cases xs with
   | nil => simp at hl
   | cons x xs =>
     have h0 := ih _ x (by rw [hx 0 (by omega)]; rfl)
     have h1 := oh ih n (o + 1) xs (by simpa using hl) (fun i hi => by rw [show o + 1 + i = o + (i + 1) by omega, hx (i + 1) (by omega)]; rfl) (by rw [show o + 1 + n = o + (n + 1) by omega]; exact hc)
     rw [Nat.add_zero] at h0
     rw [List.map_cons, litAll, h0, h1]
     simp only [Option.some.injEq]
     have e : (n + 1) * c = c + n * c := by rw [Nat.add_mul]; omega
     rw [e, List.take_add, List.drop_drop, show o * c + c = (o + 1) * c by rw [Nat.add_mul]; omega]
theorem mv {cs : List Value} {fuel : Nat} {ok : TypeId → Bool} (ih : ∀ (t : TypeId) (cs : List Value) (x : DataW H × List MemPlace), ok t = true → DataW.trod enc P w base spare held fuel t cs = some x → gq x.1 = some cs) :
   ∀ (fs : List Field) (off : Nat) (xs : List (DataW H × List MemPlace)), iw P off fs cs.length = true → fs.all (fun f => ok f.type) = true → xs.length = fs.length →
     (∀ (i : Nat) (f : Field), fs[i]? = some f → DataW.trod enc P w base spare held fuel f.type ((cs.drop f.offset).take (P.cellsOf f.type)) = xs[i]?) → litAll (xs.map (·.1)) = some (cs.drop off)
 | [], off, xs, hc, _, hl, _ => by
   have : xs = [] := List.eq_nil_of_length_eq_zero hl
   subst this
   have : off = cs.length := by simpa [iw] using hc
   simp [litAll, this]
 | f :: fs, off, xs, hc, hr, hl, hx => by
   cases xs with
   | nil => simp at hl
   | cons x xs =>
     simp only [iw, Bool.and_eq_true, beq_iff_eq, decide_eq_true_eq] at hc
     obtain ⟨⟨hc1, hc2⟩, hc3⟩ := hc
     simp only [List.all_cons, Bool.and_eq_true] at hr
     have h0 := ih _ _ x hr.1 (by rw [hx 0 f rfl]; rfl)
     have h1 := mv ih fs _ xs hc3 hr.2 (by simpa using hl) (fun i g hg => by rw [hx (i + 1) g (by simpa using hg)]; rfl)
     rw [List.map_cons, litAll, h0, h1]
     simp only [Option.some.injEq]
     rw [hc1, ← List.drop_drop, List.take_append_drop]
theorem jN : ∀ (k fuel : Nat) (t : TypeId) (cs : List Value) (x : DataW H × List MemPlace), rdA P k t = true → DataW.trod enc P w base spare held fuel t cs = some x → gq x.1 = some cs
 | 0, _, _, _, _, h, _ => by cases h
 | k + 1, fuel, t, cs, x, hr, h => by
   unfold rdA at hr
   split at hr
   · rename_i hu; obtain ⟨b, rfl, rfl⟩ := DataW.trod_bool hu h; rfl
   · rename_i i hu; obtain ⟨n, rfl, rfl, _⟩ := DataW.trod_int hu h; rfl
   · rename_i hu; obtain ⟨s, rfl, rfl, _⟩ := DataW.trod_string hu h; rfl
   · rename_i n e hu
     rw [Bool.and_eq_true, decide_eq_true_eq] at hr
     obtain ⟨xs, m, _, rfl, hl, hn, hx⟩ := DataW.trod_array hu h
     have := oh (c := P.cellsOf e) (F := fun i => DataW.trod enc P w base spare held m e ((cs.drop (i * P.cellsOf e)).take (P.cellsOf e))) (cs := cs) (fun i x hx => jN k m e _ x hr.2 hx) n 0 xs hn (fun i hi => by rw [Nat.zero_add]; exact hx i hi) (by rw [Nat.zero_add, hl, hr.1]; exact Nat.le_refl _)
     show litAll (xs.map (·.1)) = some cs
     rw [this, Nat.zero_mul, List.drop_zero, List.take_of_length_le (by rw [hl, hr.1]; exact Nat.le_refl _)]
   · rename_i fs hu
     rw [Bool.and_eq_true] at hr
     obtain ⟨xs, n, _, rfl, hl, hxl, hf⟩ := DataW.trod_struct hu h
     have := mv (ok := rdA P k) (cs := cs) (fun t cs x h1 h2 => jN k n t cs x h1 h2) fs.toList 0 xs (by rw [hl]; exact hr.1) hr.2 (by simpa using hxl) (fun i f hi => hf i f (by simpa using hi))
     show litAll (xs.map (·.1)) = some cs
     rw [this, List.drop_zero]
   · cases hr
end Go.Sy

namespace Go.Proofs.YtgmiihmahaahiaaGreatDoor
open Go.ChangeShapes Go.WideShapes Go.ChangeAt Go.RowKit
open Go.Lp Go.Sy
theorem own : ownKnob Tryz.prog.godebug = none := by kernel_rfl
theorem laidOut : laidOutB Tryz.prog = true := by kernel_rfl
theorem mz {W : World} {g : Nat} {l : List Value} (h0 : l ≠ []) (h : ∀ i, W.cell? ⟨g, i, none⟩ = l[i]?) (h1 : l.all (·.oneCell') = true) : (At g 0 (l.map D.v)).holds W (fun b => b < W.heap.size) := by
 obtain ⟨v, hv⟩ : ∃ v, l[0]? = some v := by cases l with
   | nil => exact absurd rfl h0
   | cons v l => exact ⟨v, rfl⟩
 refine ⟨(kj ((h 0).trans hv)).2, fun j d hj => ?_⟩
 rw [List.getElem?_map] at hj
 cases hl : l[j]? with
 | none => rw [hl] at hj; cases hj
 | some u =>
   rw [hl] at hj
   simp only [Option.map_some, Option.some.injEq] at hj
   exact ⟨u, by rw [Nat.zero_add, h, hl], List.all_eq_true.1 h1 u (List.mem_of_getElem? hl), by rw [← hj]; exact .v u⟩
theorem zm : Tryz.prog.globalNamed "linchpin/digest.turns" = some 2 := by kernel_rfl
theorem zN : (Tryz.prog.globals[2]?).map (·.type) = some 370 := by kernel_rfl
theorem uU : gq (Rows.laid_linchpin_digest_turns (H := Unit)) = some (jl.map fun z => Value.int .i64 z) := by kernel_rfl
theorem ug : (jl.map fun z => Value.int .i64 z).all (·.oneCell') = true := by kernel_rfl
theorem y0 : Tryz.prog.globalNamed "linchpin/digest.constants" = some 1 := by kernel_rfl
theorem zu : (Tryz.prog.globals[1]?).map (·.type) = some 367 := by kernel_rfl
theorem uw : gq (Rows.laid_linchpin_digest_constants (H := Unit)) = some (eh fg) := by kernel_rfl
theorem tY : (eh fg).all (·.oneCell') = true := by kernel_rfl
theorem zw : Tryz.prog.globalNamed "linchpin/isa.forms" = some 0 := by kernel_rfl
theorem ze : (Tryz.prog.globals[0]?).map (·.type) = some 344 := by kernel_rfl
theorem tO : gq (Rows.laid_linchpin_isa_forms (H := Unit)) = some ml := by kernel_rfl
theorem vh : ml.all (·.oneCell') = true := by kernel_rfl
theorem yB {W : World} (h : laidMetH Tryz.prog [("linchpin/digest.turns", Rows.laid_linchpin_digest_turns), ("linchpin/digest.constants", Rows.laid_linchpin_digest_constants), ("linchpin/isa.forms", Rows.laid_linchpin_isa_forms)] W) :
   dT.holds W (fun b => b < W.heap.size) ∧ dm.holds W (fun b => b < W.heap.size) ∧ dn.holds W (fun b => b < W.heap.size) := by
 rw [MakeChecks.laidMetH_plain _ _ _ (by kernel_rfl)] at h
 obtain ⟨ps, ⟨g0, t0, cs0, f0, p0, q0, hg0, ht0, hv0, hd0, ⟨g1, t1, cs1, f1, p1, q1, hg1, ht1, hv1, hd1, ⟨g2, t2, cs2, f2, p2, q2, hg2, ht2, hv2, hd2, _, _⟩, _⟩, _⟩, _, _⟩ := h
 obtain rfl := Option.some.inj (zm.symm.trans hg0)
 obtain rfl := Option.some.inj (zN.symm.trans ht0)
 have hl0 := jN 3 _ _ _ _ (by kernel_rfl) hd0
 have e0 : cs0.toList = jl.map fun z => Value.int .i64 z := Option.some.inj (hl0.symm.trans uU)
 obtain rfl := Option.some.inj (y0.symm.trans hg1)
 obtain rfl := Option.some.inj (zu.symm.trans ht1)
 have hl1 := jN 3 _ _ _ _ (by kernel_rfl) hd1
 have e1 : cs1.toList = eh fg := Option.some.inj (hl1.symm.trans uw)
 obtain rfl := Option.some.inj (zw.symm.trans hg2)
 obtain rfl := Option.some.inj (ze.symm.trans ht2)
 have hl2 := jN 3 _ _ _ _ (by kernel_rfl) hd2
 have e2 : cs2.toList = ml := Option.some.inj (hl2.symm.trans tO)
 exact ⟨mz (by decide) (fun i => by rw [World.var?_cell hg2 hv2 i, ← e2, Array.getElem?_toList]) vh, mz (by decide) (fun i => by rw [World.var?_cell hg0 hv0 i, ← e0, Array.getElem?_toList]) ug, mz (by decide) (fun i => by rw [World.var?_cell hg1 hv1 i, ← e1, Array.getElem?_toList]) tY⟩
section
variable {H : Type} {enc : TypeId × Value → H} {w : World} {base : Nat} {spare : Nat → Bool} {held : Bool}
theorem yC {fuel len cap : Nat} {a : Option Addr} {y : DataW H × List MemPlace} (h : DataW.trod enc Tryz.prog w base spare held fuel 22 [.slice a len cap] = some y) : ∃ s : Sl ax, Value.slice a len cap = s.val ∧ (ShF ax.row s).holds w (fun b => b < w.heap.size) ∧ (bP (fun y => ax.ok y) s.l).holds w (fun b => b < w.heap.size) := by
 obtain ⟨ds, hlen, ho, hR⟩ := mw 12 fuel 22 _ _ (by kernel_rfl) h
 obtain ⟨s, h1, h2⟩ := mV ho (rK hlen hR)
 exact ⟨s, (List.cons.inj (zK (a := [s.val]) h1)).1.symm, h2.1, h2.2⟩
end
end Go.Proofs.YtgmiihmahaahiaaGreatDoor

namespace Go.Sy
open Go.RowKit Go.Lp Go.Deep
mutual
/-- the size of data: each value counts one -/
def szD : D → Nat
 | .v _ => 1
 | .sl rows => szR rows + 1
def szR : List (List D) → Nat
 | [] => 0
 | r :: rows => szL r + szR rows
def szL : List D → Nat
 | [] => 0
 | d :: ds => szD d + szL ds
end
theorem tF : ∀ a b : List D, szL (a ++ b) = szL a + szL b
 | [], b => by simp [szL]
 | d :: a, b => by simp only [List.cons_append, szL, tF a b]; omega
theorem oX : ∀ rows : List (List D), szR rows = (rows.map szL).sum
 | [] => rfl
 | r :: rows => by simp only [szR, List.map_cons, List.sum_cons, oX rows]
theorem pn {α : Type} {f g : α → Nat} : ∀ (l : List α), (∀ x ∈ l, f x ≤ g x) → (l.map f).sum ≤ (l.map g).sum
 | [], _ => Nat.le_refl _
 | x :: l, h => by
   simp only [List.map_cons, List.sum_cons]
   have h1 := h x List.mem_cons_self
   have h2 := pn l fun y hy => h y (List.mem_cons_of_mem _ hy)
   omega
theorem pq {α : Type} : ∀ l : List α, (l.map fun _ => 1).sum = l.length
 | [] => rfl
 | x :: l => by rw [List.map_cons, List.sum_cons, pq l, List.length_cons]; omega
theorem tE : ∀ (l : List Nat) (n : Nat), n ∈ l → n ≤ l.sum
 | x :: l, n, h => by
   rw [List.sum_cons]
   rcases List.mem_cons.1 h with rfl | h
   · omega
   · have := tE l n h; omega
theorem jA {α : Type} [Inhabited α] {row : α → List D} {ok : α → Per} (zf : α → Nat) {w : World} {S : bz} {v : Value} {rows : List (List D)} (h : ef w S v (.sl rows))
   (hf : ∀ r ∈ rows, ∀ us : List Value, fl w S us r → ∃ y : α, row y = us.map D.v ∧ (ok y).holds w S ∧ zf y ≤ szL r) : ∃ s : Sl α, v = s.val ∧ (ShF row s).holds w S ∧ (bP ok s.l).holds w S ∧ (s.l.map zf).sum ≤ szR rows := by
 cases h with
 | e a c hc => exact ⟨⟨a, c, []⟩, rfl, .e a c hc, fun y hy => (by cases hy), Nat.zero_le _⟩
 | sl b o c sz _ us hb hn hc hrl hcell hd =>
   have each : ∀ i : Nat, ∃ y : α, i < rows.length → row y = ((List.range sz).map fun j => us i j).map D.v ∧ (ok y).holds w S ∧ zf y ≤ szL (rows.getD i []) := fun i => by
     by_cases hi : i < rows.length
     · obtain ⟨r, hr⟩ : ∃ r, rows[i]? = some r := ⟨_, List.getElem?_eq_getElem hi⟩
       obtain ⟨y, h1, h2, h3⟩ := hf r (List.mem_of_getElem? hr) ((List.range sz).map fun j => us i j) ⟨by simp [hrl i r hr], fun j d hj => by
         have hjl := (List.getElem?_eq_some_iff.1 hj).1
         rw [hrl i r hr] at hjl
         exact ⟨us i j, by rw [List.getElem?_map, List.getElem?_range hjl]; rfl, hd i j r d hr hj⟩⟩
       exact ⟨y, fun _ => ⟨h1, h2, by rw [List.getD_eq_getElem?_getD, hr]; exact h3⟩⟩
     · exact ⟨default, fun h => absurd h hi⟩
   obtain ⟨Y, hY⟩ := Classical.skolem.1 each
   have hget : ∀ (i : Nat) (r : List D), (((List.range rows.length).map Y).map row)[i]? = some r → i < rows.length ∧ r = ((List.range sz).map fun j => us i j).map D.v := fun i r hi => by
     rw [List.getElem?_map, List.getElem?_map] at hi
     by_cases hil : i < rows.length
     · rw [List.getElem?_range hil] at hi
       simp only [Option.map_some, Option.some.injEq] at hi
       exact ⟨hil, by rw [← hi]; exact (hY i hil).1⟩
     · rw [List.getElem?_eq_none (by simpa using hil)] at hi; cases hi
   have hcl : ∀ (i j : Nat) (r : List D) (d : D), (((List.range rows.length).map Y).map row)[i]? = some r → r[j]? = some d → ∃ r0 d0, rows[i]? = some r0 ∧ r0[j]? = some d0 ∧ d = .v (us i j) := fun i j r d hi hj => by
     obtain ⟨hil, rfl⟩ := hget i r hi
     obtain ⟨r0, hr0⟩ : ∃ r, rows[i]? = some r := ⟨_, List.getElem?_eq_getElem hil⟩
     have hjl := (List.getElem?_eq_some_iff.1 hj).1
     rw [List.length_map, List.length_map, List.length_range] at hjl
     rw [List.getElem?_map, List.getElem?_map, List.getElem?_range hjl] at hj
     simp only [Option.map_some, Option.some.injEq] at hj
     exact ⟨r0, _, hr0, List.getElem?_eq_getElem (by rw [hrl i r0 hr0]; exact hjl), hj.symm⟩
   refine ⟨⟨some ⟨b, o, none⟩, c, (List.range rows.length).map Y⟩, by simp [Sl.val], ?_, fun y hy => ?_, ?_⟩
   · have h := ef.sl (w := w) (S := S) b o c sz (((List.range rows.length).map Y).map row) us hb (by simpa using hn) hc (fun i r hi => by obtain ⟨_, rfl⟩ := hget i r hi; simp)
       (fun i j r d hi hj => by obtain ⟨r0, d0, h1, h2, _⟩ := hcl i j r d hi hj; exact hcell i j r0 d0 h1 h2) (fun i j r d hi hj => by obtain ⟨_, _, _, _, rfl⟩ := hcl i j r d hi hj; exact .v _)
     rw [List.length_map, List.length_map, List.length_range] at h
     show ef w S (.slice (some ⟨b, o, none⟩) ((List.range rows.length).map Y).length c) (.sl (((List.range rows.length).map Y).map row))
     rw [List.length_map, List.length_range]; exact h
   · obtain ⟨i, hi, rfl⟩ := List.mem_map.1 hy
     exact (hY i (List.mem_range.1 hi)).2.1
   · rw [oX, List.map_map]
     have e : rows.map szL = (List.range rows.length).map fun i => szL (rows.getD i []) := by
       apply List.ext_getElem?
       intro i
       rw [List.getElem?_map, List.getElem?_map]
       by_cases hi : i < rows.length
       · rw [List.getElem?_range hi, List.getElem?_eq_getElem hi]
         simp [List.getD_eq_getElem?_getD, hi]
       · rw [List.getElem?_eq_none (by omega), List.getElem?_eq_none (by simpa using hi)]; rfl
     rw [e]
     exact pn _ fun i hi => (hY i (List.mem_range.1 hi)).2.2
end Go.Sy
namespace Go.Proofs.YtgmiihmahaahiaaGreatDoor
open Go.RowKit Go.Lp Go.Sy Go.Deep
section
variable {P : Program} {H : Type} {enc : TypeId × Value → H} {w : World} {base : Nat} {spare : Nat → Bool} {held : Bool}
theorem iD {d : DataW H} : ∀ {l : List (DataW H)}, d ∈ l → Rows.uptoBulk d ≤ Rows.uptoBulkAll l
 | x :: r, h => by
   simp only [Rows.uptoBulkAll]
   rcases List.mem_cons.1 h with rfl | h
   · omega
   · have := iD h; omega
theorem kJ : ∀ l : List (DataW H), Rows.uptoBulkAll l = (l.map Rows.uptoBulk).sum
 | [] => rfl
 | x :: l => by simp only [Rows.uptoBulkAll, List.map_cons, List.sum_cons, kJ l]
theorem kN {k fuel : Nat} {cs : List Value} {tot : Nat} (hcs : cs.length = tot)
   (ih : ∀ (t : TypeId) (cs : List Value) (x : DataW H × List MemPlace), rdT P k t = true → DataW.trod enc P w base spare held fuel t cs = some x → ∃ ds, ds.length = cs.length ∧ okD P k t ds ∧ Rds w cs 0 ds ∧ szL ds ≤ Rows.uptoBulk x.1) :
   ∀ (fs : List Field) (off : Nat) (xs : List (DataW H × List MemPlace)), iw P off fs tot = true → fs.all (fun f => rdT P k f.type) = true → xs.length = fs.length →
     (∀ (i : Nat) (f : Field), fs[i]? = some f → DataW.trod enc P w base spare held fuel f.type ((cs.drop f.offset).take (P.cellsOf f.type)) = xs[i]?) → ∃ ds, off + ds.length = tot ∧ okF (okD P k) fs ds ∧ Rds w cs off ds ∧ szL ds ≤ Rows.uptoBulkAll (xs.map (·.1))
 | [], off, xs, hc, _, _, _ => ⟨[], by simpa [iw] using hc, rfl, fun j d hj => (by cases hj), Nat.zero_le _⟩
 | f :: fs, off, xs, hc, hr, hl, ht => by
   cases xs with
   | nil => simp at hl
   | cons y xs =>
     simp only [iw, Bool.and_eq_true, beq_iff_eq, decide_eq_true_eq] at hc
     obtain ⟨⟨hc1, hc2⟩, hc3⟩ := hc
     simp only [List.all_cons, Bool.and_eq_true] at hr
     have hy := ht 0 f rfl
     obtain ⟨d1, l1, o1, r1, z1⟩ := ih _ _ y hr.1 (by rw [hy]; rfl)
     obtain ⟨d2, l2, o2, r2, z2⟩ := kN hcs ih fs _ xs hc3 hr.2 (by simpa using hl) (fun i g hg => by rw [ht (i + 1) g (by simpa using hg)]; rfl)
     rw [List.length_take, List.length_drop, hc1, hcs] at l1
     have l1 : d1.length = P.cellsOf f.type := by omega
     refine ⟨d1 ++ d2, by rw [List.length_append]; omega, ⟨d1, d2, rfl, o1, o2⟩, fun j d hj => ?_, by rw [tF]; simp only [List.map_cons, Rows.uptoBulkAll]; omega⟩
     by_cases hjl : j < d1.length
     · rw [List.getElem?_append_left hjl] at hj
       obtain ⟨u, hu, h1, h2⟩ := r1 j d hj
       rw [Nat.zero_add, List.getElem?_take, if_pos (by omega), List.getElem?_drop, hc1] at hu
       exact ⟨u, hu, h1, h2⟩
     · rw [List.getElem?_append_right (by omega)] at hj
       obtain ⟨u, hu, h1, h2⟩ := r2 _ d hj
       rw [show off + P.cellsOf f.type + (j - d1.length) = off + j by omega] at hu
       exact ⟨u, hu, h1, h2⟩
theorem iX : ∀ (k fuel : Nat) (t : TypeId) (cs : List Value) (x : DataW H × List MemPlace), rdT P k t = true → DataW.trod enc P w base spare held fuel t cs = some x → ∃ ds, ds.length = cs.length ∧ okD P k t ds ∧ Rds w cs 0 ds ∧ szL ds ≤ Rows.uptoBulk x.1
 | 0, _, _, _, _, h, _ => by cases h
 | k + 1, fuel, t, cs, x, hr, h => by
   unfold rdT at hr
   unfold okD
   split at hr
   · rename_i hu
     obtain ⟨b, rfl, rfl⟩ := DataW.trod_bool hu h
     exact ⟨[.v (.bool b)], rfl, ⟨b, rfl⟩, eS rfl (.v _), by simp [szL, szD, Rows.uptoBulk]⟩
   · rename_i i hu
     obtain ⟨n, rfl, rfl, hw⟩ := DataW.trod_int hu h
     exact ⟨[.v (.int i n)], rfl, ⟨n, rfl, hw⟩, eS rfl (.v _), by simp [szL, szD, Rows.uptoBulk]⟩
   · rename_i hu
     obtain ⟨s, rfl, rfl, hs⟩ := DataW.trod_string hu h
     exact ⟨[.v (.string s)], rfl, ⟨s, rfl, hs⟩, eS rfl (.v _), by simp [szL, szD, Rows.uptoBulk]⟩
   · rename_i e hu
     rw [Bool.and_eq_true, decide_eq_true_eq] at hr
     obtain ⟨hp, hr⟩ := hr
     rcases DataW.trod_slice hu h with ⟨rfl, rfl⟩ | ⟨a, len, cap, elems, rest, n, _, rfl, rfl, _, hl, hm, hel, hx, _, _⟩
     · exact ⟨[.sl []], rfl, ⟨[], rfl, by simp, fun r hr => by cases hr⟩, eS rfl (.e none 0 (by simp)), by simp [szL, szD, szR, Rows.uptoBulk]⟩
     · by_cases hl0 : len = 0
       · subst hl0
         exact ⟨[.sl []], rfl, ⟨[], rfl, by simp, fun r hr => by cases hr⟩, eS rfl (.e (some a) cap hm), by simp [szL, szD, szR, Rows.uptoBulk]⟩
       · have each : ∀ i, ∃ r : List D, i < len → (r.length = P.cellsOf e ∧ okD P k e r ∧ ∀ (j : Nat) (d : D), r[j]? = some d → ∃ u, w.cell? ((a.add (i * P.cellsOf e)).add j) = some u ∧ u.oneCell' = true ∧ ef w (fun b => b < w.heap.size) u d) ∧ ∃ y, elems[i]? = some y ∧ szL r ≤ Rows.uptoBulk y.1 := fun i => by
           by_cases hi : i < len
           · obtain ⟨y, hy⟩ : ∃ y, elems[i]? = some y := ⟨_, List.getElem?_eq_getElem (by omega)⟩
             have h1 := hx i hi
             rw [hy] at h1
             cases hcs : w.cells? base (a.add (i * P.cellsOf e)) (P.cellsOf e) with
             | none => rw [hcs] at h1; cases h1
             | some cs' =>
               rw [hcs] at h1
               have h2 : DataW.trod enc P w base spare held n e cs' = some y := h1
               obtain ⟨ds, l1, o1, r1, z1⟩ := iX k _ _ _ _ hr h2
               obtain ⟨_, hcl, hc⟩ := World.cells?_some hcs
               refine ⟨ds, fun _ => ⟨⟨by omega, o1, fun j d hj => ?_⟩, y, hy, z1⟩⟩
               obtain ⟨u, hu, q1, q2⟩ := r1 j d hj
               have := (List.getElem?_eq_some_iff.1 hj).1
               rw [hc j (by omega)]
               exact ⟨u, by rw [← hu, Nat.zero_add], q1, q2⟩
           · exact ⟨[], fun h => absurd h hi⟩
         obtain ⟨R, hR⟩ := Classical.skolem.1 each
         have ha : a = ⟨a.block, a.off, none⟩ ∧ a.block < w.heap.size := by
           obtain ⟨⟨e1, _, e3⟩, _⟩ := hR 0 (by omega)
           obtain ⟨d, hd⟩ : ∃ d, (R 0)[0]? = some d := ⟨(R 0)[0]'(by omega), by simp⟩
           obtain ⟨u, hu, _⟩ := e3 0 d hd
           have : (a.add (0 * P.cellsOf e)).add 0 = a := by simp [Addr.add]
           rw [this] at hu
           exact kj hu
         obtain ⟨ha, hb⟩ := ha
         have hadd : ∀ i j, (a.add (i * P.cellsOf e)).add j = ⟨a.block, a.off + i * P.cellsOf e + j, none⟩ := fun i j => by
           rw [ha]; unfold Addr.add
           by_cases h1 : i * P.cellsOf e = 0 <;> by_cases h2 : j = 0 <;> simp [h1, h2]
         have hrow : ∀ (i : Nat) (r : List D), ((List.range len).map R)[i]? = some r → i < len ∧ r = R i := fun i r hi => by
           have := (List.getElem?_eq_some_iff.1 hi).1
           simp at this
           rw [List.getElem?_map, List.getElem?_range this] at hi
           exact ⟨this, by simpa using hi.symm⟩
         refine ⟨[.sl ((List.range len).map R)], rfl, ⟨_, rfl, by simp; omega, fun r hr => ?_⟩, eS rfl ?_, ?_⟩
         · obtain ⟨i, hi, rfl⟩ := List.mem_map.1 hr
           exact (hR i (List.mem_range.1 hi)).1.2.1
         · have := ef.sl (w := w) (S := fun b => b < w.heap.size) a.block a.off cap (P.cellsOf e) ((List.range len).map R) (fun i j => (w.cell? ⟨a.block, a.off + i * P.cellsOf e + j, none⟩).getD (.bool false)) hb (by simpa using hl) hm
             (fun i r hi => by obtain ⟨h1, rfl⟩ := hrow i r hi; exact (hR i h1).1.1)
             (fun i j r d hi hj => by
               obtain ⟨h1, rfl⟩ := hrow i r hi
               obtain ⟨u, hu, q1, q2⟩ := (hR i h1).1.2.2 j d hj
               rw [hadd] at hu
               rw [hu]; exact ⟨rfl, q1⟩)
             (fun i j r d hi hj => by
               obtain ⟨h1, rfl⟩ := hrow i r hi
               obtain ⟨u, hu, q1, q2⟩ := (hR i h1).1.2.2 j d hj
               rw [hadd] at hu
               rw [hu]; exact q2)
           rw [← ha] at this
           simpa using this
         · simp only [szL, szD, Rows.uptoBulk]
           rw [oX, kJ, List.map_map, List.map_map]
           have e1 : elems.map (Rows.uptoBulk ∘ fun x => x.1) = (List.range len).map fun i => (elems[i]?.map fun y => Rows.uptoBulk y.1).getD 0 := by
             apply List.ext_getElem?
             intro i
             rw [List.getElem?_map, List.getElem?_map]
             by_cases hi : i < len
             · obtain ⟨y, hy⟩ : ∃ y, elems[i]? = some y := ⟨_, List.getElem?_eq_getElem (by omega)⟩
               rw [List.getElem?_range hi, hy]; simp [hy]
             · rw [List.getElem?_eq_none (by omega), List.getElem?_eq_none (by simpa using hi)]; rfl
           rw [e1]
           have := pn (f := szL ∘ R) (g := fun i => (elems[i]?.map fun y => Rows.uptoBulk y.1).getD 0) (List.range len) fun i hi => by
             obtain ⟨_, y, hy, hz⟩ := hR i (List.mem_range.1 hi)
             rw [hy]; exact hz
           omega
   · rename_i fs hu
     rw [Bool.and_eq_true] at hr
     obtain ⟨xs, n, _, rfl, hcl, hxl, hf⟩ := DataW.trod_struct hu h
     obtain ⟨ds, l1, o1, r1, z1⟩ := kN (tot := P.cellsOf t) hcl (fun t cs x h1 h2 => iX k n t cs x h1 h2) fs.toList 0 xs hr.1 hr.2 (by simpa using hxl) (fun i f hff => hf i f (by simpa using hff))
     exact ⟨ds, by omega, o1, r1, by simp only [Rows.uptoBulk]; omega⟩
   · cases hr
theorem yA {S : bz} {k : Nat} {t : TypeId} {us : List Value} {r : List D} (hu : P.underlying t = some .string) (h : okD P (k + 1) t r) (hr : fl w S us r) : ∃ s : ByteArray, [D.v (.string s)] = us.map D.v ∧ (fe s).holds w S ∧ 1 ≤ szL r := by
 obtain ⟨s, h1, h2⟩ := zr hu h hr
 obtain ⟨n, rfl, _⟩ := cK hu h
 exact ⟨s, h1, h2, by simp [szL, szD]⟩
end
def zV (d : aH) : Nat := d.parents.l.length
def zI (f : bC) : Nat := (f.versions.l.map zV).sum
theorem iu {k : Nat} {w : World} {S : bz} {us : List Value} {ds : List D} (h : okD Tryz.prog (k + 3) 178 ds) (hr : fl w S us ds) : ∃ y : aH, y.row = us.map D.v ∧ (y.ok).holds w S ∧ zV y ≤ szL ds := by
 have h := cV Tryz.underlying178 h
 obtain ⟨d0, _, rfl, h0, d1, _, rfl, h1, rfl⟩ := h
 obtain ⟨n0, rfl, z0⟩ := cK Tryz.underlying9 h0
 obtain ⟨q1, rfl, m1, o1⟩ := cQ Tryz.underlying77 h1
 obtain ⟨u0, _, rfl, r0, hr⟩ := hr.cons
 obtain ⟨u1, _, rfl, r1, hr⟩ := hr.cons
 obtain rfl := hr.nil
 obtain rfl := bK r0
 obtain ⟨s1, rfl, a1, b1, c1⟩ := jA (row := fun s : ByteArray => [.v (.string s)]) (ok := fun y : ByteArray => fe y) (fun _ => 1) r1 fun r hr us hu => yA Tryz.underlying9 (o1 r hr) hu
 have e1 : (s1.l.map fun _ => 1).sum = s1.l.length := pq _
 rw [e1] at c1
 exact ⟨⟨n0, s1⟩, rfl, ⟨z0, a1, b1⟩, by simp only [zV, szL, szD, List.cons_append, List.nil_append]; omega⟩
theorem sM {k : Nat} {w : World} {S : bz} {us : List Value} {ds : List D} (h : okD Tryz.prog (k + 5) 73 ds) (hr : fl w S us ds) : ∃ y : bC, y.row = us.map D.v ∧ (y.ok).holds w S ∧ zI y ≤ szL ds ∧ 1 ≤ szL ds := by
 have h := cV Tryz.underlying73 h
 obtain ⟨d0, _, rfl, h0, d1, _, rfl, h1, d2, _, rfl, h2, rfl⟩ := h
 obtain ⟨n0, rfl, z0⟩ := cK Tryz.underlying9 h0
 obtain ⟨q1, rfl, m1, o1⟩ := cQ Tryz.underlying71 h1
 obtain ⟨q2, rfl, m2, o2⟩ := cQ Tryz.underlying24 h2
 obtain ⟨u0, _, rfl, r0, hr⟩ := hr.cons
 obtain ⟨u1, _, rfl, r1, hr⟩ := hr.cons
 obtain ⟨u2, _, rfl, r2, hr⟩ := hr.cons
 obtain rfl := hr.nil
 obtain rfl := bK r0
 obtain ⟨s1, rfl, a1, b1⟩ := eA (row := cP.row) (ok := fun y : cP => cP.ok y) r1 fun r hr us hu => sL (o1 r hr) hu
 obtain ⟨s2, rfl, a2, b2, c2⟩ := jA (row := aH.row) (ok := fun y : aH => aH.ok y) zV r2 fun r hr us hu => iu (o2 r hr) hu
 exact ⟨⟨n0, s1, s2⟩, rfl, ⟨z0, a1, b1, a2, b2⟩, by simp only [zI, szL, szD, List.cons_append, List.nil_append]; omega, by simp only [szL, szD, List.cons_append, List.nil_append]; omega⟩
theorem xP {H : Type} {enc : TypeId × Value → H} {w : World} {base : Nat} {spare : Nat → Bool} {held : Bool} {fuel len cap : Nat} {a : Option Addr} {y : DataW H × List MemPlace} (h : DataW.trod enc Tryz.prog w base spare held fuel 23 [.slice a len cap] = some y) :
   ∃ s : Sl bC, Value.slice a len cap = s.val ∧ (ShF bC.row s).holds w (fun b => b < w.heap.size) ∧ (bP (fun y => bC.ok y) s.l).holds w (fun b => b < w.heap.size) ∧ s.l.length ≤ Rows.uptoBulk y.1 ∧ ∀ f ∈ s.l, zI f ≤ Rows.uptoBulk y.1 := by
 obtain ⟨ds, hlen, ho, hR, hz⟩ := iX 12 fuel 23 _ _ (by kernel_rfl) h
 obtain ⟨rows, rfl, _, hrows⟩ := cQ (k := 11) Tryz.underlying23 ho
 obtain ⟨u, _, hu, r, hr⟩ := (rK hlen hR).cons
 obtain rfl := hr.nil
 obtain ⟨rfl, _⟩ := List.cons.inj hu
 obtain ⟨s, h1, h2, h3, h4⟩ := jA (row := bC.row) (ok := fun y : bC => bC.ok y) (fun f => max 1 (zI f)) r fun r hr us hu => by
   obtain ⟨y, a1, a2, a3, a4⟩ := sM (k := 6) (hrows r hr) hu
   exact ⟨y, a1, a2, by show max 1 (zI y) ≤ _; omega⟩
 have h5 : szR rows ≤ Rows.uptoBulk y.1 := by simp only [szL, szD] at hz; omega
 have h6 : s.l.length ≤ (s.l.map fun f => max 1 (zI f)).sum := by
   have := pn (f := fun _ : bC => 1) (g := fun f => max 1 (zI f)) s.l fun f _ => by omega
   have e1 : (s.l.map fun _ : bC => 1).sum = s.l.length := pq _
   omega
 refine ⟨s, h1, h2, h3, by omega, fun f hf => ?_⟩
 have h7 : max 1 (zI f) ≤ (s.l.map fun f => max 1 (zI f)).sum := tE _ _ (List.mem_map_of_mem hf)
 omega
end Go.Proofs.YtgmiihmahaahiaaGreatDoor

namespace Go.Proofs.YtgmiihmahaahiaaGreatDoor
open Go.RowKit Go.Lp Go.Sy
open Go.Proofs.Tryz
attribute [local irreducible] aL aB awp aC fwp
def uP : bH := ⟨⟨#[116, 101, 120, 116]⟩, 0, 8, 8, ⟨#[1, 0, 0, 0, 0, 0, 0, 0]⟩, false⟩
def gB (bind sec : Int) : bg := ⟨⟨#[102]⟩, .empty, false, bind, 0, 0, sec, 0, 0, 0⟩
abbrev eu (α : Type) : Sl α := ⟨none, 0, []⟩
def oZ (n : ByteArray) (bind : Int) (a1 a2 : Option Addr) : ax := ⟨n, ⟨a1, 1, [uP]⟩, ⟨a2, 1, [gB bind 0]⟩, eu _, eu _, eu _, eu _, eu _, eu _, eu _, eu _⟩
theorem nx (n : ByteArray) (bind : Int) : Con Tryz.prog 29 [.string n, .int .i64 bind] [] [] fun r ps hp => ps = [] ∧ ∃ a1 a2, r = (oZ n bind a1 a2).val ∧ hp = [bA (.slice a1 1 1) 85 6 ([uP].map bH.row), bA (.slice a2 1 1) 63 10 ([gB bind 0].map bg.row)] := by
 refine Con.enter Tryz.func29 rfl (by simp [Tryz.ntmps29]) ?_
 show awp _ _ _ _ ⟨[(0, true, _), (1, true, _)], _, _⟩
 refine aSR ?_
 refine aj (q := true) rfl (bp (zs := [.string .empty, .slice none 0 0, .slice none 0 0, .slice none 0 0, .slice none 0 0, .slice none 0 0, .slice none 0 0, .slice none 0 0, .slice none 0 0, .slice none 0 0, .slice none 0 0]) (by kernel_rfl) rfl (fun b0_0 => ?_))
 refine aHN ?_
 refine aNn (aSR (aM rfl ?_))
 refine aU rfl (cU (l := [(0, .const (.string ⟨#[116, 101, 120, 116]⟩)), (1, .const (.int .i64 0)), (2, .const (.int .i64 8)), (3, .const (.int .i64 8)), (4, .const (.string ⟨#[1, 0, 0, 0, 0, 0, 0, 0]⟩))]) (zs := [.string .empty, .int .i64 0, .int .i64 0, .int .i64 0, .string .empty, .bool false]) (pl := [(0, 1), (1, 1), (2, 1), (3, 1), (4, 1), (5, 1)]) (by kernel_rfl) (by kernel_rfl) (by kernel_rfl) rfl rfl rfl) ?_
 refine aj (q := true) rfl (cG (zs := [.string .empty, .int .i64 0, .int .i64 0, .int .i64 0, .string .empty, .bool false]) (l := [(0, .tmp 6)]) el50 (by kernel_rfl) (by decide) (by decide) (by decide) rfl rfl rfl (.more rfl (.v rfl (.v rfl (.v rfl (.v rfl (.v rfl (.v rfl .nil)))))) .nil) rfl rfl (fun v1_2 => ?_))
 refine aHN ?_
 refine aM rfl ?_
 refine aU rfl (cU (l := [(0, .const (.string ⟨#[102]⟩)), (3, .tmp 8)]) (zs := [.string .empty, .string .empty, .bool false, .int .i64 0, .int .i64 0, .int .i64 0, .int .i64 0, .int .i64 0, .int .i64 0, .int .i64 0]) (pl := [(0, 1), (1, 1), (2, 1), (3, 1), (4, 1), (5, 1), (6, 1), (7, 1), (8, 1), (9, 1)]) (by kernel_rfl) (by kernel_rfl) (by kernel_rfl) rfl rfl rfl) ?_
 refine aj (q := true) rfl (cG (zs := [.string .empty, .string .empty, .bool false, .int .i64 0, .int .i64 0, .int .i64 0, .int .i64 0, .int .i64 0, .int .i64 0, .int .i64 0]) (l := [(0, .tmp 9)]) el51 (by kernel_rfl) (by decide) (by decide) (by decide) rfl rfl rfl (.more rfl (.v rfl (.v rfl (.v rfl (.v rfl (.v rfl (.v rfl (.v rfl (.v rfl (.v rfl (.v rfl .nil)))))))))) .nil) rfl rfl (fun v1_5 => ?_))
 refine aHN ?_
 refine aU rfl (cU (l := [(0, .tmp 5), (1, .tmp 7), (2, .tmp 10)]) (zs := [.string .empty, .slice none 0 0, .slice none 0 0, .slice none 0 0, .slice none 0 0, .slice none 0 0, .slice none 0 0, .slice none 0 0, .slice none 0 0, .slice none 0 0, .slice none 0 0]) (pl := [(0, 1), (1, 1), (2, 1), (3, 1), (4, 1), (5, 1), (6, 1), (7, 1), (8, 1), (9, 1), (10, 1)]) (by kernel_rfl) (by kernel_rfl) (by kernel_rfl) rfl rfl rfl) ?_
 refine aj rfl (aT 0 tk61 rfl rfl rfl rfl ?_)
 refine aHK ?_
 refine aNn (aq ?_)
 refine ti [] [1, 2] rfl Tryz.results29 (cv 0 tk61 rfl rfl rfl) ?_ (.inr rfl)
 exact ⟨rfl, v1_2, v1_5, rfl, rfl⟩
def cO (a : Option Addr) : ax := ⟨⟨#[99]⟩, eu _, ⟨a, 1, [gB 1 (-1)]⟩, eu _, eu _, eu _, eu _, eu _, eu _, eu _, eu _⟩
def gK (b : Int) (a1 a2 a3 a4 a5 : Option Addr) : List ax := [oZ ⟨#[97]⟩ b a1 a2, oZ ⟨#[98]⟩ 1 a3 a4, cO a5]
def jP (k1 k2 : Option Addr) : List (Sl Bool) := [⟨k1, 1, [true]⟩, ⟨k2, 1, [true]⟩, eu Bool]
theorem z7 (sv : ByteArray → ByteArray → Bool) (a1 a2 a3 a4 a5 k1 k2 : Option Addr) : cI (jP k1 k2) (aW (gK 2 a1 a2 a3 a4 a5)) sv (cA []) false = none := by kernel_rfl
theorem zZ (sv : ByteArray → ByteArray → Bool) (a1 a2 a3 a4 a5 k1 k2 : Option Addr) : iE (gK 2 a1 a2 a3 a4 a5) (jP k1 k2) sv (cA []) false = [[⟨2, 1, 0, 0, 2, false⟩], [⟨2, 1, 0, 0, 2, false⟩], [⟨2, 1, 0, 0, 2, false⟩]] := by kernel_rfl
theorem yW (sv : ByteArray → ByteArray → Bool) (a1 a2 a3 a4 a5 k1 k2 : Option Addr) : cI (jP k1 k2) (aW (gK 1 a1 a2 a3 a4 a5)) sv (cA []) false = some (4, ⟨1, 0⟩) := by kernel_rfl
theorem yN (sv : ByteArray → ByteArray → Bool) (a5 : Option Addr) : cI [eu Bool] (aW [cO a5]) sv (cA []) false = some (3, ⟨0, 0⟩) := by kernel_rfl
theorem eT {α : Type} {row : α → List D} {w : World} {S : bz} : (ShF row (eu α)).holds w S := .e none 0 (by unfold maxLen; omega)
theorem fY {α : Type} {f : α → Per} {w : World} {S : bz} : (bP f ([] : List α)).holds w S := fun _ h => by cases h
theorem vL {n : ByteArray} {s1 : Sl bH} {s2 : Sl bg} {w : World} {S : bz} (hn : n.size ≤ maxLen) (h1 : (ShF bH.row s1).holds w S) (h2 : ∀ s ∈ s1.l, s.name.size ≤ maxLen ∧ s.bytes.size ≤ maxLen) (h3 : (ShF bg.row s2).holds w S) (h4 : ∀ s ∈ s2.l, s.name.size ≤ maxLen ∧ s.version.size ≤ maxLen) :
   (ax.ok ⟨n, s1, s2, eu _, eu _, eu _, eu _, eu _, eu _, eu _, eu _⟩).holds w S :=
 ⟨hn, h1, fun s hs => h2 s hs, h3, fun s hs => h4 s hs, eT, eT, fY, eT, eT, fY, eT, fY, eT, fY, eT, eT, fY⟩
theorem rR {n : ByteArray} {b : Int} {a1 a2 : Option Addr} {w : World} {S : bz} (hn : n.size ≤ maxLen) (h1 : (ShF bH.row ⟨a1, 1, [uP]⟩).holds w S) (h2 : (ShF bg.row ⟨a2, 1, [gB b 0]⟩).holds w S) : (ax.ok (oZ n b a1 a2)).holds w S :=
 vL hn h1 (fun s hs => by rw [List.mem_singleton.1 hs]; unfold maxLen; exact ⟨by decide, by decide⟩) h2 (fun s hs => by rw [List.mem_singleton.1 hs]; unfold maxLen; exact ⟨by show 1 ≤ _; omega, by show 0 ≤ _; omega⟩)
theorem aaj {a : Option Addr} {w : World} {S : bz} (h2 : (ShF bg.row ⟨a, 1, [gB 1 (-1)]⟩).holds w S) : (ax.ok (cO a)).holds w S :=
 vL (by unfold maxLen; show 1 ≤ _; omega) eT (fun s hs => by cases hs) h2 (fun s hs => by rw [List.mem_singleton.1 hs]; unfold maxLen; exact ⟨by show 1 ≤ _; omega, by show 0 ≤ _; omega⟩)
theorem rI {α β : Type} {T : TypeId} {sz : Nat} {row : β → List D} {m : α → Option (Sl β)} (hr : ∀ x : β, ∀ d ∈ row x, ∃ u, d = D.v u) : vK (dS T sz row m) := fun w S S' F ⟨fp, h1, h2, h3, h4⟩ =>
 ⟨fp, fun k s hk => oy (fun r hr2 d hd => by obtain ⟨x, _, rfl⟩ := List.mem_map.1 hr2; exact hr x d hd) w S S' _ (h1 k s hk), h2, h3, h4⟩
theorem ya (b : Int) (a1 a2 a3 a4 a5 k1 k2 : Option Addr) : ew (gK b a1 a2 a3 a4 a5) (jP k1 k2) where
 n := show 3 ≤ 5 by decide
 sy o ho := by
   simp only [gK, List.mem_cons, List.not_mem_nil, or_false] at ho
   rcases ho with rfl | rfl | rfl <;> show 1 ≤ 14 <;> decide
 kn := rfl
 ks i hi := by
   have : i = 0 ∨ i = 1 ∨ i = 2 := by simp [gK] at hi; omega
   rcases this with rfl | rfl | rfl <;> rfl
 sec o ho s hs := by
   simp only [gK, List.mem_cons, List.not_mem_nil, or_false] at ho
   rcases ho with rfl | rfl | rfl <;> rw [List.mem_singleton.1 hs]
   · exact .inr ⟨Int.le_refl _, show (0 : Int) < ((1 : Nat) : Int) by decide⟩
   · exact .inr ⟨Int.le_refl _, show (0 : Int) < ((1 : Nat) : Int) by decide⟩
   · exact .inl ⟨rfl, by decide⟩
end Go.Proofs.YtgmiihmahaahiaaGreatDoor

namespace Go.Proofs.YtgmiihmahaahiaaGreatDoor
open Go.RowKit Go.Lp Go.Sy
open Go.Proofs.Tryz
abbrev uD (b : Int) (ao a1 a2 a3 a4 a5 ak k1 k2 : Option Addr) : List Per :=
 [ShF ax.row ⟨ao, 3, gK b a1 a2 a3 a4 a5⟩, ShF bH.row ⟨a1, 1, [uP]⟩, ShF bH.row ⟨a3, 1, [uP]⟩, ShF bg.row ⟨a4, 1, [gB 1 0]⟩, ShF bg.row ⟨a5, 1, [gB 1 (-1)]⟩, ShF slR ⟨ak, 3, jP k1 k2⟩, ShF bR ⟨k1, 1, [true]⟩, ShF bR ⟨k2, 1, [true]⟩]
abbrev exX (b : Int) (ao a1 a2 a3 a4 a5 ak k1 k2 : Option Addr) : br := ⟨⟨ao, 3, gK b a1 a2 a3 a4 a5⟩, ⟨ak, 3, jP k1 k2⟩, false, eu _, eu _, 0, 0, 0, 0⟩
theorem aaq (b : Int) (ao a1 a2 a3 a4 a5 ak k1 k2 : Option Addr) : Ent (ShF bg.row ⟨a2, 1, [gB b 0]⟩ :: uD b ao a1 a2 a3 a4 a5 ak k1 k2) (exX b ao a1 a2 a3 a4 a5 ak k1 k2).ok := fun w S hp => by
 have p0 := hp _ (an 0 rfl)
 have p1 := hp _ (an 1 rfl)
 have p2 := hp _ (an 2 rfl)
 have p3 := hp _ (an 3 rfl)
 have p4 := hp _ (an 4 rfl)
 have p5 := hp _ (an 5 rfl)
 have p6 := hp _ (an 6 rfl)
 have p7 := hp _ (an 7 rfl)
 have p8 := hp _ (an 8 rfl)
 refine ⟨p1, fun o ho => ?_, p6, fun s hs => ?_, eT, fY, eT, fY⟩
 · simp only [gK, List.mem_cons, List.not_mem_nil, or_false] at ho
   rcases ho with rfl | rfl | rfl
   · exact rR (by unfold maxLen; show 1 ≤ _; omega) p2 p0
   · exact rR (by unfold maxLen; show 1 ≤ _; omega) p3 p4
   · exact aaj p5
 · simp only [jP, List.mem_cons, List.not_mem_nil, or_false] at hs
   rcases hs with rfl | rfl | rfl
   · exact p7
   · exact p8
   · exact eT
theorem pM (b : Int) (ao a1 a2 a3 a4 a5 ak k1 k2 : Option Addr) :
   Con Tryz.prog 13 [.slice ao 3 3, .slice ak 3 3, .bool false, .slice none 0 0, .slice none 0 0] (uD b ao a1 a2 a3 a4 a5 ak k1 k2) [bA (.slice a2 1 1) 63 10 ([gB b 0].map bg.row)]
     fun r ps hp => ps = [] ∧ ∃ hp2, hp = bA (.slice a2 1 1) 63 10 ([gB b 0].map bg.row) :: hp2 ∧
       ((∃ c p, cI (jP k1 k2) (aW (gK b a1 a2 a3 a4 a5)) (di []) (cA []) false = some (c, p) ∧ r = .tuple #[.slice none 0 0, .int .i64 c, p.val] ∧ hp2 = []) ∨
       (cI (jP k1 k2) (aW (gK b a1 a2 a3 a4 a5)) (di []) (cA []) false = none ∧ ∃ (ad : Option Addr) (t : BS), ju (bS (jP k1 k2) (aW (gK b a1 a2 a3 a4 a5)) (di []) (cA []) false) (aW (gK b a1 a2 a3 a4 a5)) t ∧ r = .tuple #[.slice ad 3 3, .int .i64 0, (⟨0, 0⟩ : aD).val] ∧
         hp2 = [bA (.slice ad 3 3) 66 1 (ix t.mC 3), dS 65 6 aO.row t.mC])) := by
 have h := (j9 (exX b ao a1 a2 a3 a4 a5 ak k1 k2) (ya b a1 a2 a3 a4 a5 k1 k2) (di []) (fun _ _ => iQ)).pre (ps0 := ShF bg.row ⟨a2, 1, [gB b 0]⟩ :: uD b ao a1 a2 a3 a4 a5 ak k1 k2) fun p hp => (List.mem_singleton.1 hp) ▸ aaq b ao a1 a2 a3 a4 a5 ak k1 k2
 refine (Con.borrowL h [bA (.slice a2 1 1) 63 10 ([gB b 0].map bg.row)] (fun w S fp hres => (eF (hres 0 _ rfl)).mono (fun _ _ => rfl) fun b hb => hb.imp id fun hf => ⟨0, by simp, hf⟩) ?_).post ?_
 · rintro v ps' hp' ⟨_, ⟨c, p, _, _, rfl⟩ | ⟨_, ad, t, _, _, rfl⟩⟩ A hA
   · cases hA
   · simp only [List.mem_cons, List.not_mem_nil, or_false] at hA
     rcases hA with rfl | rfl
     · exact oy fun r hr d hd => by
         obtain ⟨i, _, rfl⟩ := List.mem_map.1 hr
         rw [List.mem_singleton.1 hd]; exact ⟨_, rfl⟩
     · exact rI fun x d hd => by
         simp only [List.mem_cons, List.not_mem_nil, or_false] at hd
         rcases hd with rfl | rfl | rfl | rfl | rfl | rfl <;> exact ⟨_, rfl⟩
 · rintro v ps' hp' ⟨h1, ps2, hp2, ⟨_, h2⟩, h3⟩
   exact ⟨h1, hp2, h3, h2⟩
end Go.Proofs.YtgmiihmahaahiaaGreatDoor

namespace Go.Proofs.YtgmiihmahaahiaaGreatDoor
open Go.RowKit Go.Lp Go.Sy
open Go.Proofs.Tryz
theorem yF (ao a1 a2 a3 a4 a5 ak k1 k2 : Option Addr) :
   Con Tryz.prog 13 [.slice ao 3 3, .slice ak 3 3, .bool false, .slice none 0 0, .slice none 0 0] (uD 2 ao a1 a2 a3 a4 a5 ak k1 k2) [bA (.slice a2 1 1) 63 10 ([gB 2 0].map bg.row)]
     fun r ps hp => ps = [] ∧ ∃ (ad : Option Addr) (m : Nat → Option (Sl aO)), (chS ad 3 m).l.map (·.l) = [[⟨2, 1, 0, 0, 2, false⟩], [⟨2, 1, 0, 0, 2, false⟩], [⟨2, 1, 0, 0, 2, false⟩]] ∧ r = .tuple #[.slice ad 3 3, .int .i64 0, (⟨0, 0⟩ : aD).val] ∧
       hp = [bA (.slice a2 1 1) 63 10 ([gB 2 0].map bg.row), bA (.slice ad 3 3) 66 1 (ix m 3), dS 65 6 aO.row m] := by
 refine (pM 2 ao a1 a2 a3 a4 a5 ak k1 k2).post ?_
 rintro v ps' hp' ⟨h1, hp2, h3, ⟨c, p, h4, _⟩ | ⟨_, ad, t, hT, rfl, rfl⟩⟩
 · rw [z7] at h4; cases h4
 · refine ⟨h1, ad, t.mC, ?_, rfl, h3⟩
   rw [← zZ (di []) a1 a2 a3 a4 a5 k1 k2]
   show List.map (fun s : Sl aO => s.l) ((List.range 3).map (cn t.mC)) = _
   rw [List.map_map]
   unfold iE iy
   refine List.map_congr_left fun i hi => ?_
   show (cn t.mC i).l = _
   rw [hT.rows, show aW (gK 2 a1 a2 a3 a4 a5) = bQ (gK 2 a1 a2 a3 a4 a5) 3 from rfl, gJ, if_pos (List.mem_range.1 hi)]
theorem xR (ao a1 a2 a3 a4 a5 ak k1 k2 : Option Addr) :
   Con Tryz.prog 13 [.slice ao 3 3, .slice ak 3 3, .bool false, .slice none 0 0, .slice none 0 0] (uD 1 ao a1 a2 a3 a4 a5 ak k1 k2) [bA (.slice a2 1 1) 63 10 ([gB 1 0].map bg.row)]
     fun r ps hp => ps = [] ∧ r = .tuple #[.slice none 0 0, .int .i64 4, (⟨1, 0⟩ : aD).val] ∧ hp = [bA (.slice a2 1 1) 63 10 ([gB 1 0].map bg.row)] := by
 refine (pM 1 ao a1 a2 a3 a4 a5 ak k1 k2).post ?_
 rintro v ps' hp' ⟨h1, hp2, h3, ⟨c, p, h4, rfl, rfl⟩ | ⟨h4, _⟩⟩
 · rw [yW] at h4
   simp only [Option.some.injEq, Prod.mk.injEq] at h4
   obtain ⟨rfl, rfl⟩ := h4
   exact ⟨h1, rfl, h3⟩
 · rw [yW] at h4; cases h4
end Go.Proofs.YtgmiihmahaahiaaGreatDoor

