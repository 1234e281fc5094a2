/- Parts of the proof, in build order. No condition. -/
import Derived.Test.YtgmiihmahaahiaaGreatDoorQa14
import Derived.Test.YtgmiihmahaahiaaGreatDoorQa03
import Derived.Test.YtgmiihmahaahiaaGreatDoorQa13
import Derived.Test.YtgmiihmahaahiaaGreatDoorQa07
import Derived.Test.YtgmiihmahaahiaaGreatDoorQa10
import Derived.OpenShut
import Derived.Test.YtgmiihmahaahiaaGreatDoorRows
import Derived.Test.YtgmiihmahaahiaaGreatDoorQa04
import Derived.WalkKit
import Derived.ProofKit
import Derived.ShutString
import Derived.ChangeOld
import Derived.Below
import Derived.LaidMore
import Derived.Stop.Joined
set_option linter.unusedSimpArgs false
set_option linter.unusedVariables false
set_option maxHeartbeats 1000000
set_option maxRecDepth 20000
namespace Go.Sy
open Go.RowKit Go.Lp
theorem finR3 {P : Program} {s : Sta} {fn : Func} {r r' r2 : ResultVar} {v v' v2 : Value} {R : Value → List Per → List Res → Prop} {e : Exit} (lp lh : List Nat) (ok : okH s.hp lh = true) (hr : fn.results = #[r, r', r2]) (h1 : RV P s r v) (h2 : RV P s r' v') (h3 : RV P s r2 v2) (h : R (.tuple #[v, v', v2]) (keepP s.ps lp) (keepH s.hp lh)) (he : e = .normal ∨ e = .ret) : PostF P fn R e s :=
 ⟨he, .tuple #[v, v', v2], lp, lh, ok, fun a w S fp hst henv => by
   have h1 := h1 a w S fp hst henv
   have h2 := h2 a w S fp hst henv
   have h3 := h3 a w S fp hst henv
   cases r with
   | tmp t =>
     cases r' with
     | tmp u =>
       cases r2 with
       | tmp x => simp only [results, hr]; simp at h1 h2 h3; simp [h1, h2, h3]
       | cell b t => obtain ⟨ad, g1, g2⟩ := h3; simp only [results, hr]; simp at g1 h1 h2; simp [g1, g2, h1, h2, asAddr_run]
     | cell b t =>
       obtain ⟨ad, g1, g2⟩ := h2
       cases r2 with
       | tmp x => simp only [results, hr]; simp at g1 h1 h3; simp [g1, g2, h1, h3, asAddr_run]
       | cell b t => obtain ⟨ad', k1, k2⟩ := h3; simp only [results, hr]; simp at g1 h1 k1; simp [g1, g2, h1, k1, k2, asAddr_run]
   | cell b t =>
     obtain ⟨ad, g1, g2⟩ := h1
     cases r' with
     | tmp u =>
       cases r2 with
       | tmp x => simp only [results, hr]; simp at g1 h2 h3; simp [g1, g2, h2, h3, asAddr_run]
       | cell b t => obtain ⟨ad', k1, k2⟩ := h3; simp only [results, hr]; simp at g1 h2 k1; simp [g1, g2, h2, k1, k2, asAddr_run]
     | cell b t =>
       obtain ⟨ad', k1, k2⟩ := h2
       cases r2 with
       | tmp x => simp only [results, hr]; simp at g1 k1 h3; simp [g1, g2, k1, k2, h3, asAddr_run]
       | cell b t => obtain ⟨ad'', m1, m2⟩ := h3; simp only [results, hr]; simp at g1 k1 m1; simp [g1, g2, k1, k2, m1, m2, asAddr_run], h⟩
end Go.Sy
namespace Go.Proofs.YtgmiihmahaahiaaGreatDoor
open Go.RowKit Go.Lp Go.Sy
open Go.Proofs.Tryz
attribute [local irreducible] aL aB awp aC fwp
theorem StE.ents {ps ps' : List Per} {hp : List Res} (h : ∀ p ∈ ps', Ent ps p) : StE ps hp ps' hp := fun w S fp hst =>
 ⟨S, fp, ⟨fun p hp => h p hp w S hst.per, hst.res, hst.lt, hst.dj, hst.slt⟩, fun _ h => h, fun _ h => .inl h, fun _ h => h⟩
theorem con_collect0 (x : RLink) (hok : RsOk x.objs.l x.kp.l) (lb : Nat) : Con Tryz.prog 35 [.pointer (some ⟨lb, 0, none⟩)] [At lb 0 x.row, x.ok]
   [MapR x.ball kPair slV (fun _ => none : RKey → Option (Sl GCulprit)), Pool 34 2 GCulprit.row (fun _ => none : RKey → Option (Sl GCulprit)), MapR x.bch kPair GCulprit.val (fun _ => none : RKey → Option GCulprit), MapR x.bnm kStr slV (fun _ => none : ByteArray → Option (Sl RKey)), Pool 157 2 keyR (fun _ => none : ByteArray → Option (Sl RKey)), MapR x.bmn kStr GCulprit.val (fun _ => none : ByteArray → Option GCulprit)]
   fun r ps hp => ps = [] ∧ ∃ (st : CS) (at_ : GCulprit) (mM : ByteArray → Option GCulprit), CInv x.kp.l (flatF x.objs.l) st ∧ r = .tuple #[.int .i64 (if (collE x.kp.l (flatF x.objs.l)).isSome then 4 else 0), at_.val] ∧ (∀ p, collE x.kp.l (flatF x.objs.l) = some p → at_ = p) ∧
     (collE x.kp.l (flatF x.objs.l) = none → ∀ n, mM n = (mainL x.kp.l (flatF x.objs.l) n).head?.map (·.p)) ∧
     hp = [MapR x.ball kPair slV st.mA, Pool 34 2 GCulprit.row st.mA, MapR x.bch kPair GCulprit.val (chP x.kp.l (flatF x.objs.l)), MapR x.bnm kStr slV st.mN, Pool 157 2 keyR st.mN, MapR x.bmn kStr GCulprit.val mM] := con_collect x hok lb
theorem con_bindEach (x : RLink) (hok : RsOk x.objs.l x.kp.l) (lb bl bo : Nat) (L : List Dfn) (st : CS) (mM : ByteArray → Option GCulprit) (hF : FinOk x L st mM) (SV : ByteArray → ByteArray → Bool) (hSV : ∀ p q, SV p q = true ↔ Srv x.vs.l p q) (vo : Value) (a b : Nat) :
   Con Tryz.prog 36 [.pointer (some ⟨lb, 0, none⟩), .func (.func 37) #[] #[.pointer (some ⟨bl, 0, none⟩), .pointer (some ⟨a, 0, none⟩), .pointer (some ⟨b, 0, none⟩), .pointer (some ⟨bo, 0, none⟩)]]
   [At bl 0 [.v (.pointer (some ⟨lb, 0, none⟩))], At bo 0 [.v vo], Go.Sy.AllK keyR st.mN, ShM x.bmn kStr GCulprit.val mM, ShM x.bnm kStr slV st.mN, ShM x.bch kPair GCulprit.val (chP x.kp.l L), ShM x.ball kPair slV st.mA, At lb 0 x.row, x.ok] (bRes vo a b x.objs.l.length ⟨fun _ => none, (⟨0, 0⟩, false)⟩)
   fun _ ps hp => ps = [] ∧ ∃ t, BInv (choiceR x.kp.l L SV (libR x.ifs.l) x.lib) (flatF x.objs.l) t ∧ hp = bRes vo a b x.objs.l.length t := by
 refine (con_exlist (I := BInv (choiceR x.kp.l L SV (libR x.ifs.l) x.lib) []) (I' := BInv (choiceR x.kp.l L SV (libR x.ifs.l) x.lib) (flatF x.objs.l)) (l := bRes vo a b x.objs.l.length) (l' := bRes vo a b x.objs.l.length) (x := ⟨fun _ => none, (⟨0, 0⟩, false)⟩)
   ((con_each x hok.n hok.sy lb 37 [.pointer (some ⟨bl, 0, none⟩), .pointer (some ⟨a, 0, none⟩), .pointer (some ⟨b, 0, none⟩), .pointer (some ⟨bo, 0, none⟩)] (AndP (At bl 0 [.v (.pointer (some ⟨lb, 0, none⟩))]) (AndP (At bo 0 [.v vo]) (AndP (At lb 0 x.row) (AndP x.ok (x.fin L st mM))))) (fun M => AnyR (BInv (choiceR x.kp.l L SV (libR x.ifs.l) x.lib) M) (bRes vo a b x.objs.l.length)) (by kernel_rfl)
     fun M d hd hl hp => con_exbun fun t ht => (con_bind1 x hok lb bl bo L st mM hF SV hSV vo a b M d hd hl hp t ht).pre fun p hp => ?_).pre fun p hp => ?_) (.start _ _))
 · simp only [List.mem_cons, List.not_mem_nil, or_false] at hp
   have h0 := Ent.of (List.mem_singleton.2 (rfl : AndP (At bl 0 [.v (.pointer (some ⟨lb, 0, none⟩))]) (AndP (At bo 0 [.v vo]) (AndP (At lb 0 x.row) (AndP x.ok (x.fin L st mM)))) = _))
   rcases hp with rfl | rfl | rfl | rfl | rfl
   · exact h0.left
   · exact h0.right.left
   · exact h0.right.right.left
   · exact h0.right.right.right.left
   · exact h0.right.right.right.right
 · simp only [List.mem_cons, List.not_mem_nil, or_false] at hp
   rcases hp with rfl | rfl | rfl
   · exact .of (psAt 7 rfl)
   · exact .of (psAt 8 rfl)
   · exact .mk2 (.of (psAt 0 rfl)) (.mk2 (.of (psAt 1 rfl)) (.mk2 (.of (psAt 7 rfl)) (.mk2 (.of (psAt 8 rfl)) (.mk2 (.of (psAt 6 rfl)) (.mk2 (.of (psAt 5 rfl)) (.mk2 (.of (psAt 4 rfl)) (.mk2 (.of (psAt 3 rfl)) (.of (psAt 2 rfl)))))))))
theorem rowD_obj {i : Int} {l : List GSymbol} {d : Dfn} (h : d ∈ rowD i l) : d.p.obj = i := by
 obtain ⟨k, _, hp⟩ := rowD_get h; rw [hp]
theorem flatTo_filter (os : List GObject) (i : Nat) : ∀ n, (flatTo os n).filter (fun d => decide (d.p.obj = (i : Int))) = if i < n then rowD (i : Int) (elt os (i : Int)).syms.l else []
 | 0 => by rw [if_neg (by omega)]; rfl
 | n + 1 => by
   rw [flatTo_succ, List.filter_append, flatTo_filter os i n]
   by_cases h : i = n
   · subst h
     rw [if_neg (by omega), if_pos (by omega), List.nil_append, List.filter_eq_self.2]
     exact fun d hd => by rw [decide_eq_true_eq]; exact rowD_obj hd
   · have : (rowD (n : Int) (elt os (n : Int)).syms.l).filter (fun d => decide (d.p.obj = (i : Int))) = [] := by
       rw [List.filter_eq_nil_iff]
       exact fun d hd => by rw [decide_eq_true_eq, rowD_obj hd]; omega
     rw [this, List.append_nil]
     by_cases h2 : i < n
     · rw [if_pos h2, if_pos (by omega)]
     · rw [if_neg h2, if_neg (by omega)]
def codeE (e : Option (Int × GCulprit)) : Int := match e with
 | some (c, _) => c
 | none => 0
def placeE (e : Option (Int × GCulprit)) : GCulprit := match e with
 | some (_, p) => p
 | none => ⟨0, 0⟩
abbrev chS (ad : Option Addr) (n : Nat) (m : Nat → Option (Sl GChoice)) : Sl (Sl GChoice) := ⟨ad, n, (List.range n).map (getS m)⟩
abbrev mkL (x : RLink) (a b c d : Nat) : RLink := ⟨x.objs, x.kp, x.lib, x.ifs, x.vs, a, b, c, d⟩
theorem outR_nil (n : Nat) : outR (fun _ => none) n = List.replicate n [.v (.slice none 0 0)] := by
 unfold outR
 rw [List.eq_replicate_iff]
 refine ⟨by simp, fun r hr => ?_⟩
 obtain ⟨i, _, rfl⟩ := List.mem_map.1 hr; rfl
theorem con_bindO (x : RLink) (hok : RsOk x.objs.l x.kp.l) (SV : ByteArray → ByteArray → Bool) (hSV : ∀ p q, SV p q = true ↔ Srv x.vs.l p q) :
   Con Tryz.prog 13 [x.objs.val, x.kp.val, .bool x.lib, x.ifs.val, x.vs.val] [x.ok] [] (fun r ps hp => ps = [] ∧ ((∃ c p, bindE x.kp.l (flatF x.objs.l) SV (libR x.ifs.l) x.lib = some (c, p) ∧ r = .tuple #[.slice none 0 0, .int .i64 c, p.val] ∧ hp = []) ∨
   (bindE x.kp.l (flatF x.objs.l) SV (libR x.ifs.l) x.lib = none ∧ ∃ (ad : Option Addr) (t : BS), BInv (choiceR x.kp.l (flatF x.objs.l) SV (libR x.ifs.l) x.lib) (flatF x.objs.l) t ∧ r = .tuple #[.slice ad x.objs.l.length x.objs.l.length, .int .i64 0, (⟨0, 0⟩ : GCulprit).val] ∧
     hp = [OwnS (.slice ad x.objs.l.length x.objs.l.length) 66 1 (outR t.mC x.objs.l.length), Pool 65 6 GChoice.row t.mC]))) := by
 refine Con.enter Tryz.func13 rfl (by simp [Tryz.ntmps13]) ?_
 show awp _ _ _ _ ⟨[(0, true, _), (1, true, _), (2, true, _), (3, true, _), (4, true, _)], _, _⟩
 refine aSR (aA rfl (aA rfl ?_))
 refine aL_eff (q := true) rfl (x_alloc (zs := [.int .i64 0, .int .i64 0]) (by kernel_rfl) rfl (fun b0_2 => ?_))
 refine aL_hp (by (try simp only [nM, nN]); rfl) ?_
 refine aNn (aSR (aM rfl (aM rfl (aM rfl (aM rfl (aM rfl ?_))))))
 refine aL_eff (q := true) rfl (e_makeMap (kPair) ((slV : Sl GCulprit → Value)) rfl (fun b1_5 => ?_))
 refine aL_hp (by (try simp only [nM, nN]); rfl) ?_
 refine aL_eff (q := true) rfl (e_makeMap (kPair) (GCulprit.val) rfl (fun b1_6 => ?_))
 refine aL_hp (by (try simp only [nM, nN]); rfl) ?_
 refine aL_eff (q := true) rfl (e_makeMap (kStr) ((slV : Sl RKey → Value)) rfl (fun b1_7 => ?_))
 refine aL_hp (by (try simp only [nM, nN]); rfl) ?_
 refine aL_eff (q := true) rfl (e_makeMap (kStr) (GCulprit.val) rfl (fun b1_8 => ?_))
 refine aL_hp (by (try simp only [nM, nN]); rfl) ?_
 refine aU rfl (q_bld (l := [(0, .tmp 19), (1, .tmp 20), (2, .tmp 21), (3, .tmp 22), (4, .tmp 23), (5, .tmp 24), (6, .tmp 25), (7, .tmp 26), (8, .tmp 27)]) (zs := [.slice none 0 0, .slice none 0 0, .bool false, .slice none 0 0, .slice none 0 0, .map none, .map none, .map none, .map none]) (pl := [(0, 1), (1, 1), (2, 1), (3, 1), (4, 1), (5, 1), (6, 1), (7, 1), (8, 1)]) (by kernel_rfl) (by kernel_rfl) (by kernel_rfl) rfl rfl rfl) ?_
 refine aL_eff (q := true) rfl (x_box rfl rfl rfl (fun b1_10 => ?_))
 refine aL_hp (by (try simp only [nM, nN]); rfl) ?_
 refine aL_eff (q := true) rfl (x_alloc (zs := [.pointer none]) (by kernel_rfl) rfl (fun b1_11 => ?_))
 refine aL_hp (by (try simp only [nM, nN]); rfl) ?_
 refine aL_eff rfl (x_store 6 tk101 rfl rfl rfl rfl ?_)
 refine aL_hp (by (try simp only [nK, nL]); rfl) ?_
 refine aNs (awp_seq (awp_poolNew RKey 34 2 GCulprit.row (awp_poolNew ByteArray 157 2 keyR ?_)))
 show awp _ _ _ _ ⟨_, _, [_, _, _, _, _, _, _, _, _]⟩
 refine awp_shareB 5 rfl rfl ?_
 show awp _ _ _ _ ⟨_, At _ 0 _ :: _, _⟩
 refine awp_region (aU rfl (q_load 6 tk101 rfl rfl rfl) ?_)
 refine aL_eff (q := false) rfl (e_call [1, 0] [1, 7, 2, 3, 8, 4] (by kernel_rfl) rfl rfl rfl rfl (con_collect0 (mkL x b1_5 b1_6 b1_7 b1_8) hok b1_10) ?_)
 rintro _ _ _ ⟨rfl, st, at_, mM, hI, rfl, hat, hmm, rfl⟩
 refine aL_st (by (try simp only [nM, nN]); rfl) (by (try simp only [putB, place, Nat.reduceBEq, if_true, if_false, reduceIte, Nat.reduceAdd, nW]); rfl) ?_
 refine aM rfl (aU rfl (q_extract rfl rfl) (aU rfl (q_extract rfl rfl) ?_))
 refine aL_eff (q := true) rfl (x_alloc (zs := [.int .i64 0, .int .i64 0]) (by kernel_rfl) rfl (fun b2_5 => ?_))
 refine aL_hp (by (try simp only [nM, nN]); rfl) ?_
 refine aA rfl ?_
 refine aL_eff rfl (x_store 9 tk34 rfl rfl rfl rfl ?_)
 refine aL_hp (by (try simp only [nK, nL]); rfl) ?_
 refine aNn (aSR (aM rfl (aU rfl (q_neq rfl rfl) (aNn ?_))))
 refine awp_cond _ rfl (fun h1 => ?_) (fun h1 => ?_)
 ·skip
  have hce : ∃ p, collE x.kp.l (flatF x.objs.l) = some p := by
    cases hc : collE x.kp.l (flatF x.objs.l) with
    | some p => exact ⟨p, rfl⟩
    | none => exfalso; simp [hc] at h1
  obtain ⟨p, hce⟩ := hce
  obtain rfl := hat p hce
  have hb : bindE x.kp.l (flatF x.objs.l) SV (libR x.ifs.l) x.lib = some (4, at_) := by
    unfold collE at hce
    unfold bindE
    rw [Option.or_eq_some_iff] at hce
    rcases hce with h | ⟨h, h2⟩
    · rw [h]
    · rw [h]; dsimp only; rw [h2]
  refine awp_seq ?_
  refine awp_drawnC [4] [4] [b0_2, b2_5] (by kernel_rfl) ?_
  show aC _ _ _ _ _ _ _ 5 #[false, false, false, false, false] _
  refine aC_f 0 rfl (by kernel_rfl) true rfl rfl (fun _ => q_move rfl) ?_
  refine aC_box 1 9 rfl (by kernel_rfl) true rfl rfl (by simp) tk34 (fun _ => rfl) rfl rfl ?_
  refine aC_f 2 rfl (by kernel_rfl) true rfl rfl (fun _ => q_assign rfl) ?_
  refine aC_f 3 rfl (by kernel_rfl) true rfl rfl (fun _ => q_assign rfl) ?_
  refine aC_arms 4 [] (by kernel_rfl) (arms_cons ?_ arms_nil)
  refine aC_arm 4 rfl rfl (Eff.wild (q := false) ?_)
  refine id (x_store 0 tk34 rfl rfl rfl rfl ?_)
  refine aC_st (by (try simp only [nO, nK, nL]); rfl) (by (try simp only [nM, nN]); rfl) (by (try simp only [keepH, nQ, nR, putB, place, Nat.reduceBEq, if_true, if_false, reduceIte, Nat.reduceAdd, nW]); rfl) ?_
  refine aC_nil (by kernel_rfl) ?_
  refine thn_n (awp_ret (thn_r ?_))
  refine finR3 [] [] rfl Tryz.results13 (rv_tmp rfl) (rv_tmp rfl) (rv_cell 0 tk34 rfl rfl rfl) ?_ (.inr rfl)
  exact ⟨rfl, .inl ⟨4, at_, hb, by rw [hce]; rfl, rfl⟩⟩
 ·skip
  have hce : collE x.kp.l (flatF x.objs.l) = none := by
    cases hc : collE x.kp.l (flatF x.objs.l) with
    | none => rfl
    | some p => exfalso; simp [hc] at h1
  obtain ⟨ht1, ht2⟩ : twiceK x.kp.l (flatF x.objs.l) = none ∧ twice2 x.kp.l (flatF x.objs.l) = none := by
    unfold collE at hce; rwa [Option.or_eq_none_iff] at hce
  have hF : FinOk (mkL x b1_5 b1_6 b1_7 b1_8) (flatF x.objs.l) st mM := ⟨rfl, hI, hmm hce, ht2⟩
  refine awp_skip (thn_n (aSR (aM rfl (aU rfl (q_lenS Tryz.underlying22 rfl) ?_))))
  refine aL_eff (q := true) rfl (w_make (m := x.objs.l.length) (zs := [.slice none 0 0]) el31 (by kernel_rfl) rfl (by decide) (ev_int rfl (rfl)) (ev_int rfl (rfl)) (by have := hok.n; omega) rfl (fun v5_2 => ?_))
  refine aL_hp (by (try simp only [nM, nN]); rfl) ?_
  refine aL_eff (q := true) rfl (x_alloc (zs := [.slice none 0 0]) (by kernel_rfl) rfl (fun b5_3 => ?_))
  refine aL_hp (by (try simp only [nM, nN]); rfl) ?_
  refine aL_eff rfl (x_store 11 tk31 rfl rfl rfl rfl ?_)
  refine aL_hp (by (try simp only [nK, nL]); rfl) ?_
  refine aNn (aSR ?_)
  refine aL_eff (q := true) rfl (x_alloc (zs := [.int .i64 0, .int .i64 0]) (by kernel_rfl) rfl (fun b6_0 => ?_))
  refine aL_hp (by (try simp only [nM, nN]); rfl) ?_
  refine aNn (aSR ?_)
  refine aL_eff (q := true) rfl (x_alloc (zs := [.bool false]) (by kernel_rfl) rfl (fun b7_0 => ?_))
  refine aL_hp (by (try simp only [nM, nN]); rfl) ?_
  refine aL_eff rfl (x_store 13 tk4 rfl rfl rfl rfl ?_)
  refine aL_hp (by (try simp only [nK, nL]); rfl) ?_
  refine aNs ?_
  refine awp_conv 10 (OwnS _ _ 1 (outR (fun _ => none) x.objs.l.length)) rfl (fun _ _ _ h => by rw [outR_nil]; exact h) ?_
  refine awp_poolNew Nat 65 6 GChoice.row ?_
  refine awp_mapShare 1 rfl (awp_mapShare 2 rfl (awp_mapShare 3 rfl (awp_mapShare 4 rfl (awp_poolShare 8 rfl (awp_shareB 11 rfl rfl (awp_shareB 6 rfl rfl ?_))))))
  show awp _ _ _ _ ⟨_, [At b1_11 0 _, At b5_3 0 _, _, _, _, _, _, _, _], [_, _, _, _, _, _, _, _, _, _, _, _, _, _, _]⟩
  refine awp_region (aU rfl (q_loadDE (o := 0) tk101 rfl (.of (psAt 0 rfl)) rfl) (aU rfl (q_func (l := [.tmp 13, .tmp 17, .tmp 18, .tmp 16]) rfl) ?_))
  refine aL_eff (q := false) rfl (e_call [8, 7, 6, 5, 4, 3, 2, 1, 0] [10, 14, 12, 13] (by kernel_rfl) rfl rfl rfl rfl (con_bindEach (mkL x b1_5 b1_6 b1_7 b1_8) hok b1_10 b1_11 b5_3 (flatF x.objs.l) st mM hF SV hSV (.slice v5_2 x.objs.l.length x.objs.l.length) b6_0 b7_0) ?_)
  rintro _ _ _ ⟨rfl, t, hT, rfl⟩
  refine aL_st (by (try simp only [nM, nN]); rfl) (by (try simp only [putB, place, Nat.reduceBEq, if_true, if_false, reduceIte, Nat.reduceAdd, nW]); rfl) ?_
  refine aNs (aSR (aU rfl (q_load 13 tk4 rfl rfl rfl) (aNn ?_)))
  refine awp_cond _ rfl (fun h2 => ?_) (fun h2 => ?_)
  ·skip
   have hb : bindE x.kp.l (flatF x.objs.l) SV (libR x.ifs.l) x.lib = some (3, t.fa.1) := by
     have := hT.tw
     rw [if_pos h2] at this
     unfold bindE; rw [ht1]; dsimp only; rw [ht2]; dsimp only
     show (missR _ _ _ _ _).map _ = _
     unfold missR; rw [this]; rfl
   refine awp_seq ?_
   refine awp_drawnC [3] [3] [b0_2, b6_0] (by kernel_rfl) ?_
   show aC _ _ _ _ _ _ _ 4 #[false, false, false, false] _
   refine aC_box 0 12 rfl (by kernel_rfl) true rfl rfl (by simp) tk34 (fun _ => rfl) rfl rfl ?_
   refine aC_f 1 rfl (by kernel_rfl) true rfl rfl (fun _ => q_assign rfl) ?_
   refine aC_f 2 rfl (by kernel_rfl) true rfl rfl (fun _ => q_assign rfl) ?_
   refine aC_arms 3 [] (by kernel_rfl) (arms_cons ?_ arms_nil)
   refine aC_arm 3 rfl rfl (Eff.wild (q := false) ?_)
   refine id (x_store 0 tk34 rfl rfl rfl rfl ?_)
   refine aC_st (by (try simp only [nO, nK, nL]); rfl) (by (try simp only [nM, nN]); rfl) (by (try simp only [keepH, nQ, nR, putB, place, Nat.reduceBEq, if_true, if_false, reduceIte, Nat.reduceAdd, nW]); rfl) ?_
   refine aC_nil (by kernel_rfl) ?_
   refine thn_n (awp_ret (thn_r ?_))
   refine finR3 [] [] rfl Tryz.results13 (rv_tmp rfl) (rv_tmp rfl) (rv_cell 0 tk34 rfl rfl rfl) ?_ (.inr rfl)
   exact ⟨rfl, .inl ⟨3, t.fa.1, hb, rfl, rfl⟩⟩
  ·skip
   have hb : bindE x.kp.l (flatF x.objs.l) SV (libR x.ifs.l) x.lib = none := by
     have := hT.tw
     rw [if_neg (by rw [h2]; decide)] at this
     unfold bindE; rw [ht1]; dsimp only; rw [ht2]; dsimp only
     show (missR _ _ _ _ _).map _ = _
     unfold missR; rw [this]; rfl
   refine awp_skip (thn_n (aSR (aU rfl (q_loadDE (o := 0) tk31 rfl (.of (psAt 1 rfl)) rfl) ?_)))
   refine aU rfl (q_bld (l := []) (zs := [.int .i64 0, .int .i64 0]) (pl := [(0, 1), (1, 1)]) (by kernel_rfl) (by kernel_rfl) (by kernel_rfl) rfl rfl rfl) ?_
   refine aA rfl (aA rfl ?_)
   refine aL_eff rfl (x_store 0 tk34 rfl rfl rfl rfl ?_)
   refine aL_hp (by (try simp only [nK, nL]); rfl) ?_
   refine aNn (awp_ret ?_)
   refine finR3 [] [10, 14] rfl Tryz.results13 (rv_tmp rfl) (rv_tmp rfl) (rv_cell 0 tk34 rfl rfl rfl) ?_ (.inr rfl)
   exact ⟨rfl, .inr ⟨hb, v5_2, t, hT, rfl, rfl⟩⟩
theorem con_bind (x : RLink) (hok : RsOk x.objs.l x.kp.l) (SV : ByteArray → ByteArray → Bool) (hSV : ∀ p q, SV p q = true ↔ Srv x.vs.l p q) :
   Con Tryz.prog 13 [x.objs.val, x.kp.val, .bool x.lib, x.ifs.val, x.vs.val] [x.ok] [] fun r ps hp => hp = [] ∧ ∃ S : Sl (Sl GChoice), ps = [AllF (ShF GChoice.row) S.l, ShF slR S] ∧
     r = .tuple #[S.val, .int .i64 (codeE (bindE x.kp.l (flatF x.objs.l) SV (libR x.ifs.l) x.lib)), (placeE (bindE x.kp.l (flatF x.objs.l) SV (libR x.ifs.l) x.lib)).val] ∧
     S.l.map (·.l) = if bindE x.kp.l (flatF x.objs.l) SV (libR x.ifs.l) x.lib = none then bindC x.objs.l x.kp.l SV (libR x.ifs.l) x.lib else [] := by
 refine Con.conv (con_bindO x hok SV hSV) fun r ps' hp' ⟨h1, h⟩ => ?_
 · subst h1
   rcases h with ⟨c, p, hb, rfl, rfl⟩ | ⟨hb, ad, t, hT, rfl, rfl⟩
   · refine ⟨_, _, StE.ents (ps' := [AllF (ShF GChoice.row) [], ShF slR (⟨none, 0, []⟩ : Sl (Sl GChoice))]) fun q hq => ?_, rfl, ⟨none, 0, []⟩, rfl, by rw [hb]; rfl, by rw [hb, if_neg (by simp)]; rfl⟩
     simp only [List.mem_cons, List.not_mem_nil, or_false] at hq
     rcases hq with rfl | rfl
     · exact fun _ _ _ s hs => by cases hs
     · exact fun _ _ _ => .e none 0 (by unfold maxLen; omega)
   · have hl : (chS ad x.objs.l.length t.mC).l.length = x.objs.l.length := by simp
     refine ⟨_, _, ((StE.share 0 (Sh (.slice ad x.objs.l.length x.objs.l.length) (.sl (outR t.mC x.objs.l.length))) rfl fun _ _ _ h => own_rep h).trans ((StE.share 1 (Go.Sy.AllK GChoice.row t.mC) rfl fun _ _ _ h => pool_rep h).trans ((StE.keep [0, 1] [] rfl).trans (StE.ents (ps' := [AllF (ShF GChoice.row) (chS ad x.objs.l.length t.mC).l, ShF slR (chS ad x.objs.l.length t.mC)]) fun q hq => ?_)))), rfl, chS ad x.objs.l.length t.mC, rfl, ?_, ?_⟩
     · simp only [List.mem_cons, List.not_mem_nil, or_false] at hq
       rcases hq with rfl | rfl
       · intro w S hp s hs
         obtain ⟨i, _, rfl⟩ := List.mem_map.1 hs
         exact Ent.getS (row := GChoice.row) (m := t.mC) (.of (psAt 1 rfl)) i w S hp
       · intro w S hp
         have := hp _ (psAt 0 rfl)
         show RepD w S (.slice ad (chS ad x.objs.l.length t.mC).l.length x.objs.l.length) (.sl ((chS ad x.objs.l.length t.mC).l.map slR))
         rw [hl, List.map_map]; exact this
     · rw [hb]
       show _ = Value.tuple #[.slice ad (chS ad x.objs.l.length t.mC).l.length x.objs.l.length, _, _]
       rw [hl]; rfl
     · rw [if_pos hb]
       show List.map (fun s : Sl GChoice => s.l) ((List.range x.objs.l.length).map (getS t.mC)) = _
       rw [List.map_map]
       unfold bindC rowC
       refine List.map_congr_left fun i hi => ?_
       show (getS t.mC i).l = _
       rw [hT.rows, show flatF x.objs.l = flatTo x.objs.l x.objs.l.length from rfl, flatTo_filter, if_pos (List.mem_range.1 hi)]
end Go.Proofs.YtgmiihmahaahiaaGreatDoor

namespace Go.Proofs.YtgmiihmahaahiaaGreatDoor
open Go.RowKit Go.Lp Go.Sy Go.Sort
open Go.Proofs.Tryz
attribute [local irreducible] aL aB awp aC fwp
def cmpO (p q : GOffered) : Int := if cmpS p.name q.name ≠ 0 then cmpS p.name q.name else cmpS p.version q.version
theorem cmpS_neg (a b : ByteArray) : cmpS a b < 0 ↔ sLt a b := by
 unfold cmpS
 split
 · simp [*]
 · split <;> simp [*]
theorem cmpS_zero (a b : ByteArray) : cmpS a b = 0 ↔ a = b := by
 unfold cmpS
 rcases sLt_tri a b with h | h | h
 · rw [if_pos h]
   exact ⟨fun h => by omega, fun e => (sLt_irr b (e ▸ h)).elim⟩
 · subst h; rw [if_neg (sLt_irr _), if_neg (sLt_irr _)]; simp
 · rw [if_neg (sLt_asymm h), if_pos h]
   exact ⟨fun h => by omega, fun e => (sLt_irr b (e ▸ h)).elim⟩
theorem cmpO_neg (p q : GOffered) : cmpO p q < 0 ↔ kLt p.key q.key := by
 unfold cmpO kLt
 have h1 := cmpS_neg p.name q.name
 have h2 := cmpS_zero p.name q.name
 have h3 := cmpS_neg p.version q.version
 show _ ↔ sLt p.name q.name ∨ p.name = q.name ∧ sLt p.version q.version
 rw [← h1, ← h2, ← h3]
 split <;> omega
theorem ltOf_cmpO (p q : GOffered) : ltOf cmpO p q = decide (kLt p.key q.key) := by
 unfold ltOf; rw [Bool.eq_iff_iff, decide_eq_true_eq, decide_eq_true_eq, cmpO_neg]
theorem swo_cmpO : SWO (ltOf cmpO) where
 irrefl x := by rw [ltOf_cmpO, decide_eq_false_iff_not]; exact kLt_irr _
 trans x y z h1 h2 := by rw [ltOf_cmpO, decide_eq_true_eq] at *; exact kLt_trans h1 h2
 ntrans x y z h1 h2 := by
   rw [ltOf_cmpO, decide_eq_false_iff_not] at *
   intro h
   rcases kLt_tri x.key y.key with h3 | h3 | h3
   · exact h1 h3
   · rw [h3] at h; exact h2 h
   · exact h2 (kLt_trans h3 h)
theorem con_exp1 (p q : GOffered) : Con Tryz.prog 43 [p.val, q.val] [] [] (fun r _ _ => r = .int .i64 (cmpO p q)) := by
 refine Con.enter Tryz.func43 rfl (by simp [Tryz.ntmps43]) ?_
 show awp _ _ _ _ ⟨[(0, true, _), (1, true, _)], _, _⟩
 refine aSR ?_
 refine aL_eff (q := true) rfl (x_box rfl rfl rfl (fun b0_0 => ?_))
 refine aL_hp (by (try simp only [nM, nN]); rfl) ?_
 refine aL_eff (q := true) rfl (x_box rfl rfl rfl (fun b0_1 => ?_))
 refine aL_hp (by (try simp only [nM, nN]); rfl) ?_
 refine aA rfl (aNs ?_)
 refine awp_drawn [11] (by kernel_rfl) ?_
 show aB _ _ _ _ _ 13 #[false, false, false, false, false, false, false, false, false, false, false, false, false] _
 refine bU 0 rfl (by kernel_rfl) rfl (q_fieldAddr (off := 0) (by kernel_rfl) rfl) ?_
 refine bU 1 rfl (by kernel_rfl) rfl (q_load 0 tk9 rfl rfl rfl) ?_
 refine bU 2 rfl (by kernel_rfl) rfl (q_fieldAddr (off := 0) (by kernel_rfl) rfl) ?_
 refine bU 3 rfl (by kernel_rfl) rfl (q_load 1 tk9 rfl rfl rfl) ?_
 refine bU 4 rfl (by kernel_rfl) rfl (q_call (by kernel_rfl) rfl (fun w S fp hst => (con_cmpS _ _).quiet0 hst)) ?_
 refine bU 5 rfl (by kernel_rfl) rfl (q_fieldAddr (off := 1) (by kernel_rfl) rfl) ?_
 refine bU 6 rfl (by kernel_rfl) rfl (q_load 0 tk9 rfl rfl rfl) ?_
 refine bU 7 rfl (by kernel_rfl) rfl (q_fieldAddr (off := 1) (by kernel_rfl) rfl) ?_
 refine bU 8 rfl (by kernel_rfl) rfl (q_load 1 tk9 rfl rfl rfl) ?_
 refine bU 9 rfl (by kernel_rfl) rfl (q_call (by kernel_rfl) rfl (fun w S fp hst => (con_cmpS _ _).quiet0 hst)) ?_
 refine aB_eff (q := true) 10 rfl (by kernel_rfl) rfl rfl (w_lit (zs := [.int .i64 0]) (l := [(0, .tmp 9), (1, .tmp 14)]) el90 (by kernel_rfl) (by decide) (by decide) (by decide) rfl rfl rfl (.more rfl (.v rfl .nil) (.more rfl (.v rfl .nil) .nil)) rfl rfl (fun v1_10 => ?_))
 refine aB_st rfl (by (try simp only [nM, nN]); rfl) (by (try simp only [putB, place, Nat.reduceBEq, if_true, if_false, reduceIte, Nat.reduceAdd, nW]); rfl) ?_
 refine aB_eff (q := false) 11 rfl (by kernel_rfl) rfl rfl (e_call [] [2] (by kernel_rfl) rfl rfl rfl rfl ((con_or2 (.slice v1_10 2 2) _ _).clean (φ := fun r => r = _) (fun _ _ _ h => h)) ?_)
 rintro _ _ _ ⟨rfl, rfl, rfl⟩
 refine aB_st rfl (by (try simp only [nM, nN]); rfl) (by (try simp only [putB, place, Nat.reduceBEq, if_true, if_false, reduceIte, Nat.reduceAdd, nW]); rfl) ?_
 refine bU 12 rfl (by kernel_rfl) rfl (q_assign rfl) ?_
 refine aB_nil (by kernel_rfl) ?_
 refine thn_n (awp_ret ?_)
 refine fin1 [] [] rfl Tryz.results43 rfl ?_ (.inr rfl)
 rfl
theorem con_sortO (v : Value) (zs : List GOffered) (hz : zs.length ≤ 1000) : Con Tryz.prog 42 [v, .func (.func 43) #[] #[]] [] [OwnS v 46 7 (zs.map GOffered.row)]
   fun _ ps hp => ps = [] ∧ ∃ q : List GOffered, q.Perm zs ∧ (q.Pairwise fun a b => ¬ kLt b.key a.key) ∧ hp = [OwnS v 46 7 (q.map GOffered.row)] :=
 (con_sortK (enc := GOffered.vs) Tryz.sortO (by decide) Tryz.isAgg46 Tryz.sizeOf46 (fun _ => rfl) (fun x v hv => by simp at hv; rcases hv with rfl | rfl | rfl | rfl | rfl | rfl | rfl <;> rfl) cmpO swo_cmpO 43 (by kernel_rfl) (fun x y => con_exp1 x y) (T := 46) (v := v) zs (by omega)).post
   fun _ _ _ ⟨h1, q, h2, h3, h4⟩ => ⟨h1, q, h2, h3.imp fun h => by rw [cmpO_neg] at h; exact h, h4⟩
def selX (S : List (Sl GChoice)) (L : List Dfn) (d : Dfn) : Bool :=
 (decide ((elt (elt S d.p.obj).l d.p.sym).kind = 2) || decide ((elt (elt S d.p.obj).l d.p.sym).kind = 3)) && (decide ((elt (elt S d.p.obj).l d.p.sym).obj = d.p.obj) && (decide ((elt (elt S d.p.obj).l d.p.sym).sym = d.p.sym) && decide (visR L d.s.name ≠ 2)))
def selL (S : List (Sl GChoice)) (L M : List Dfn) : List GOffered := (M.filter (selX S L)).map offD
theorem selL_snoc (S : List (Sl GChoice)) (L M : List Dfn) (d : Dfn) : selL S L (M ++ [d]) = if selX S L d = true then selL S L M ++ [offD d] else selL S L M := by
 unfold selL
 rw [List.filter_append, List.map_append]
 by_cases h : selX S L d = true
 · rw [if_pos h, List.filter_cons_of_pos h]; rfl
 · rw [if_neg h, List.filter_cons_of_neg h]; simp
theorem selL_len (S : List (Sl GChoice)) (L M : List Dfn) : (selL S L M).length ≤ M.length := by
 unfold selL; rw [List.length_map]; exact List.length_filter_le _ _
theorem con_exported (os : Sl GObject) (kp : List (Sl Bool)) (kv : Value) (hok : RsOk os.l kp) (S : Sl (Sl GChoice)) (hS : S.l.length = os.l.length) (hR : ∀ i : Nat, i < os.l.length → (elt S.l (i : Int)).l.length = (elt os.l (i : Int)).syms.l.length) :
   Con Tryz.prog 18 [os.val, kv, S.val] [ShF GObject.row os, AllF GObject.ok os.l, AllF (ShF GChoice.row) S.l, ShF slR S] [] fun r ps hp => ps = [] ∧ ∃ (v : Value) (q : List GOffered), r = v ∧ q.Perm (selL S.l (flatF os.l) (flatF os.l)) ∧ (q.Pairwise fun a b => ¬ kLt b.key a.key) ∧ hp = [OwnS v 46 7 (q.map GOffered.row)] := by
 have hfl := flat_le hok
 have hpre : ∀ (i k : Nat) (o : GObject), i < os.l.length → elt os.l (i : Int) = o → k ≤ o.syms.l.length → (flatTo os.l i ++ rowD (i : Int) (o.syms.l.take k)).length ≤ 70 := fun i k o hi ho hk => by
   obtain ⟨M, hM⟩ := flatTo_pre os.l (i := i + 1) (n := os.l.length) (by omega)
   obtain ⟨M2, hM2⟩ := rowD_pre (i : Int) o.syms.l k
   have : flatF os.l = (flatTo os.l i ++ rowD (i : Int) (o.syms.l.take k)) ++ (M2 ++ M) := by
     unfold flatF; rw [hM, flatTo_succ, ho, hM2]; simp
   rw [this, List.length_append] at hfl; omega
 generalize hL : flatF os.l = L at hfl
 refine Con.enter Tryz.func18 rfl (by simp [Tryz.ntmps18]) ?_
 show awp _ _ _ _ ⟨[(0, true, _), (1, true, _), (2, true, _)], _, _⟩
 refine awp_lenE (.of (psAt 0 rfl)) (fun hlen => ?_)
 refine aSR (aA rfl (aNn (aSR (aA rfl ?_))))
 refine aNs (awp_seq (awp_nil 46 7 ?_))
 show awp _ _ _ _ ⟨_, _, [_]⟩
 refine awp_region (aM rfl (aU rfl (q_lenS Tryz.underlying22 rfl) (aM rfl (aNn (awp_block (awp_loopK [0, 2, 7, 13, 14, 15] [3, 2, 1, 0] [0] (fun (q : Nat × Value) st => q.1 ≤ os.l.length ∧ st = ⟨[(0, true, os.val), (2, true, S.val), (7, true, q.2), (13, true, os.val), (14, true, .int .i64 os.l.length), (15, true, .int .i64 q.1)], [ShF GObject.row os, AllF GObject.ok os.l, AllF (ShF GChoice.row) S.l, ShF slR S], [OwnS q.2 46 7 ((selL S.l L (flatTo os.l q.1)).map GOffered.row)]⟩) (fun q => os.l.length - q.1) rfl (⟨(0, _), Nat.zero_le _, rfl⟩) ?_))))))
 rintro ⟨i, v⟩ st ⟨hi, rfl⟩
 dsimp only at hi
 refine aSR (aU rfl (q_lss rfl rfl) (aNs ?_))
 refine awp_cond _ rfl (fun h1 => ?_) (fun h1 => ?_)
 ·skip
  have hi' : i < os.l.length := by simp at h1; omega
  have ho := elt_nat hi'
  have hsi := elt_nat (l := S.l) (i := i) (by omega)
  have hri := hR i hi'
  generalize hoo : elt os.l (i : Int) = o at ho hri
  refine awp_skip (thn_n (awp_seq (awp_block (aSR (aM rfl ?_)))))
  refine aL_E true rfl rfl (fun _ => q_indexAddrG Tryz.underlying22 tk61 rfl ((.of (psAt 0 rfl))) rfl (rows_get ho) rfl rfl) (fun h => absurd h (by decide)) (fun ⟨b4_1, o4_1⟩ => ?_)
  refine aU rfl (q_loadD (o := 0) tk61 rfl (psAt 0 rfl) rfl rfl) ?_
  refine aL_eff (q := true) rfl (x_alloc (zs := [.string .empty, .slice none 0 0, .slice none 0 0, .slice none 0 0, .slice none 0 0, .slice none 0 0, .slice none 0 0, .slice none 0 0, .slice none 0 0, .slice none 0 0, .slice none 0 0]) (by kernel_rfl) rfl (fun b4_3 => ?_))
  refine aL_hp (by (try simp only [nM, nN]); rfl) ?_
  refine aA rfl ?_
  refine aL_eff rfl (x_store 1 tk61 rfl rfl rfl rfl ?_)
  refine aL_hp (by (try simp only [nK, nL]); rfl) ?_
  refine aNs ?_
  refine awp_lenE (GObject.f_syms (Ent.all (.of (psAt 2 rfl)) ho)) (fun hlen2 => ?_)
  refine awp_region ?_
  refine aU rfl (q_fieldAddr (off := 2) (by kernel_rfl) rfl) ?_
  refine aU rfl (q_load 1 tk51 rfl rfl rfl) (aU rfl (q_lenS Tryz.underlying51 rfl) (aM rfl (aNn (awp_block ?_))))
  refine awp_loopK [0, 2, 7, 8, 13, 14, 15, 21, 22, 23] [3, 2, 1, 0] [0] (fun (q : Nat × Value) st => q.1 ≤ o.syms.l.length ∧ st = ⟨[(0, true, os.val), (2, true, S.val), (7, true, q.2), (8, true, .int .i64 i), (13, true, os.val), (14, true, .int .i64 os.l.length), (15, true, .int .i64 i), (21, true, o.syms.val), (22, true, .int .i64 o.syms.l.length), (23, true, .int .i64 q.1)], [ShF GObject.row os, AllF GObject.ok os.l, AllF (ShF GChoice.row) S.l, ShF slR S], [OwnS q.2 46 7 ((selL S.l L (flatTo os.l i ++ rowD (i : Int) (o.syms.l.take q.1))).map GOffered.row)]⟩) (fun q => o.syms.l.length - q.1) rfl (⟨(0, v), Nat.zero_le _, by dsimp only; rw [List.take_zero, show rowD (i : Int) [] = [] from rfl, List.append_nil]; rfl⟩) ?_
  rintro ⟨k, v2⟩ st ⟨hk, rfl⟩
  dsimp only at hk
  refine aSR (aU rfl (q_lss rfl rfl) (aNs ?_))
  refine awp_cond _ rfl (fun h2 => ?_) (fun h2 => ?_)
  ·skip
   have hk' : k < o.syms.l.length := by simp at h2; omega
   obtain ⟨s, hs'⟩ : ∃ s, o.syms.l[k]? = some s := ⟨_, List.getElem?_eq_getElem hk'⟩
   have hck := elt_nat (l := (elt S.l (i : Int)).l) (i := k) (by omega)
   have hlM := hpre i k o hi' hoo hk
   have hst2 := selL_len S.l L (flatTo os.l i ++ rowD (i : Int) (o.syms.l.take k))
   have hstep := selL_snoc S.l L (flatTo os.l i ++ rowD (i : Int) (o.syms.l.take k)) ⟨⟨(i : Int), (k : Int)⟩, s⟩
   rw [List.append_assoc, ← rowD_take hs'] at hstep
   refine awp_skip (thn_n (awp_seq (awp_block (aSR (aM rfl ?_)))))
   refine aL_E true rfl rfl (fun _ => q_indexAddrG Tryz.underlying51 tk63 rfl ((GObject.f_syms (Ent.all (.of (psAt 1 rfl)) ho))) rfl (rows_get hs') rfl rfl) (fun h => absurd h (by decide)) (fun ⟨b7_1, o7_1⟩ => ?_)
   refine aU rfl (q_loadD (o := 0) tk63 rfl (psAt 0 rfl) rfl rfl) ?_
   refine aL_eff (q := true) rfl (x_alloc (zs := [.string .empty, .string .empty, .bool false, .int .i64 0, .int .i64 0, .int .i64 0, .int .i64 0, .int .i64 0, .int .i64 0, .int .i64 0]) (by kernel_rfl) rfl (fun b7_3 => ?_))
   refine aL_hp (by (try simp only [nM, nN]); rfl) ?_
   refine aA rfl ?_
   refine aL_eff rfl (x_store 1 tk63 rfl rfl rfl rfl ?_)
   refine aL_hp (by (try simp only [nK, nL]); rfl) ?_
   refine aNn (aSR (aM rfl (aM rfl ?_)))
   refine aL_E true rfl rfl (fun _ => q_indexAddrG Tryz.underlying31 tk66 rfl ((.of (psAt 4 rfl))) rfl (rows_get hsi) rfl rfl) (fun h => absurd h (by decide)) (fun ⟨b8_2, o8_2⟩ => ?_)
   refine aU rfl (q_loadD (o := 0) tk66 rfl (psAt 0 rfl) rfl rfl) (aM rfl ?_)
   refine aL_E true rfl rfl (fun _ => q_indexAddrG Tryz.underlying66 tk65 rfl ((Ent.all (f := ShF GChoice.row) (.of (psAt 4 rfl)) hsi)) rfl (rows_get hck) rfl rfl) (fun h => absurd h (by decide)) (fun ⟨b8_5, o8_5⟩ => ?_)
   refine aU rfl (q_loadD (o := 0) tk65 rfl (psAt 0 rfl) rfl rfl) ?_
   refine aL_eff (q := true) rfl (x_alloc (zs := [.int .i64 0, .int .i64 0, .int .i64 0, .int .i64 0, .int .i64 0, .bool false]) (by kernel_rfl) rfl (fun b8_7 => ?_))
   refine aL_hp (by (try simp only [nM, nN]); rfl) ?_
   refine aL_eff rfl (x_store 2 tk65 rfl rfl rfl rfl ?_)
   refine aL_hp (by (try simp only [nK, nL]); rfl) ?_
   refine aNs (aSR ?_)
   refine aU rfl (q_fieldAddr (off := 0) (by kernel_rfl) rfl) ?_
   refine aU rfl (q_load 2 tk3 rfl rfl rfl) (aU rfl (q_neq rfl rfl) (aM rfl ?_))
   refine aG rfl rfl (fun hc => q_fieldAddr (off := 0) (by kernel_rfl) rfl) ?_
   refine aG rfl rfl (fun hc => q_load 2 tk3 (ev_yes rfl hc) rfl rfl) (aG rfl rfl (fun hc => q_neq (ev_yes rfl hc) rfl) (aU rfl (q_and rfl rfl (fun h => gt rfl h)) (aM rfl ?_)))
   refine aG rfl rfl (fun hc => q_fieldAddr (off := 1) (by kernel_rfl) rfl) ?_
   refine aG rfl rfl (fun hc => q_load 2 tk3 (ev_yes rfl hc) rfl rfl) (aG rfl rfl (fun hc => q_move rfl) (aG rfl rfl (fun hc => q_neq (ev_yes rfl hc) (ev_yes rfl hc)) (aU rfl (q_or rfl rfl (fun h => gf rfl h)) (aM rfl ?_))))
   refine aG rfl rfl (fun hc => q_fieldAddr (off := 2) (by kernel_rfl) rfl) ?_
   refine aG rfl rfl (fun hc => q_load 2 tk3 (ev_yes rfl hc) rfl rfl) (aG rfl rfl (fun hc => q_move rfl) (aG rfl rfl (fun hc => q_neq (ev_yes rfl hc) (ev_yes rfl hc)) (aU rfl (q_or rfl rfl (fun h => gf rfl h)) (aM rfl (aG rfl rfl (fun hc => q_move rfl) ?_)))))
   refine aG rfl rfl (fun hc => q_fieldAddr (off := 0) (by kernel_rfl) rfl) ?_
   refine aG rfl rfl (fun hc => q_load 1 tk9 (ev_yes rfl hc) rfl rfl) ?_
   refine aG rfl rfl (fun hc => q_call (by kernel_rfl) (evs_cons (ev_yes rfl hc) (evs_cons (ev_yes rfl hc) rfl)) (fun w S fp hst => (con_vis os s.name).quiet2 (psAt 3 rfl) (psAt 4 rfl) hst)) ?_
   refine aG rfl rfl (fun hc => q_eql (ev_yes rfl hc) rfl) (aU rfl (q_or rfl rfl (fun h => gf rfl h)) (aNn ?_))
   refine awp_cond _ rfl (fun h3 => ?_) (fun h3 => ?_)
   ·skip
    have hc3 : ¬ selX S.l L ⟨⟨(i : Int), (k : Int)⟩, s⟩ = true := by
      rw [hL] at h3
      intro hs1
      unfold selX at hs1
      simp only [Bool.or_eq_true, Bool.and_eq_true, Bool.not_eq_true', decide_eq_true_eq, decide_eq_false_iff_not] at h3 hs1
      omega
    refine awp_exit (thn_e (blk_hit (thn_n (awp_region ?_))))
    refine aU rfl (q_addi rfl rfl (by omega)) ?_
    refine aM rfl (aNn ?_)
    refine ⟨[0, 2, 7, 8, 13, 14, 15, 21, 22, 23], [3, 2, 1, 0], [0], rfl, ?_⟩
    exact ⟨(k + 1, v2), ⟨by dsimp only; omega, by dsimp only; rw [hstep, if_neg hc3]; rfl⟩, by dsimp only; omega⟩
   ·skip
    have hc3 : selX S.l L ⟨⟨(i : Int), (k : Int)⟩, s⟩ = true := by
      rw [hL] at h3
      unfold selX
      simp only [Bool.or_eq_false_iff, Bool.and_eq_false_iff, Bool.not_eq_false', Bool.or_eq_true, Bool.and_eq_true, decide_eq_true_eq, decide_eq_false_iff_not] at h3 ⊢
      omega
    refine awp_skip (thn_n (awp_region (aM rfl ?_)))
    refine aU rfl (q_fieldAddr (off := 0) (by kernel_rfl) rfl) ?_
    refine aU rfl (q_load 1 tk9 rfl rfl rfl) ?_
    refine aU rfl (q_fieldAddr (off := 1) (by kernel_rfl) rfl) ?_
    refine aU rfl (q_load 1 tk9 rfl rfl rfl) ?_
    refine aU rfl (q_fieldAddr (off := 1) (by kernel_rfl) rfl) ?_
    refine aU rfl (q_load 1 tk9 rfl rfl rfl) (aU rfl (qs_eqlD rfl rfl) (aM rfl ?_))
    refine aG rfl rfl (fun hc => q_fieldAddr (off := 2) (by kernel_rfl) rfl) ?_
    refine aG rfl rfl (fun hc => q_load 1 tk4 (ev_yes rfl hc) rfl rfl) (aU rfl (q_or rfl rfl (fun h => gf rfl h)) ?_)
    refine aU rfl (q_fieldAddr (off := 5) (by kernel_rfl) rfl) ?_
    refine aU rfl (q_load 1 tk3 rfl rfl rfl) (aM rfl (aM rfl ?_))
    refine aU rfl (q_fieldAddr (off := 3) (by kernel_rfl) rfl) ?_
    refine aU rfl (q_load 1 tk3 rfl rfl rfl) (aU rfl (q_eql rfl rfl) ?_)
    refine aU rfl (q_bld (l := [(0, .tmp 64), (1, .tmp 66), (2, .tmp 73), (3, .tmp 75), (4, .tmp 76), (5, .tmp 77), (6, .tmp 80)]) (zs := [.string .empty, .string .empty, .bool false, .int .i64 0, .int .i64 0, .int .i64 0, .bool false]) (pl := [(0, 1), (1, 1), (2, 1), (3, 1), (4, 1), (5, 1), (6, 1)]) (by kernel_rfl) (by kernel_rfl) (by kernel_rfl) rfl rfl rfl) ?_
    refine aL_eff (q := true) rfl (w_lit (zs := [.string .empty, .string .empty, .bool false, .int .i64 0, .int .i64 0, .int .i64 0, .bool false]) (l := [(0, .tmp 81)]) el41 (by kernel_rfl) (by decide) (by decide) (by decide) rfl rfl rfl (.more rfl (.v rfl (.v rfl (.v rfl (.v rfl (.v rfl (.v rfl (.v rfl .nil))))))) .nil) rfl rfl (fun v10_20 => ?_))
    refine aL_hp (by (try simp only [nM, nN]); rfl) ?_
    refine aL_eff rfl (w_append 0 el41 rfl rfl rfl rfl (w_srcO 3 el41 rfl (by simp)) (by first | assumption | simp) (by show ((selL S.l L (flatTo os.l i ++ rowD (i : Int) (o.syms.l.take k))).map GOffered.row).length + 1 ≤ _; rw [List.length_map]; exact Nat.le_trans (Nat.add_le_add_right (Nat.le_trans hst2 hlM) 1) (by decide)) ((selL S.l L (flatTo os.l i ++ rowD (i : Int) (o.syms.l.take k)) ++ [offD ⟨⟨(i : Int), (k : Int)⟩, s⟩]).length) (by show ((selL S.l L (flatTo os.l i ++ rowD (i : Int) (o.syms.l.take k))).map GOffered.row).length + 1 = _; rw [List.length_map, List.length_append]; rfl) (fun v10_21 c10_21 => ?_))
    refine aL_hp (by (try simp only [nK, nL]); rfl) ?_
    refine aA rfl (aL_nil (blk_n (thn_n (awp_region ?_))))
    refine aU rfl (q_addi rfl rfl (by omega)) ?_
    refine aM rfl (aNn ?_)
    refine ⟨[0, 2, 7, 8, 13, 14, 15, 21, 22, 23], [3, 2, 1, 0], [0], rfl, ?_⟩
    exact ⟨(k + 1, _), ⟨by dsimp only; omega, by dsimp only; rw [hstep, if_pos hc3, List.map_append]; rfl⟩, by dsimp only; omega⟩
  ·skip
   refine awp_exit (thn_e (thn_e (blk_hit (blk_n (thn_n (awp_region ?_))))))
   refine aU rfl (q_addi rfl rfl (by omega)) ?_
   refine aM rfl (aNn ?_)
   refine ⟨[0, 2, 7, 13, 14, 15], [3, 2, 1, 0], [0], rfl, ?_⟩
   dsimp only
   rw [List.take_of_length_le (by simp at h2; omega)]
   exact ⟨(i + 1, v2), ⟨by dsimp only; omega, by dsimp only; rw [flatTo_succ, hoo]; rfl⟩, by dsimp only; omega⟩
 ·skip
  refine awp_exit (thn_e (thn_e (blk_hit (thn_n (aSR (aM rfl ?_))))))
  refine aL_eff (q := false) rfl (e_call [] [0] (by kernel_rfl) rfl rfl rfl rfl (con_sortO v (selL S.l L (flatTo os.l i)) (Nat.le_trans (selL_len _ _ _) (by rw [show i = os.l.length by simp at h1; omega, show flatTo os.l os.l.length = L from hL]; omega))) ?_)
  rintro _ _ _ ⟨rfl, q, hqp, hqs, rfl⟩
  refine aL_st (by (try simp only [nM, nN]); rfl) (by (try simp only [putB, place, Nat.reduceBEq, if_true, if_false, reduceIte, Nat.reduceAdd, nW]); rfl) ?_
  refine aNn (aSR (aM rfl (aA rfl (aNn (awp_ret ?_)))))
  refine fin1 [] [0] rfl Tryz.results18 rfl ?_ (.inr rfl)
  refine ⟨rfl, _, q, rfl, ?_, hqs, rfl⟩
  rw [show i = os.l.length by simp at h1; omega, show flatTo os.l os.l.length = L from hL] at hqp
  exact hqp
end Go.Proofs.YtgmiihmahaahiaaGreatDoor

namespace Go.Proofs.YtgmiihmahaahiaaGreatDoor
open Go.RowKit Go.Lp Go.Sy
open Go.Proofs.Tryz
attribute [local irreducible] aL aB awp aC fwp
structure FewO (o : GObject) : Prop where
 secs : o.secs.l.length ≤ 12
 syms : o.syms.l.length ≤ 12
 groups : o.groups.l.length ≤ 12
 inl : o.inlines.l.length ≤ 60
 rt : RtOk o
structure FewOk (os : List GObject) (ifs : List GIface) (vs : List GVersionDef) : Prop where
 n : os.length ≤ 5
 o : ∀ o ∈ os, FewO o
 ni : ifs.length ≤ 4
 nv : vs.length ≤ 8
 i : ∀ f ∈ ifs, f.exports.l.length ≤ 12 ∧ f.versions.l.length ≤ 8
theorem con_few (os : Sl GObject) (ifs : Sl GIface) (vs : Sl GVersionDef) : Con Tryz.prog 11 [os.val, ifs.val, vs.val] [formsAt, ShF GObject.row os, AllF GObject.ok os.l, ShF GIface.row ifs, AllF GIface.ok ifs.l, ShF GVersionDef.row vs] [] (YB (FewOk os.l ifs.l vs.l)) := by
 refine Con.enter Tryz.func11 rfl (by simp [Tryz.ntmps11]) ?_
 show awp _ _ _ _ ⟨[(0, true, _), (1, true, _), (2, true, _)], _, _⟩
 refine awp_lenE (.of (psAt 1 rfl)) (fun hlo => ?_)
 refine awp_lenE (.of (psAt 3 rfl)) (fun hli => ?_)
 refine awp_lenE (.of (psAt 5 rfl)) (fun hlv => ?_)
 refine aSR (aA rfl (aNs (aSR (aM rfl (aU rfl (q_lenS Tryz.underlying22 rfl) (aU rfl (q_gtr rfl rfl) (aM rfl (aG rfl rfl (fun hc => q_move rfl) (aG rfl rfl (fun hc => q_lenS Tryz.underlying23 (ev_yes rfl hc)) (aG rfl rfl (fun hc => q_gtr (ev_yes rfl hc) rfl) (aU rfl (q_or rfl rfl (fun h => gf rfl h)) ?_)))))))))))
 refine aM rfl (aG rfl rfl (fun hc => q_move rfl) (aG rfl rfl (fun hc => q_lenS Tryz.underlying24 (ev_yes rfl hc)) (aG rfl rfl (fun hc => q_gtr (ev_yes rfl hc) rfl) (aU rfl (q_or rfl rfl (fun h => gf rfl h)) (aNn ?_)))))
 refine awp_cond _ rfl (fun h1 => ?_) (fun h1 => ?_)
 ·skip
  refine aSR (aA rfl (aNn (awp_ret (thn_r ?_))))
  refine fin1 [] [] rfl Tryz.results11 rfl ?_ (.inr rfl)
  exact ⟨⟨rfl, rfl⟩, _, rfl, fun h => by cases h⟩
 ·skip
  have hb : os.l.length ≤ 5 ∧ ifs.l.length ≤ 4 ∧ vs.l.length ≤ 8 := by simp at h1; omega
  refine awp_skip (thn_n (awp_seq (aSR (aA rfl (aNn (awp_block ?_))))))
  refine awp_loopK [0, 1, 2, 7] [5, 4, 3, 2, 1, 0] [] (fun (k : Nat) s => (k ≤ os.l.length ∧ ∀ o ∈ os.l.take k, FewO o) ∧ s = ⟨[(0, true, os.val), (1, true, ifs.val), (2, true, vs.val), (7, true, .int .i64 k)], [formsAt, ShF GObject.row os, AllF GObject.ok os.l, ShF GIface.row ifs, AllF GIface.ok ifs.l, ShF GVersionDef.row vs], []⟩) (fun k => os.l.length - k) rfl (⟨0, ⟨Nat.zero_le _, fun o ho => by cases ho⟩, rfl⟩) ?_
  rintro k s ⟨⟨hk, hO⟩, rfl⟩
  refine awp_seq (aSR (aM rfl (aM rfl (aU rfl (q_lenS Tryz.underlying22 rfl) (aU rfl (q_lss rfl rfl) (aNn ?_))))))
  refine awp_cond _ rfl (fun h2 => ?_) (fun h2 => ?_)
  ·skip
   have hk' : k < os.l.length := by simpa using h2
   obtain ⟨o, ho⟩ : ∃ o, os.l[k]? = some o := ⟨_, List.getElem?_eq_getElem hk'⟩
   refine awp_skip (thn_n (awp_seq (awp_block (aSR (aM rfl (aM rfl ?_))))))
   refine aL_E true rfl rfl (fun _ => q_indexAddrG Tryz.underlying22 tk61 rfl ((.of (psAt 1 rfl))) rfl (rows_get ho) rfl rfl) (fun h => absurd h (by decide)) (fun ⟨b6_2, o6_2⟩ => ?_)
   refine aU rfl (q_loadD (o := 0) tk61 rfl (psAt 0 rfl) rfl rfl) ?_
   refine aL_eff (q := true) rfl (x_alloc (zs := [.string .empty, .slice none 0 0, .slice none 0 0, .slice none 0 0, .slice none 0 0, .slice none 0 0, .slice none 0 0, .slice none 0 0, .slice none 0 0, .slice none 0 0, .slice none 0 0]) (by kernel_rfl) rfl (fun b6_4 => ?_))
   refine aL_hp (by (try simp only [nM, nN]); rfl) ?_
   refine aL_eff rfl (x_store 0 tk61 rfl rfl rfl rfl ?_)
   refine aL_hp (by (try simp only [nK, nL]); rfl) ?_
   refine aNs ?_
   have hok : ∀ {ps : List Per}, Ent ps (AllF GObject.ok os.l) → Ent ps o.ok := fun h => Ent.all h ho
   refine awp_lenE (GObject.f_secs (hok (.of (psAt 3 rfl)))) (fun e1 => ?_)
   refine awp_lenE (GObject.f_syms (hok (.of (psAt 3 rfl)))) (fun e2 => ?_)
   refine awp_lenE (GObject.f_rels (hok (.of (psAt 3 rfl)))) (fun e3 => ?_)
   refine awp_lenE (GObject.f_groups (hok (.of (psAt 3 rfl)))) (fun e4 => ?_)
   refine awp_lenE (GObject.f_lines (hok (.of (psAt 3 rfl)))) (fun e5 => ?_)
   refine awp_lenE (GObject.f_inlines (hok (.of (psAt 3 rfl)))) (fun e6 => ?_)
   refine awp_lenE (GObject.f_vars (hok (.of (psAt 3 rfl)))) (fun e7 => ?_)
   refine awp_lenE (GObject.f_depths (hok (.of (psAt 3 rfl)))) (fun e8 => ?_)
   refine awp_lenE (GObject.f_converts (hok (.of (psAt 3 rfl)))) (fun e9 => ?_)
   refine awp_lenE (GObject.f_inits (hok (.of (psAt 3 rfl)))) (fun e10 => ?_)
   refine awp_region ?_
   refine aU rfl (q_fieldAddr (off := 1) (by kernel_rfl) rfl) ?_
   refine aU rfl (q_load 0 tk50 rfl rfl rfl) (aU rfl (q_lenS Tryz.underlying50 rfl) (aU rfl (q_gtr rfl rfl) (aM rfl ?_)))
   refine aG rfl rfl (fun hc => q_fieldAddr (off := 2) (by kernel_rfl) rfl) ?_
   refine aG rfl rfl (fun hc => q_load 0 tk51 (ev_yes rfl hc) rfl rfl) (aG rfl rfl (fun hc => q_lenS Tryz.underlying51 (ev_yes rfl hc)) (aG rfl rfl (fun hc => q_gtr (ev_yes rfl hc) rfl) (aU rfl (q_or rfl rfl (fun h => gf rfl h)) (aM rfl ?_))))
   refine aG rfl rfl (fun hc => q_fieldAddr (off := 3) (by kernel_rfl) rfl) ?_
   refine aG rfl rfl (fun hc => q_load 0 tk52 (ev_yes rfl hc) rfl rfl) (aG rfl rfl (fun hc => q_lenS Tryz.underlying52 (ev_yes rfl hc)) (aG rfl rfl (fun hc => q_gtr (ev_yes rfl hc) rfl) (aU rfl (q_or rfl rfl (fun h => gf rfl h)) (aM rfl ?_))))
   refine aG rfl rfl (fun hc => q_fieldAddr (off := 4) (by kernel_rfl) rfl) ?_
   refine aG rfl rfl (fun hc => q_load 0 tk53 (ev_yes rfl hc) rfl rfl) (aG rfl rfl (fun hc => q_lenS Tryz.underlying53 (ev_yes rfl hc)) (aG rfl rfl (fun hc => q_gtr (ev_yes rfl hc) rfl) (aU rfl (q_or rfl rfl (fun h => gf rfl h)) (aM rfl ?_))))
   refine aG rfl rfl (fun hc => q_fieldAddr (off := 6) (by kernel_rfl) rfl) ?_
   refine aG rfl rfl (fun hc => q_load 0 tk55 (ev_yes rfl hc) rfl rfl) (aG rfl rfl (fun hc => q_lenS Tryz.underlying55 (ev_yes rfl hc)) (aG rfl rfl (fun hc => q_gtr (ev_yes rfl hc) rfl) (aU rfl (q_or rfl rfl (fun h => gf rfl h)) (aM rfl ?_))))
   refine aG rfl rfl (fun hc => q_fieldAddr (off := 7) (by kernel_rfl) rfl) ?_
   refine aG rfl rfl (fun hc => q_load 0 tk56 (ev_yes rfl hc) rfl rfl) (aG rfl rfl (fun hc => q_lenS Tryz.underlying56 (ev_yes rfl hc)) (aG rfl rfl (fun hc => q_gtr (ev_yes rfl hc) rfl) (aU rfl (q_or rfl rfl (fun h => gf rfl h)) (aM rfl ?_))))
   refine aG rfl rfl (fun hc => q_fieldAddr (off := 8) (by kernel_rfl) rfl) ?_
   refine aG rfl rfl (fun hc => q_load 0 tk57 (ev_yes rfl hc) rfl rfl) (aG rfl rfl (fun hc => q_lenS Tryz.underlying57 (ev_yes rfl hc)) (aG rfl rfl (fun hc => q_gtr (ev_yes rfl hc) rfl) (aU rfl (q_or rfl rfl (fun h => gf rfl h)) (aM rfl ?_))))
   refine aG rfl rfl (fun hc => q_fieldAddr (off := 9) (by kernel_rfl) rfl) ?_
   refine aG rfl rfl (fun hc => q_load 0 tk58 (ev_yes rfl hc) rfl rfl) (aG rfl rfl (fun hc => q_lenS Tryz.underlying58 (ev_yes rfl hc)) (aG rfl rfl (fun hc => q_gtr (ev_yes rfl hc) rfl) (aU rfl (q_or rfl rfl (fun h => gf rfl h)) (aM rfl ?_))))
   refine aG rfl rfl (fun hc => q_fieldAddr (off := 10) (by kernel_rfl) rfl) ?_
   refine aG rfl rfl (fun hc => q_load 0 tk59 (ev_yes rfl hc) rfl rfl) (aG rfl rfl (fun hc => q_lenS Tryz.underlying59 (ev_yes rfl hc)) (aG rfl rfl (fun hc => q_gtr (ev_yes rfl hc) rfl) (aU rfl (q_or rfl rfl (fun h => gf rfl h)) (aM rfl ?_))))
   refine aG rfl rfl (fun hc => q_fieldAddr (off := 5) (by kernel_rfl) rfl) ?_
   refine aG rfl rfl (fun hc => q_load 0 tk54 (ev_yes rfl hc) rfl rfl) (aG rfl rfl (fun hc => q_lenS Tryz.underlying54 (ev_yes rfl hc)) (aG rfl rfl (fun hc => q_gtr (ev_yes rfl hc) rfl) (aU rfl (q_or rfl rfl (fun h => gf rfl h)) (aM rfl (aG rfl rfl (fun hc => q_load 0 tk61 rfl rfl rfl) ?_)))))
   refine aL_callN (caps := []) [5, 3] (false) (by kernel_rfl) _ rfl rfl (fun _ => rfl) (fun hc => (evs_cons (ev_yes rfl hc) rfl)) (fun hc => by rw [List.append_nil]; exact (con_oright o (by simp at hc; exact ⟨by omega, by omega, by omega⟩)).pre (ent2 (.of (psAt 0 rfl)) (hok (.of (psAt 1 rfl))))) (fun c1 hc1 => ?_)
   refine aG rfl rfl (fun hc => q_not (ev_yes rfl hc)) (aU rfl (q_or rfl rfl (fun h => gf rfl h)) (aNn ?_))
   refine awp_cond _ rfl (fun h3 => ?_) (fun h3 => ?_)
   ·skip
    refine aSR (aA rfl (aNn (awp_ret (blk_r (thn_r (thn_r (blk_r (thn_r ?_))))))))
    refine fin1 [] [] rfl Tryz.results11 rfl ?_ (.inr rfl)
    exact ⟨⟨rfl, rfl⟩, _, rfl, fun h => by cases h⟩
   ·skip
    have hfo : FewO o := by
      rw [Bool.or_eq_false_iff] at h3
      have hrt := hc1 (by rw [h3.1]; rfl) (by simpa using h3.2)
      have h6 := h3.1
      simp only [Bool.or_eq_false_iff, decide_eq_false_iff_not] at h6
      exact ⟨by omega, by omega, by omega, by omega, hrt⟩
    refine awp_skip (blk_n (thn_n (awp_region (aM rfl ?_))))
    refine aU rfl (q_addi rfl rfl (by omega)) ?_
    refine aA rfl (aNn ?_)
    refine ⟨[0, 1, 2, 7], [5, 4, 3, 2, 1, 0], [], rfl, ?_⟩
    refine ⟨k + 1, ⟨⟨by omega, fun o2 ho2 => ?_⟩, rfl⟩, by omega⟩
    rw [List.take_add_one, ho, List.mem_append] at ho2
    rcases ho2 with ho2 | ho2
    · exact hO o2 ho2
    · simp at ho2; subst ho2; exact hfo
  ·skip
   have hO2 : ∀ o ∈ os.l, FewO o := by rw [List.take_of_length_le (by simpa using h2)] at hO; exact hO
   refine awp_exit (thn_e (thn_e (blk_hit (thn_n (awp_seq (aSR (aA rfl (aNn (awp_block ?_)))))))))
   refine awp_loopK [1, 9] [5, 4, 3, 2, 1, 0] [] (fun (k : Nat) s => (k ≤ ifs.l.length ∧ ∀ f ∈ ifs.l.take k, f.exports.l.length ≤ 12 ∧ f.versions.l.length ≤ 8) ∧ s = ⟨[(1, true, ifs.val), (9, true, .int .i64 k)], [formsAt, ShF GObject.row os, AllF GObject.ok os.l, ShF GIface.row ifs, AllF GIface.ok ifs.l, ShF GVersionDef.row vs], []⟩) (fun k => ifs.l.length - k) rfl (⟨0, ⟨Nat.zero_le _, fun f hf => by cases hf⟩, rfl⟩) ?_
   clear hk hO
   rintro k s ⟨⟨hk, hI⟩, rfl⟩
   refine awp_seq (aSR (aM rfl (aM rfl (aU rfl (q_lenS Tryz.underlying23 rfl) (aU rfl (q_lss rfl rfl) (aNn ?_))))))
   refine awp_cond _ rfl (fun h4 => ?_) (fun h4 => ?_)
   ·skip
    have hk' : k < ifs.l.length := by simpa using h4
    obtain ⟨f, hf⟩ : ∃ f, ifs.l[k]? = some f := ⟨_, List.getElem?_eq_getElem hk'⟩
    refine awp_skip (thn_n (awp_seq (awp_block (awp_seq ?_))))
    refine awp_lenE (GIface.f_exports (Ent.all (.of (psAt 4 rfl)) hf)) (fun e1 => ?_)
    refine awp_lenE (GIface.f_versions (Ent.all (.of (psAt 4 rfl)) hf)) (fun e2 => ?_)
    refine awp_region (aM rfl (aM rfl ?_))
    refine aL_E true rfl rfl (fun _ => q_indexAddrG Tryz.underlying23 tk73 rfl ((.of (psAt 3 rfl))) rfl (rows_get hf) rfl rfl) (fun h => absurd h (by decide)) (fun ⟨b12_2, o12_2⟩ => ?_)
    refine aU rfl (q_fieldAddr (off := 1) (by kernel_rfl) rfl) ?_
    refine aU rfl (q_loadD (o := 1) tk71 rfl (psAt 0 rfl) rfl rfl) (aU rfl (q_lenS Tryz.underlying71 rfl) (aU rfl (q_gtr rfl rfl) (aM rfl (aG rfl rfl (fun hc => q_move rfl) (aG rfl rfl (fun hc => q_move rfl) ?_)))))
    refine aL_E _ rfl rfl (fun hc => q_indexAddrG Tryz.underlying23 tk73 (ev_yes rfl hc) ((.of (psAt 4 rfl))) (ev_yes rfl hc) (rows_get hf) rfl rfl) (fun _ => ⟨(0, 0)⟩) (fun ⟨b12_10, o12_10⟩ => ?_)
    refine aG rfl rfl (fun hc => q_fieldAddr (off := 2) (by kernel_rfl) (ev_yes rfl hc)) ?_
    refine aG rfl rfl (fun hc => q_loadD (o := 2) tk24 (ev_yes rfl hc) (psAt 0 rfl) hc rfl) (aG rfl rfl (fun hc => q_lenS Tryz.underlying24 (ev_yes rfl hc)) (aG rfl rfl (fun hc => q_gtr (ev_yes rfl hc) rfl) (aU rfl (q_or rfl rfl (fun h => gf rfl h)) (aNn ?_))))
    refine awp_cond _ rfl (fun h5 => ?_) (fun h5 => ?_)
    ·skip
     refine aSR (aA rfl (aNn (awp_ret (blk_r (thn_r (thn_r (blk_r (thn_r ?_))))))))
     refine fin1 [] [] rfl Tryz.results11 rfl ?_ (.inr rfl)
     exact ⟨⟨rfl, rfl⟩, _, rfl, fun h => by cases h⟩
    ·skip
     have hff : f.exports.l.length ≤ 12 ∧ f.versions.l.length ≤ 8 := by simp at h5; omega
     refine awp_skip (blk_n (thn_n (awp_region (aM rfl ?_))))
     refine aU rfl (q_addi rfl rfl (by omega)) ?_
     refine aA rfl (aNn ?_)
     refine ⟨[1, 9], [5, 4, 3, 2, 1, 0], [], rfl, ?_⟩
     refine ⟨k + 1, ⟨⟨by omega, fun f2 hf2 => ?_⟩, rfl⟩, by omega⟩
     rw [List.take_add_one, hf, List.mem_append] at hf2
     rcases hf2 with hf2 | hf2
     · exact hI f2 hf2
     · simp at hf2; subst hf2; exact hff
   ·skip
    refine awp_exit (thn_e (thn_e (blk_hit (thn_n (aSR (aA rfl (aNn (awp_ret ?_))))))))
    refine fin1 [] [] rfl Tryz.results11 rfl ?_ (.inr rfl)
    refine ⟨⟨rfl, rfl⟩, _, rfl, fun _ => ⟨hb.1, hO2, hb.2.1, hb.2.2, ?_⟩⟩
    rw [List.take_of_length_le (by simpa using h4)] at hI; exact hI
def Fits (os : List GObject) (S : List (Sl GChoice)) : Prop := S.length = os.length ∧ ∀ i : Nat, i < os.length → (elt S (i : Int)).l.length = (elt os (i : Int)).syms.l.length
theorem con_fits13 (os : Sl GObject) (S : Sl (Sl GChoice)) (hF : Fits os.l S.l) : Con Tryz.prog 20 [os.val, S.val] [ShF GObject.row os, AllF GObject.ok os.l, AllF (ShF GChoice.row) S.l, ShF slR S] [] (fun r _ _ => r = .bool true) := by
 refine Con.enter Tryz.func20 rfl (by simp [Tryz.ntmps20]) ?_
 show awp _ _ _ _ ⟨[(0, true, _), (1, true, _)], _, _⟩
 refine awp_lenE (.of (psAt 0 rfl)) (fun hlo => ?_)
 refine awp_lenE (.of (psAt 3 rfl)) (fun hlS => ?_)
 have hF1 := hF.1
 refine aSR (aA rfl (aNs (aSR (aM rfl (aU rfl (q_lenS Tryz.underlying31 rfl) (aM rfl (aU rfl (q_lenS Tryz.underlying22 rfl) (aU rfl (q_neq rfl rfl) (aNn ?_)))))))))
 refine awp_cond _ rfl (fun h1 => ?_) (fun h1 => ?_)
 ·skip
  exfalso; simp at h1; omega
 ·skip
  refine awp_skip (thn_n (awp_seq (aSR (aA rfl (aNn ?_)))))
  refine awp_block (awp_loopK [0, 1, 5] [3, 2, 1, 0] [] (fun (k : Nat) s => k ≤ os.l.length ∧ s = ⟨[(0, true, os.val), (1, true, S.val), (5, true, .int .i64 k)], [ShF GObject.row os, AllF GObject.ok os.l, AllF (ShF GChoice.row) S.l, ShF slR S], []⟩) (fun k => os.l.length - k) rfl (⟨0, Nat.zero_le _, rfl⟩) ?_)
  rintro k s ⟨hk, rfl⟩
  refine awp_seq (aSR (aM rfl (aM rfl (aU rfl (q_lenS Tryz.underlying22 rfl) (aU rfl (q_lss rfl rfl) (aNn ?_))))))
  refine awp_cond _ rfl (fun h2 => ?_) (fun h2 => ?_)
  ·skip
   have hk' : k < os.l.length := by simpa using h2
   have ho := elt_nat hk'
   have hs := elt_nat (l := S.l) (i := k) (by omega)
   have hfk := hF.2 k hk'
   generalize elt os.l (k : Int) = o at ho hfk
   refine awp_skip (thn_n (awp_seq (awp_block (awp_seq ?_))))
   refine awp_drawn [] (by kernel_rfl) ?_
   show aB _ _ _ _ _ 12 #[false, false, false, false, false, false, false, false, false, false, false, false] _
   refine bU 0 rfl (by kernel_rfl) rfl (q_move rfl) ?_
   refine bU 1 rfl (by kernel_rfl) rfl (q_move rfl) ?_
   refine aB_E 2 rfl (by kernel_rfl) true rfl rfl (fun _ => q_indexAddrG Tryz.underlying31 tk66 rfl ((.of (psAt 3 rfl))) rfl (rows_get hs) rfl rfl) (fun h => absurd h (by decide)) (fun ⟨b6_2, o6_2⟩ => ?_)
   refine bU 3 rfl (by kernel_rfl) rfl (q_loadD (o := 0) tk66 rfl (psAt 0 rfl) rfl rfl) ?_
   refine bU 4 rfl (by kernel_rfl) rfl (q_lenS Tryz.underlying66 rfl) ?_
   refine bU 5 rfl (by kernel_rfl) rfl (q_move rfl) ?_
   refine bU 6 rfl (by kernel_rfl) rfl (q_move rfl) ?_
   refine aB_E 7 rfl (by kernel_rfl) true rfl rfl (fun _ => q_indexAddrG Tryz.underlying22 tk61 rfl ((.of (psAt 1 rfl))) rfl (rows_get ho) rfl rfl) (fun h => absurd h (by decide)) (fun ⟨b6_7, o6_7⟩ => ?_)
   refine bU 8 rfl (by kernel_rfl) rfl (q_fieldAddr (off := 2) (by kernel_rfl) rfl) ?_
   refine bU 9 rfl (by kernel_rfl) rfl (q_loadD (o := 2) tk51 rfl (psAt 0 rfl) rfl rfl) ?_
   refine bU 10 rfl (by kernel_rfl) rfl (q_lenS Tryz.underlying51 rfl) ?_
   refine bU 11 rfl (by kernel_rfl) rfl (q_neq rfl rfl) ?_
   refine aB_nil (by kernel_rfl) ?_
   refine thn_n ?_
   refine awp_cond _ rfl (fun h3 => ?_) (fun h3 => ?_)
   ·skip
    exfalso; simp at h3; omega
   ·skip
    refine awp_skip (blk_n (thn_n (awp_region (aM rfl ?_))))
    refine aU rfl (q_addi rfl rfl (by omega)) ?_
    refine aA rfl (aNn ?_)
    refine ⟨[0, 1, 5], [3, 2, 1, 0], [], rfl, ?_⟩
    exact ⟨k + 1, ⟨by omega, rfl⟩, by omega⟩
  ·skip
   refine awp_exit (thn_e (thn_e (blk_hit (thn_n (aSR (aA rfl (aNn (awp_ret ?_))))))))
   refine fin1 [] [] rfl Tryz.results20 rfl ?_ (.inr rfl)
   rfl
def thereB (os : List GObject) (i k : Int) : Bool := decide (i ≥ 0) && decide (i < os.length) && decide (k ≥ 0) && decide (k < (elt os i).syms.l.length)
theorem con_there (os : Sl GObject) (i k : Int) : Con Tryz.prog 21 [os.val, .int .i64 i, .int .i64 k] [ShF GObject.row os, AllF GObject.ok os.l] [] (fun r _ _ => r = .bool (thereB os.l i k)) := by
 refine Con.enter Tryz.func21 rfl (by simp [Tryz.ntmps21]) ?_
 show awp _ _ _ _ ⟨[(0, true, _), (1, true, _), (2, true, _)], _, _⟩
 refine awp_lenE (.of (psAt 0 rfl)) (fun hlo => ?_)
 refine aSR (aA rfl (aNn (aSR (aM rfl (aU rfl (q_geq rfl rfl) (aM rfl (aG rfl rfl (fun hc => q_move rfl) (aG rfl rfl (fun hc => q_move rfl) (aG rfl rfl (fun hc => q_lenS Tryz.underlying22 (ev_yes rfl hc)) (aG rfl rfl (fun hc => q_lss (ev_yes rfl hc) (ev_yes rfl hc)) (aU rfl (q_and rfl rfl (fun h => gt rfl h)) (aM rfl ?_))))))))))))
 refine aG rfl rfl (fun hc => q_move rfl) (aG rfl rfl (fun hc => q_geq (ev_yes rfl hc) rfl) (aU rfl (q_and rfl rfl (fun h => gt rfl h)) (aM rfl (aG rfl rfl (fun hc => q_move rfl) (aG rfl rfl (fun hc => q_move rfl) (aG rfl rfl (fun hc => q_move rfl) (aG rfl rfl (fun hc => q_move rfl) (aG rfl rfl (fun hc => q_lenS Tryz.underlying22 (ev_yes rfl hc)) ?_))))))))
 refine aG rfl rfl (fun hc => q_subi (ev_yes rfl hc) rfl (by (first | omega | (simp at hc; omega)))) ?_
 refine aG rfl rfl (fun hc => q_min (ev_yes rfl hc) (ev_yes rfl hc)) (aG rfl rfl (fun hc => q_max rfl (ev_yes rfl hc)) ?_)
 refine aL_E _ rfl rfl (fun hc => q_indexAddrG Tryz.underlying22 tk61 (ev_yes rfl hc) ((.of (psAt 0 rfl))) (ev_yes rfl hc) (rows_elt (i := i) (by simp at hc; omega) (by simp at hc; omega)) (by simp at hc; omega) rfl) (fun _ => ⟨(0, 0)⟩) (fun ⟨b1_21, o1_21⟩ => ?_)
 refine aG rfl rfl (fun hc => q_fieldAddr (off := 2) (by kernel_rfl) (ev_yes rfl hc)) ?_
 refine aG rfl rfl (fun hc => q_loadD (o := 2) tk51 (ev_yes rfl hc) (psAt 0 rfl) hc rfl) (aG rfl rfl (fun hc => q_lenS Tryz.underlying51 (ev_yes rfl hc)) (aG rfl rfl (fun hc => q_lss (ev_yes rfl hc) (ev_yes rfl hc)) (aU rfl (q_and rfl rfl (fun h => gt rfl h)) (aA rfl (aNn (awp_ret ?_))))))
 refine fin1 [] [] rfl Tryz.results21 rfl ?_ (.inr rfl)
 unfold thereB; rfl
end Go.Proofs.YtgmiihmahaahiaaGreatDoor

namespace Go.Sy
open Go.RowKit Go.Lp
section
variable {P : Program}
def tagF (P : Program) (f : Field) : Option (Nat × Nat) :=
 match P.underlying f.type with
 | some (.int _) => some (f.offset, 0)
 | some .bool => some (f.offset, 1)
 | some .string => some (f.offset, 2)
 | _ => none
def hasK (k : Nat) (v : Option Value) : Bool := match v with
 | some (.int .i64 _) => k == 0
 | some (.bool _) => k == 1
 | some (.string _) => k == 2
 | _ => false
def eqAtV (a b : Option Value) : Bool := match a, b with
 | some (.int _ x), some (.int _ y) => decide (x = y)
 | some (.bool x), some (.bool y) => decide (x = y)
 | some (.string x), some (.string y) => decide (x = y)
 | _, _ => true
def allPl (xs : Array Value) (l : List (Nat × Nat)) : Bool := l.all fun o => hasK o.2 xs[o.1]?
def eqPl (xs ys : Array Value) (l : List (Nat × Nat)) : Bool := l.all fun o => eqAtV xs[o.1]? ys[o.1]?
theorem hasK_int {v : Option Value} (h : hasK 0 v = true) : ∃ a, v = some (.int .i64 a) := by
 unfold hasK at h
 split at h
 · exact ⟨_, rfl⟩
 · cases h
 · cases h
 · cases h
theorem hasK_bool {v : Option Value} (h : hasK 1 v = true) : ∃ a, v = some (.bool a) := by
 unfold hasK at h
 split at h
 · cases h
 · exact ⟨_, rfl⟩
 · cases h
 · cases h
theorem hasK_str {v : Option Value} (h : hasK 2 v = true) : ∃ a, v = some (.string a) := by
 unfold hasK at h
 split at h
 · cases h
 · cases h
 · exact ⟨_, rfl⟩
 · cases h
theorem eqFields_pl (d : Nat) (xs ys : Array Value) : ∀ (fs : List Field) (l : List (Nat × Nat)) (w : World), fs.all (fun f => decide (f.name ≠ "_")) = true → fs.mapM (tagF P) = some l → allPl xs l = true → allPl ys l = true →
   (Op.eqFields (d + 1) xs ys fs).run P w = .ok (eqPl xs ys l) w
 | [], l, w, _, h, _, _ => by
   have : l = [] := by simpa using h.symm
   subst this; rfl
 | f :: fs, l, w, hn, h, hx, hy => by
   simp only [List.all_cons, Bool.and_eq_true, decide_eq_true_eq] at hn
   cases h1 : tagF P f with
   | none => simp [List.mapM_cons, h1] at h
   | some o =>
     cases h2 : fs.mapM (tagF P) with
     | none => simp [List.mapM_cons, h1, h2] at h
     | some l2 =>
       obtain rfl : l = o :: l2 := by simpa [List.mapM_cons, h1, h2] using h.symm
       simp only [allPl, List.all_cons, Bool.and_eq_true] at hx hy
       have ih := eqFields_pl d xs ys fs l2 w hn.2 h2 hx.2 hy.2
       have fin : ∀ (a b : Value), P.plainKey f.type = true → xs[f.offset]? = some a → ys[f.offset]? = some b → (Op.equalIn (d + 1) f.type a b).run P w = .ok (eqAtV (some a) (some b)) w → o.1 = f.offset → (Op.eqFields (d + 1) xs ys (f :: fs)).run P w = .ok (eqPl xs ys (o :: l2)) w := fun a b hp g1 g2 g3 ho => by
         simp only [Op.eqFields, if_pos hn.1, Sem.run_bind, run_part_plain w hp g1, run_part_plain w hp g2, g3, Result.andThen_ok, Sem.run_ite, Sem.run_pure, ih]
         simp only [eqPl, List.all_cons, ho, g1, g2]
         cases eqAtV (some a) (some b) <;> simp
       unfold tagF at h1
       split at h1
       · rename_i k hk
         obtain rfl := Option.some.inj h1
         obtain ⟨a, ha⟩ := hasK_int hx.1
         obtain ⟨b, hb⟩ := hasK_int hy.1
         refine fin _ _ (by unfold Program.plainKey; rw [hk]) ha hb ?_ rfl
         rw [run_equalIn_int w d f.type .i64 k _ _ hk]; rfl
       · rename_i hk
         obtain rfl := Option.some.inj h1
         obtain ⟨a, ha⟩ := hasK_bool hx.1
         obtain ⟨b, hb⟩ := hasK_bool hy.1
         refine fin _ _ (by unfold Program.plainKey; rw [hk]) ha hb ?_ rfl
         rw [run_equalIn_bool' w d f.type _ _ hk]; congr 1
       · rename_i hk
         obtain rfl := Option.some.inj h1
         obtain ⟨a, ha⟩ := hasK_str hx.1
         obtain ⟨b, hb⟩ := hasK_str hy.1
         refine fin _ _ (by unfold Program.plainKey; rw [hk]) ha hb ?_ rfl
         rw [run_equalIn_string w d f.type _ _ hk, bs_beq]; rfl
       · cases h1
end
end Go.Sy

namespace Go.Proofs.YtgmiihmahaahiaaGreatDoor
open Go.RowKit Go.Lp Go.Sy
open Go.Proofs.Tryz
theorem quiet3 {P : Program} {v : Value} {f : FuncId} {args : List Value} {p q r : Per} (h : Con P f args [p, q, r] [] fun u _ _ => u = v) {w : World} {S : Blks} {fp : Nat → Blks} {ps' : List Per} {hp : List Res} (hp1 : p ∈ ps') (hq1 : q ∈ ps') (hr1 : r ∈ ps') (hst : St w S fp ps' hp) :
   Calls P f args.toArray w fun e w' => e = .returned v ∧ Go.Sy.Below w.heap.size w w' := h.quiet (fun _ h => by
     rcases List.mem_cons.1 h with rfl | h
     · exact hp1
     · rcases List.mem_cons.1 h with rfl | h
       · exact hq1
       · rw [List.mem_singleton.1 h]; exact hr1) hst
theorem bindC_get {os : List GObject} {kp : List (Sl Bool)} {sv : ByteArray → ByteArray → Bool} {lf : ByteArray → ByteArray → Int} {lib : Bool} {i : Nat} (hi : i < os.length) :
   (bindC os kp sv lf lib)[i]? = some (rowC kp (flatF os) sv lf lib (rowD (i : Int) (elt os (i : Int)).syms.l)) := by
 unfold bindC
 rw [List.getElem?_map, List.getElem?_range hi]; rfl
theorem rowD_get? {i : Int} {l : List GSymbol} {k : Nat} {s : GSymbol} (h : l[k]? = some s) : (rowD i l)[k]? = some ⟨⟨i, (k : Int)⟩, s⟩ := by
 unfold rowD
 rw [List.getElem?_map, List.getElem?_zipIdx, h]; simp
structure Bd13 (os : List GObject) (kp : List (Sl Bool)) (sv : ByteArray → ByteArray → Bool) (lf : ByteArray → ByteArray → Int) (lib : Bool) (S : List (Sl GChoice)) : Prop where
 fits : Fits os S
 rb : RB kp (flatF os) sv lf lib
 get : ∀ (i k : Nat) (s : GSymbol) (r : Sl GChoice), (elt os (i : Int)).syms.l[k]? = some s → S[i]? = some r → r.l[k]? = some (chD kp (flatF os) sv lf lib ⟨⟨(i : Int), (k : Int)⟩, s⟩)
theorem bd13_of {os : List GObject} {kp : List (Sl Bool)} {sv : ByteArray → ByteArray → Bool} {lf : ByteArray → ByteArray → Int} {lib : Bool} {S : List (Sl GChoice)}
   (hS : S.map (·.l) = if bindE kp (flatF os) sv lf lib = none then bindC os kp sv lf lib else []) (hb : bindE kp (flatF os) sv lf lib = none) : Bd13 os kp sv lf lib S := by
 rw [if_pos hb] at hS
 have hl : S.length = os.length := by
   have := congrArg List.length hS
   rw [List.length_map] at this
   rw [this]; unfold bindC; simp
 have row : ∀ (i : Nat) (r : Sl GChoice), S[i]? = some r → r.l = rowC kp (flatF os) sv lf lib (rowD (i : Int) (elt os (i : Int)).syms.l) := fun i r hr => by
   have hi := (List.getElem?_eq_some_iff.1 hr).1
   have h1 : (S.map (·.l))[i]? = some r.l := by rw [List.getElem?_map, hr]; rfl
   rw [hS, bindC_get (by omega)] at h1
   exact (Option.some.inj h1).symm
 refine ⟨⟨hl, fun i hi => ?_⟩, .of (flatTo_asc _ _) hb, fun i k s r hs hr => ?_⟩
 · rw [row i _ (elt_nat (by omega))]
   unfold rowC rowD; simp
 · rw [row i r hr]
   unfold rowC
   rw [List.getElem?_map, rowD_get? hs]; rfl
theorem codeE_0 {kp : List (Sl Bool)} {L : List Dfn} {sv : ByteArray → ByteArray → Bool} {lf : ByteArray → ByteArray → Int} {lib : Bool} (h : codeE (bindE kp L sv lf lib) = 0) : bindE kp L sv lf lib = none := by
 rcases bindE_cases (kp := kp) (L := L) (sv := sv) (lf := lf) (lib := lib) with ⟨p, h1, _⟩ | ⟨_, _, ⟨p, h1⟩ | h1⟩
 · rw [h1] at h; simp [codeE] at h
 · rw [h1] at h; simp [codeE] at h
 · exact h1
theorem nil_of {os : List GObject} {kp : List (Sl Bool)} {sv : ByteArray → ByteArray → Bool} {lf : ByteArray → ByteArray → Int} {lib : Bool} {S : List (Sl GChoice)}
   (hS : S.map (·.l) = if bindE kp (flatF os) sv lf lib = none then bindC os kp sv lf lib else []) (hb : ¬ codeE (bindE kp (flatF os) sv lf lib) = 0) : S = [] := by
 rw [if_neg (fun h => hb (by rw [h]; rfl))] at hS
 exact List.map_eq_nil_iff.1 hS
structure G13 where
 os : Sl GObject
 lib : Bool
 ifs : Sl GIface
 vs : Sl GVersionDef
def G13.ok (x : G13) : Per := AndP formsAt (AndP turnsAt (AndP constAt (AndP (ShF GObject.row x.os) (AndP (AllF GObject.ok x.os.l) (AndP (ShF GIface.row x.ifs) (AndP (AllF GIface.ok x.ifs.l) (AndP (ShF GVersionDef.row x.vs) (AllF GVersionDef.ok x.vs.l))))))))
section
variable {ps : List Per} {x : G13} (h : Ent ps x.ok)
include h
theorem G13.forms : Ent ps formsAt := h.left
theorem G13.turns : Ent ps turnsAt := h.right.left
theorem G13.cons : Ent ps constAt := h.right.right.left
theorem G13.f_os : Ent ps (ShF GObject.row x.os) := h.right.right.right.left
theorem G13.f_osA : Ent ps (AllF GObject.ok x.os.l) := h.right.right.right.right.left
theorem G13.f_ifs : Ent ps (ShF GIface.row x.ifs) := h.right.right.right.right.right.left
theorem G13.f_ifsA : Ent ps (AllF GIface.ok x.ifs.l) := h.right.right.right.right.right.right.left
theorem G13.f_vs : Ent ps (ShF GVersionDef.row x.vs) := h.right.right.right.right.right.right.right.left
theorem G13.f_vsA : Ent ps (AllF GVersionDef.ok x.vs.l) := h.right.right.right.right.right.right.right.right
end
theorem con_few13 (x : G13) : Con Tryz.prog 11 [x.os.val, x.ifs.val, x.vs.val] [x.ok] [] (YB (FewOk x.os.l x.ifs.l x.vs.l)) :=
 (con_few x.os x.ifs x.vs).pre fun p hp => by
   have h : Ent [x.ok] x.ok := .of (psAt 0 rfl)
   simp only [List.mem_cons, List.not_mem_nil, or_false] at hp
   rcases hp with rfl | rfl | rfl | rfl | rfl | rfl
   · exact G13.forms h
   · exact G13.f_os h
   · exact G13.f_osA h
   · exact G13.f_ifs h
   · exact G13.f_ifsA h
   · exact G13.f_vs h
theorem FewO.few {o : GObject} (h : FewO o) : RtFew o := ⟨by have := h.secs; omega, by have := h.groups; omega, by have := h.inl; omega⟩
theorem con_keep13 (x : G13) (hf : FewOk x.os.l x.ifs.l x.vs.l) :
   Con Tryz.prog 12 [x.os.val] [x.ok] [] fun r ps hp => hp = [] ∧ ∃ (K : Sl (Sl Bool)) (dv : Value), r = .tuple #[K.val, dv] ∧ RsOk x.os.l K.l ∧ ps = [AllF (ShF bR) K.l, ShF slR K] := by
 refine ((con_keep x.os (by have := hf.n; omega) (fun o ho => (hf.o o ho).few) (fun o ho => (hf.o o ho).rt)).pre fun p hp => ?_).post ?_
 · have h : Ent [x.ok] x.ok := .of (psAt 0 rfl)
   simp only [List.mem_cons, List.not_mem_nil, or_false] at hp
   rcases hp with rfl | rfl | rfl | rfl
   · exact G13.cons h
   · exact G13.turns h
   · exact G13.f_os h
   · exact G13.f_osA h
 · rintro r ps hp ⟨h1, K, dv, h2, h3, h4, h5⟩
   exact ⟨h1, K, dv, h2, ⟨hf.n, fun o ho => by have := (hf.o o ho).syms; omega, h3, h4, fun o ho => (hf.o o ho).rt.syms⟩, h5⟩
abbrev G13.ln (x : G13) (K : Sl (Sl Bool)) : RLink := ⟨x.os, K, x.lib, x.ifs, x.vs, 0, 0, 0, 0⟩
theorem con_bind13 (x : G13) (K : Sl (Sl Bool)) (hok : RsOk x.os.l K.l) :
   Con Tryz.prog 13 [x.os.val, K.val, .bool x.lib, x.ifs.val, x.vs.val] [AllF (ShF bR) K.l, ShF slR K, x.ok] [] fun r ps hp => hp = [] ∧ ∃ S : Sl (Sl GChoice), ps = [AllF (ShF GChoice.row) S.l, ShF slR S] ∧
     r = .tuple #[S.val, .int .i64 (codeE (bindE K.l (flatF x.os.l) (srvB x.vs.l) (libR x.ifs.l) x.lib)), (placeE (bindE K.l (flatF x.os.l) (srvB x.vs.l) (libR x.ifs.l) x.lib)).val] ∧
     S.l.map (·.l) = if bindE K.l (flatF x.os.l) (srvB x.vs.l) (libR x.ifs.l) x.lib = none then bindC x.os.l K.l (srvB x.vs.l) (libR x.ifs.l) x.lib else [] :=
 (con_bind (x.ln K) hok (srvB x.vs.l) fun _ _ => srvB_iff).pre fun p hp => by
   rw [List.mem_singleton.1 hp]
   intro w S hps
   have h := hps _ (psAt 2 rfl)
   exact ⟨h.2.2.2.1, h.2.2.2.2.1, hps _ (psAt 1 rfl), hps _ (psAt 0 rfl), h.2.2.2.2.2.1, h.2.2.2.2.2.2.1, h.2.2.2.2.2.2.2.1, h.2.2.2.2.2.2.2.2⟩
theorem con_fits13' (x : G13) (S : Sl (Sl GChoice)) (hF : Fits x.os.l S.l) : Con Tryz.prog 20 [x.os.val, S.val] [AllF (ShF GChoice.row) S.l, ShF slR S, x.ok] [] (fun r _ _ => r = .bool true) :=
 (con_fits13 x.os S hF).pre fun p hp => by
   have h : Ent [AllF (ShF GChoice.row) S.l, ShF slR S, x.ok] x.ok := .of (psAt 2 rfl)
   simp only [List.mem_cons, List.not_mem_nil, or_false] at hp
   rcases hp with rfl | rfl | rfl | rfl
   · exact G13.f_os h
   · exact G13.f_osA h
   · exact .of (psAt 0 rfl)
   · exact .of (psAt 1 rfl)
theorem con_there13 (x : G13) (i k : Int) : Con Tryz.prog 21 [x.os.val, .int .i64 i, .int .i64 k] [x.ok] [] (fun r _ _ => r = .bool (thereB x.os.l i k)) :=
 (con_there x.os i k).pre fun p hp => by
   have h : Ent [x.ok] x.ok := .of (psAt 0 rfl)
   simp only [List.mem_cons, List.not_mem_nil, or_false] at hp
   rcases hp with rfl | rfl
   · exact G13.f_os h
   · exact G13.f_osA h
theorem con_vis13 (x : G13) (n : ByteArray) : Con Tryz.prog 16 [x.os.val, .string n] [x.ok] [] (fun r _ _ => r = .int .i64 (visR (flatF x.os.l) n)) :=
 (con_vis x.os n).pre fun p hp => by
   have h : Ent [x.ok] x.ok := .of (psAt 0 rfl)
   simp only [List.mem_cons, List.not_mem_nil, or_false] at hp
   rcases hp with rfl | rfl
   · exact G13.f_os h
   · exact G13.f_osA h
theorem con_serves13 (x : G13) (a b : ByteArray) : Con Tryz.prog 22 [x.vs.val, .string a, .string b] [x.ok] [] fun r _ _ => r = .bool (srvB x.vs.l a b) :=
 (con_serves x.vs a b (srvB x.vs.l) fun _ _ => srvB_iff).pre fun p hp => by
   have h : Ent [x.ok] x.ok := .of (psAt 0 rfl)
   simp only [List.mem_cons, List.not_mem_nil, or_false] at hp
   rcases hp with rfl | rfl
   · exact G13.f_vs h
   · exact G13.f_vsA h
theorem eqC (x y : GChoice) : eqPl x.vs.toArray y.vs.toArray [(0, 0), (1, 0), (2, 0), (3, 0), (4, 0), (5, 1)] = decide (x = y) := by
 cases x; cases y
 rw [Bool.eq_iff_iff, decide_eq_true_eq]
 simp [eqPl, eqAtV]
section
variable {n : Fr} {s : Sta} {d : Option Tmp} {ty : TypeId} {pos : String} {af : Array Edge} {gd : Option (Nat × Bool)} {X Y : Operand} {t' : TypeId}
theorem q_neqC (x y : GChoice) (hx : ev s.env X = some (true, x.val)) (hy : ev s.env Y = some (true, y.val)) : Quiet Tryz.prog n ⟨d, .binOp .neq 65 X Y t', ty, pos, af, gd⟩ s (.bool (!decide (x = y))) := by
 have h := qa_neq (P := Tryz.prog) (n := n) (d := d) (ty := ty) (pos := pos) (af := af) (gd := gd) (t' := t') (t := 65) (xs := x.vs.toArray) (ys := y.vs.toArray) (by kernel_rfl) (by kernel_rfl) (by kernel_rfl) (fun w => eqFields_pl 9998 _ _ _ [(0, 0), (1, 0), (2, 0), (3, 0), (4, 0), (5, 1)] w (by kernel_rfl) (by kernel_rfl) rfl rfl) hx hy
 rw [eqC] at h; exact h
theorem q_eqlC (x y : GChoice) (hx : ev s.env X = some (true, x.val)) (hy : ev s.env Y = some (true, y.val)) : Quiet Tryz.prog n ⟨d, .binOp .eql 65 X Y t', ty, pos, af, gd⟩ s (.bool (decide (x = y))) := by
 have h := qa_eql (P := Tryz.prog) (n := n) (d := d) (ty := ty) (pos := pos) (af := af) (gd := gd) (t' := t') (t := 65) (xs := x.vs.toArray) (ys := y.vs.toArray) (by kernel_rfl) (by kernel_rfl) (by kernel_rfl) (fun w => eqFields_pl 9998 _ _ _ [(0, 0), (1, 0), (2, 0), (3, 0), (4, 0), (5, 1)] w (by kernel_rfl) (by kernel_rfl) rfl rfl) hx hy
 rw [eqC] at h; exact h
end
theorem there_of {os : List GObject} {e : Dfn} (he : e ∈ flatF os) : ∃ i k : Nat, i < os.length ∧ (elt os (i : Int)).syms.l[k]? = some e.s ∧ e.p = ⟨(i : Int), (k : Int)⟩ ∧ thereB os e.p.obj e.p.sym = true := by
 obtain ⟨i, k, h1, h2, h3⟩ := flatTo_mem.1 he
 refine ⟨i, k, h1, h2, h3, ?_⟩
 have hk := (List.getElem?_eq_some_iff.1 h2).1
 unfold thereB
 rw [h3]
 simp only [Bool.and_eq_true, decide_eq_true_eq]
 refine ⟨⟨⟨Int.natCast_nonneg i, ?_⟩, Int.natCast_nonneg k⟩, ?_⟩
 · show (i : Int) < (os.length : Int); omega
 · show (k : Int) < ((elt os (i : Int)).syms.l.length : Int); omega
end Go.Proofs.YtgmiihmahaahiaaGreatDoor

namespace Go.Sy
open Go.RowKit
mutual
/-- the cells of a datum of bools, integers, strings, arrays and structs -/
def litCells {H : Type} : DataW H → Option (List Value)
 | .lit (.string bs) => some [.string ⟨bs.toArray⟩]
 | .lit (.int k n) => some [.int k n]
 | .lit (.bool b) => some [.bool b]
 | .agg ps => litAll ps
 | _ => none
def litAll {H : Type} : List (DataW H) → Option (List Value)
 | [] => some []
 | d :: ds => match litCells d, litAll ds with
   | some a, some b => some (a ++ b)
   | _, _ => none
end
section
variable (P : Program)
def rdA : Nat → TypeId → Bool
 | 0, _ => false
 | k + 1, t => match P.underlying t with
   | some .bool => true
   | some (.int _) => true
   | some .string => true
   | some (.array n e) => decide (P.cellsOf t = n * P.cellsOf e) && rdA k e
   | some (.struct fs) => consB P 0 fs.toList (P.cellsOf t) && fs.toList.all (fun f => rdA k f.type)
   | _ => false
end
variable {P : Program} {H : Type} {enc : TypeId × Value → H} {w : World} {base : Nat} {spare : Nat → Bool} {held : Bool}
theorem lit_array {cs : List Value} {c : Nat} {F : Nat → Option (DataW H × List MemPlace)} (ih : ∀ i x, F i = some x → litCells x.1 = some ((cs.drop (i * c)).take c)) :
   ∀ (n o : Nat) (xs : List (DataW H × List MemPlace)), xs.length = n → (∀ i, i < n → F (o + i) = xs[i]?) → (o + n) * c ≤ cs.length → litAll (xs.map (·.1)) = some ((cs.drop (o * c)).take (n * c))
 | 0, o, xs, hl, _, _ => by
   have : xs = [] := List.eq_nil_of_length_eq_zero hl
   subst this; simp [litAll]
 | n + 1, o, xs, hl, hx, hc => by
   cases xs with
   | nil => simp at hl
   | cons x xs =>
     have h0 := ih _ x (by rw [hx 0 (by omega)]; rfl)
     have h1 := lit_array ih n (o + 1) xs (by simpa using hl) (fun i hi => by rw [show o + 1 + i = o + (i + 1) by omega, hx (i + 1) (by omega)]; rfl) (by rw [show o + 1 + n = o + (n + 1) by omega]; exact hc)
     rw [Nat.add_zero] at h0
     rw [List.map_cons, litAll, h0, h1]
     simp only [Option.some.injEq]
     have e : (n + 1) * c = c + n * c := by rw [Nat.add_mul]; omega
     rw [e, List.take_add, List.drop_drop, show o * c + c = (o + 1) * c by rw [Nat.add_mul]; omega]
theorem lit_struct {cs : List Value} {fuel : Nat} {ok : TypeId → Bool} (ih : ∀ (t : TypeId) (cs : List Value) (x : DataW H × List MemPlace), ok t = true → DataW.trod enc P w base spare held fuel t cs = some x → litCells x.1 = some cs) :
   ∀ (fs : List Field) (off : Nat) (xs : List (DataW H × List MemPlace)), consB P off fs cs.length = true → fs.all (fun f => ok f.type) = true → xs.length = fs.length →
     (∀ (i : Nat) (f : Field), fs[i]? = some f → DataW.trod enc P w base spare held fuel f.type ((cs.drop f.offset).take (P.cellsOf f.type)) = xs[i]?) → litAll (xs.map (·.1)) = some (cs.drop off)
 | [], off, xs, hc, _, hl, _ => by
   have : xs = [] := List.eq_nil_of_length_eq_zero hl
   subst this
   have : off = cs.length := by simpa [consB] using hc
   simp [litAll, this]
 | f :: fs, off, xs, hc, hr, hl, hx => by
   cases xs with
   | nil => simp at hl
   | cons x xs =>
     simp only [consB, Bool.and_eq_true, beq_iff_eq, decide_eq_true_eq] at hc
     obtain ⟨⟨hc1, hc2⟩, hc3⟩ := hc
     simp only [List.all_cons, Bool.and_eq_true] at hr
     have h0 := ih _ _ x hr.1 (by rw [hx 0 f rfl]; rfl)
     have h1 := lit_struct ih fs _ xs hc3 hr.2 (by simpa using hl) (fun i g hg => by rw [hx (i + 1) g (by simpa using hg)]; rfl)
     rw [List.map_cons, litAll, h0, h1]
     simp only [Option.some.injEq]
     rw [hc1, ← List.drop_drop, List.take_append_drop]
theorem lit_rep : ∀ (k fuel : Nat) (t : TypeId) (cs : List Value) (x : DataW H × List MemPlace), rdA P k t = true → DataW.trod enc P w base spare held fuel t cs = some x → litCells x.1 = some cs
 | 0, _, _, _, _, h, _ => by cases h
 | k + 1, fuel, t, cs, x, hr, h => by
   unfold rdA at hr
   split at hr
   · rename_i hu; obtain ⟨b, rfl, rfl⟩ := DataW.trod_bool hu h; rfl
   · rename_i i hu; obtain ⟨n, rfl, rfl, _⟩ := DataW.trod_int hu h; rfl
   · rename_i hu; obtain ⟨s, rfl, rfl, _⟩ := DataW.trod_string hu h; rfl
   · rename_i n e hu
     rw [Bool.and_eq_true, decide_eq_true_eq] at hr
     obtain ⟨xs, m, _, rfl, hl, hn, hx⟩ := DataW.trod_array hu h
     have := lit_array (c := P.cellsOf e) (F := fun i => DataW.trod enc P w base spare held m e ((cs.drop (i * P.cellsOf e)).take (P.cellsOf e))) (cs := cs) (fun i x hx => lit_rep k m e _ x hr.2 hx) n 0 xs hn (fun i hi => by rw [Nat.zero_add]; exact hx i hi) (by rw [Nat.zero_add, hl, hr.1]; exact Nat.le_refl _)
     show litAll (xs.map (·.1)) = some cs
     rw [this, Nat.zero_mul, List.drop_zero, List.take_of_length_le (by rw [hl, hr.1]; exact Nat.le_refl _)]
   · rename_i fs hu
     rw [Bool.and_eq_true] at hr
     obtain ⟨xs, n, _, rfl, hl, hxl, hf⟩ := DataW.trod_struct hu h
     have := lit_struct (ok := rdA P k) (cs := cs) (fun t cs x h1 h2 => lit_rep k n t cs x h1 h2) fs.toList 0 xs (by rw [hl]; exact hr.1) hr.2 (by simpa using hxl) (fun i f hi => hf i f (by simpa using hi))
     show litAll (xs.map (·.1)) = some cs
     rw [this, List.drop_zero]
   · cases hr
end Go.Sy

namespace Go.Proofs.YtgmiihmahaahiaaGreatDoor
open Go.ChangeShapes Go.WideShapes Go.ChangeAt Go.RowKit
open Go.Lp Go.Sy
theorem own : ownKnob Tryz.prog.godebug = none := by kernel_rfl
theorem laidOut : laidOutB Tryz.prog = true := by kernel_rfl
theorem cells_at {W : World} {g : Nat} {l : List Value} (h0 : l ≠ []) (h : ∀ i, W.cell? ⟨g, i, none⟩ = l[i]?) (h1 : l.all (·.oneCell') = true) : (At g 0 (l.map D.v)).holds W (fun b => b < W.heap.size) := by
 obtain ⟨v, hv⟩ : ∃ v, l[0]? = some v := by cases l with
   | nil => exact absurd rfl h0
   | cons v l => exact ⟨v, rfl⟩
 refine ⟨(spot_none ((h 0).trans hv)).2, fun j d hj => ?_⟩
 rw [List.getElem?_map] at hj
 cases hl : l[j]? with
 | none => rw [hl] at hj; cases hj
 | some u =>
   rw [hl] at hj
   simp only [Option.map_some, Option.some.injEq] at hj
   exact ⟨u, by rw [Nat.zero_add, h, hl], List.all_eq_true.1 h1 u (List.mem_of_getElem? hl), by rw [← hj]; exact .v u⟩
theorem gTurns : Tryz.prog.globalNamed "linchpin/digest.turns" = some 2 := by kernel_rfl
theorem tTurns : (Tryz.prog.globals[2]?).map (·.type) = some 370 := by kernel_rfl
theorem turns_lit : litCells (Rows.laid_linchpin_digest_turns (H := Unit)) = some (turnsL.map fun z => Value.int .i64 z) := by kernel_rfl
theorem turns_one : (turnsL.map fun z => Value.int .i64 z).all (·.oneCell') = true := by kernel_rfl
theorem gConst : Tryz.prog.globalNamed "linchpin/digest.constants" = some 1 := by kernel_rfl
theorem tConst : (Tryz.prog.globals[1]?).map (·.type) = some 367 := by kernel_rfl
theorem const_lit : litCells (Rows.laid_linchpin_digest_constants (H := Unit)) = some (u64s constL) := by kernel_rfl
theorem const_one : (u64s constL).all (·.oneCell') = true := by kernel_rfl
theorem gForms : Tryz.prog.globalNamed "linchpin/isa.forms" = some 0 := by kernel_rfl
theorem tForms : (Tryz.prog.globals[0]?).map (·.type) = some 344 := by kernel_rfl
theorem forms_lit : litCells (Rows.laid_linchpin_isa_forms (H := Unit)) = some formsV := by kernel_rfl
theorem forms_one : formsV.all (·.oneCell') = true := by kernel_rfl
theorem of_laid {W : World} (h : laidMetH Tryz.prog [("linchpin/digest.turns", Rows.laid_linchpin_digest_turns), ("linchpin/digest.constants", Rows.laid_linchpin_digest_constants), ("linchpin/isa.forms", Rows.laid_linchpin_isa_forms)] W) :
   formsAt.holds W (fun b => b < W.heap.size) ∧ turnsAt.holds W (fun b => b < W.heap.size) ∧ constAt.holds W (fun b => b < W.heap.size) := by
 rw [MakeChecks.laidMetH_plain _ _ _ (by kernel_rfl)] at h
 obtain ⟨ps, ⟨g0, t0, cs0, f0, p0, q0, hg0, ht0, hv0, hd0, ⟨g1, t1, cs1, f1, p1, q1, hg1, ht1, hv1, hd1, ⟨g2, t2, cs2, f2, p2, q2, hg2, ht2, hv2, hd2, _, _⟩, _⟩, _⟩, _, _⟩ := h
 obtain rfl := Option.some.inj (gTurns.symm.trans hg0)
 obtain rfl := Option.some.inj (tTurns.symm.trans ht0)
 have hl0 := lit_rep 3 _ _ _ _ (by kernel_rfl) hd0
 have e0 : cs0.toList = turnsL.map fun z => Value.int .i64 z := Option.some.inj (hl0.symm.trans turns_lit)
 obtain rfl := Option.some.inj (gConst.symm.trans hg1)
 obtain rfl := Option.some.inj (tConst.symm.trans ht1)
 have hl1 := lit_rep 3 _ _ _ _ (by kernel_rfl) hd1
 have e1 : cs1.toList = u64s constL := Option.some.inj (hl1.symm.trans const_lit)
 obtain rfl := Option.some.inj (gForms.symm.trans hg2)
 obtain rfl := Option.some.inj (tForms.symm.trans ht2)
 have hl2 := lit_rep 3 _ _ _ _ (by kernel_rfl) hd2
 have e2 : cs2.toList = formsV := Option.some.inj (hl2.symm.trans forms_lit)
 exact ⟨cells_at (by decide) (fun i => by rw [World.var?_cell hg2 hv2 i, ← e2, Array.getElem?_toList]) forms_one, cells_at (by decide) (fun i => by rw [World.var?_cell hg0 hv0 i, ← e0, Array.getElem?_toList]) turns_one, cells_at (by decide) (fun i => by rw [World.var?_cell hg1 hv1 i, ← e1, Array.getElem?_toList]) const_one⟩
section
variable {H : Type} {enc : TypeId × Value → H} {w : World} {base : Nat} {spare : Nat → Bool} {held : Bool}
theorem objs_in {fuel len cap : Nat} {a : Option Addr} {y : DataW H × List MemPlace} (h : DataW.trod enc Tryz.prog w base spare held fuel 22 [.slice a len cap] = some y) : ∃ s : Sl GObject, Value.slice a len cap = s.val ∧ (ShF GObject.row s).holds w (fun b => b < w.heap.size) ∧ (AllF (fun y => GObject.ok y) s.l).holds w (fun b => b < w.heap.size) := by
 obtain ⟨ds, hlen, ho, hR⟩ := trod_rep 12 fuel 22 _ _ (by kernel_rfl) h
 obtain ⟨s, h1, h2⟩ := rd_sl_GObject ho (rds_of hlen hR)
 exact ⟨s, (List.cons.inj (vs_inj (a := [s.val]) h1)).1.symm, h2.1, h2.2⟩
theorem ifs_in {fuel len cap : Nat} {a : Option Addr} {y : DataW H × List MemPlace} (h : DataW.trod enc Tryz.prog w base spare held fuel 23 [.slice a len cap] = some y) : ∃ s : Sl GIface, Value.slice a len cap = s.val ∧ (ShF GIface.row s).holds w (fun b => b < w.heap.size) ∧ (AllF (fun y => GIface.ok y) s.l).holds w (fun b => b < w.heap.size) := by
 obtain ⟨ds, hlen, ho, hR⟩ := trod_rep 12 fuel 23 _ _ (by kernel_rfl) h
 obtain ⟨s, h1, h2⟩ := rd_sl_GIface ho (rds_of hlen hR)
 exact ⟨s, (List.cons.inj (vs_inj (a := [s.val]) h1)).1.symm, h2.1, h2.2⟩
theorem vers_in {fuel len cap : Nat} {a : Option Addr} {y : DataW H × List MemPlace} (h : DataW.trod enc Tryz.prog w base spare held fuel 24 [.slice a len cap] = some y) : ∃ s : Sl GVersionDef, Value.slice a len cap = s.val ∧ (ShF GVersionDef.row s).holds w (fun b => b < w.heap.size) ∧ (AllF (fun y => GVersionDef.ok y) s.l).holds w (fun b => b < w.heap.size) := by
 obtain ⟨ds, hlen, ho, hR⟩ := trod_rep 12 fuel 24 _ _ (by kernel_rfl) h
 obtain ⟨s, h1, h2⟩ := rd_sl_GVersionDef ho (rds_of hlen hR)
 exact ⟨s, (List.cons.inj (vs_inj (a := [s.val]) h1)).1.symm, h2.1, h2.2⟩
theorem g13_in {f0 f2 f3 l0 l2 l3 c0 c2 c3 : Nat} {a0 a2 a3 : Option Addr} {y0 y2 y3 : DataW H × List MemPlace} (b : Bool) (h0 : DataW.trod enc Tryz.prog w base spare held f0 22 [.slice a0 l0 c0] = some y0)
   (h2 : DataW.trod enc Tryz.prog w base spare held f2 23 [.slice a2 l2 c2] = some y2) (h3 : DataW.trod enc Tryz.prog w base spare held f3 24 [.slice a3 l3 c3] = some y3)
   (hL : formsAt.holds w (fun b => b < w.heap.size) ∧ turnsAt.holds w (fun b => b < w.heap.size) ∧ constAt.holds w (fun b => b < w.heap.size)) :
   ∃ x : G13, Value.slice a0 l0 c0 = x.os.val ∧ b = x.lib ∧ Value.slice a2 l2 c2 = x.ifs.val ∧ Value.slice a3 l3 c3 = x.vs.val ∧ x.ok.holds w (fun b => b < w.heap.size) := by
 obtain ⟨o, e1, k1, m1⟩ := objs_in h0
 obtain ⟨i, e2, k2, m2⟩ := ifs_in h2
 obtain ⟨v, e3, k3, m3⟩ := vers_in h3
 exact ⟨⟨o, b, i, v⟩, e1, rfl, e2, e3, hL.1, hL.2.1, hL.2.2, k1, m1, k2, m2, k3, m3⟩
end
end Go.Proofs.YtgmiihmahaahiaaGreatDoor

namespace Go.Proofs.YtgmiihmahaahiaaGreatDoor
open Go.RowKit Go.Lp Go.Sy
open Go.Proofs.Tryz
attribute [local irreducible] aL aB awp aC fwp
def secT : GSection := ⟨⟨#[116, 101, 120, 116]⟩, 0, 8, 8, ⟨#[1, 0, 0, 0, 0, 0, 0, 0]⟩, false⟩
def symF (bind sec : Int) : GSymbol := ⟨⟨#[102]⟩, .empty, false, bind, 0, 0, sec, 0, 0, 0⟩
abbrev nilS (α : Type) : Sl α := ⟨none, 0, []⟩
def defO (n : ByteArray) (bind : Int) (a1 a2 : Option Addr) : GObject := ⟨n, ⟨a1, 1, [secT]⟩, ⟨a2, 1, [symF bind 0]⟩, nilS _, nilS _, nilS _, nilS _, nilS _, nilS _, nilS _, nilS _⟩
theorem con_def13 (n : ByteArray) (bind : Int) : Con Tryz.prog 29 [.string n, .int .i64 bind] [] [] fun r ps hp => ps = [] ∧ ∃ a1 a2, r = (defO n bind a1 a2).val ∧ hp = [OwnS (.slice a1 1 1) 85 6 ([secT].map GSection.row), OwnS (.slice a2 1 1) 63 10 ([symF bind 0].map GSymbol.row)] := by
 refine Con.enter Tryz.func29 rfl (by simp [Tryz.ntmps29]) ?_
 show awp _ _ _ _ ⟨[(0, true, _), (1, true, _)], _, _⟩
 refine aSR ?_
 refine aL_eff (q := true) rfl (x_alloc (zs := [.string .empty, .slice none 0 0, .slice none 0 0, .slice none 0 0, .slice none 0 0, .slice none 0 0, .slice none 0 0, .slice none 0 0, .slice none 0 0, .slice none 0 0, .slice none 0 0]) (by kernel_rfl) rfl (fun b0_0 => ?_))
 refine aL_hp (by (try simp only [nM, nN]); rfl) ?_
 refine aNn (aSR (aM rfl ?_))
 refine aU rfl (q_bld (l := [(0, .const (.string ⟨#[116, 101, 120, 116]⟩)), (1, .const (.int .i64 0)), (2, .const (.int .i64 8)), (3, .const (.int .i64 8)), (4, .const (.string ⟨#[1, 0, 0, 0, 0, 0, 0, 0]⟩))]) (zs := [.string .empty, .int .i64 0, .int .i64 0, .int .i64 0, .string .empty, .bool false]) (pl := [(0, 1), (1, 1), (2, 1), (3, 1), (4, 1), (5, 1)]) (by kernel_rfl) (by kernel_rfl) (by kernel_rfl) rfl rfl rfl) ?_
 refine aL_eff (q := true) rfl (w_lit (zs := [.string .empty, .int .i64 0, .int .i64 0, .int .i64 0, .string .empty, .bool false]) (l := [(0, .tmp 6)]) el50 (by kernel_rfl) (by decide) (by decide) (by decide) rfl rfl rfl (.more rfl (.v rfl (.v rfl (.v rfl (.v rfl (.v rfl (.v rfl .nil)))))) .nil) rfl rfl (fun v1_2 => ?_))
 refine aL_hp (by (try simp only [nM, nN]); rfl) ?_
 refine aM rfl ?_
 refine aU rfl (q_bld (l := [(0, .const (.string ⟨#[102]⟩)), (3, .tmp 8)]) (zs := [.string .empty, .string .empty, .bool false, .int .i64 0, .int .i64 0, .int .i64 0, .int .i64 0, .int .i64 0, .int .i64 0, .int .i64 0]) (pl := [(0, 1), (1, 1), (2, 1), (3, 1), (4, 1), (5, 1), (6, 1), (7, 1), (8, 1), (9, 1)]) (by kernel_rfl) (by kernel_rfl) (by kernel_rfl) rfl rfl rfl) ?_
 refine aL_eff (q := true) rfl (w_lit (zs := [.string .empty, .string .empty, .bool false, .int .i64 0, .int .i64 0, .int .i64 0, .int .i64 0, .int .i64 0, .int .i64 0, .int .i64 0]) (l := [(0, .tmp 9)]) el51 (by kernel_rfl) (by decide) (by decide) (by decide) rfl rfl rfl (.more rfl (.v rfl (.v rfl (.v rfl (.v rfl (.v rfl (.v rfl (.v rfl (.v rfl (.v rfl (.v rfl .nil)))))))))) .nil) rfl rfl (fun v1_5 => ?_))
 refine aL_hp (by (try simp only [nM, nN]); rfl) ?_
 refine aU rfl (q_bld (l := [(0, .tmp 5), (1, .tmp 7), (2, .tmp 10)]) (zs := [.string .empty, .slice none 0 0, .slice none 0 0, .slice none 0 0, .slice none 0 0, .slice none 0 0, .slice none 0 0, .slice none 0 0, .slice none 0 0, .slice none 0 0, .slice none 0 0]) (pl := [(0, 1), (1, 1), (2, 1), (3, 1), (4, 1), (5, 1), (6, 1), (7, 1), (8, 1), (9, 1), (10, 1)]) (by kernel_rfl) (by kernel_rfl) (by kernel_rfl) rfl rfl rfl) ?_
 refine aL_eff rfl (x_store 0 tk61 rfl rfl rfl rfl ?_)
 refine aL_hp (by (try simp only [nK, nL]); rfl) ?_
 refine aNn (awp_ret ?_)
 refine finR1 [] [1, 2] rfl Tryz.results29 (rv_cell 0 tk61 rfl rfl rfl) ?_ (.inr rfl)
 exact ⟨rfl, v1_2, v1_5, rfl, rfl⟩
def cO (a : Option Addr) : GObject := ⟨⟨#[99]⟩, nilS _, ⟨a, 1, [symF 1 (-1)]⟩, nilS _, nilS _, nilS _, nilS _, nilS _, nilS _, nilS _, nilS _⟩
def os13 (b : Int) (a1 a2 a3 a4 a5 : Option Addr) : List GObject := [defO ⟨#[97]⟩ b a1 a2, defO ⟨#[98]⟩ 1 a3 a4, cO a5]
def kp13 (k1 k2 : Option Addr) : List (Sl Bool) := [⟨k1, 1, [true]⟩, ⟨k2, 1, [true]⟩, nilS Bool]
theorem ex_e1 (sv : ByteArray → ByteArray → Bool) (a1 a2 a3 a4 a5 k1 k2 : Option Addr) : bindE (kp13 k1 k2) (flatF (os13 2 a1 a2 a3 a4 a5)) sv (libR []) false = none := by kernel_rfl
theorem ex_c1 (sv : ByteArray → ByteArray → Bool) (a1 a2 a3 a4 a5 k1 k2 : Option Addr) : bindC (os13 2 a1 a2 a3 a4 a5) (kp13 k1 k2) sv (libR []) false = [[⟨2, 1, 0, 0, 2, false⟩], [⟨2, 1, 0, 0, 2, false⟩], [⟨2, 1, 0, 0, 2, false⟩]] := by kernel_rfl
theorem ex_e2 (sv : ByteArray → ByteArray → Bool) (a1 a2 a3 a4 a5 k1 k2 : Option Addr) : bindE (kp13 k1 k2) (flatF (os13 1 a1 a2 a3 a4 a5)) sv (libR []) false = some (4, ⟨1, 0⟩) := by kernel_rfl
theorem ex_e3 (sv : ByteArray → ByteArray → Bool) (a5 : Option Addr) : bindE [nilS Bool] (flatF [cO a5]) sv (libR []) false = some (3, ⟨0, 0⟩) := by kernel_rfl
theorem nil_sh {α : Type} {row : α → List D} {w : World} {S : Blks} : (ShF row (nilS α)).holds w S := .e none 0 (by unfold maxLen; omega)
theorem nil_all {α : Type} {f : α → Per} {w : World} {S : Blks} : (AllF f ([] : List α)).holds w S := fun _ h => by cases h
theorem ok_obj {n : ByteArray} {s1 : Sl GSection} {s2 : Sl GSymbol} {w : World} {S : Blks} (hn : n.size ≤ maxLen) (h1 : (ShF GSection.row s1).holds w S) (h2 : ∀ s ∈ s1.l, s.name.size ≤ maxLen ∧ s.bytes.size ≤ maxLen) (h3 : (ShF GSymbol.row s2).holds w S) (h4 : ∀ s ∈ s2.l, s.name.size ≤ maxLen ∧ s.version.size ≤ maxLen) :
   (GObject.ok ⟨n, s1, s2, nilS _, nilS _, nilS _, nilS _, nilS _, nilS _, nilS _, nilS _⟩).holds w S :=
 ⟨hn, h1, fun s hs => h2 s hs, h3, fun s hs => h4 s hs, nil_sh, nil_sh, nil_all, nil_sh, nil_sh, nil_all, nil_sh, nil_all, nil_sh, nil_all, nil_sh, nil_sh, nil_all⟩
theorem ok_def {n : ByteArray} {b : Int} {a1 a2 : Option Addr} {w : World} {S : Blks} (hn : n.size ≤ maxLen) (h1 : (ShF GSection.row ⟨a1, 1, [secT]⟩).holds w S) (h2 : (ShF GSymbol.row ⟨a2, 1, [symF b 0]⟩).holds w S) : (GObject.ok (defO n b a1 a2)).holds w S :=
 ok_obj hn h1 (fun s hs => by rw [List.mem_singleton.1 hs]; unfold maxLen; exact ⟨by decide, by decide⟩) h2 (fun s hs => by rw [List.mem_singleton.1 hs]; unfold maxLen; exact ⟨by show 1 ≤ _; omega, by show 0 ≤ _; omega⟩)
theorem ok_c {a : Option Addr} {w : World} {S : Blks} (h2 : (ShF GSymbol.row ⟨a, 1, [symF 1 (-1)]⟩).holds w S) : (GObject.ok (cO a)).holds w S :=
 ok_obj (by unfold maxLen; show 1 ≤ _; omega) nil_sh (fun s hs => by cases hs) h2 (fun s hs => by rw [List.mem_singleton.1 hs]; unfold maxLen; exact ⟨by show 1 ≤ _; omega, by show 0 ≤ _; omega⟩)
theorem indep_pool {α β : Type} {T : TypeId} {sz : Nat} {row : β → List D} {m : α → Option (Sl β)} (hr : ∀ x : β, ∀ d ∈ row x, ∃ u, d = D.v u) : Indep (Pool T sz row m) := fun w S S' F ⟨fp, h1, h2, h3, h4⟩ =>
 ⟨fp, fun k s hk => indep_own (fun r hr2 d hd => by obtain ⟨x, _, rfl⟩ := List.mem_map.1 hr2; exact hr x d hd) w S S' _ (h1 k s hk), h2, h3, h4⟩
theorem rs_ok13 (b : Int) (a1 a2 a3 a4 a5 k1 k2 : Option Addr) : RsOk (os13 b a1 a2 a3 a4 a5) (kp13 k1 k2) where
 n := show 3 ≤ 5 by decide
 sy o ho := by
   simp only [os13, List.mem_cons, List.not_mem_nil, or_false] at ho
   rcases ho with rfl | rfl | rfl <;> show 1 ≤ 14 <;> decide
 kn := rfl
 ks i hi := by
   have : i = 0 ∨ i = 1 ∨ i = 2 := by simp [os13] at hi; omega
   rcases this with rfl | rfl | rfl <;> rfl
 sec o ho s hs := by
   simp only [os13, List.mem_cons, List.not_mem_nil, or_false] at ho
   rcases ho with rfl | rfl | rfl <;> rw [List.mem_singleton.1 hs]
   · exact .inr ⟨Int.le_refl _, show (0 : Int) < ((1 : Nat) : Int) by decide⟩
   · exact .inr ⟨Int.le_refl _, show (0 : Int) < ((1 : Nat) : Int) by decide⟩
   · exact .inl ⟨rfl, by decide⟩
end Go.Proofs.YtgmiihmahaahiaaGreatDoor

namespace Go.Proofs.YtgmiihmahaahiaaGreatDoor
open Go.RowKit Go.Lp Go.Sy
open Go.Proofs.Tryz
abbrev exPs (b : Int) (ao a1 a2 a3 a4 a5 ak k1 k2 : Option Addr) : List Per :=
 [ShF GObject.row ⟨ao, 3, os13 b a1 a2 a3 a4 a5⟩, ShF GSection.row ⟨a1, 1, [secT]⟩, ShF GSection.row ⟨a3, 1, [secT]⟩, ShF GSymbol.row ⟨a4, 1, [symF 1 0]⟩, ShF GSymbol.row ⟨a5, 1, [symF 1 (-1)]⟩, ShF slR ⟨ak, 3, kp13 k1 k2⟩, ShF bR ⟨k1, 1, [true]⟩, ShF bR ⟨k2, 1, [true]⟩]
abbrev exX (b : Int) (ao a1 a2 a3 a4 a5 ak k1 k2 : Option Addr) : RLink := ⟨⟨ao, 3, os13 b a1 a2 a3 a4 a5⟩, ⟨ak, 3, kp13 k1 k2⟩, false, nilS _, nilS _, 0, 0, 0, 0⟩
theorem ex_ok (b : Int) (ao a1 a2 a3 a4 a5 ak k1 k2 : Option Addr) : Ent (ShF GSymbol.row ⟨a2, 1, [symF b 0]⟩ :: exPs b ao a1 a2 a3 a4 a5 ak k1 k2) (exX b ao a1 a2 a3 a4 a5 ak k1 k2).ok := fun w S hp => by
 have p0 := hp _ (psAt 0 rfl)
 have p1 := hp _ (psAt 1 rfl)
 have p2 := hp _ (psAt 2 rfl)
 have p3 := hp _ (psAt 3 rfl)
 have p4 := hp _ (psAt 4 rfl)
 have p5 := hp _ (psAt 5 rfl)
 have p6 := hp _ (psAt 6 rfl)
 have p7 := hp _ (psAt 7 rfl)
 have p8 := hp _ (psAt 8 rfl)
 refine ⟨p1, fun o ho => ?_, p6, fun s hs => ?_, nil_sh, nil_all, nil_sh, nil_all⟩
 · simp only [os13, List.mem_cons, List.not_mem_nil, or_false] at ho
   rcases ho with rfl | rfl | rfl
   · exact ok_def (by unfold maxLen; show 1 ≤ _; omega) p2 p0
   · exact ok_def (by unfold maxLen; show 1 ≤ _; omega) p3 p4
   · exact ok_c p5
 · simp only [kp13, List.mem_cons, List.not_mem_nil, or_false] at hs
   rcases hs with rfl | rfl | rfl
   · exact p7
   · exact p8
   · exact nil_sh
theorem con_ex13 (b : Int) (ao a1 a2 a3 a4 a5 ak k1 k2 : Option Addr) :
   Con Tryz.prog 13 [.slice ao 3 3, .slice ak 3 3, .bool false, .slice none 0 0, .slice none 0 0] (exPs b ao a1 a2 a3 a4 a5 ak k1 k2) [OwnS (.slice a2 1 1) 63 10 ([symF b 0].map GSymbol.row)]
     fun r ps hp => ps = [] ∧ ∃ hp2, hp = OwnS (.slice a2 1 1) 63 10 ([symF b 0].map GSymbol.row) :: hp2 ∧
       ((∃ c p, bindE (kp13 k1 k2) (flatF (os13 b a1 a2 a3 a4 a5)) (srvB []) (libR []) false = some (c, p) ∧ r = .tuple #[.slice none 0 0, .int .i64 c, p.val] ∧ hp2 = []) ∨
       (bindE (kp13 k1 k2) (flatF (os13 b a1 a2 a3 a4 a5)) (srvB []) (libR []) false = none ∧ ∃ (ad : Option Addr) (t : BS), BInv (choiceR (kp13 k1 k2) (flatF (os13 b a1 a2 a3 a4 a5)) (srvB []) (libR []) false) (flatF (os13 b a1 a2 a3 a4 a5)) t ∧ r = .tuple #[.slice ad 3 3, .int .i64 0, (⟨0, 0⟩ : GCulprit).val] ∧
         hp2 = [OwnS (.slice ad 3 3) 66 1 (outR t.mC 3), Pool 65 6 GChoice.row t.mC])) := by
 have h := (con_bindO (exX b ao a1 a2 a3 a4 a5 ak k1 k2) (rs_ok13 b a1 a2 a3 a4 a5 k1 k2) (srvB []) (fun _ _ => srvB_iff)).pre (ps0 := ShF GSymbol.row ⟨a2, 1, [symF b 0]⟩ :: exPs b ao a1 a2 a3 a4 a5 ak k1 k2) fun p hp => (List.mem_singleton.1 hp) ▸ ex_ok b ao a1 a2 a3 a4 a5 ak k1 k2
 refine (Con.borrowL h [OwnS (.slice a2 1 1) 63 10 ([symF b 0].map GSymbol.row)] (fun w S fp hres => (own_rep (hres 0 _ rfl)).mono (fun _ _ => rfl) fun b hb => hb.imp id fun hf => ⟨0, by simp, hf⟩) ?_).post ?_
 · rintro v ps' hp' ⟨_, ⟨c, p, _, _, rfl⟩ | ⟨_, ad, t, _, _, rfl⟩⟩ A hA
   · cases hA
   · simp only [List.mem_cons, List.not_mem_nil, or_false] at hA
     rcases hA with rfl | rfl
     · exact indep_own fun r hr d hd => by
         obtain ⟨i, _, rfl⟩ := List.mem_map.1 hr
         rw [List.mem_singleton.1 hd]; exact ⟨_, rfl⟩
     · exact indep_pool fun x d hd => by
         simp only [List.mem_cons, List.not_mem_nil, or_false] at hd
         rcases hd with rfl | rfl | rfl | rfl | rfl | rfl <;> exact ⟨_, rfl⟩
 · rintro v ps' hp' ⟨h1, ps2, hp2, ⟨_, h2⟩, h3⟩
   exact ⟨h1, hp2, h3, h2⟩
end Go.Proofs.YtgmiihmahaahiaaGreatDoor

