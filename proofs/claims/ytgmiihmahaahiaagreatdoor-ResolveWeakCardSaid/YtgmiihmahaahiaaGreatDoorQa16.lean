/- Parts of the proof, in build order. No condition. -/
import Derived.Test.YtgmiihmahaahiaaGreatDoorQa15
import Derived.Test.YtgmiihmahaahiaaGreatDoorQa03
set_option linter.unusedSimpArgs false
set_option linter.unusedVariables false
set_option maxHeartbeats 1000000
set_option maxRecDepth 20000
namespace Go.Proofs.YtgmiihmahaahiaaGreatDoor
open Go.RowKit Go.Lp Go.Sy
open Go.Proofs.Tryz
theorem con_ex1 (ao a1 a2 a3 a4 a5 ak k1 k2 : Option Addr) :
   Con Tryz.prog 13 [.slice ao 3 3, .slice ak 3 3, .bool false, .slice none 0 0, .slice none 0 0] (exPs 2 ao a1 a2 a3 a4 a5 ak k1 k2) [OwnS (.slice a2 1 1) 63 10 ([symF 2 0].map GSymbol.row)]
     fun r ps hp => ps = [] ∧ ∃ (ad : Option Addr) (m : Nat → Option (Sl GChoice)), (chS ad 3 m).l.map (·.l) = [[⟨2, 1, 0, 0, 2, false⟩], [⟨2, 1, 0, 0, 2, false⟩], [⟨2, 1, 0, 0, 2, false⟩]] ∧ r = .tuple #[.slice ad 3 3, .int .i64 0, (⟨0, 0⟩ : GCulprit).val] ∧
       hp = [OwnS (.slice a2 1 1) 63 10 ([symF 2 0].map GSymbol.row), OwnS (.slice ad 3 3) 66 1 (outR m 3), Pool 65 6 GChoice.row m] := by
 refine (con_ex13 2 ao a1 a2 a3 a4 a5 ak k1 k2).post ?_
 rintro v ps' hp' ⟨h1, hp2, h3, ⟨c, p, h4, _⟩ | ⟨_, ad, t, hT, rfl, rfl⟩⟩
 · rw [ex_e1] at h4; cases h4
 · refine ⟨h1, ad, t.mC, ?_, rfl, h3⟩
   rw [← ex_c1 (srvB []) a1 a2 a3 a4 a5 k1 k2]
   show List.map (fun s : Sl GChoice => s.l) ((List.range 3).map (getS t.mC)) = _
   rw [List.map_map]
   unfold bindC rowC
   refine List.map_congr_left fun i hi => ?_
   show (getS t.mC i).l = _
   rw [hT.rows, show flatF (os13 2 a1 a2 a3 a4 a5) = flatTo (os13 2 a1 a2 a3 a4 a5) 3 from rfl, flatTo_filter, if_pos (List.mem_range.1 hi)]
theorem con_ex2 (ao a1 a2 a3 a4 a5 ak k1 k2 : Option Addr) :
   Con Tryz.prog 13 [.slice ao 3 3, .slice ak 3 3, .bool false, .slice none 0 0, .slice none 0 0] (exPs 1 ao a1 a2 a3 a4 a5 ak k1 k2) [OwnS (.slice a2 1 1) 63 10 ([symF 1 0].map GSymbol.row)]
     fun r ps hp => ps = [] ∧ r = .tuple #[.slice none 0 0, .int .i64 4, (⟨1, 0⟩ : GCulprit).val] ∧ hp = [OwnS (.slice a2 1 1) 63 10 ([symF 1 0].map GSymbol.row)] := by
 refine (con_ex13 1 ao a1 a2 a3 a4 a5 ak k1 k2).post ?_
 rintro v ps' hp' ⟨h1, hp2, h3, ⟨c, p, h4, rfl, rfl⟩ | ⟨h4, _⟩⟩
 · rw [ex_e2] at h4
   simp only [Option.some.injEq, Prod.mk.injEq] at h4
   obtain ⟨rfl, rfl⟩ := h4
   exact ⟨h1, rfl, h3⟩
 · rw [ex_e2] at h4; cases h4
end Go.Proofs.YtgmiihmahaahiaaGreatDoor

namespace Go.Proofs.YtgmiihmahaahiaaGreatDoor
open Go.RowKit Go.Lp Go.Sy
open Go.Proofs.Tryz
attribute [local irreducible] aL aB awp aC fwp
theorem rep_sub {w : World} {S : Blks} {b o n c sz : Nat} {rows : List (List D)} (h : RepD w S (.slice (some ⟨b, o, none⟩) n c) (.sl rows)) (l m : Nat) (hsz : ∀ r ∈ rows, r.length = sz) (hl : l < m) (hm : m ≤ rows.length) :
   RepD w S (.slice (some ⟨b, o + l * sz, none⟩) ((rows.take m).drop l).length (c - l)) (.sl ((rows.take m).drop l)) := by
 cases h with
 | e a c hc => simp at hm; omega
 | sl b o c sz2 rows us hb hn hc hr hcell hd =>
   have h0 : rows[0]? = some (rows[0]'(by omega)) := List.getElem?_eq_getElem (by omega)
   obtain rfl : sz2 = sz := by rw [← hr 0 _ h0, hsz _ (List.getElem_mem _)]
   have key : ∀ (i : Nat) (r : List D), ((rows.take m).drop l)[i]? = some r → rows[l + i]? = some r := fun i r h => by
     rw [List.getElem?_drop, List.getElem?_take] at h
     split at h
     · exact h
     · cases h
   refine .sl b (o + l * sz2) (c - l) sz2 _ (fun i j => us (l + i) j) hb (by simp; omega) (by omega) (fun i r hi => hr _ r (key i r hi)) (fun i j r d hi hj => ?_) (fun i j r d hi hj => hd _ j r d (key i r hi) hj)
   rw [show o + l * sz2 + i * sz2 + j = o + (l + i) * sz2 + j by rw [Nat.add_mul]; omega]
   exact hcell _ j r d (key i r hi) hj
theorem awp_formS {P : Program} {n : Fr} {Q : Exit → Sta → Prop} {s : Sta} {c : Code} {ad : Option Addr} {k cp : Nat} {rows : List (List D)} (hs : Ent s.ps (Sh (.slice ad k cp) (.sl rows))) (h0 : rows ≠ []) (h : ∀ B o, ad = some ⟨B, o, none⟩ → awp P n c Q s) : awp P n c Q s :=
 awp_know (φ := ∃ B o, ad = some ⟨B, o, none⟩) (fun w S fp hst => by
   have h : RepD w S (.slice ad k cp) (.sl rows) := hs w S hst.per
   cases h with
   | e a c hc => exact (h0 rfl).elim
   | sl b o c sz rows us hb hn hc _ _ _ => exact ⟨_, _, rfl⟩) (fun ⟨B, o, e⟩ => h B o e)
theorem rs_ok3 (a5 : Option Addr) : RsOk [cO a5] [nilS Bool] where
 n := show 1 ≤ 5 by decide
 sy o ho := by rw [List.mem_singleton.1 ho]; show 1 ≤ 14; decide
 kn := rfl
 ks i hi := by
   have : i = 0 := by simp at hi; omega
   subst this; rfl
 sec o ho s hs := by
   rw [List.mem_singleton.1 ho] at hs
   rw [List.mem_singleton.1 hs]; exact .inl ⟨rfl, by decide⟩
theorem ex_ok3 (B o B2 o2 : Nat) (b : Int) (a1 a2 a3 a4 a5 k1 k2 : Option Addr) :
   Ent [ShF GObject.row ⟨some ⟨B, o, none⟩, 3, os13 b a1 a2 a3 a4 a5⟩, ShF GSymbol.row ⟨a5, 1, [symF 1 (-1)]⟩, ShF slR ⟨some ⟨B2, o2, none⟩, 3, kp13 k1 k2⟩] (RLink.ok ⟨⟨some ⟨B, o + 2 * 11, none⟩, 1, [cO a5]⟩, ⟨some ⟨B2, o2 + 2 * 1, none⟩, 1, [nilS Bool]⟩, false, nilS _, nilS _, 0, 0, 0, 0⟩) := fun w S hp => by
 have p0 := hp _ (psAt 0 rfl)
 have p1 := hp _ (psAt 1 rfl)
 have p2 := hp _ (psAt 2 rfl)
 refine ⟨rep_sub p0 2 3 (fun r hr => ?_) (by decide) (show 3 ≤ 3 by decide), fun o ho => ?_, rep_sub p2 2 3 (fun r hr => ?_) (by decide) (show 3 ≤ 3 by decide), fun s hs => ?_, nil_sh, nil_all, nil_sh, nil_all⟩
 · obtain ⟨x, _, rfl⟩ := List.mem_map.1 hr; rfl
 · rw [List.mem_singleton.1 ho]; exact ok_c p1
 · obtain ⟨x, _, rfl⟩ := List.mem_map.1 hr; rfl
 · rw [List.mem_singleton.1 hs]; exact nil_sh
theorem con_ex3 (B o B2 o2 : Nat) (b : Int) (a1 a2 a3 a4 a5 k1 k2 : Option Addr) :
   Con Tryz.prog 13 [.slice (some ⟨B, o + 2 * 11, none⟩) 1 1, .slice (some ⟨B2, o2 + 2 * 1, none⟩) 1 1, .bool false, .slice none 0 0, .slice none 0 0] [ShF GObject.row ⟨some ⟨B, o, none⟩, 3, os13 b a1 a2 a3 a4 a5⟩, ShF GSymbol.row ⟨a5, 1, [symF 1 (-1)]⟩, ShF slR ⟨some ⟨B2, o2, none⟩, 3, kp13 k1 k2⟩] []
     fun r ps hp => ps = [] ∧ r = .tuple #[.slice none 0 0, .int .i64 3, (⟨0, 0⟩ : GCulprit).val] ∧ hp = [] := by
 refine ((con_bindO ⟨⟨some ⟨B, o + 2 * 11, none⟩, 1, [cO a5]⟩, ⟨some ⟨B2, o2 + 2 * 1, none⟩, 1, [nilS Bool]⟩, false, nilS _, nilS _, 0, 0, 0, 0⟩ (rs_ok3 a5) (srvB []) (fun _ _ => srvB_iff)).pre fun p hp => (List.mem_singleton.1 hp) ▸ ex_ok3 B o B2 o2 b a1 a2 a3 a4 a5 k1 k2).post ?_
 rintro v ps' hp' ⟨h1, ⟨c, p, h4, rfl, rfl⟩ | ⟨h4, _⟩⟩
 · have h5 := ex_e3 (srvB []) a5
   rw [h5] at h4
   simp only [Option.some.injEq, Prod.mk.injEq] at h4
   obtain ⟨rfl, rfl⟩ := h4
   exact ⟨h1, rfl, rfl⟩
 · have h5 := ex_e3 (srvB []) a5
   rw [h5] at h4; cases h4
theorem con_ex1s (ao a1 a2 a3 a4 a5 ak k1 k2 : Option Addr) :
   Con Tryz.prog 13 [.slice ao 3 3, .slice ak 3 3, .bool false, .slice none 0 0, .slice none 0 0] (exPs 2 ao a1 a2 a3 a4 a5 ak k1 k2) [OwnS (.slice a2 1 1) 63 10 ([symF 2 0].map GSymbol.row)]
     fun r ps hp => hp = [OwnS (.slice a2 1 1) 63 10 ([symF 2 0].map GSymbol.row)] ∧ ∃ (ad : Option Addr) (s0 s1 s2 : Sl GChoice), ps = [AllF (ShF GChoice.row) [s0, s1, s2], ShF slR ⟨ad, 3, [s0, s1, s2]⟩] ∧ s0.l = [⟨2, 1, 0, 0, 2, false⟩] ∧ s1.l = [⟨2, 1, 0, 0, 2, false⟩] ∧ s2.l = [⟨2, 1, 0, 0, 2, false⟩] ∧
       r = .tuple #[.slice ad 3 3, .int .i64 0, (⟨0, 0⟩ : GCulprit).val] := by
 refine Con.conv (con_ex1 ao a1 a2 a3 a4 a5 ak k1 k2) fun r ps' hp' ⟨h1, ad, m, hm, hr, h2⟩ => ?_
 subst h1 h2
 refine ⟨_, _, ((StE.share 1 (Sh (.slice ad 3 3) (.sl (outR m 3))) rfl fun _ _ _ h => own_rep h).trans ((StE.share 2 (Go.Sy.AllK GChoice.row m) rfl fun _ _ _ h => pool_rep h).trans ((StE.keep [0, 1] [0] rfl).trans (StE.ents (ps' := [AllF (ShF GChoice.row) (chS ad 3 m).l, ShF slR (chS ad 3 m)]) fun q hq => ?_)))), rfl, ad, getS m 0, getS m 1, getS m 2, rfl, ?_⟩
 · simp only [List.mem_cons, List.not_mem_nil, or_false] at hq
   rcases hq with rfl | rfl
   · intro w S hp s hs
     obtain ⟨i, _, rfl⟩ := List.mem_map.1 hs
     exact Ent.getS (row := GChoice.row) (m := m) (.of (psAt 1 rfl)) i w S hp
   · intro w S hp
     exact hp _ (psAt 0 rfl)
 · have hm2 : [(getS m 0).l, (getS m 1).l, (getS m 2).l] = _ := hm
   simp only [List.cons.injEq, and_true] at hm2
   exact ⟨hm2.1, hm2.2.1, hm2.2.2, hr⟩
def chE : GChoice := ⟨2, 0, 0, 0, 1, false⟩
theorem rs_okE (a3 a4 : Option Addr) (kp : Sl Bool) (hk : kp.l.length = 1) : RsOk [defO ⟨#[98]⟩ 1 a3 a4] [kp] where
 n := show 1 ≤ 5 by decide
 sy o ho := by rw [List.mem_singleton.1 ho]; show 1 ≤ 14; decide
 kn := rfl
 ks i hi := by
   have : i = 0 := by simp at hi; omega
   subst this; exact hk
 sec o ho s hs := by
   rw [List.mem_singleton.1 ho] at hs ⊢
   rw [List.mem_singleton.1 hs]; exact .inr ⟨Int.le_refl _, show (0 : Int) < ((1 : Nat) : Int) by decide⟩
theorem ex_sel (a3 a4 c : Option Addr) : selL [⟨c, 1, [chE]⟩] (flatF [defO ⟨#[98]⟩ 1 a3 a4]) (flatF [defO ⟨#[98]⟩ 1 a3 a4]) = [⟨⟨#[102]⟩, .empty, true, 0, 0, 0, false⟩] := by kernel_rfl
theorem con_exp13 (B o : Nat) (b : Int) (a1 a2 a3 a4 a5 c d : Option Addr) (kv : Value) :
   Con Tryz.prog 18 [.slice (some ⟨B, o + 1 * 11, none⟩) 1 2, kv, .slice d 1 1] [ShF GObject.row ⟨some ⟨B, o, none⟩, 3, os13 b a1 a2 a3 a4 a5⟩, ShF GSection.row ⟨a3, 1, [secT]⟩, ShF GSymbol.row ⟨a4, 1, [symF 1 0]⟩, ShF GChoice.row ⟨c, 1, [chE]⟩, ShF slR ⟨d, 1, [⟨c, 1, [chE]⟩]⟩] []
     fun r ps hp => ps = [] ∧ ∃ v, r = v ∧ hp = [OwnS v 46 7 ([(⟨⟨#[102]⟩, .empty, true, 0, 0, 0, false⟩ : GOffered)].map GOffered.row)] := by
 refine ((con_exported ⟨some ⟨B, o + 1 * 11, none⟩, 2, [defO ⟨#[98]⟩ 1 a3 a4]⟩ [⟨none, 1, [true]⟩] kv (rs_okE a3 a4 _ rfl) ⟨d, 1, [⟨c, 1, [chE]⟩]⟩ rfl (fun i hi => ?_)).pre fun p hp => ?_).post ?_
 · have : i = 0 := by simp at hi; omega
   subst this; rfl
 · simp only [List.mem_cons, List.not_mem_nil, or_false] at hp
   rcases hp with rfl | rfl | rfl | rfl
   · exact fun w S h => rep_sub (h _ (psAt 0 rfl)) 1 2 (fun r hr => by obtain ⟨x, _, rfl⟩ := List.mem_map.1 hr; rfl) (by decide) (show 2 ≤ 3 by decide)
   · exact fun w S h x hx => by rw [List.mem_singleton.1 hx]; exact ok_def (by unfold maxLen; show 1 ≤ _; omega) (h _ (psAt 1 rfl)) (h _ (psAt 2 rfl))
   · exact fun w S h x hx => by rw [List.mem_singleton.1 hx]; exact h _ (psAt 3 rfl)
   · exact .of (psAt 4 rfl)
 · rintro r ps' hp' ⟨h1, v, q, rfl, hq, _, rfl⟩
   rw [show selL _ _ _ = _ from ex_sel a3 a4 c] at hq
   rw [List.perm_singleton.1 hq]
   exact ⟨h1, _, rfl, rfl⟩
theorem con_small13 : Con Tryz.prog 10 [] [] [] fun r _ _ => r = .bool true := by
 refine Con.enter Tryz.func10 rfl (by simp [Tryz.ntmps10]) ?_
 show awp _ _ _ _ ⟨[], _, _⟩
 refine aSR (aA rfl (aNn (aSR ?_)))
 refine aL_eff (q := true) rfl (e_call [] [] (by kernel_rfl) rfl rfl rfl rfl (con_def13 ⟨#[97]⟩ 2) ?_)
 rintro _ _ _ ⟨rfl, a1, a2, rfl, rfl⟩
 refine aL_st (by (try simp only [nM, nN]); rfl) (by (try simp only [putB, place, Nat.reduceBEq, if_true, if_false, reduceIte, Nat.reduceAdd, nW]); rfl) ?_
 refine aL_eff (q := true) rfl (e_call [] [] (by kernel_rfl) rfl rfl rfl rfl (con_def13 ⟨#[98]⟩ 1) ?_)
 rintro _ _ _ ⟨rfl, a3, a4, rfl, rfl⟩
 refine aL_st (by (try simp only [nM, nN]); rfl) (by (try simp only [putB, place, Nat.reduceBEq, if_true, if_false, reduceIte, Nat.reduceAdd, nW]); rfl) ?_
 refine aU rfl (q_bld (l := [(0, .const (.string ⟨#[102]⟩)), (3, .const (.int .i64 1)), (6, .const (.int .i64 (-1)))]) (zs := [.string .empty, .string .empty, .bool false, .int .i64 0, .int .i64 0, .int .i64 0, .int .i64 0, .int .i64 0, .int .i64 0, .int .i64 0]) (pl := [(0, 1), (1, 1), (2, 1), (3, 1), (4, 1), (5, 1), (6, 1), (7, 1), (8, 1), (9, 1)]) (by kernel_rfl) (by kernel_rfl) (by kernel_rfl) rfl rfl rfl) ?_
 refine aL_litG (zs := [.string .empty, .string .empty, .bool false, .int .i64 0, .int .i64 0, .int .i64 0, .int .i64 0, .int .i64 0, .int .i64 0, .int .i64 0]) (l := [(0, .tmp 16)]) el51 (by kernel_rfl) (by decide) (by decide) (by decide) rfl _ rfl (fun hc => rfl) rfl (.more rfl (.v rfl (.v rfl (.v rfl (.v rfl (.v rfl (.v rfl (.v rfl (.v rfl (.v rfl (.v rfl .nil)))))))))) .nil) rfl rfl (fun v1_3 => ?_)
 refine aU rfl (q_bld (l := [(0, .const (.string ⟨#[99]⟩)), (2, .tmp 17)]) (zs := [.string .empty, .slice none 0 0, .slice none 0 0, .slice none 0 0, .slice none 0 0, .slice none 0 0, .slice none 0 0, .slice none 0 0, .slice none 0 0, .slice none 0 0, .slice none 0 0]) (pl := [(0, 1), (1, 1), (2, 1), (3, 1), (4, 1), (5, 1), (6, 1), (7, 1), (8, 1), (9, 1), (10, 1)]) (by kernel_rfl) (by kernel_rfl) (by kernel_rfl) rfl rfl rfl) ?_
 refine aL_litG (zs := [.string .empty, .slice none 0 0, .slice none 0 0, .slice none 0 0, .slice none 0 0, .slice none 0 0, .slice none 0 0, .slice none 0 0, .slice none 0 0, .slice none 0 0, .slice none 0 0]) (l := [(0, .tmp 14), (1, .tmp 15), (2, .tmp 18)]) el22 (by kernel_rfl) (by decide) (by decide) (by decide) rfl _ rfl (fun hc => rfl) rfl (.more rfl (.v rfl (.v rfl (.v rfl (.v rfl (.v rfl (.v rfl (.v rfl (.v rfl (.v rfl (.v rfl (.v rfl .nil))))))))))) (.more rfl (.v rfl (.v rfl (.v rfl (.v rfl (.v rfl (.v rfl (.v rfl (.v rfl (.v rfl (.v rfl (.v rfl .nil))))))))))) (.more rfl (.v rfl (.v rfl (.v rfl (.v rfl (.v rfl (.v rfl (.v rfl (.v rfl (.v rfl (.v rfl (.v rfl .nil))))))))))) .nil))) rfl rfl (fun v1_5 => ?_)
 refine aA rfl (aNn (aSR ?_))
 refine aL_litG (zs := [.bool false]) (l := [(0, .const (.bool true))]) el68 (by kernel_rfl) (by decide) (by decide) (by decide) rfl _ rfl (fun hc => rfl) rfl (.more rfl (.v rfl .nil) .nil) rfl rfl (fun v2_0 => ?_)
 refine aL_litG (zs := [.bool false]) (l := [(0, .const (.bool true))]) el68 (by kernel_rfl) (by decide) (by decide) (by decide) rfl _ rfl (fun hc => rfl) rfl (.more rfl (.v rfl .nil) .nil) rfl rfl (fun v2_1 => ?_)
 refine aL_litG (zs := [.slice none 0 0]) (l := [(0, .tmp 20), (1, .tmp 21), (2, .const (.slice none 0 0))]) el27 (by kernel_rfl) (by decide) (by decide) (by decide) rfl _ rfl (fun hc => rfl) rfl (.more rfl (.v rfl .nil) (.more rfl (.v rfl .nil) (.more rfl (.v rfl .nil) .nil))) rfl rfl (fun v2_2 => ?_)
 refine aA rfl (aNs ?_)
 refine awp_share 0 rfl (awp_share 2 rfl (awp_share 3 rfl ?_))
 refine awp_entF (ShF GObject.row ⟨v1_5, 3, os13 2 a1 a2 a3 a4 v1_3⟩) (.yes (.of (psAt 6 rfl)) rfl) (awp_entF (ShF GSymbol.row ⟨v1_3, 1, [symF 1 (-1)]⟩) (.yes (.of (psAt 8 rfl)) rfl) (awp_entF (ShF slR ⟨v2_2, 3, kp13 v2_0 v2_1⟩) (.yes (.of (psAt 5 rfl)) rfl) (awp_entF (ShF bR ⟨v2_0, 1, [true]⟩) (.yes (.of (psAt 8 rfl)) rfl) (awp_entF (ShF bR ⟨v2_1, 1, [true]⟩) (.yes (.of (psAt 8 rfl)) rfl) (awp_region (aM rfl (aM rfl ?_)))))))
 refine aL_eff (q := false) rfl (e_call [8, 5, 6, 7, 9, 10, 11, 12] [1] (by kernel_rfl) rfl rfl rfl rfl (con_ex1s v1_5 a1 a2 a3 a4 v1_3 v2_2 v2_0 v2_1) ?_)
 rintro _ _ _ ⟨rfl, ad, s0, s1, s2, rfl, e0, e1, e2, rfl⟩
 refine aL_st (by (try simp only [nM, nN]); rfl) (by (try simp only [putB, place, Nat.reduceBEq, if_true, if_false, reduceIte, Nat.reduceAdd, nW]); rfl) ?_
 refine aM rfl (aU rfl (q_extract rfl rfl) (aU rfl (q_extract rfl rfl) (aU rfl (q_extract rfl rfl) ?_)))
 refine aL_eff (q := true) rfl (x_alloc (zs := [.int .i64 0, .int .i64 0]) (by kernel_rfl) rfl (fun b3_7 => ?_))
 refine aL_hp (by (try simp only [nM, nN]); rfl) ?_
 refine aA rfl (aA rfl ?_)
 refine aL_eff rfl (x_store 4 tk34 rfl rfl rfl rfl ?_)
 refine aL_hp (by (try simp only [nK, nL]); rfl) ?_
 refine aNn (aSR ?_)
 refine aU rfl (q_bld (l := [(0, .const (.int .i64 2)), (1, .const (.int .i64 1)), (4, .const (.int .i64 2))]) (zs := [.int .i64 0, .int .i64 0, .int .i64 0, .int .i64 0, .int .i64 0, .bool false]) (pl := [(0, 1), (1, 1), (2, 1), (3, 1), (4, 1), (5, 1)]) (by kernel_rfl) (by kernel_rfl) (by kernel_rfl) rfl rfl rfl) ?_
 refine aL_eff (q := true) rfl (x_alloc (zs := [.int .i64 0, .int .i64 0, .int .i64 0, .int .i64 0, .int .i64 0, .bool false]) (by kernel_rfl) rfl (fun b4_1 => ?_))
 refine aL_hp (by (try simp only [nM, nN]); rfl) ?_
 refine aL_eff rfl (x_store 5 tk65 rfl rfl rfl rfl ?_)
 refine aL_hp (by (try simp only [nK, nL]); rfl) ?_
 refine aNn (aSR (aM rfl ?_))
 refine aL_E true rfl rfl (fun _ => q_indexAddrG Tryz.underlying22 tk61 rfl ((.of (psAt 6 rfl))) rfl (show _ = some (GObject.row (defO ⟨#[97]⟩ 2 a1 a2)) from rfl) rfl rfl) (fun h => absurd h (by decide)) (fun ⟨b5_1, o5_1⟩ => ?_)
 refine aU rfl (q_fieldAddr (off := 2) (by kernel_rfl) rfl) ?_
 refine aU rfl (q_loadD (o := 2) tk51 rfl (psAt 0 rfl) rfl rfl) ?_
 refine aU rfl (q_idxO 1 0 el51 rfl rfl rfl rfl (by decide)) ?_
 refine aU rfl (q_fieldAddr (off := 3) (by kernel_rfl) rfl) ?_
 refine aL_eff (q := false) rfl (e_storeO 1 0 3 tk3 rfl rfl rfl rfl rfl (.v rfl .nil) rfl (by decide) ?_)
 refine aNn (aSR (aM rfl (aM rfl ?_)))
 refine aL_eff (q := false) rfl (e_call [8, 5, 6, 7, 9, 10, 11, 12] [1] (by kernel_rfl) rfl rfl rfl rfl (con_ex2 v1_5 a1 a2 a3 a4 v1_3 v2_2 v2_0 v2_1) ?_)
 rintro _ _ _ ⟨rfl, rfl, rfl⟩
 refine aL_st (by (try simp only [nM, nN]); rfl) (by (try simp only [putB, place, Nat.reduceBEq, if_true, if_false, reduceIte, Nat.reduceAdd, nW]); rfl) ?_
 refine aM rfl (aU rfl (q_extract rfl rfl) (aU rfl (q_extract rfl rfl) (aU rfl (q_extract rfl rfl) ?_)))
 refine aL_eff (q := true) rfl (x_alloc (zs := [.int .i64 0, .int .i64 0]) (by kernel_rfl) rfl (fun b6_7 => ?_))
 refine aL_hp (by (try simp only [nM, nN]); rfl) ?_
 refine aA rfl (aA rfl ?_)
 refine aL_eff rfl (x_store 6 tk34 rfl rfl rfl rfl ?_)
 refine aL_hp (by (try simp only [nK, nL]); rfl) ?_
 refine aNs ?_
 refine awp_formS (.of (psAt 7 rfl)) (by simp [os13]) (fun B o h => ?_)
 refine awp_formS (.of (psAt 5 rfl)) (by simp [kp13]) (fun B2 o2 h2 => ?_)
 subst h h2
 refine awp_drawn [12] (by kernel_rfl) ?_
 show aB _ _ _ _ _ 13 #[false, false, false, false, false, false, false, false, false, false, false, false, false] _
 refine bU 0 rfl (by kernel_rfl) rfl (q_move rfl) ?_
 refine bU 1 rfl (by kernel_rfl) rfl (q_sliceLV 2 1 (o + 2 * 11) el22 rfl rfl rfl (show 2 < 3 by decide) (show 3 ≤ 3 by decide) rfl rfl) ?_
 refine bU 2 rfl (by kernel_rfl) rfl (q_move rfl) ?_
 refine bU 3 rfl (by kernel_rfl) rfl (q_sliceLV 2 1 (o2 + 2 * 1) el27 rfl rfl rfl (show 2 < 3 by decide) (show 3 ≤ 3 by decide) rfl rfl) ?_
 refine aB_or (qi := true) (qj := true) 4 9 (by kernel_rfl) rfl rfl rfl rfl rfl rfl ?_ ?_
 ·skip
  refine id (e_call [8, 9, 10] [] (by kernel_rfl) rfl rfl rfl rfl (con_ex3 B o B2 o2 2 a1 a2 a3 a4 v1_3 v2_0 v2_1) ?_)
  rintro _ _ _ ⟨rfl, rfl, rfl⟩
  refine aB_st rfl (by (try simp only [nM, nN]); rfl) (by (try simp only [putB, place, Nat.reduceBEq, if_true, if_false, reduceIte, Nat.reduceAdd, nW]); rfl) ?_
  refine bU 5 rfl (by kernel_rfl) rfl (q_move rfl) ?_
  refine bU 6 rfl (by kernel_rfl) rfl (q_extract rfl rfl) ?_
  refine bU 7 rfl (by kernel_rfl) rfl (q_extract rfl rfl) ?_
  refine bU 8 rfl (by kernel_rfl) rfl (q_extract rfl rfl) ?_
  refine aB_eff (q := true) 9 rfl (by kernel_rfl) rfl rfl (x_alloc (zs := [.int .i64 0, .int .i64 0]) (by kernel_rfl) rfl (fun b7_9 => ?_))
  refine aB_st rfl (by (try simp only [nM, nN]); rfl) (by (try simp only [putB, place, Nat.reduceBEq, if_true, if_false, reduceIte, Nat.reduceAdd, nW]); rfl) ?_
  refine bU 10 rfl (by kernel_rfl) rfl (q_assign rfl) ?_
  refine bU 11 rfl (by kernel_rfl) rfl (q_assign rfl) ?_
  refine aB_eff 12 rfl (by kernel_rfl) rfl rfl (x_store 7 tk34 rfl rfl rfl rfl ?_)
  refine aB_st rfl (by (try simp only [nM, nN]); rfl) (by (try simp only [putB, place, Nat.reduceBEq, if_true, if_false, reduceIte, Nat.reduceAdd, nW]); rfl) ?_
  refine aB_nil (by kernel_rfl) ?_
  refine thn_n (awp_seq (aSR (aM rfl (aU rfl (q_neq rfl rfl) (aM rfl (aG rfl rfl (fun hc => q_move rfl) (aG rfl rfl (fun hc => q_lenS Tryz.underlying31 (ev_yes rfl hc)) (aG rfl rfl (fun hc => q_neq (ev_yes rfl hc) rfl) (aU rfl (q_or rfl rfl (fun h => gf rfl h)) (aM rfl (aG rfl rfl (fun hc => q_move rfl) ?_)))))))))))
  refine aL_E _ rfl rfl (fun hc => q_indexAddrG Tryz.underlying31 tk66 (ev_yes rfl hc) ((.of (psAt 2 rfl))) rfl (show _ = some (slR s0) from rfl) rfl rfl) (fun _ => ⟨(0, 0)⟩) (fun ⟨b8_9, o8_9⟩ => ?_)
  refine aG rfl rfl (fun hc => q_loadD (o := 0) tk66 (ev_yes rfl hc) (psAt 0 rfl) hc rfl) (aG rfl rfl (fun hc => q_lenS Tryz.underlying66 (ev_yes rfl hc)) (aG rfl rfl (fun hc => q_neq (ev_yes rfl hc) rfl) (aU rfl (q_or rfl rfl (fun h => gf rfl h)) (aM rfl (aG rfl rfl (fun hc => q_move rfl) ?_)))))
  refine aL_E _ rfl rfl (fun hc => q_indexAddrG Tryz.underlying31 tk66 (ev_yes rfl hc) ((.of (psAt 3 rfl))) rfl (show _ = some (slR s1) from rfl) rfl rfl) (fun _ => ⟨(0, 0)⟩) (fun ⟨b8_16, o8_16⟩ => ?_)
  refine aG rfl rfl (fun hc => q_loadD (o := 0) tk66 (ev_yes rfl hc) (psAt 0 rfl) hc rfl) (aG rfl rfl (fun hc => q_lenS Tryz.underlying66 (ev_yes rfl hc)) (aG rfl rfl (fun hc => q_neq (ev_yes rfl hc) rfl) (aU rfl (q_or rfl rfl (fun h => gf rfl h)) (aM rfl (aG rfl rfl (fun hc => q_move rfl) ?_)))))
  refine aL_E _ rfl rfl (fun hc => q_indexAddrG Tryz.underlying31 tk66 (ev_yes rfl hc) ((.of (psAt 4 rfl))) rfl (show _ = some (slR s2) from rfl) rfl rfl) (fun _ => ⟨(0, 0)⟩) (fun ⟨b8_23, o8_23⟩ => ?_)
  refine aG rfl rfl (fun hc => q_loadD (o := 0) tk66 (ev_yes rfl hc) (psAt 0 rfl) hc rfl) (aG rfl rfl (fun hc => q_lenS Tryz.underlying66 (ev_yes rfl hc)) (aG rfl rfl (fun hc => q_neq (ev_yes rfl hc) rfl) (aU rfl (q_or rfl rfl (fun h => gf rfl h)) (aNn ?_))))
  refine awp_cond _ rfl (fun h1 => ?_) (fun h1 => ?_)
  ·skip
   exfalso; simp [e0, e1, e2] at h1
  ·skip
   refine awp_skip (thn_n (awp_seq ?_))
   refine awp_drawn [] (by kernel_rfl) ?_
   show aB _ _ _ _ _ 9 #[false, false, false, false, false, false, false, false, false] _
   refine bU 0 rfl (by kernel_rfl) rfl (q_move rfl) ?_
   refine bU 1 rfl (by kernel_rfl) rfl (q_sliceLHV 1 2 el22 rfl rfl rfl rfl rfl (by decide) (show 2 ≤ 3 by decide) (show 3 ≤ 3 by decide)) ?_
   refine bU 2 rfl (by kernel_rfl) rfl (q_move rfl) ?_
   refine bU 3 rfl (by kernel_rfl) rfl (q_sliceLHV 1 2 el27 rfl rfl rfl rfl rfl (by decide) (show 2 ≤ 3 by decide) (show 3 ≤ 3 by decide)) ?_
   refine bU 4 rfl (by kernel_rfl) rfl (q_bld (l := [(0, .const (.int .i64 2)), (4, .const (.int .i64 1))]) (zs := [.int .i64 0, .int .i64 0, .int .i64 0, .int .i64 0, .int .i64 0, .bool false]) (pl := [(0, 1), (1, 1), (2, 1), (3, 1), (4, 1), (5, 1)]) (by kernel_rfl) (by kernel_rfl) (by kernel_rfl) rfl rfl rfl) ?_
   refine aB_lit1 (zs := [.int .i64 0, .int .i64 0, .int .i64 0, .int .i64 0, .int .i64 0, .bool false]) (l := [(0, .tmp 85)]) 5 rfl (by kernel_rfl) el66 (by kernel_rfl) (by decide) (by decide) (by decide) rfl rfl rfl rfl (.more rfl (.v rfl (.v rfl (.v rfl (.v rfl (.v rfl (.v rfl .nil)))))) .nil) rfl rfl (fun v10_5 => ?_)
   refine aB_lit1 (zs := [.slice none 0 0]) (l := [(0, .tmp 86)]) 6 rfl (by kernel_rfl) el31 (by kernel_rfl) (by decide) (by decide) (by decide) rfl rfl rfl rfl (.more rfl (.v rfl .nil) .nil) rfl rfl (fun v10_6 => ?_)
   refine aB_eff (q := true) 7 rfl (by kernel_rfl) rfl rfl (e_call [8, 6, 7, 19, 20] [] (by kernel_rfl) rfl rfl rfl rfl (con_exp13 B o 2 a1 a2 a3 a4 v1_3 v10_5 v10_6 _) ?_)
   rintro _ _ _ ⟨rfl, vE, rfl, rfl⟩
   refine aB_st rfl (by (try simp only [nM, nN]); rfl) (by (try simp only [putB, place, Nat.reduceBEq, if_true, if_false, reduceIte, Nat.reduceAdd, nW]); rfl) ?_
   refine bU 8 rfl (by kernel_rfl) rfl (q_assign rfl) ?_
   refine aB_nil (by kernel_rfl) ?_
   refine thn_n (awp_seq (awp_share 8 rfl ?_))
   refine awp_form (.of (psAt 0 rfl)) (fun adE cpE hvE => ?_)
   subst hvE
   refine awp_drawn [] (by kernel_rfl) ?_
   show aB _ _ _ _ _ 62 #[false, false, false, false, false, false, false, false, false, false, false, false, false, false, false, false, false, false, false, false, false, false, false, false, false, false, false, false, false, false, false, false, false, false, false, false, false, false, false, false, false, false, false, false, false, false, false, false, false, false, false, false, false, false, false, false, false, false, false, false, false, false] _
   refine bU 0 rfl (by kernel_rfl) rfl (q_move rfl) ?_
   refine aB_E 1 rfl (by kernel_rfl) true rfl rfl (fun _ => q_indexAddrG Tryz.underlying31 tk66 rfl ((.of (psAt 8 rfl))) rfl (show _ = some (slR s0) from rfl) rfl rfl) (fun h => absurd h (by decide)) (fun ⟨b11_1, o11_1⟩ => ?_)
   refine bU 2 rfl (by kernel_rfl) rfl (q_loadD (o := 0) tk66 rfl (psAt 0 rfl) rfl rfl) ?_
   refine aB_E 3 rfl (by kernel_rfl) true rfl rfl (fun _ => q_indexAddrG Tryz.underlying66 tk65 rfl ((fun w S hp => (show Ent _ (AllF (ShF GChoice.row) [s0, s1, s2]) from .of (psAt 8 rfl)) w S hp s0 (by simp))) rfl (show (s0.l.map GChoice.row)[0]? = some (GChoice.row ⟨2, 1, 0, 0, 2, false⟩) from by rw [e0]; rfl) rfl rfl) (fun h => absurd h (by decide)) (fun ⟨b11_3, o11_3⟩ => ?_)
   refine bU 4 rfl (by kernel_rfl) rfl (q_loadD (o := 0) tk65 rfl (psAt 0 rfl) rfl rfl) ?_
   refine bU 5 rfl (by kernel_rfl) rfl (q_load 5 tk65 rfl rfl rfl) ?_
   refine bU 6 rfl (by kernel_rfl) rfl (q_eqlC ⟨2, 1, 0, 0, 2, false⟩ ⟨2, 1, 0, 0, 2, false⟩ rfl rfl) ?_
   refine bU 7 rfl (by kernel_rfl) rfl (q_move rfl) ?_
   refine bG 8 rfl (by kernel_rfl) rfl rfl (fun hc => q_move rfl) ?_
   refine aB_E 9 rfl (by kernel_rfl) _ rfl rfl (fun hc => q_indexAddrG Tryz.underlying31 tk66 (ev_yes rfl hc) ((.of (psAt 10 rfl))) rfl (show _ = some (slR s1) from rfl) rfl rfl) (fun _ => ⟨(0, 0)⟩) (fun ⟨b11_9, o11_9⟩ => ?_)
   refine bG 10 rfl (by kernel_rfl) rfl rfl (fun hc => q_loadD (o := 0) tk66 (ev_yes rfl hc) (psAt 0 rfl) hc rfl) ?_
   refine aB_E 11 rfl (by kernel_rfl) _ rfl rfl (fun hc => q_indexAddrG Tryz.underlying66 tk65 (ev_yes rfl hc) ((fun w S hp => (show Ent _ (AllF (ShF GChoice.row) [s0, s1, s2]) from .of (psAt 10 rfl)) w S hp s1 (by simp))) rfl (show (s1.l.map GChoice.row)[0]? = some (GChoice.row ⟨2, 1, 0, 0, 2, false⟩) from by rw [e1]; rfl) rfl rfl) (fun _ => ⟨(0, 0)⟩) (fun ⟨b11_11, o11_11⟩ => ?_)
   refine bG 12 rfl (by kernel_rfl) rfl rfl (fun hc => q_loadD (o := 0) tk65 (ev_yes rfl hc) (psAt 0 rfl) hc rfl) ?_
   refine bG 13 rfl (by kernel_rfl) rfl rfl (fun hc => q_load 5 tk65 rfl rfl rfl) ?_
   refine bG 14 rfl (by kernel_rfl) rfl rfl (fun hc => q_eqlC ⟨2, 1, 0, 0, 2, false⟩ ⟨2, 1, 0, 0, 2, false⟩ (ev_yes rfl hc) (ev_yes rfl hc)) ?_
   refine bU 15 rfl (by kernel_rfl) rfl (q_and rfl rfl (fun h => gt rfl h)) ?_
   refine bU 16 rfl (by kernel_rfl) rfl (q_move rfl) ?_
   refine bG 17 rfl (by kernel_rfl) rfl rfl (fun hc => q_move rfl) ?_
   refine aB_E 18 rfl (by kernel_rfl) _ rfl rfl (fun hc => q_indexAddrG Tryz.underlying31 tk66 (ev_yes rfl hc) ((.of (psAt 12 rfl))) rfl (show _ = some (slR s2) from rfl) rfl rfl) (fun _ => ⟨(0, 0)⟩) (fun ⟨b11_18, o11_18⟩ => ?_)
   refine bG 19 rfl (by kernel_rfl) rfl rfl (fun hc => q_loadD (o := 0) tk66 (ev_yes rfl hc) (psAt 0 rfl) hc rfl) ?_
   refine aB_E 20 rfl (by kernel_rfl) _ rfl rfl (fun hc => q_indexAddrG Tryz.underlying66 tk65 (ev_yes rfl hc) ((fun w S hp => (show Ent _ (AllF (ShF GChoice.row) [s0, s1, s2]) from .of (psAt 12 rfl)) w S hp s2 (by simp))) rfl (show (s2.l.map GChoice.row)[0]? = some (GChoice.row ⟨2, 1, 0, 0, 2, false⟩) from by rw [e2]; rfl) rfl rfl) (fun _ => ⟨(0, 0)⟩) (fun ⟨b11_20, o11_20⟩ => ?_)
   refine bG 21 rfl (by kernel_rfl) rfl rfl (fun hc => q_loadD (o := 0) tk65 (ev_yes rfl hc) (psAt 0 rfl) hc rfl) ?_
   refine bG 22 rfl (by kernel_rfl) rfl rfl (fun hc => q_load 5 tk65 rfl rfl rfl) ?_
   refine bG 23 rfl (by kernel_rfl) rfl rfl (fun hc => q_eqlC ⟨2, 1, 0, 0, 2, false⟩ ⟨2, 1, 0, 0, 2, false⟩ (ev_yes rfl hc) (ev_yes rfl hc)) ?_
   refine bU 24 rfl (by kernel_rfl) rfl (q_and rfl rfl (fun h => gt rfl h)) ?_
   refine bU 25 rfl (by kernel_rfl) rfl (q_move rfl) ?_
   refine bG 26 rfl (by kernel_rfl) rfl rfl (fun hc => q_move rfl) ?_
   refine bG 27 rfl (by kernel_rfl) rfl rfl (fun hc => q_eql (ev_yes rfl hc) rfl) ?_
   refine bU 28 rfl (by kernel_rfl) rfl (q_and rfl rfl (fun h => gt rfl h)) ?_
   refine bU 29 rfl (by kernel_rfl) rfl (q_move rfl) ?_
   refine bG 30 rfl (by kernel_rfl) rfl rfl (fun hc => q_load 6 tk34 rfl rfl rfl) ?_
   refine bG 31 rfl (by kernel_rfl) rfl rfl (fun hc => q_bld (l := [(0, .const (.int .i64 1))]) (zs := [.int .i64 0, .int .i64 0]) (pl := [(0, 1), (1, 1)]) (by kernel_rfl) (by kernel_rfl) (by kernel_rfl) rfl rfl rfl) ?_
   refine bG 32 rfl (by kernel_rfl) rfl rfl (fun hc => qa_eql (by kernel_rfl) (by kernel_rfl) (by kernel_rfl) (fun w => eqFields_mix 9997 _ _ _ [0, 1] w (by kernel_rfl) (by kernel_rfl) rfl rfl) (ev_yes rfl hc) (ev_yes rfl hc)) ?_
   refine bU 33 rfl (by kernel_rfl) rfl (q_and rfl rfl (fun h => gt rfl h)) ?_
   refine bU 34 rfl (by kernel_rfl) rfl (q_move rfl) ?_
   refine bG 35 rfl (by kernel_rfl) rfl rfl (fun hc => q_move rfl) ?_
   refine bG 36 rfl (by kernel_rfl) rfl rfl (fun hc => q_eql (ev_yes rfl hc) rfl) ?_
   refine bU 37 rfl (by kernel_rfl) rfl (q_and rfl rfl (fun h => gt rfl h)) ?_
   refine bU 38 rfl (by kernel_rfl) rfl (q_move rfl) ?_
   refine bG 39 rfl (by kernel_rfl) rfl rfl (fun hc => q_load 7 tk34 rfl rfl rfl) ?_
   refine bG 40 rfl (by kernel_rfl) rfl rfl (fun hc => q_bld (l := []) (zs := [.int .i64 0, .int .i64 0]) (pl := [(0, 1), (1, 1)]) (by kernel_rfl) (by kernel_rfl) (by kernel_rfl) rfl rfl rfl) ?_
   refine bG 41 rfl (by kernel_rfl) rfl rfl (fun hc => qa_eql (by kernel_rfl) (by kernel_rfl) (by kernel_rfl) (fun w => eqFields_mix 9997 _ _ _ [0, 1] w (by kernel_rfl) (by kernel_rfl) rfl rfl) (ev_yes rfl hc) (ev_yes rfl hc)) ?_
   refine bU 42 rfl (by kernel_rfl) rfl (q_and rfl rfl (fun h => gt rfl h)) ?_
   refine bU 43 rfl (by kernel_rfl) rfl (q_move rfl) ?_
   refine bG 44 rfl (by kernel_rfl) rfl rfl (fun hc => q_move rfl) ?_
   refine bG 45 rfl (by kernel_rfl) rfl rfl (fun hc => q_lenS Tryz.underlying41 (ev_yes rfl hc)) ?_
   refine bG 46 rfl (by kernel_rfl) rfl rfl (fun hc => q_eql (ev_yes rfl hc) rfl) ?_
   refine bU 47 rfl (by kernel_rfl) rfl (q_and rfl rfl (fun h => gt rfl h)) ?_
   refine bU 48 rfl (by kernel_rfl) rfl (q_move rfl) ?_
   refine bG 49 rfl (by kernel_rfl) rfl rfl (fun hc => q_move rfl) ?_
   refine aB_E 50 rfl (by kernel_rfl) _ rfl rfl (fun hc => q_indexAddrG Tryz.underlying41 tk46 (ev_yes rfl hc) ((.of (psAt 6 rfl))) rfl (show _ = some (GOffered.row _) from rfl) rfl rfl) (fun _ => ⟨(0, 0)⟩) (fun ⟨b11_50, o11_50⟩ => ?_)
   refine bG 51 rfl (by kernel_rfl) rfl rfl (fun hc => q_fieldAddr (off := 0) (by kernel_rfl) (ev_yes rfl hc)) ?_
   refine bG 52 rfl (by kernel_rfl) rfl rfl (fun hc => q_loadD (o := 0) tk9 (ev_yes rfl hc) (psAt 0 rfl) hc rfl) ?_
   refine bG 53 rfl (by kernel_rfl) rfl rfl (fun hc => qs_eql (ev_yes rfl hc) rfl) ?_
   refine bU 54 rfl (by kernel_rfl) rfl (q_and rfl rfl (fun h => gt rfl h)) ?_
   refine bU 55 rfl (by kernel_rfl) rfl (q_move rfl) ?_
   refine bG 56 rfl (by kernel_rfl) rfl rfl (fun hc => q_move rfl) ?_
   refine aB_E 57 rfl (by kernel_rfl) _ rfl rfl (fun hc => q_indexAddrG Tryz.underlying41 tk46 (ev_yes rfl hc) ((.of (psAt 7 rfl))) rfl (show _ = some (GOffered.row _) from rfl) rfl rfl) (fun _ => ⟨(0, 0)⟩) (fun ⟨b11_57, o11_57⟩ => ?_)
   refine bG 58 rfl (by kernel_rfl) rfl rfl (fun hc => q_fieldAddr (off := 2) (by kernel_rfl) (ev_yes rfl hc)) ?_
   refine bG 59 rfl (by kernel_rfl) rfl rfl (fun hc => q_loadD (o := 2) tk4 (ev_yes rfl hc) (psAt 0 rfl) hc rfl) ?_
   refine bU 60 rfl (by kernel_rfl) rfl (q_and rfl rfl (fun h => gt rfl h)) ?_
   refine bU 61 rfl (by kernel_rfl) rfl (q_assign rfl) ?_
   refine aB_nil (by kernel_rfl) ?_
   refine thn_n (awp_ret ?_)
   refine fin1 [] [] rfl Tryz.results10 rfl ?_ (.inr rfl)
   simp [eqInts, intAt]
 ·skip
  refine id (x_alloc (zs := [.int .i64 0, .int .i64 0]) (by kernel_rfl) rfl (fun b11_9 => ?_))
  refine aB_st rfl (by (try simp only [nM, nN]); rfl) (by (try simp only [putB, place, Nat.reduceBEq, if_true, if_false, reduceIte, Nat.reduceAdd, nW]); rfl) ?_
  refine aB_eff (q := true) 4 rfl (by kernel_rfl) rfl rfl (e_call [8, 9, 10] [] (by kernel_rfl) rfl rfl rfl rfl (con_ex3 B o B2 o2 2 a1 a2 a3 a4 v1_3 v2_0 v2_1) ?_)
  rintro _ _ _ ⟨rfl, rfl, rfl⟩
  refine aB_st rfl (by (try simp only [nM, nN]); rfl) (by (try simp only [putB, place, Nat.reduceBEq, if_true, if_false, reduceIte, Nat.reduceAdd, nW]); rfl) ?_
  refine bU 5 rfl (by kernel_rfl) rfl (q_move rfl) ?_
  refine bU 6 rfl (by kernel_rfl) rfl (q_extract rfl rfl) ?_
  refine bU 7 rfl (by kernel_rfl) rfl (q_extract rfl rfl) ?_
  refine bU 8 rfl (by kernel_rfl) rfl (q_extract rfl rfl) ?_
  refine bU 10 rfl (by kernel_rfl) rfl (q_assign rfl) ?_
  refine bU 11 rfl (by kernel_rfl) rfl (q_assign rfl) ?_
  refine aB_eff 12 rfl (by kernel_rfl) rfl rfl (x_store 7 tk34 rfl rfl rfl rfl ?_)
  refine aB_st rfl (by (try simp only [nM, nN]); rfl) (by (try simp only [putB, place, Nat.reduceBEq, if_true, if_false, reduceIte, Nat.reduceAdd, nW]); rfl) ?_
  refine aB_nil (by kernel_rfl) ?_
  refine thn_n (awp_seq (aSR (aM rfl (aU rfl (q_neq rfl rfl) (aM rfl (aG rfl rfl (fun hc => q_move rfl) (aG rfl rfl (fun hc => q_lenS Tryz.underlying31 (ev_yes rfl hc)) (aG rfl rfl (fun hc => q_neq (ev_yes rfl hc) rfl) (aU rfl (q_or rfl rfl (fun h => gf rfl h)) (aM rfl (aG rfl rfl (fun hc => q_move rfl) ?_)))))))))))
  refine aL_E _ rfl rfl (fun hc => q_indexAddrG Tryz.underlying31 tk66 (ev_yes rfl hc) ((.of (psAt 2 rfl))) rfl (show _ = some (slR s0) from rfl) rfl rfl) (fun _ => ⟨(0, 0)⟩) (fun ⟨b8_9, o8_9⟩ => ?_)
  refine aG rfl rfl (fun hc => q_loadD (o := 0) tk66 (ev_yes rfl hc) (psAt 0 rfl) hc rfl) (aG rfl rfl (fun hc => q_lenS Tryz.underlying66 (ev_yes rfl hc)) (aG rfl rfl (fun hc => q_neq (ev_yes rfl hc) rfl) (aU rfl (q_or rfl rfl (fun h => gf rfl h)) (aM rfl (aG rfl rfl (fun hc => q_move rfl) ?_)))))
  refine aL_E _ rfl rfl (fun hc => q_indexAddrG Tryz.underlying31 tk66 (ev_yes rfl hc) ((.of (psAt 3 rfl))) rfl (show _ = some (slR s1) from rfl) rfl rfl) (fun _ => ⟨(0, 0)⟩) (fun ⟨b8_16, o8_16⟩ => ?_)
  refine aG rfl rfl (fun hc => q_loadD (o := 0) tk66 (ev_yes rfl hc) (psAt 0 rfl) hc rfl) (aG rfl rfl (fun hc => q_lenS Tryz.underlying66 (ev_yes rfl hc)) (aG rfl rfl (fun hc => q_neq (ev_yes rfl hc) rfl) (aU rfl (q_or rfl rfl (fun h => gf rfl h)) (aM rfl (aG rfl rfl (fun hc => q_move rfl) ?_)))))
  refine aL_E _ rfl rfl (fun hc => q_indexAddrG Tryz.underlying31 tk66 (ev_yes rfl hc) ((.of (psAt 4 rfl))) rfl (show _ = some (slR s2) from rfl) rfl rfl) (fun _ => ⟨(0, 0)⟩) (fun ⟨b8_23, o8_23⟩ => ?_)
  refine aG rfl rfl (fun hc => q_loadD (o := 0) tk66 (ev_yes rfl hc) (psAt 0 rfl) hc rfl) (aG rfl rfl (fun hc => q_lenS Tryz.underlying66 (ev_yes rfl hc)) (aG rfl rfl (fun hc => q_neq (ev_yes rfl hc) rfl) (aU rfl (q_or rfl rfl (fun h => gf rfl h)) (aNn ?_))))
  refine awp_cond _ rfl (fun h2 => ?_) (fun h2 => ?_)
  ·skip
   exfalso; simp [e0, e1, e2] at h2
  ·skip
   refine awp_skip (thn_n (awp_seq ?_))
   refine awp_drawn [] (by kernel_rfl) ?_
   show aB _ _ _ _ _ 9 #[false, false, false, false, false, false, false, false, false] _
   refine bU 0 rfl (by kernel_rfl) rfl (q_move rfl) ?_
   refine bU 1 rfl (by kernel_rfl) rfl (q_sliceLHV 1 2 el22 rfl rfl rfl rfl rfl (by decide) (show 2 ≤ 3 by decide) (show 3 ≤ 3 by decide)) ?_
   refine bU 2 rfl (by kernel_rfl) rfl (q_move rfl) ?_
   refine bU 3 rfl (by kernel_rfl) rfl (q_sliceLHV 1 2 el27 rfl rfl rfl rfl rfl (by decide) (show 2 ≤ 3 by decide) (show 3 ≤ 3 by decide)) ?_
   refine bU 4 rfl (by kernel_rfl) rfl (q_bld (l := [(0, .const (.int .i64 2)), (4, .const (.int .i64 1))]) (zs := [.int .i64 0, .int .i64 0, .int .i64 0, .int .i64 0, .int .i64 0, .bool false]) (pl := [(0, 1), (1, 1), (2, 1), (3, 1), (4, 1), (5, 1)]) (by kernel_rfl) (by kernel_rfl) (by kernel_rfl) rfl rfl rfl) ?_
   refine aB_lit1 (zs := [.int .i64 0, .int .i64 0, .int .i64 0, .int .i64 0, .int .i64 0, .bool false]) (l := [(0, .tmp 85)]) 5 rfl (by kernel_rfl) el66 (by kernel_rfl) (by decide) (by decide) (by decide) rfl rfl rfl rfl (.more rfl (.v rfl (.v rfl (.v rfl (.v rfl (.v rfl (.v rfl .nil)))))) .nil) rfl rfl (fun v10_5 => ?_)
   refine aB_lit1 (zs := [.slice none 0 0]) (l := [(0, .tmp 86)]) 6 rfl (by kernel_rfl) el31 (by kernel_rfl) (by decide) (by decide) (by decide) rfl rfl rfl rfl (.more rfl (.v rfl .nil) .nil) rfl rfl (fun v10_6 => ?_)
   refine aB_eff (q := true) 7 rfl (by kernel_rfl) rfl rfl (e_call [8, 6, 7, 19, 20] [] (by kernel_rfl) rfl rfl rfl rfl (con_exp13 B o 2 a1 a2 a3 a4 v1_3 v10_5 v10_6 _) ?_)
   rintro _ _ _ ⟨rfl, vE, rfl, rfl⟩
   refine aB_st rfl (by (try simp only [nM, nN]); rfl) (by (try simp only [putB, place, Nat.reduceBEq, if_true, if_false, reduceIte, Nat.reduceAdd, nW]); rfl) ?_
   refine bU 8 rfl (by kernel_rfl) rfl (q_assign rfl) ?_
   refine aB_nil (by kernel_rfl) ?_
   refine thn_n (awp_seq (awp_share 8 rfl ?_))
   refine awp_form (.of (psAt 0 rfl)) (fun adE cpE hvE => ?_)
   subst hvE
   refine awp_drawn [] (by kernel_rfl) ?_
   show aB _ _ _ _ _ 62 #[false, false, false, false, false, false, false, false, false, false, false, false, false, false, false, false, false, false, false, false, false, false, false, false, false, false, false, false, false, false, false, false, false, false, false, false, false, false, false, false, false, false, false, false, false, false, false, false, false, false, false, false, false, false, false, false, false, false, false, false, false, false] _
   refine bU 0 rfl (by kernel_rfl) rfl (q_move rfl) ?_
   refine aB_E 1 rfl (by kernel_rfl) true rfl rfl (fun _ => q_indexAddrG Tryz.underlying31 tk66 rfl ((.of (psAt 8 rfl))) rfl (show _ = some (slR s0) from rfl) rfl rfl) (fun h => absurd h (by decide)) (fun ⟨b11_1, o11_1⟩ => ?_)
   refine bU 2 rfl (by kernel_rfl) rfl (q_loadD (o := 0) tk66 rfl (psAt 0 rfl) rfl rfl) ?_
   refine aB_E 3 rfl (by kernel_rfl) true rfl rfl (fun _ => q_indexAddrG Tryz.underlying66 tk65 rfl ((fun w S hp => (show Ent _ (AllF (ShF GChoice.row) [s0, s1, s2]) from .of (psAt 8 rfl)) w S hp s0 (by simp))) rfl (show (s0.l.map GChoice.row)[0]? = some (GChoice.row ⟨2, 1, 0, 0, 2, false⟩) from by rw [e0]; rfl) rfl rfl) (fun h => absurd h (by decide)) (fun ⟨b11_3, o11_3⟩ => ?_)
   refine bU 4 rfl (by kernel_rfl) rfl (q_loadD (o := 0) tk65 rfl (psAt 0 rfl) rfl rfl) ?_
   refine bU 5 rfl (by kernel_rfl) rfl (q_load 5 tk65 rfl rfl rfl) ?_
   refine bU 6 rfl (by kernel_rfl) rfl (q_eqlC ⟨2, 1, 0, 0, 2, false⟩ ⟨2, 1, 0, 0, 2, false⟩ rfl rfl) ?_
   refine bU 7 rfl (by kernel_rfl) rfl (q_move rfl) ?_
   refine bG 8 rfl (by kernel_rfl) rfl rfl (fun hc => q_move rfl) ?_
   refine aB_E 9 rfl (by kernel_rfl) _ rfl rfl (fun hc => q_indexAddrG Tryz.underlying31 tk66 (ev_yes rfl hc) ((.of (psAt 10 rfl))) rfl (show _ = some (slR s1) from rfl) rfl rfl) (fun _ => ⟨(0, 0)⟩) (fun ⟨b11_9, o11_9⟩ => ?_)
   refine bG 10 rfl (by kernel_rfl) rfl rfl (fun hc => q_loadD (o := 0) tk66 (ev_yes rfl hc) (psAt 0 rfl) hc rfl) ?_
   refine aB_E 11 rfl (by kernel_rfl) _ rfl rfl (fun hc => q_indexAddrG Tryz.underlying66 tk65 (ev_yes rfl hc) ((fun w S hp => (show Ent _ (AllF (ShF GChoice.row) [s0, s1, s2]) from .of (psAt 10 rfl)) w S hp s1 (by simp))) rfl (show (s1.l.map GChoice.row)[0]? = some (GChoice.row ⟨2, 1, 0, 0, 2, false⟩) from by rw [e1]; rfl) rfl rfl) (fun _ => ⟨(0, 0)⟩) (fun ⟨b11_11, o11_11⟩ => ?_)
   refine bG 12 rfl (by kernel_rfl) rfl rfl (fun hc => q_loadD (o := 0) tk65 (ev_yes rfl hc) (psAt 0 rfl) hc rfl) ?_
   refine bG 13 rfl (by kernel_rfl) rfl rfl (fun hc => q_load 5 tk65 rfl rfl rfl) ?_
   refine bG 14 rfl (by kernel_rfl) rfl rfl (fun hc => q_eqlC ⟨2, 1, 0, 0, 2, false⟩ ⟨2, 1, 0, 0, 2, false⟩ (ev_yes rfl hc) (ev_yes rfl hc)) ?_
   refine bU 15 rfl (by kernel_rfl) rfl (q_and rfl rfl (fun h => gt rfl h)) ?_
   refine bU 16 rfl (by kernel_rfl) rfl (q_move rfl) ?_
   refine bG 17 rfl (by kernel_rfl) rfl rfl (fun hc => q_move rfl) ?_
   refine aB_E 18 rfl (by kernel_rfl) _ rfl rfl (fun hc => q_indexAddrG Tryz.underlying31 tk66 (ev_yes rfl hc) ((.of (psAt 12 rfl))) rfl (show _ = some (slR s2) from rfl) rfl rfl) (fun _ => ⟨(0, 0)⟩) (fun ⟨b11_18, o11_18⟩ => ?_)
   refine bG 19 rfl (by kernel_rfl) rfl rfl (fun hc => q_loadD (o := 0) tk66 (ev_yes rfl hc) (psAt 0 rfl) hc rfl) ?_
   refine aB_E 20 rfl (by kernel_rfl) _ rfl rfl (fun hc => q_indexAddrG Tryz.underlying66 tk65 (ev_yes rfl hc) ((fun w S hp => (show Ent _ (AllF (ShF GChoice.row) [s0, s1, s2]) from .of (psAt 12 rfl)) w S hp s2 (by simp))) rfl (show (s2.l.map GChoice.row)[0]? = some (GChoice.row ⟨2, 1, 0, 0, 2, false⟩) from by rw [e2]; rfl) rfl rfl) (fun _ => ⟨(0, 0)⟩) (fun ⟨b11_20, o11_20⟩ => ?_)
   refine bG 21 rfl (by kernel_rfl) rfl rfl (fun hc => q_loadD (o := 0) tk65 (ev_yes rfl hc) (psAt 0 rfl) hc rfl) ?_
   refine bG 22 rfl (by kernel_rfl) rfl rfl (fun hc => q_load 5 tk65 rfl rfl rfl) ?_
   refine bG 23 rfl (by kernel_rfl) rfl rfl (fun hc => q_eqlC ⟨2, 1, 0, 0, 2, false⟩ ⟨2, 1, 0, 0, 2, false⟩ (ev_yes rfl hc) (ev_yes rfl hc)) ?_
   refine bU 24 rfl (by kernel_rfl) rfl (q_and rfl rfl (fun h => gt rfl h)) ?_
   refine bU 25 rfl (by kernel_rfl) rfl (q_move rfl) ?_
   refine bG 26 rfl (by kernel_rfl) rfl rfl (fun hc => q_move rfl) ?_
   refine bG 27 rfl (by kernel_rfl) rfl rfl (fun hc => q_eql (ev_yes rfl hc) rfl) ?_
   refine bU 28 rfl (by kernel_rfl) rfl (q_and rfl rfl (fun h => gt rfl h)) ?_
   refine bU 29 rfl (by kernel_rfl) rfl (q_move rfl) ?_
   refine bG 30 rfl (by kernel_rfl) rfl rfl (fun hc => q_load 6 tk34 rfl rfl rfl) ?_
   refine bG 31 rfl (by kernel_rfl) rfl rfl (fun hc => q_bld (l := [(0, .const (.int .i64 1))]) (zs := [.int .i64 0, .int .i64 0]) (pl := [(0, 1), (1, 1)]) (by kernel_rfl) (by kernel_rfl) (by kernel_rfl) rfl rfl rfl) ?_
   refine bG 32 rfl (by kernel_rfl) rfl rfl (fun hc => qa_eql (by kernel_rfl) (by kernel_rfl) (by kernel_rfl) (fun w => eqFields_mix 9997 _ _ _ [0, 1] w (by kernel_rfl) (by kernel_rfl) rfl rfl) (ev_yes rfl hc) (ev_yes rfl hc)) ?_
   refine bU 33 rfl (by kernel_rfl) rfl (q_and rfl rfl (fun h => gt rfl h)) ?_
   refine bU 34 rfl (by kernel_rfl) rfl (q_move rfl) ?_
   refine bG 35 rfl (by kernel_rfl) rfl rfl (fun hc => q_move rfl) ?_
   refine bG 36 rfl (by kernel_rfl) rfl rfl (fun hc => q_eql (ev_yes rfl hc) rfl) ?_
   refine bU 37 rfl (by kernel_rfl) rfl (q_and rfl rfl (fun h => gt rfl h)) ?_
   refine bU 38 rfl (by kernel_rfl) rfl (q_move rfl) ?_
   refine bG 39 rfl (by kernel_rfl) rfl rfl (fun hc => q_load 7 tk34 rfl rfl rfl) ?_
   refine bG 40 rfl (by kernel_rfl) rfl rfl (fun hc => q_bld (l := []) (zs := [.int .i64 0, .int .i64 0]) (pl := [(0, 1), (1, 1)]) (by kernel_rfl) (by kernel_rfl) (by kernel_rfl) rfl rfl rfl) ?_
   refine bG 41 rfl (by kernel_rfl) rfl rfl (fun hc => qa_eql (by kernel_rfl) (by kernel_rfl) (by kernel_rfl) (fun w => eqFields_mix 9997 _ _ _ [0, 1] w (by kernel_rfl) (by kernel_rfl) rfl rfl) (ev_yes rfl hc) (ev_yes rfl hc)) ?_
   refine bU 42 rfl (by kernel_rfl) rfl (q_and rfl rfl (fun h => gt rfl h)) ?_
   refine bU 43 rfl (by kernel_rfl) rfl (q_move rfl) ?_
   refine bG 44 rfl (by kernel_rfl) rfl rfl (fun hc => q_move rfl) ?_
   refine bG 45 rfl (by kernel_rfl) rfl rfl (fun hc => q_lenS Tryz.underlying41 (ev_yes rfl hc)) ?_
   refine bG 46 rfl (by kernel_rfl) rfl rfl (fun hc => q_eql (ev_yes rfl hc) rfl) ?_
   refine bU 47 rfl (by kernel_rfl) rfl (q_and rfl rfl (fun h => gt rfl h)) ?_
   refine bU 48 rfl (by kernel_rfl) rfl (q_move rfl) ?_
   refine bG 49 rfl (by kernel_rfl) rfl rfl (fun hc => q_move rfl) ?_
   refine aB_E 50 rfl (by kernel_rfl) _ rfl rfl (fun hc => q_indexAddrG Tryz.underlying41 tk46 (ev_yes rfl hc) ((.of (psAt 6 rfl))) rfl (show _ = some (GOffered.row _) from rfl) rfl rfl) (fun _ => ⟨(0, 0)⟩) (fun ⟨b11_50, o11_50⟩ => ?_)
   refine bG 51 rfl (by kernel_rfl) rfl rfl (fun hc => q_fieldAddr (off := 0) (by kernel_rfl) (ev_yes rfl hc)) ?_
   refine bG 52 rfl (by kernel_rfl) rfl rfl (fun hc => q_loadD (o := 0) tk9 (ev_yes rfl hc) (psAt 0 rfl) hc rfl) ?_
   refine bG 53 rfl (by kernel_rfl) rfl rfl (fun hc => qs_eql (ev_yes rfl hc) rfl) ?_
   refine bU 54 rfl (by kernel_rfl) rfl (q_and rfl rfl (fun h => gt rfl h)) ?_
   refine bU 55 rfl (by kernel_rfl) rfl (q_move rfl) ?_
   refine bG 56 rfl (by kernel_rfl) rfl rfl (fun hc => q_move rfl) ?_
   refine aB_E 57 rfl (by kernel_rfl) _ rfl rfl (fun hc => q_indexAddrG Tryz.underlying41 tk46 (ev_yes rfl hc) ((.of (psAt 7 rfl))) rfl (show _ = some (GOffered.row _) from rfl) rfl rfl) (fun _ => ⟨(0, 0)⟩) (fun ⟨b11_57, o11_57⟩ => ?_)
   refine bG 58 rfl (by kernel_rfl) rfl rfl (fun hc => q_fieldAddr (off := 2) (by kernel_rfl) (ev_yes rfl hc)) ?_
   refine bG 59 rfl (by kernel_rfl) rfl rfl (fun hc => q_loadD (o := 2) tk4 (ev_yes rfl hc) (psAt 0 rfl) hc rfl) ?_
   refine bU 60 rfl (by kernel_rfl) rfl (q_and rfl rfl (fun h => gt rfl h)) ?_
   refine bU 61 rfl (by kernel_rfl) rfl (q_assign rfl) ?_
   refine aB_nil (by kernel_rfl) ?_
   refine thn_n (awp_ret ?_)
   refine fin1 [] [] rfl Tryz.results10 rfl ?_ (.inr rfl)
   simp [eqInts, intAt]
end Go.Proofs.YtgmiihmahaahiaaGreatDoor

namespace Go.Sy
open Go.RowKit Go.Lp
section
variable {P : Program} {n : Fr} {d : Option Tmp} {ty : TypeId} {pos : String} {af : Array Edge} {gd : Option (Nat × Bool)} {s : Sta} {x y : Operand} {t t' : TypeId} {a b : ByteArray}
theorem qs_gtrD (hx : ev s.env x = some (true, .string a)) (hy : ev s.env y = some (true, .string b)) : Quiet P n ⟨d, .binOp .gtr t x y t', ty, pos, af, gd⟩ s (.bool (!(decide (a.toList < b.toList) || decide (a = b)))) := qs_gtr hx hy
theorem qs_geqD (hx : ev s.env x = some (true, .string a)) (hy : ev s.env y = some (true, .string b)) : Quiet P n ⟨d, .binOp .geq t x y t', ty, pos, af, gd⟩ s (.bool (!decide (a.toList < b.toList))) := qs_geq hx hy
end
end Go.Sy
namespace Go.Proofs.YtgmiihmahaahiaaGreatDoor
open Go.RowKit Go.Lp Go.Sy
open Go.Proofs.Tryz
section
variable {kp : List (Sl Bool)} {L : List Dfn} {sv : ByteArray → ByteArray → Bool} {lf : ByteArray → ByteArray → Int} {lib : Bool}
theorem own_iff (h : RB kp L sv lf lib) {d : Dfn} (hd : d ∈ L) : (((chD kp L sv lf lib d).kind = 2 ∨ (chD kp L sv lf lib d).kind = 3) ∧ (chD kp L sv lf lib d).obj = d.p.obj ∧ (chD kp L sv lf lib d).sym = d.p.sym) ↔ isCh kp L d = true := by
 constructor
 · rintro ⟨h1, h2, h3⟩
   obtain ⟨_, e, he, hx⟩ := chD_def h1
   obtain ⟨m1, m2, _⟩ := findR_spec h.asc he
   rw [hx] at h2 h3
   have hp : e.p = d.p := by
     have a1 : e.p.obj = d.p.obj := h2
     have a2 : e.p.sym = d.p.sym := h3
     cases hep : e.p; cases hdp : d.p; simp_all
   rw [← asc_inj h.asc m1 hd hp]; exact m2
 · intro hc
   have hb : d.s.bind ≠ 0 := by
     have := isCh_def h.asc hd hc
     intro hb; unfold defB at this; simp [hb] at this
   rw [chD_find hb (findR_self h.asc h.t2 hd hc)]
   refine ⟨?_, rfl, rfl⟩
   unfold defC
   by_cases h3 : d.s.bind = 3
   · right; simp [h3]
   · left; simp [h3]
theorem own_is (h : RB kp L sv lf lib) {d : Dfn} (hd : d ∈ L) (hc : isCh kp L d = true) : chD kp L sv lf lib d = defC kp L lib d.s d := by
 have hb : d.s.bind ≠ 0 := by
   have := isCh_def h.asc hd hc
   intro hb; unfold defB at this; simp [hb] at this
 exact chD_find hb (findR_self h.asc h.t2 hd hc)
theorem exp_main (h : RB kp L sv lf lib) {i j : Nat} {x y : GOffered} (hx : (expF kp L)[i]? = some x) (hy : (expF kp L)[j]? = some y) (h1 : x.main = true) (h2 : y.main = true) (hn : x.name = y.name) : i = j := by
 obtain ⟨d, hd, rfl⟩ := expF_mem.1 (List.mem_of_getElem? hx)
 obtain ⟨e, he, rfl⟩ := expF_mem.1 (List.mem_of_getElem? hy)
 obtain ⟨d1, d2, _⟩ := expL_mem.1 hd
 obtain ⟨e1, e2, _⟩ := expL_mem.1 he
 have hm : ∀ {c : Dfn}, isCh kp L c = true → (offD c).main = true → isMain kp L c = true := fun {c} g1 g2 => by
   unfold isMain; rw [g1]; exact g2
 have hde : d = e := mainL_one h.asc h.t2 (n := d.s.name) (mainL_mem.2 ⟨d1, rfl, hm d2 h1⟩) (mainL_mem.2 ⟨e1, hn.symm, hm e2 h2⟩)
 subst hde
 have hlt := List.pairwise_iff_getElem.1 (expF_asc (kp := kp) h.asc)
 obtain ⟨hi, hi2⟩ := List.getElem?_eq_some_iff.1 hx
 obtain ⟨hj, hj2⟩ := List.getElem?_eq_some_iff.1 hy
 rcases Nat.lt_trichotomy i j with hij | hij | hij
 · have := hlt i j hi hj hij
   rw [hi2, hj2] at this; exact (kLt_irr _ this).elim
 · exact hij
 · have := hlt j i hj hi hij
   rw [hi2, hj2] at this; exact (kLt_irr _ this).elim
end
theorem exp_sel {os : List GObject} {kp : List (Sl Bool)} {sv : ByteArray → ByteArray → Bool} {lf : ByteArray → ByteArray → Int} {lib : Bool} {S : List (Sl GChoice)} (h : Bd13 os kp sv lf lib S) : selL S (flatF os) (flatF os) = (expL kp (flatF os)).map offD := by
 unfold selL expL
 congr 1
 refine List.filter_congr fun d hd => ?_
 obtain ⟨i, k, hi, hk, hp⟩ := flatTo_mem.1 hd
 have hg := h.get i k d.s _ hk (elt_nat (by have := h.fits.1; omega))
 have he : elt (elt S d.p.obj).l d.p.sym = chD kp (flatF os) sv lf lib d := by
   rw [hp]
   show elt (elt S (i : Int)).l (k : Int) = _
   unfold elt at hg ⊢
   rw [List.getD_eq_getElem?_getD]
   rw [show ((k : Nat) : Int).toNat = k from rfl, hg]
   rw [← hp]; rfl
 unfold selX
 rw [he]
 have := own_iff h.rb hd
 rw [Bool.eq_iff_iff]
 simp only [Bool.and_eq_true, Bool.or_eq_true, decide_eq_true_eq]
 rw [← this]
 constructor
 · rintro ⟨a, b, c, e⟩; exact ⟨⟨a, b, c⟩, e⟩
 · rintro ⟨⟨a, b, c⟩, e⟩; exact ⟨a, b, c, e⟩
theorem con_exported13 (x : G13) (K : Sl (Sl Bool)) (hok : RsOk x.os.l K.l) (S : Sl (Sl GChoice)) {sv : ByteArray → ByteArray → Bool} {lf : ByteArray → ByteArray → Int} {lib : Bool} (hB : Bd13 x.os.l K.l sv lf lib S.l) :
   Con Tryz.prog 18 [x.os.val, K.val, S.val] [AllF (ShF GChoice.row) S.l, ShF slR S, x.ok] [] fun r ps hp => ps = [] ∧ hp = [OwnS r 46 7 ((expF K.l (flatF x.os.l)).map GOffered.row)] := by
 refine ((con_exported x.os K.l K.val hok S hB.fits.1 hB.fits.2).pre fun p hp => ?_).post ?_
 · have h : Ent [AllF (ShF GChoice.row) S.l, ShF slR S, x.ok] x.ok := .of (psAt 2 rfl)
   simp only [List.mem_cons, List.not_mem_nil, or_false] at hp
   rcases hp with rfl | rfl | rfl | rfl
   · exact G13.f_os h
   · exact G13.f_osA h
   · exact .of (psAt 0 rfl)
   · exact .of (psAt 1 rfl)
 · rintro r ps hp ⟨h1, v, q, rfl, hq, hs, rfl⟩
   rw [exp_sel hB] at hq
   rw [expF_sorted hB.rb.asc hq hs]
   exact ⟨h1, rfl⟩
structure MnK (xs : List GOffered) (i : Nat) (m : Int) : Prop where
 lo : m = 0 ∨ m = 1
 wit : m = 1 → ∃ (j p : Nat) (x y : GOffered), i = p + 1 ∧ j ≤ p ∧ xs[j]? = some x ∧ xs[p]? = some y ∧ x.main = true ∧ x.name = y.name
theorem MnK.reset {xs : List GOffered} {i : Nat} {x : GOffered} (hx : xs[i]? = some x) (b : Bool) (hb : x.main = b) : MnK xs (i + 1) (if b = true then 1 else 0) := by
 cases b with
 | false => exact ⟨.inl rfl, fun h => by simp at h⟩
 | true => exact ⟨.inr rfl, fun _ => ⟨i, i, x, x, rfl, Nat.le_refl _, hx, hx, hb, rfl⟩⟩
theorem MnK.go {xs : List GOffered} {i p : Nat} {m : Int} {x y : GOffered} (h : MnK xs i m) (hip : i = p + 1) (hy : xs[p]? = some y) (hx : xs[i]? = some x) (hn : y.name = x.name)
   (hone : ∀ (i j : Nat) (x y : GOffered), xs[i]? = some x → xs[j]? = some y → x.main = true → y.main = true → x.name = y.name → i = j) : (x.main = false → MnK xs (i + 1) m) ∧ (x.main = true → m = 0 ∧ MnK xs (i + 1) (m + 1)) := by
 constructor
 · intro hm
   refine ⟨h.lo, fun h1 => ?_⟩
   obtain ⟨j, p2, a, b, e1, e2, e3, e4, e5, e6⟩ := h.wit h1
   obtain rfl : p2 = p := by omega
   rw [hy] at e4
   obtain rfl := Option.some.inj e4
   exact ⟨j, i, a, x, rfl, by omega, e3, hx, e5, e6.trans hn⟩
 · intro hm
   have h0 : m = 0 := by
     rcases h.lo with h0 | h1
     · exact h0
     · obtain ⟨j, p2, a, b, e1, e2, e3, e4, e5, e6⟩ := h.wit h1
       obtain rfl : p2 = p := by omega
       rw [hy] at e4
       obtain rfl := Option.some.inj e4
       have := hone j i a x e3 hx e5 hm (e6.trans hn)
       omega
   subst h0
   exact ⟨rfl, .inr rfl, fun _ => ⟨i, i, x, x, rfl, Nat.le_refl _, hx, hx, hm, rfl⟩⟩
theorem elt_prev {α : Type} [Inhabited α] {l : List α} {i : Nat} (h0 : 0 < i) (hi : i < l.length) : l[i - 1]? = some (elt l ((i : Int) - 1)) := by
 have := elt_nat (l := l) (i := i - 1) (by omega)
 rw [show ((i - 1 : Nat) : Int) = (i : Int) - 1 by omega] at this
 exact this
theorem asc_prev {xs : List GOffered} (h : AscO xs) {i : Nat} {y : GOffered} (hy : xs[i]? = some y) (h0 : 0 < i) : kLt (elt xs ((i : Int) - 1)).key y.key := by
 obtain ⟨hi, hi2⟩ := List.getElem?_eq_some_iff.1 hy
 have hp := elt_prev (l := xs) h0 hi
 obtain ⟨hj, hj2⟩ := List.getElem?_eq_some_iff.1 hp
 have := List.pairwise_iff_getElem.1 h (i - 1) i hj hi (by omega)
 rw [hi2, hj2] at this; exact this
theorem exp_bad5 {i : Nat} {n v : ByteArray} {z : Int} {k : RKey} (hprev : 0 < i → kLt k (n, v)) (hV : z ≠ 2)
   (h : (0 < i ∧ ((¬ k.1.toList < n.toList ∧ ¬ k.1 = n) ∨ k.1 = n ∧ ¬ k.2.toList < v.toList)) ∨ z = 2) : False := by
 rcases h with ⟨h0, h⟩ | h
 · rcases hprev h0 with h1 | ⟨h1, h2⟩
   · rcases h with ⟨h, _⟩ | ⟨h, _⟩
     · exact h h1
     · rw [h] at h1; exact sLt_irr _ h1
   · rcases h with ⟨_, h⟩ | ⟨_, h⟩
     · exact h h1
     · exact h h2
 · exact hV h
theorem exp_bad18 {xs : List GOffered} {n : Nat} {f : Bool} {z yo ym : Int} {e : Dfn} (hf : f = (decide (z = 2) || (xs.take n).any fun o => decide (o.obj = yo) && decide (o.sym = ym))) (hF : f = false) (hl : xs.length ≤ n) (h1 : yo = e.p.obj) (h2 : ym = e.p.sym)
   (hm : z ≠ 2 → offD e ∈ xs) : False := by
 rw [hF, List.take_of_length_le hl, eq_comm, Bool.or_eq_false_iff, decide_eq_false_iff_not] at hf
 have := List.any_eq_false.1 hf.2 _ (hm hf.1)
 subst h1 h2
 simp [offD] at this
end Go.Proofs.YtgmiihmahaahiaaGreatDoor

