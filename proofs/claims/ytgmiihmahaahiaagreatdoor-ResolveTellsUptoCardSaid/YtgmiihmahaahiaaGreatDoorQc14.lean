/- Parts of the proof, in build order. No condition. -/
import Derived.Test.YtgmiihmahaahiaaGreatDoorQc13
import Derived.Test.YtgmiihmahaahiaaGreatDoorQc03
import Derived.Test.YtgmiihmahaahiaaGreatDoorQc12
import Derived.Test.YtgmiihmahaahiaaGreatDoorQc08
set_option linter.unusedSimpArgs false
set_option linter.unusedVariables false
set_option maxHeartbeats 1000000
set_option maxRecDepth 20000
namespace Go.Proofs.YtgmiihmahaahiaaGreatDoor
open Go.RowKit Go.Lp Go.Sy
open Go.Proofs.Tryz
attribute [local irreducible] aL aB awp aC fwp
theorem oW {w : World} {S : bz} {b o n c sz : Nat} {rows : List (List D)} (h : ef w S (.slice (some ⟨b, o, none⟩) n c) (.sl rows)) (l m : Nat) (hsz : ∀ r ∈ rows, r.length = sz) (hl : l < m) (hm : m ≤ rows.length) :
   ef w S (.slice (some ⟨b, o + l * sz, none⟩) ((rows.take m).drop l).length (c - l)) (.sl ((rows.take m).drop l)) := by
 cases h with
 | e a c hc => simp at hm; omega
 | sl b o c sz2 rows us hb hn hc hr hcell hd =>
   have h0 : rows[0]? = some (rows[0]'(by omega)) := List.getElem?_eq_getElem (by omega)
   obtain rfl : sz2 = sz := by rw [← hr 0 _ h0, hsz _ (List.getElem_mem _)]
   have key : ∀ (i : Nat) (r : List D), ((rows.take m).drop l)[i]? = some r → rows[l + i]? = some r := fun i r h => by
     rw [List.getElem?_drop, List.getElem?_take] at h
     split at h
     · exact h
     · cases h
   refine .sl b (o + l * sz2) (c - l) sz2 _ (fun i j => us (l + i) j) hb (by simp; omega) (by omega) (fun i r hi => hr _ r (key i r hi)) (fun i j r d hi hj => ?_) (fun i j r d hi hj => hd _ j r d (key i r hi) hj)
   rw [show o + l * sz2 + i * sz2 + j = o + (l + i) * sz2 + j by rw [Nat.add_mul]; omega]
   exact hcell _ j r d (key i r hi) hj
theorem nt {P : Program} {n : Fr} {Q : Exit → Sta → Prop} {s : Sta} {c : Code} {ad : Option Addr} {k cp : Nat} {rows : List (List D)} (hs : Ent s.ps (Sh (.slice ad k cp) (.sl rows))) (h0 : rows ≠ []) (h : ∀ B o, ad = some ⟨B, o, none⟩ → awp P n c Q s) : awp P n c Q s :=
 jx (φ := ∃ B o, ad = some ⟨B, o, none⟩) (fun w S fp hst => by
   have h : ef w S (.slice ad k cp) (.sl rows) := hs w S hst.per
   cases h with
   | e a c hc => exact (h0 rfl).elim
   | sl b o c sz rows us hb hn hc _ _ _ => exact ⟨_, _, rfl⟩) (fun ⟨B, o, e⟩ => h B o e)
theorem zj (a5 : Option Addr) : ew [cO a5] [eu Bool] where
 n := show 1 ≤ 5 by decide
 sy o ho := by rw [List.mem_singleton.1 ho]; show 1 ≤ 14; decide
 kn := rfl
 ks i hi := by
   have : i = 0 := by simp at hi; omega
   subst this; rfl
 sec o ho s hs := by
   rw [List.mem_singleton.1 ho] at hs
   rw [List.mem_singleton.1 hs]; exact .inl ⟨rfl, by decide⟩
theorem zJ (B o B2 o2 : Nat) (b : Int) (a1 a2 a3 a4 a5 k1 k2 : Option Addr) :
   Ent [ShF ax.row ⟨some ⟨B, o, none⟩, 3, gK b a1 a2 a3 a4 a5⟩, ShF bg.row ⟨a5, 1, [gB 1 (-1)]⟩, ShF slR ⟨some ⟨B2, o2, none⟩, 3, jP k1 k2⟩] (br.ok ⟨⟨some ⟨B, o + 2 * 11, none⟩, 1, [cO a5]⟩, ⟨some ⟨B2, o2 + 2 * 1, none⟩, 1, [eu Bool]⟩, false, eu _, eu _, 0, 0, 0, 0⟩) := fun w S hp => by
 have p0 := hp _ (an 0 rfl)
 have p1 := hp _ (an 1 rfl)
 have p2 := hp _ (an 2 rfl)
 refine ⟨oW p0 2 3 (fun r hr => ?_) (by decide) (show 3 ≤ 3 by decide), fun o ho => ?_, oW p2 2 3 (fun r hr => ?_) (by decide) (show 3 ≤ 3 by decide), fun s hs => ?_, eT, fY, eT, fY⟩
 · obtain ⟨x, _, rfl⟩ := List.mem_map.1 hr; rfl
 · rw [List.mem_singleton.1 ho]; exact aaj p1
 · obtain ⟨x, _, rfl⟩ := List.mem_map.1 hr; rfl
 · rw [List.mem_singleton.1 hs]; exact eT
theorem tg (B o B2 o2 : Nat) (b : Int) (a1 a2 a3 a4 a5 k1 k2 : Option Addr) :
   Con Tryz.prog 13 [.slice (some ⟨B, o + 2 * 11, none⟩) 1 1, .slice (some ⟨B2, o2 + 2 * 1, none⟩) 1 1, .bool false, .slice none 0 0, .slice none 0 0] [ShF ax.row ⟨some ⟨B, o, none⟩, 3, gK b a1 a2 a3 a4 a5⟩, ShF bg.row ⟨a5, 1, [gB 1 (-1)]⟩, ShF slR ⟨some ⟨B2, o2, none⟩, 3, jP k1 k2⟩] []
     fun r ps hp => ps = [] ∧ r = .tuple #[.slice none 0 0, .int .i64 3, (⟨0, 0⟩ : aD).val] ∧ hp = [] := by
 refine ((j9 ⟨⟨some ⟨B, o + 2 * 11, none⟩, 1, [cO a5]⟩, ⟨some ⟨B2, o2 + 2 * 1, none⟩, 1, [eu Bool]⟩, false, eu _, eu _, 0, 0, 0, 0⟩ (zj a5) (di []) (fun _ _ => iQ)).pre fun p hp => (List.mem_singleton.1 hp) ▸ zJ B o B2 o2 b a1 a2 a3 a4 a5 k1 k2).post ?_
 rintro v ps' hp' ⟨h1, ⟨c, p, h4, rfl, rfl⟩ | ⟨h4, _⟩⟩
 · have h5 := yN (di []) a5
   rw [h5] at h4
   simp only [Option.some.injEq, Prod.mk.injEq] at h4
   obtain ⟨rfl, rfl⟩ := h4
   exact ⟨h1, rfl, rfl⟩
 · have h5 := yN (di []) a5
   rw [h5] at h4; cases h4
theorem vV (ao a1 a2 a3 a4 a5 ak k1 k2 : Option Addr) :
   Con Tryz.prog 13 [.slice ao 3 3, .slice ak 3 3, .bool false, .slice none 0 0, .slice none 0 0] (uD 2 ao a1 a2 a3 a4 a5 ak k1 k2) [bA (.slice a2 1 1) 63 10 ([gB 2 0].map bg.row)]
     fun r ps hp => hp = [bA (.slice a2 1 1) 63 10 ([gB 2 0].map bg.row)] ∧ ∃ (ad : Option Addr) (s0 s1 s2 : Sl aO), ps = [bP (ShF aO.row) [s0, s1, s2], ShF slR ⟨ad, 3, [s0, s1, s2]⟩] ∧ s0.l = [⟨2, 1, 0, 0, 2, false⟩] ∧ s1.l = [⟨2, 1, 0, 0, 2, false⟩] ∧ s2.l = [⟨2, 1, 0, 0, 2, false⟩] ∧
       r = .tuple #[.slice ad 3 3, .int .i64 0, (⟨0, 0⟩ : aD).val] := by
 refine Con.conv (yF ao a1 a2 a3 a4 a5 ak k1 k2) fun r ps' hp' ⟨h1, ad, m, hm, hr, h2⟩ => ?_
 subst h1 h2
 refine ⟨_, _, ((StE.share 1 (Sh (.slice ad 3 3) (.sl (ix m 3))) rfl fun _ _ _ h => eF h).trans ((StE.share 2 (Go.Sy.fL aO.row m) rfl fun _ _ _ h => lK h).trans ((StE.keep [0, 1] [0] rfl).trans (StE.ents (ps' := [bP (ShF aO.row) (chS ad 3 m).l, ShF slR (chS ad 3 m)]) fun q hq => ?_)))), rfl, ad, cn m 0, cn m 1, cn m 2, rfl, ?_⟩
 · simp only [List.mem_cons, List.not_mem_nil, or_false] at hq
   rcases hq with rfl | rfl
   · intro w S hp s hs
     obtain ⟨i, _, rfl⟩ := List.mem_map.1 hs
     exact Ent.cn (row := aO.row) (m := m) (.of (an 1 rfl)) i w S hp
   · intro w S hp
     exact hp _ (an 0 rfl)
 · have hm2 : [(cn m 0).l, (cn m 1).l, (cn m 2).l] = _ := hm
   simp only [List.cons.injEq, and_true] at hm2
   exact ⟨hm2.1, hm2.2.1, hm2.2.2, hr⟩
def chE : aO := ⟨2, 0, 0, 0, 1, false⟩
theorem zi (a3 a4 : Option Addr) (kp : Sl Bool) (hk : kp.l.length = 1) : ew [oZ ⟨#[98]⟩ 1 a3 a4] [kp] where
 n := show 1 ≤ 5 by decide
 sy o ho := by rw [List.mem_singleton.1 ho]; show 1 ≤ 14; decide
 kn := rfl
 ks i hi := by
   have : i = 0 := by simp at hi; omega
   subst this; exact hk
 sec o ho s hs := by
   rw [List.mem_singleton.1 ho] at hs ⊢
   rw [List.mem_singleton.1 hs]; exact .inr ⟨Int.le_refl _, show (0 : Int) < ((1 : Nat) : Int) by decide⟩
theorem y4 (a3 a4 c : Option Addr) : iF [⟨c, 1, [chE]⟩] (aW [oZ ⟨#[98]⟩ 1 a3 a4]) (aW [oZ ⟨#[98]⟩ 1 a3 a4]) = [⟨⟨#[102]⟩, .empty, true, 0, 0, 0, false⟩] := by kernel_rfl
theorem nq (B o : Nat) (b : Int) (a1 a2 a3 a4 a5 c d : Option Addr) (kv : Value) :
   Con Tryz.prog 18 [.slice (some ⟨B, o + 1 * 11, none⟩) 1 2, kv, .slice d 1 1] [ShF ax.row ⟨some ⟨B, o, none⟩, 3, gK b a1 a2 a3 a4 a5⟩, ShF bH.row ⟨a3, 1, [uP]⟩, ShF bg.row ⟨a4, 1, [gB 1 0]⟩, ShF aO.row ⟨c, 1, [chE]⟩, ShF slR ⟨d, 1, [⟨c, 1, [chE]⟩]⟩] []
     fun r ps hp => ps = [] ∧ ∃ v, r = v ∧ hp = [bA v 46 7 ([(⟨⟨#[102]⟩, .empty, true, 0, 0, 0, false⟩ : bk)].map bk.row)] := by
 refine ((jJ ⟨some ⟨B, o + 1 * 11, none⟩, 2, [oZ ⟨#[98]⟩ 1 a3 a4]⟩ [⟨none, 1, [true]⟩] kv (zi a3 a4 _ rfl) ⟨d, 1, [⟨c, 1, [chE]⟩]⟩ rfl (fun i hi => ?_)).pre fun p hp => ?_).post ?_
 · have : i = 0 := by simp at hi; omega
   subst this; rfl
 · simp only [List.mem_cons, List.not_mem_nil, or_false] at hp
   rcases hp with rfl | rfl | rfl | rfl
   · exact fun w S h => oW (h _ (an 0 rfl)) 1 2 (fun r hr => by obtain ⟨x, _, rfl⟩ := List.mem_map.1 hr; rfl) (by decide) (show 2 ≤ 3 by decide)
   · exact fun w S h x hx => by rw [List.mem_singleton.1 hx]; exact rR (by unfold maxLen; show 1 ≤ _; omega) (h _ (an 1 rfl)) (h _ (an 2 rfl))
   · exact fun w S h x hx => by rw [List.mem_singleton.1 hx]; exact h _ (an 3 rfl)
   · exact .of (an 4 rfl)
 · rintro r ps' hp' ⟨h1, v, q, rfl, hq, _, rfl⟩
   rw [show iF _ _ _ = _ from y4 a3 a4 c] at hq
   rw [List.perm_singleton.1 hq]
   exact ⟨h1, _, rfl, rfl⟩
theorem pR : Con Tryz.prog 10 [] [] [] fun r _ _ => r = .bool true := by
 refine Con.enter Tryz.func10 rfl (by simp [Tryz.ntmps10]) ?_
 show awp _ _ _ _ ⟨[], _, _⟩
 refine aSR (aA rfl (aNn (aSR ?_)))
 refine aj (q := true) rfl (bF [] [] (by kernel_rfl) rfl rfl rfl rfl (nx ⟨#[97]⟩ 2) ?_)
 rintro _ _ _ ⟨rfl, a1, a2, rfl, rfl⟩
 refine aST ?_
 refine aj (q := true) rfl (bF [] [] (by kernel_rfl) rfl rfl rfl rfl (nx ⟨#[98]⟩ 1) ?_)
 rintro _ _ _ ⟨rfl, a3, a4, rfl, rfl⟩
 refine aST ?_
 refine aU rfl (cU (l := [(0, .const (.string ⟨#[102]⟩)), (3, .const (.int .i64 1)), (6, .const (.int .i64 (-1)))]) (zs := [.string .empty, .string .empty, .bool false, .int .i64 0, .int .i64 0, .int .i64 0, .int .i64 0, .int .i64 0, .int .i64 0, .int .i64 0]) (pl := [(0, 1), (1, 1), (2, 1), (3, 1), (4, 1), (5, 1), (6, 1), (7, 1), (8, 1), (9, 1)]) (by kernel_rfl) (by kernel_rfl) (by kernel_rfl) rfl rfl rfl) ?_
 refine fW (zs := [.string .empty, .string .empty, .bool false, .int .i64 0, .int .i64 0, .int .i64 0, .int .i64 0, .int .i64 0, .int .i64 0, .int .i64 0]) (l := [(0, .tmp 16)]) el51 (by kernel_rfl) (by decide) (by decide) (by decide) rfl _ rfl (fun hc => rfl) rfl (.more rfl (.v rfl (.v rfl (.v rfl (.v rfl (.v rfl (.v rfl (.v rfl (.v rfl (.v rfl (.v rfl .nil)))))))))) .nil) rfl rfl (fun v1_3 => ?_)
 refine aU rfl (cU (l := [(0, .const (.string ⟨#[99]⟩)), (2, .tmp 17)]) (zs := [.string .empty, .slice none 0 0, .slice none 0 0, .slice none 0 0, .slice none 0 0, .slice none 0 0, .slice none 0 0, .slice none 0 0, .slice none 0 0, .slice none 0 0, .slice none 0 0]) (pl := [(0, 1), (1, 1), (2, 1), (3, 1), (4, 1), (5, 1), (6, 1), (7, 1), (8, 1), (9, 1), (10, 1)]) (by kernel_rfl) (by kernel_rfl) (by kernel_rfl) rfl rfl rfl) ?_
 refine fW (zs := [.string .empty, .slice none 0 0, .slice none 0 0, .slice none 0 0, .slice none 0 0, .slice none 0 0, .slice none 0 0, .slice none 0 0, .slice none 0 0, .slice none 0 0, .slice none 0 0]) (l := [(0, .tmp 14), (1, .tmp 15), (2, .tmp 18)]) el22 (by kernel_rfl) (by decide) (by decide) (by decide) rfl _ rfl (fun hc => rfl) rfl (.more rfl (.v rfl (.v rfl (.v rfl (.v rfl (.v rfl (.v rfl (.v rfl (.v rfl (.v rfl (.v rfl (.v rfl .nil))))))))))) (.more rfl (.v rfl (.v rfl (.v rfl (.v rfl (.v rfl (.v rfl (.v rfl (.v rfl (.v rfl (.v rfl (.v rfl .nil))))))))))) (.more rfl (.v rfl (.v rfl (.v rfl (.v rfl (.v rfl (.v rfl (.v rfl (.v rfl (.v rfl (.v rfl (.v rfl .nil))))))))))) .nil))) rfl rfl (fun v1_5 => ?_)
 refine aA rfl (aNn (aSR ?_))
 refine fW (zs := [.bool false]) (l := [(0, .const (.bool true))]) el68 (by kernel_rfl) (by decide) (by decide) (by decide) rfl _ rfl (fun hc => rfl) rfl (.more rfl (.v rfl .nil) .nil) rfl rfl (fun v2_0 => ?_)
 refine fW (zs := [.bool false]) (l := [(0, .const (.bool true))]) el68 (by kernel_rfl) (by decide) (by decide) (by decide) rfl _ rfl (fun hc => rfl) rfl (.more rfl (.v rfl .nil) .nil) rfl rfl (fun v2_1 => ?_)
 refine fW (zs := [.slice none 0 0]) (l := [(0, .tmp 20), (1, .tmp 21), (2, .const (.slice none 0 0))]) el27 (by kernel_rfl) (by decide) (by decide) (by decide) rfl _ rfl (fun hc => rfl) rfl (.more rfl (.v rfl .nil) (.more rfl (.v rfl .nil) (.more rfl (.v rfl .nil) .nil))) rfl rfl (fun v2_2 => ?_)
 refine aA rfl (aNs ?_)
 refine dr 0 rfl (dr 2 rfl (dr 3 rfl ?_))
 refine ei (ShF ax.row ⟨v1_5, 3, gK 2 a1 a2 a3 a4 v1_3⟩) (.yes (.of (an 6 rfl)) rfl) (ei (ShF bg.row ⟨v1_3, 1, [gB 1 (-1)]⟩) (.yes (.of (an 8 rfl)) rfl) (ei (ShF slR ⟨v2_2, 3, jP v2_0 v2_1⟩) (.yes (.of (an 5 rfl)) rfl) (ei (ShF bR ⟨v2_0, 1, [true]⟩) (.yes (.of (an 8 rfl)) rfl) (ei (ShF bR ⟨v2_1, 1, [true]⟩) (.yes (.of (an 8 rfl)) rfl) (ae (aM rfl (aM rfl ?_)))))))
 refine aj (q := false) rfl (bF [8, 5, 6, 7, 9, 10, 11, 12] [1] (by kernel_rfl) rfl rfl rfl rfl (vV v1_5 a1 a2 a3 a4 v1_3 v2_2 v2_0 v2_1) ?_)
 rintro _ _ _ ⟨rfl, ad, s0, s1, s2, rfl, e0, e1, e2, rfl⟩
 refine aST ?_
 refine aM rfl (aU rfl (bc rfl rfl) (aU rfl (bc rfl rfl) (aU rfl (bc rfl rfl) ?_)))
 refine aj (q := true) rfl (bp (zs := [.int .i64 0, .int .i64 0]) (by kernel_rfl) rfl (fun b3_7 => ?_))
 refine aHN ?_
 refine aA rfl (aA rfl ?_)
 refine aj rfl (aT 4 tk34 rfl rfl rfl rfl ?_)
 refine aHK ?_
 refine aNn (aSR ?_)
 refine aU rfl (cU (l := [(0, .const (.int .i64 2)), (1, .const (.int .i64 1)), (4, .const (.int .i64 2))]) (zs := [.int .i64 0, .int .i64 0, .int .i64 0, .int .i64 0, .int .i64 0, .bool false]) (pl := [(0, 1), (1, 1), (2, 1), (3, 1), (4, 1), (5, 1)]) (by kernel_rfl) (by kernel_rfl) (by kernel_rfl) rfl rfl rfl) ?_
 refine aj (q := true) rfl (bp (zs := [.int .i64 0, .int .i64 0, .int .i64 0, .int .i64 0, .int .i64 0, .bool false]) (by kernel_rfl) rfl (fun b4_1 => ?_))
 refine aHN ?_
 refine aj rfl (aT 5 tk65 rfl rfl rfl rfl ?_)
 refine aHK ?_
 refine aNn (aSR (aM rfl ?_))
 refine ck true rfl rfl (fun _ => ai Tryz.underlying22 tk61 rfl ((.of (an 6 rfl))) rfl (show _ = some (ax.row (oZ ⟨#[97]⟩ 2 a1 a2)) from rfl) rfl rfl) (fun h => absurd h (by decide)) (fun ⟨b5_1, o5_1⟩ => ?_)
 refine aU rfl (qFA (off := 2) rfl) ?_
 refine aU rfl (aF (o := 2) tk51 rfl (an 0 rfl) rfl rfl) ?_
 refine aU rfl (dV 1 0 el51 rfl rfl rfl rfl (by decide)) ?_
 refine aU rfl (qFA (off := 3) rfl) ?_
 refine aj (q := false) rfl (gT 1 0 3 tk3 rfl rfl rfl rfl rfl (.v rfl .nil) rfl (by decide) ?_)
 refine aNn (aSR (aM rfl (aM rfl ?_)))
 refine aj (q := false) rfl (bF [8, 5, 6, 7, 9, 10, 11, 12] [1] (by kernel_rfl) rfl rfl rfl rfl (xR v1_5 a1 a2 a3 a4 v1_3 v2_2 v2_0 v2_1) ?_)
 rintro _ _ _ ⟨rfl, rfl, rfl⟩
 refine aST ?_
 refine aM rfl (aU rfl (bc rfl rfl) (aU rfl (bc rfl rfl) (aU rfl (bc rfl rfl) ?_)))
 refine aj (q := true) rfl (bp (zs := [.int .i64 0, .int .i64 0]) (by kernel_rfl) rfl (fun b6_7 => ?_))
 refine aHN ?_
 refine aA rfl (aA rfl ?_)
 refine aj rfl (aT 6 tk34 rfl rfl rfl rfl ?_)
 refine aHK ?_
 refine aNs ?_
 refine nt (.of (an 7 rfl)) (by simp [gK]) (fun B o h => ?_)
 refine nt (.of (an 5 rfl)) (by simp [jP]) (fun B2 o2 h2 => ?_)
 subst h h2
 refine aX [12] (by kernel_rfl) ?_
 show aB _ _ _ _ _ 13 #[false, false, false, false, false, false, false, false, false, false, false, false, false] _
 refine bV 0 rfl rfl (ar rfl) ?_
 refine bV 1 rfl rfl (iY 2 1 (o + 2 * 11) el22 rfl rfl rfl (show 2 < 3 by decide) (show 3 ≤ 3 by decide) rfl rfl) ?_
 refine bV 2 rfl rfl (ar rfl) ?_
 refine bV 3 rfl rfl (iY 2 1 (o2 + 2 * 1) el27 rfl rfl rfl (show 2 < 3 by decide) (show 3 ≤ 3 by decide) rfl rfl) ?_
 refine yR (qi := true) (qj := true) 4 9 (by kernel_rfl) rfl rfl rfl rfl rfl rfl ?_ ?_
 ·skip
  refine id (bF [8, 9, 10] [] (by kernel_rfl) rfl rfl rfl rfl (tg B o B2 o2 2 a1 a2 a3 a4 v1_3 v2_0 v2_1) ?_)
  rintro _ _ _ ⟨rfl, rfl, rfl⟩
  refine bST rfl ?_
  refine bV 5 rfl rfl (ar rfl) ?_
  refine bV 6 rfl rfl (bc rfl rfl) ?_
  refine bV 7 rfl rfl (bc rfl rfl) ?_
  refine bV 8 rfl rfl (bc rfl rfl) ?_
  refine bM (q := true) 9 rfl (by kernel_rfl) rfl rfl (bp (zs := [.int .i64 0, .int .i64 0]) (by kernel_rfl) rfl (fun b7_9 => ?_))
  refine bST rfl ?_
  refine bV 10 rfl rfl (bJ rfl) ?_
  refine bV 11 rfl rfl (bJ rfl) ?_
  refine bM 12 rfl (by kernel_rfl) rfl rfl (aT 7 tk34 rfl rfl rfl rfl ?_)
  refine bST rfl ?_
  refine bD (by kernel_rfl) ?_
  refine av (az (aSR (aM rfl (aU rfl (cN rfl rfl) (aM rfl (aG rfl rfl (fun hc => ar rfl) (aG rfl rfl (fun hc => aZ Tryz.underlying31 (aa rfl hc)) (aG rfl rfl (fun hc => cN (aa rfl hc) rfl) (aU rfl (ct rfl rfl (fun h => gf rfl h)) (aM rfl (aG rfl rfl (fun hc => ar rfl) ?_)))))))))))
  refine ck _ rfl rfl (fun hc => ai Tryz.underlying31 tk66 (aa rfl hc) ((.of (an 2 rfl))) rfl (show _ = some (slR s0) from rfl) rfl rfl) (fun _ => ⟨(0, 0)⟩) (fun ⟨b8_9, o8_9⟩ => ?_)
  refine aG rfl rfl (fun hc => aF (o := 0) tk66 (aa rfl hc) (an 0 rfl) hc rfl) (aG rfl rfl (fun hc => aZ Tryz.underlying66 (aa rfl hc)) (aG rfl rfl (fun hc => cN (aa rfl hc) rfl) (aU rfl (ct rfl rfl (fun h => gf rfl h)) (aM rfl (aG rfl rfl (fun hc => ar rfl) ?_)))))
  refine ck _ rfl rfl (fun hc => ai Tryz.underlying31 tk66 (aa rfl hc) ((.of (an 3 rfl))) rfl (show _ = some (slR s1) from rfl) rfl rfl) (fun _ => ⟨(0, 0)⟩) (fun ⟨b8_16, o8_16⟩ => ?_)
  refine aG rfl rfl (fun hc => aF (o := 0) tk66 (aa rfl hc) (an 0 rfl) hc rfl) (aG rfl rfl (fun hc => aZ Tryz.underlying66 (aa rfl hc)) (aG rfl rfl (fun hc => cN (aa rfl hc) rfl) (aU rfl (ct rfl rfl (fun h => gf rfl h)) (aM rfl (aG rfl rfl (fun hc => ar rfl) ?_)))))
  refine ck _ rfl rfl (fun hc => ai Tryz.underlying31 tk66 (aa rfl hc) ((.of (an 4 rfl))) rfl (show _ = some (slR s2) from rfl) rfl rfl) (fun _ => ⟨(0, 0)⟩) (fun ⟨b8_23, o8_23⟩ => ?_)
  refine aG rfl rfl (fun hc => aF (o := 0) tk66 (aa rfl hc) (an 0 rfl) hc rfl) (aG rfl rfl (fun hc => aZ Tryz.underlying66 (aa rfl hc)) (aG rfl rfl (fun hc => cN (aa rfl hc) rfl) (aU rfl (ct rfl rfl (fun h => gf rfl h)) (aNn ?_))))
  refine ah _ rfl (fun h1 => ?_) (fun h1 => ?_)
  ·skip
   exfalso; simp [e0, e1, e2] at h1
  ·skip
   refine au (av (az ?_))
   refine aX [] (by kernel_rfl) ?_
   show aB _ _ _ _ _ 9 #[false, false, false, false, false, false, false, false, false] _
   refine bV 0 rfl rfl (ar rfl) ?_
   refine bV 1 rfl rfl (gr 1 2 el22 rfl rfl rfl rfl rfl (by decide) (show 2 ≤ 3 by decide) (show 3 ≤ 3 by decide)) ?_
   refine bV 2 rfl rfl (ar rfl) ?_
   refine bV 3 rfl rfl (gr 1 2 el27 rfl rfl rfl rfl rfl (by decide) (show 2 ≤ 3 by decide) (show 3 ≤ 3 by decide)) ?_
   refine bV 4 rfl rfl (cU (l := [(0, .const (.int .i64 2)), (4, .const (.int .i64 1))]) (zs := [.int .i64 0, .int .i64 0, .int .i64 0, .int .i64 0, .int .i64 0, .bool false]) (pl := [(0, 1), (1, 1), (2, 1), (3, 1), (4, 1), (5, 1)]) (by kernel_rfl) (by kernel_rfl) (by kernel_rfl) rfl rfl rfl) ?_
   refine ig (zs := [.int .i64 0, .int .i64 0, .int .i64 0, .int .i64 0, .int .i64 0, .bool false]) (l := [(0, .tmp 85)]) 5 rfl (by kernel_rfl) el66 (by kernel_rfl) (by decide) (by decide) (by decide) rfl rfl rfl rfl (.more rfl (.v rfl (.v rfl (.v rfl (.v rfl (.v rfl (.v rfl .nil)))))) .nil) rfl rfl (fun v10_5 => ?_)
   refine ig (zs := [.slice none 0 0]) (l := [(0, .tmp 86)]) 6 rfl (by kernel_rfl) el31 (by kernel_rfl) (by decide) (by decide) (by decide) rfl rfl rfl rfl (.more rfl (.v rfl .nil) .nil) rfl rfl (fun v10_6 => ?_)
   refine bM (q := true) 7 rfl (by kernel_rfl) rfl rfl (bF [8, 6, 7, 19, 20] [] (by kernel_rfl) rfl rfl rfl rfl (nq B o 2 a1 a2 a3 a4 v1_3 v10_5 v10_6 _) ?_)
   rintro _ _ _ ⟨rfl, vE, rfl, rfl⟩
   refine bST rfl ?_
   refine bV 8 rfl rfl (bJ rfl) ?_
   refine bD (by kernel_rfl) ?_
   refine av (az (dr 8 rfl ?_))
   refine fo (.of (an 0 rfl)) (fun adE cpE hvE => ?_)
   subst hvE
   refine aX [] (by kernel_rfl) ?_
   show aB _ _ _ _ _ 62 #[false, false, false, false, false, false, false, false, false, false, false, false, false, false, false, false, false, false, false, false, false, false, false, false, false, false, false, false, false, false, false, false, false, false, false, false, false, false, false, false, false, false, false, false, false, false, false, false, false, false, false, false, false, false, false, false, false, false, false, false, false, false] _
   refine bV 0 rfl rfl (ar rfl) ?_
   refine cD 1 rfl (by kernel_rfl) true rfl rfl (fun _ => ai Tryz.underlying31 tk66 rfl ((.of (an 8 rfl))) rfl (show _ = some (slR s0) from rfl) rfl rfl) (fun h => absurd h (by decide)) (fun ⟨b11_1, o11_1⟩ => ?_)
   refine bV 2 rfl rfl (aF (o := 0) tk66 rfl (an 0 rfl) rfl rfl) ?_
   refine cD 3 rfl (by kernel_rfl) true rfl rfl (fun _ => ai Tryz.underlying66 tk65 rfl ((fun w S hp => (show Ent _ (bP (ShF aO.row) [s0, s1, s2]) from .of (an 8 rfl)) w S hp s0 (by simp))) rfl (show (s0.l.map aO.row)[0]? = some (aO.row ⟨2, 1, 0, 0, 2, false⟩) from by rw [e0]; rfl) rfl rfl) (fun h => absurd h (by decide)) (fun ⟨b11_3, o11_3⟩ => ?_)
   refine bV 4 rfl rfl (aF (o := 0) tk65 rfl (an 0 rfl) rfl rfl) ?_
   refine bV 5 rfl rfl (ab 5 tk65 rfl rfl rfl) ?_
   refine bV 6 rfl rfl (kq ⟨2, 1, 0, 0, 2, false⟩ ⟨2, 1, 0, 0, 2, false⟩ rfl rfl) ?_
   refine bV 7 rfl rfl (ar rfl) ?_
   refine bW 8 rfl rfl rfl (fun hc => ar rfl) ?_
   refine cD 9 rfl (by kernel_rfl) _ rfl rfl (fun hc => ai Tryz.underlying31 tk66 (aa rfl hc) ((.of (an 10 rfl))) rfl (show _ = some (slR s1) from rfl) rfl rfl) (fun _ => ⟨(0, 0)⟩) (fun ⟨b11_9, o11_9⟩ => ?_)
   refine bW 10 rfl rfl rfl (fun hc => aF (o := 0) tk66 (aa rfl hc) (an 0 rfl) hc rfl) ?_
   refine cD 11 rfl (by kernel_rfl) _ rfl rfl (fun hc => ai Tryz.underlying66 tk65 (aa rfl hc) ((fun w S hp => (show Ent _ (bP (ShF aO.row) [s0, s1, s2]) from .of (an 10 rfl)) w S hp s1 (by simp))) rfl (show (s1.l.map aO.row)[0]? = some (aO.row ⟨2, 1, 0, 0, 2, false⟩) from by rw [e1]; rfl) rfl rfl) (fun _ => ⟨(0, 0)⟩) (fun ⟨b11_11, o11_11⟩ => ?_)
   refine bW 12 rfl rfl rfl (fun hc => aF (o := 0) tk65 (aa rfl hc) (an 0 rfl) hc rfl) ?_
   refine bW 13 rfl rfl rfl (fun hc => ab 5 tk65 rfl rfl rfl) ?_
   refine bW 14 rfl rfl rfl (fun hc => kq ⟨2, 1, 0, 0, 2, false⟩ ⟨2, 1, 0, 0, 2, false⟩ (aa rfl hc) (aa rfl hc)) ?_
   refine bV 15 rfl rfl (bn rfl rfl (fun h => gt rfl h)) ?_
   refine bV 16 rfl rfl (ar rfl) ?_
   refine bW 17 rfl rfl rfl (fun hc => ar rfl) ?_
   refine cD 18 rfl (by kernel_rfl) _ rfl rfl (fun hc => ai Tryz.underlying31 tk66 (aa rfl hc) ((.of (an 12 rfl))) rfl (show _ = some (slR s2) from rfl) rfl rfl) (fun _ => ⟨(0, 0)⟩) (fun ⟨b11_18, o11_18⟩ => ?_)
   refine bW 19 rfl rfl rfl (fun hc => aF (o := 0) tk66 (aa rfl hc) (an 0 rfl) hc rfl) ?_
   refine cD 20 rfl (by kernel_rfl) _ rfl rfl (fun hc => ai Tryz.underlying66 tk65 (aa rfl hc) ((fun w S hp => (show Ent _ (bP (ShF aO.row) [s0, s1, s2]) from .of (an 12 rfl)) w S hp s2 (by simp))) rfl (show (s2.l.map aO.row)[0]? = some (aO.row ⟨2, 1, 0, 0, 2, false⟩) from by rw [e2]; rfl) rfl rfl) (fun _ => ⟨(0, 0)⟩) (fun ⟨b11_20, o11_20⟩ => ?_)
   refine bW 21 rfl rfl rfl (fun hc => aF (o := 0) tk65 (aa rfl hc) (an 0 rfl) hc rfl) ?_
   refine bW 22 rfl rfl rfl (fun hc => ab 5 tk65 rfl rfl rfl) ?_
   refine bW 23 rfl rfl rfl (fun hc => kq ⟨2, 1, 0, 0, 2, false⟩ ⟨2, 1, 0, 0, 2, false⟩ (aa rfl hc) (aa rfl hc)) ?_
   refine bV 24 rfl rfl (bn rfl rfl (fun h => gt rfl h)) ?_
   refine bV 25 rfl rfl (ar rfl) ?_
   refine bW 26 rfl rfl rfl (fun hc => ar rfl) ?_
   refine bW 27 rfl rfl rfl (fun hc => bB (aa rfl hc) rfl) ?_
   refine bV 28 rfl rfl (bn rfl rfl (fun h => gt rfl h)) ?_
   refine bV 29 rfl rfl (ar rfl) ?_
   refine bW 30 rfl rfl rfl (fun hc => ab 6 tk34 rfl rfl rfl) ?_
   refine bW 31 rfl rfl rfl (fun hc => cU (l := [(0, .const (.int .i64 1))]) (zs := [.int .i64 0, .int .i64 0]) (pl := [(0, 1), (1, 1)]) (by kernel_rfl) (by kernel_rfl) (by kernel_rfl) rfl rfl rfl) ?_
   refine bW 32 rfl rfl rfl (fun hc => mo (by kernel_rfl) (by kernel_rfl) (by kernel_rfl) (fun w => fh 9997 _ _ _ [0, 1] w (by kernel_rfl) (by kernel_rfl) rfl rfl) (aa rfl hc) (aa rfl hc)) ?_
   refine bV 33 rfl rfl (bn rfl rfl (fun h => gt rfl h)) ?_
   refine bV 34 rfl rfl (ar rfl) ?_
   refine bW 35 rfl rfl rfl (fun hc => ar rfl) ?_
   refine bW 36 rfl rfl rfl (fun hc => bB (aa rfl hc) rfl) ?_
   refine bV 37 rfl rfl (bn rfl rfl (fun h => gt rfl h)) ?_
   refine bV 38 rfl rfl (ar rfl) ?_
   refine bW 39 rfl rfl rfl (fun hc => ab 7 tk34 rfl rfl rfl) ?_
   refine bW 40 rfl rfl rfl (fun hc => cU (l := []) (zs := [.int .i64 0, .int .i64 0]) (pl := [(0, 1), (1, 1)]) (by kernel_rfl) (by kernel_rfl) (by kernel_rfl) rfl rfl rfl) ?_
   refine bW 41 rfl rfl rfl (fun hc => mo (by kernel_rfl) (by kernel_rfl) (by kernel_rfl) (fun w => fh 9997 _ _ _ [0, 1] w (by kernel_rfl) (by kernel_rfl) rfl rfl) (aa rfl hc) (aa rfl hc)) ?_
   refine bV 42 rfl rfl (bn rfl rfl (fun h => gt rfl h)) ?_
   refine bV 43 rfl rfl (ar rfl) ?_
   refine bW 44 rfl rfl rfl (fun hc => ar rfl) ?_
   refine bW 45 rfl rfl rfl (fun hc => aZ Tryz.underlying41 (aa rfl hc)) ?_
   refine bW 46 rfl rfl rfl (fun hc => bB (aa rfl hc) rfl) ?_
   refine bV 47 rfl rfl (bn rfl rfl (fun h => gt rfl h)) ?_
   refine bV 48 rfl rfl (ar rfl) ?_
   refine bW 49 rfl rfl rfl (fun hc => ar rfl) ?_
   refine cD 50 rfl (by kernel_rfl) _ rfl rfl (fun hc => ai Tryz.underlying41 tk46 (aa rfl hc) ((.of (an 6 rfl))) rfl (show _ = some (bk.row _) from rfl) rfl rfl) (fun _ => ⟨(0, 0)⟩) (fun ⟨b11_50, o11_50⟩ => ?_)
   refine bW 51 rfl rfl rfl (fun hc => qFA (off := 0) (aa rfl hc)) ?_
   refine bW 52 rfl rfl rfl (fun hc => aF (o := 0) tk9 (aa rfl hc) (an 0 rfl) hc rfl) ?_
   refine bW 53 rfl rfl rfl (fun hc => sd (aa rfl hc) rfl) ?_
   refine bV 54 rfl rfl (bn rfl rfl (fun h => gt rfl h)) ?_
   refine bV 55 rfl rfl (ar rfl) ?_
   refine bW 56 rfl rfl rfl (fun hc => ar rfl) ?_
   refine cD 57 rfl (by kernel_rfl) _ rfl rfl (fun hc => ai Tryz.underlying41 tk46 (aa rfl hc) ((.of (an 7 rfl))) rfl (show _ = some (bk.row _) from rfl) rfl rfl) (fun _ => ⟨(0, 0)⟩) (fun ⟨b11_57, o11_57⟩ => ?_)
   refine bW 58 rfl rfl rfl (fun hc => qFA (off := 2) (aa rfl hc)) ?_
   refine bW 59 rfl rfl rfl (fun hc => aF (o := 2) tk4 (aa rfl hc) (an 0 rfl) hc rfl) ?_
   refine bV 60 rfl rfl (bn rfl rfl (fun h => gt rfl h)) ?_
   refine bV 61 rfl rfl (bJ rfl) ?_
   refine bD (by kernel_rfl) ?_
   refine av (aq ?_)
   refine aV [] [] rfl Tryz.results10 rfl ?_ (.inr rfl)
   simp [et, eL]
 ·skip
  refine id (bp (zs := [.int .i64 0, .int .i64 0]) (by kernel_rfl) rfl (fun b11_9 => ?_))
  refine bST rfl ?_
  refine bM (q := true) 4 rfl (by kernel_rfl) rfl rfl (bF [8, 9, 10] [] (by kernel_rfl) rfl rfl rfl rfl (tg B o B2 o2 2 a1 a2 a3 a4 v1_3 v2_0 v2_1) ?_)
  rintro _ _ _ ⟨rfl, rfl, rfl⟩
  refine bST rfl ?_
  refine bV 5 rfl rfl (ar rfl) ?_
  refine bV 6 rfl rfl (bc rfl rfl) ?_
  refine bV 7 rfl rfl (bc rfl rfl) ?_
  refine bV 8 rfl rfl (bc rfl rfl) ?_
  refine bV 10 rfl rfl (bJ rfl) ?_
  refine bV 11 rfl rfl (bJ rfl) ?_
  refine bM 12 rfl (by kernel_rfl) rfl rfl (aT 7 tk34 rfl rfl rfl rfl ?_)
  refine bST rfl ?_
  refine bD (by kernel_rfl) ?_
  refine av (az (aSR (aM rfl (aU rfl (cN rfl rfl) (aM rfl (aG rfl rfl (fun hc => ar rfl) (aG rfl rfl (fun hc => aZ Tryz.underlying31 (aa rfl hc)) (aG rfl rfl (fun hc => cN (aa rfl hc) rfl) (aU rfl (ct rfl rfl (fun h => gf rfl h)) (aM rfl (aG rfl rfl (fun hc => ar rfl) ?_)))))))))))
  refine ck _ rfl rfl (fun hc => ai Tryz.underlying31 tk66 (aa rfl hc) ((.of (an 2 rfl))) rfl (show _ = some (slR s0) from rfl) rfl rfl) (fun _ => ⟨(0, 0)⟩) (fun ⟨b8_9, o8_9⟩ => ?_)
  refine aG rfl rfl (fun hc => aF (o := 0) tk66 (aa rfl hc) (an 0 rfl) hc rfl) (aG rfl rfl (fun hc => aZ Tryz.underlying66 (aa rfl hc)) (aG rfl rfl (fun hc => cN (aa rfl hc) rfl) (aU rfl (ct rfl rfl (fun h => gf rfl h)) (aM rfl (aG rfl rfl (fun hc => ar rfl) ?_)))))
  refine ck _ rfl rfl (fun hc => ai Tryz.underlying31 tk66 (aa rfl hc) ((.of (an 3 rfl))) rfl (show _ = some (slR s1) from rfl) rfl rfl) (fun _ => ⟨(0, 0)⟩) (fun ⟨b8_16, o8_16⟩ => ?_)
  refine aG rfl rfl (fun hc => aF (o := 0) tk66 (aa rfl hc) (an 0 rfl) hc rfl) (aG rfl rfl (fun hc => aZ Tryz.underlying66 (aa rfl hc)) (aG rfl rfl (fun hc => cN (aa rfl hc) rfl) (aU rfl (ct rfl rfl (fun h => gf rfl h)) (aM rfl (aG rfl rfl (fun hc => ar rfl) ?_)))))
  refine ck _ rfl rfl (fun hc => ai Tryz.underlying31 tk66 (aa rfl hc) ((.of (an 4 rfl))) rfl (show _ = some (slR s2) from rfl) rfl rfl) (fun _ => ⟨(0, 0)⟩) (fun ⟨b8_23, o8_23⟩ => ?_)
  refine aG rfl rfl (fun hc => aF (o := 0) tk66 (aa rfl hc) (an 0 rfl) hc rfl) (aG rfl rfl (fun hc => aZ Tryz.underlying66 (aa rfl hc)) (aG rfl rfl (fun hc => cN (aa rfl hc) rfl) (aU rfl (ct rfl rfl (fun h => gf rfl h)) (aNn ?_))))
  refine ah _ rfl (fun h2 => ?_) (fun h2 => ?_)
  ·skip
   exfalso; simp [e0, e1, e2] at h2
  ·skip
   refine au (av (az ?_))
   refine aX [] (by kernel_rfl) ?_
   show aB _ _ _ _ _ 9 #[false, false, false, false, false, false, false, false, false] _
   refine bV 0 rfl rfl (ar rfl) ?_
   refine bV 1 rfl rfl (gr 1 2 el22 rfl rfl rfl rfl rfl (by decide) (show 2 ≤ 3 by decide) (show 3 ≤ 3 by decide)) ?_
   refine bV 2 rfl rfl (ar rfl) ?_
   refine bV 3 rfl rfl (gr 1 2 el27 rfl rfl rfl rfl rfl (by decide) (show 2 ≤ 3 by decide) (show 3 ≤ 3 by decide)) ?_
   refine bV 4 rfl rfl (cU (l := [(0, .const (.int .i64 2)), (4, .const (.int .i64 1))]) (zs := [.int .i64 0, .int .i64 0, .int .i64 0, .int .i64 0, .int .i64 0, .bool false]) (pl := [(0, 1), (1, 1), (2, 1), (3, 1), (4, 1), (5, 1)]) (by kernel_rfl) (by kernel_rfl) (by kernel_rfl) rfl rfl rfl) ?_
   refine ig (zs := [.int .i64 0, .int .i64 0, .int .i64 0, .int .i64 0, .int .i64 0, .bool false]) (l := [(0, .tmp 85)]) 5 rfl (by kernel_rfl) el66 (by kernel_rfl) (by decide) (by decide) (by decide) rfl rfl rfl rfl (.more rfl (.v rfl (.v rfl (.v rfl (.v rfl (.v rfl (.v rfl .nil)))))) .nil) rfl rfl (fun v10_5 => ?_)
   refine ig (zs := [.slice none 0 0]) (l := [(0, .tmp 86)]) 6 rfl (by kernel_rfl) el31 (by kernel_rfl) (by decide) (by decide) (by decide) rfl rfl rfl rfl (.more rfl (.v rfl .nil) .nil) rfl rfl (fun v10_6 => ?_)
   refine bM (q := true) 7 rfl (by kernel_rfl) rfl rfl (bF [8, 6, 7, 19, 20] [] (by kernel_rfl) rfl rfl rfl rfl (nq B o 2 a1 a2 a3 a4 v1_3 v10_5 v10_6 _) ?_)
   rintro _ _ _ ⟨rfl, vE, rfl, rfl⟩
   refine bST rfl ?_
   refine bV 8 rfl rfl (bJ rfl) ?_
   refine bD (by kernel_rfl) ?_
   refine av (az (dr 8 rfl ?_))
   refine fo (.of (an 0 rfl)) (fun adE cpE hvE => ?_)
   subst hvE
   refine aX [] (by kernel_rfl) ?_
   show aB _ _ _ _ _ 62 #[false, false, false, false, false, false, false, false, false, false, false, false, false, false, false, false, false, false, false, false, false, false, false, false, false, false, false, false, false, false, false, false, false, false, false, false, false, false, false, false, false, false, false, false, false, false, false, false, false, false, false, false, false, false, false, false, false, false, false, false, false, false] _
   refine bV 0 rfl rfl (ar rfl) ?_
   refine cD 1 rfl (by kernel_rfl) true rfl rfl (fun _ => ai Tryz.underlying31 tk66 rfl ((.of (an 8 rfl))) rfl (show _ = some (slR s0) from rfl) rfl rfl) (fun h => absurd h (by decide)) (fun ⟨b11_1, o11_1⟩ => ?_)
   refine bV 2 rfl rfl (aF (o := 0) tk66 rfl (an 0 rfl) rfl rfl) ?_
   refine cD 3 rfl (by kernel_rfl) true rfl rfl (fun _ => ai Tryz.underlying66 tk65 rfl ((fun w S hp => (show Ent _ (bP (ShF aO.row) [s0, s1, s2]) from .of (an 8 rfl)) w S hp s0 (by simp))) rfl (show (s0.l.map aO.row)[0]? = some (aO.row ⟨2, 1, 0, 0, 2, false⟩) from by rw [e0]; rfl) rfl rfl) (fun h => absurd h (by decide)) (fun ⟨b11_3, o11_3⟩ => ?_)
   refine bV 4 rfl rfl (aF (o := 0) tk65 rfl (an 0 rfl) rfl rfl) ?_
   refine bV 5 rfl rfl (ab 5 tk65 rfl rfl rfl) ?_
   refine bV 6 rfl rfl (kq ⟨2, 1, 0, 0, 2, false⟩ ⟨2, 1, 0, 0, 2, false⟩ rfl rfl) ?_
   refine bV 7 rfl rfl (ar rfl) ?_
   refine bW 8 rfl rfl rfl (fun hc => ar rfl) ?_
   refine cD 9 rfl (by kernel_rfl) _ rfl rfl (fun hc => ai Tryz.underlying31 tk66 (aa rfl hc) ((.of (an 10 rfl))) rfl (show _ = some (slR s1) from rfl) rfl rfl) (fun _ => ⟨(0, 0)⟩) (fun ⟨b11_9, o11_9⟩ => ?_)
   refine bW 10 rfl rfl rfl (fun hc => aF (o := 0) tk66 (aa rfl hc) (an 0 rfl) hc rfl) ?_
   refine cD 11 rfl (by kernel_rfl) _ rfl rfl (fun hc => ai Tryz.underlying66 tk65 (aa rfl hc) ((fun w S hp => (show Ent _ (bP (ShF aO.row) [s0, s1, s2]) from .of (an 10 rfl)) w S hp s1 (by simp))) rfl (show (s1.l.map aO.row)[0]? = some (aO.row ⟨2, 1, 0, 0, 2, false⟩) from by rw [e1]; rfl) rfl rfl) (fun _ => ⟨(0, 0)⟩) (fun ⟨b11_11, o11_11⟩ => ?_)
   refine bW 12 rfl rfl rfl (fun hc => aF (o := 0) tk65 (aa rfl hc) (an 0 rfl) hc rfl) ?_
   refine bW 13 rfl rfl rfl (fun hc => ab 5 tk65 rfl rfl rfl) ?_
   refine bW 14 rfl rfl rfl (fun hc => kq ⟨2, 1, 0, 0, 2, false⟩ ⟨2, 1, 0, 0, 2, false⟩ (aa rfl hc) (aa rfl hc)) ?_
   refine bV 15 rfl rfl (bn rfl rfl (fun h => gt rfl h)) ?_
   refine bV 16 rfl rfl (ar rfl) ?_
   refine bW 17 rfl rfl rfl (fun hc => ar rfl) ?_
   refine cD 18 rfl (by kernel_rfl) _ rfl rfl (fun hc => ai Tryz.underlying31 tk66 (aa rfl hc) ((.of (an 12 rfl))) rfl (show _ = some (slR s2) from rfl) rfl rfl) (fun _ => ⟨(0, 0)⟩) (fun ⟨b11_18, o11_18⟩ => ?_)
   refine bW 19 rfl rfl rfl (fun hc => aF (o := 0) tk66 (aa rfl hc) (an 0 rfl) hc rfl) ?_
   refine cD 20 rfl (by kernel_rfl) _ rfl rfl (fun hc => ai Tryz.underlying66 tk65 (aa rfl hc) ((fun w S hp => (show Ent _ (bP (ShF aO.row) [s0, s1, s2]) from .of (an 12 rfl)) w S hp s2 (by simp))) rfl (show (s2.l.map aO.row)[0]? = some (aO.row ⟨2, 1, 0, 0, 2, false⟩) from by rw [e2]; rfl) rfl rfl) (fun _ => ⟨(0, 0)⟩) (fun ⟨b11_20, o11_20⟩ => ?_)
   refine bW 21 rfl rfl rfl (fun hc => aF (o := 0) tk65 (aa rfl hc) (an 0 rfl) hc rfl) ?_
   refine bW 22 rfl rfl rfl (fun hc => ab 5 tk65 rfl rfl rfl) ?_
   refine bW 23 rfl rfl rfl (fun hc => kq ⟨2, 1, 0, 0, 2, false⟩ ⟨2, 1, 0, 0, 2, false⟩ (aa rfl hc) (aa rfl hc)) ?_
   refine bV 24 rfl rfl (bn rfl rfl (fun h => gt rfl h)) ?_
   refine bV 25 rfl rfl (ar rfl) ?_
   refine bW 26 rfl rfl rfl (fun hc => ar rfl) ?_
   refine bW 27 rfl rfl rfl (fun hc => bB (aa rfl hc) rfl) ?_
   refine bV 28 rfl rfl (bn rfl rfl (fun h => gt rfl h)) ?_
   refine bV 29 rfl rfl (ar rfl) ?_
   refine bW 30 rfl rfl rfl (fun hc => ab 6 tk34 rfl rfl rfl) ?_
   refine bW 31 rfl rfl rfl (fun hc => cU (l := [(0, .const (.int .i64 1))]) (zs := [.int .i64 0, .int .i64 0]) (pl := [(0, 1), (1, 1)]) (by kernel_rfl) (by kernel_rfl) (by kernel_rfl) rfl rfl rfl) ?_
   refine bW 32 rfl rfl rfl (fun hc => mo (by kernel_rfl) (by kernel_rfl) (by kernel_rfl) (fun w => fh 9997 _ _ _ [0, 1] w (by kernel_rfl) (by kernel_rfl) rfl rfl) (aa rfl hc) (aa rfl hc)) ?_
   refine bV 33 rfl rfl (bn rfl rfl (fun h => gt rfl h)) ?_
   refine bV 34 rfl rfl (ar rfl) ?_
   refine bW 35 rfl rfl rfl (fun hc => ar rfl) ?_
   refine bW 36 rfl rfl rfl (fun hc => bB (aa rfl hc) rfl) ?_
   refine bV 37 rfl rfl (bn rfl rfl (fun h => gt rfl h)) ?_
   refine bV 38 rfl rfl (ar rfl) ?_
   refine bW 39 rfl rfl rfl (fun hc => ab 7 tk34 rfl rfl rfl) ?_
   refine bW 40 rfl rfl rfl (fun hc => cU (l := []) (zs := [.int .i64 0, .int .i64 0]) (pl := [(0, 1), (1, 1)]) (by kernel_rfl) (by kernel_rfl) (by kernel_rfl) rfl rfl rfl) ?_
   refine bW 41 rfl rfl rfl (fun hc => mo (by kernel_rfl) (by kernel_rfl) (by kernel_rfl) (fun w => fh 9997 _ _ _ [0, 1] w (by kernel_rfl) (by kernel_rfl) rfl rfl) (aa rfl hc) (aa rfl hc)) ?_
   refine bV 42 rfl rfl (bn rfl rfl (fun h => gt rfl h)) ?_
   refine bV 43 rfl rfl (ar rfl) ?_
   refine bW 44 rfl rfl rfl (fun hc => ar rfl) ?_
   refine bW 45 rfl rfl rfl (fun hc => aZ Tryz.underlying41 (aa rfl hc)) ?_
   refine bW 46 rfl rfl rfl (fun hc => bB (aa rfl hc) rfl) ?_
   refine bV 47 rfl rfl (bn rfl rfl (fun h => gt rfl h)) ?_
   refine bV 48 rfl rfl (ar rfl) ?_
   refine bW 49 rfl rfl rfl (fun hc => ar rfl) ?_
   refine cD 50 rfl (by kernel_rfl) _ rfl rfl (fun hc => ai Tryz.underlying41 tk46 (aa rfl hc) ((.of (an 6 rfl))) rfl (show _ = some (bk.row _) from rfl) rfl rfl) (fun _ => ⟨(0, 0)⟩) (fun ⟨b11_50, o11_50⟩ => ?_)
   refine bW 51 rfl rfl rfl (fun hc => qFA (off := 0) (aa rfl hc)) ?_
   refine bW 52 rfl rfl rfl (fun hc => aF (o := 0) tk9 (aa rfl hc) (an 0 rfl) hc rfl) ?_
   refine bW 53 rfl rfl rfl (fun hc => sd (aa rfl hc) rfl) ?_
   refine bV 54 rfl rfl (bn rfl rfl (fun h => gt rfl h)) ?_
   refine bV 55 rfl rfl (ar rfl) ?_
   refine bW 56 rfl rfl rfl (fun hc => ar rfl) ?_
   refine cD 57 rfl (by kernel_rfl) _ rfl rfl (fun hc => ai Tryz.underlying41 tk46 (aa rfl hc) ((.of (an 7 rfl))) rfl (show _ = some (bk.row _) from rfl) rfl rfl) (fun _ => ⟨(0, 0)⟩) (fun ⟨b11_57, o11_57⟩ => ?_)
   refine bW 58 rfl rfl rfl (fun hc => qFA (off := 2) (aa rfl hc)) ?_
   refine bW 59 rfl rfl rfl (fun hc => aF (o := 2) tk4 (aa rfl hc) (an 0 rfl) hc rfl) ?_
   refine bV 60 rfl rfl (bn rfl rfl (fun h => gt rfl h)) ?_
   refine bV 61 rfl rfl (bJ rfl) ?_
   refine bD (by kernel_rfl) ?_
   refine av (aq ?_)
   refine aV [] [] rfl Tryz.results10 rfl ?_ (.inr rfl)
   simp [et, eL]
end Go.Proofs.YtgmiihmahaahiaaGreatDoor

namespace Go.Sy
open Go.RowKit Go.Lp
section
variable {P : Program} {n : Fr} {d : Option Tmp} {ty : TypeId} {pos : String} {af : Array Edge} {gd : Option (Nat × Bool)} {s : Sta} {x y : Operand} {t t' : TypeId} {a b : ByteArray}
end
end Go.Sy
namespace Go.Proofs.YtgmiihmahaahiaaGreatDoor
open Go.RowKit Go.Lp Go.Sy
open Go.Proofs.Tryz
section
variable {kp : List (Sl Bool)} {L : List Dfn} {sv : ByteArray → ByteArray → Bool} {lf : ByteArray → ByteArray → Int} {lib : Bool}
theorem xW (h : RB kp L sv lf lib) {d : Dfn} (hd : d ∈ L) : (((chD kp L sv lf lib d).kind = 2 ∨ (chD kp L sv lf lib d).kind = 3) ∧ (chD kp L sv lf lib d).obj = d.p.obj ∧ (chD kp L sv lf lib d).sym = d.p.sym) ↔ fD kp L d = true := by
 constructor
 · rintro ⟨h1, h2, h3⟩
   obtain ⟨_, e, he, hx⟩ := xO h1
   obtain ⟨m1, m2, _⟩ := jm h.asc he
   rw [hx] at h2 h3
   have hp : e.p = d.p := by
     have a1 : e.p.obj = d.p.obj := h2
     have a2 : e.p.sym = d.p.sym := h3
     cases hep : e.p; cases hdp : d.p; simp_all
   rw [← lj h.asc m1 hd hp]; exact m2
 · intro hc
   have hb : d.s.bind ≠ 0 := by
     have := l0 h.asc hd hc
     intro hb; unfold dN at this; simp [hb] at this
   rw [qD hb (sJ h.asc h.t2 hd hc)]
   refine ⟨?_, rfl, rfl⟩
   unfold zt
   by_cases h3 : d.s.bind = 3
   · right; simp [h3]
   · left; simp [h3]
end
theorem x8 {os : List ax} {kp : List (Sl Bool)} {sv : ByteArray → ByteArray → Bool} {lf : ByteArray → ByteArray → Int} {lib : Bool} {S : List (Sl aO)} (h : zx os kp sv lf lib S) : iF S (aW os) (aW os) = (mL kp (aW os)).map jg := by
 unfold iF mL
 congr 1
 refine List.filter_congr fun d hd => ?_
 obtain ⟨i, k, hi, hk, hp⟩ := eX.1 hd
 have hg := h.get i k d.s _ hk (bN (by have := h.fits.1; omega))
 have he : elt (elt S d.p.obj).l d.p.sym = chD kp (aW os) sv lf lib d := by
   rw [hp]
   show elt (elt S (i : Int)).l (k : Int) = _
   unfold elt at hg ⊢
   rw [List.getD_eq_getElem?_getD]
   rw [show ((k : Nat) : Int).toNat = k from rfl, hg]
   rw [← hp]; rfl
 unfold qM
 rw [he]
 have := xW h.rb hd
 rw [Bool.eq_iff_iff]
 simp only [Bool.and_eq_true, Bool.or_eq_true, decide_eq_true_eq]
 rw [← this]
 constructor
 · rintro ⟨a, b, c, e⟩; exact ⟨⟨a, b, c⟩, e⟩
 · rintro ⟨⟨a, b, c⟩, e⟩; exact ⟨a, b, c, e⟩
theorem mB (x : G13) (K : Sl (Sl Bool)) (hok : ew x.os.l K.l) (S : Sl (Sl aO)) {sv : ByteArray → ByteArray → Bool} {lf : ByteArray → ByteArray → Int} {lib : Bool} (hB : zx x.os.l K.l sv lf lib S.l) :
   Con Tryz.prog 18 [x.os.val, K.val, S.val] [bP (ShF aO.row) S.l, ShF slR S, x.ok] [] fun r ps hp => ps = [] ∧ hp = [bA r 46 7 ((qS K.l (aW x.os.l)).map bk.row)] := by
 refine ((jJ x.os K.l K.val hok S hB.fits.1 hB.fits.2).pre fun p hp => ?_).post ?_
 · have h : Ent [bP (ShF aO.row) S.l, ShF slR S, x.ok] x.ok := .of (an 2 rfl)
   simp only [List.mem_cons, List.not_mem_nil, or_false] at hp
   rcases hp with rfl | rfl | rfl | rfl
   · exact G13.f_os h
   · exact G13.f_osA h
   · exact .of (an 0 rfl)
   · exact .of (an 1 rfl)
 · rintro r ps hp ⟨h1, v, q, rfl, hq, hs, rfl⟩
   rw [x8 hB] at hq
   rw [rq hB.rb.asc hq hs]
   exact ⟨h1, rfl⟩
structure MnK (xs : List bk) (i : Nat) (m : Int) : Prop where
 lo : m = 0 ∨ m = 1
 wit : m = 1 → ∃ (j p : Nat) (x y : bk), i = p + 1 ∧ j ≤ p ∧ xs[j]? = some x ∧ xs[p]? = some y ∧ x.main = true ∧ x.name = y.name
end Go.Proofs.YtgmiihmahaahiaaGreatDoor

namespace Go.Proofs.YtgmiihmahaahiaaGreatDoor
open Go.RowKit Go.Lp Go.Sy
open Go.Proofs.Tryz
attribute [local irreducible] aL aB awp aC fwp
abbrev pG : ByteArray → List D := fun s => [.v (.string s)]
def yh (l : List ByteArray) (s : ByteArray) : Bool := l.any fun x => decide (x = s)
theorem iA {l : List ByteArray} {s : ByteArray} : yh l s = true ↔ s ∈ l := by
 unfold yh
 rw [List.any_eq_true]
 exact ⟨fun ⟨x, hx, h⟩ => of_decide_eq_true h ▸ hx, fun h => ⟨s, h, decide_eq_true rfl⟩⟩
theorem rm (v : Value) (l : List ByteArray) (s : ByteArray) (hl : l.length ≤ 1000000000) : Con Tryz.prog 103 [v, .string s] [] [bA v 9 1 (l.map pG)] fun r ps hp => ps = [] ∧ r = .bool (yh l s) ∧ hp = [bA v 9 1 (l.map pG)] := by
 refine Con.enter Tryz.func103 rfl (by simp [Tryz.ntmps103]) ?_
 show awp _ _ _ _ ⟨[(0, true, _), (1, true, _)], _, _⟩
 refine aSR (aA rfl (aNs (aSR (aA rfl (aNn (aw ?_))))))
 refine aP [0, 1, 5] [] [0] (fun (i : Nat) st => (i ≤ l.length ∧ s ∉ l.take i) ∧ st = ⟨[(0, true, v), (1, true, .string s), (5, true, .int .i64 i)], [], [bA v 9 1 (l.map pG)]⟩) (fun i => l.length - i) rfl (⟨0, ⟨Nat.zero_le _, by simp⟩, rfl⟩) ?_
 rintro i st ⟨⟨hi, hno⟩, rfl⟩
 refine az (aSR (aM rfl (aM rfl (aU rfl (fG 0 Tryz.underlying77 rfl rfl) (aU rfl (bt rfl rfl) (aNn ?_))))))
 refine ah _ rfl (fun h1 => ?_) (fun h1 => ?_)
 ·skip
  have hi' : i < l.length := by simpa using h1
  obtain ⟨x, hx⟩ : ∃ x, l[i]? = some x := ⟨_, List.getElem?_eq_getElem hi'⟩
  refine au (av (az (aw (aSR (aM rfl (aM rfl ?_))))))
  refine aU rfl (dV 0 i el77 rfl rfl rfl rfl (by simpa using hi')) ?_
  refine aU rfl (ez (u := .string x) 0 i 0 tk9 rfl rfl (aJ hx) rfl rfl) (aM rfl (aU rfl (cZ rfl rfl) (aNn ?_)))
  refine ah _ rfl (fun h2 => ?_) (fun h2 => ?_)
  ·skip
   have hxs : x = s := by simpa using h2
   refine aSR (aA rfl (aNn (aq (bj (aK (aK (bj (aK ?_))))))))
   refine aV [] [0] rfl Tryz.results103 rfl ?_ (.inr rfl)
   exact ⟨rfl, by rw [iA.2 (hxs ▸ List.mem_of_getElem? hx)], rfl⟩
  ·skip
   have hxs : x ≠ s := by simpa using h2
   refine au (bu (av (ae (aM rfl ?_))))
   refine aU rfl (bf rfl rfl (by omega)) ?_
   refine aA rfl (aNn ?_)
   refine ⟨[0, 1, 5], [], [0], rfl, ?_⟩
   refine ⟨i + 1, ⟨⟨by omega, fun hm => ?_⟩, rfl⟩, by omega⟩
   rw [List.take_add_one, hx, List.mem_append] at hm
   rcases hm with hm | hm
   · exact hno hm
   · simp at hm; exact hxs hm.symm
 ·skip
  refine aR (aS (aS (aY (av (aSR (aA rfl (aNn (aq ?_))))))))
  refine aV [] [0] rfl Tryz.results103 rfl ?_ (.inr rfl)
  refine ⟨rfl, ?_, rfl⟩
  have hge : l.length ≤ i := by simpa using h1
  rw [List.take_of_length_le hge] at hno
  rw [show yh l s = false from Bool.eq_false_iff.2 fun h => hno (iA.1 h)]
section
variable {vs : List aH} {n : ByteArray}
theorem vC {i : Nat} {x : aH} (hx : vs[i]? = some x) (hn : x.name = n) (hno : ∀ d ∈ vs.take i, d.name ≠ n) : ga vs n = some i := by
 obtain ⟨hi, hi2⟩ := List.getElem?_eq_some_iff.1 hx
 unfold ga
 rw [List.findIdx?_eq_some_iff_getElem]
 refine ⟨hi, by rw [hi2]; exact decide_eq_true hn, fun j hj => ?_⟩
 have := hno vs[j] (List.mem_take_iff_getElem.2 ⟨j, by omega, rfl⟩)
 simpa using this
theorem tR (hno : ∀ d ∈ vs, d.name ≠ n) : ga vs n = none := by
 unfold ga
 rw [List.findIdx?_eq_none_iff]
 exact fun d hd => decide_eq_false (hno d hd)
theorem vR {j : Nat} (h : ga vs n = some j) : ∃ d, vs[j]? = some d := by
 unfold ga at h
 rw [List.findIdx?_eq_some_iff_getElem] at h
 exact ⟨_, List.getElem?_eq_getElem h.1⟩
theorem xJ (h : mH (ga vs n) < 0) : gy vs n = [] := by
 unfold gy
 cases hv : ga vs n with
 | none => rfl
 | some j => rw [hv] at h; simp [mH] at h; omega
theorem wk {o : Option Nat} (h : 0 ≤ mH o) : ∃ j, o = some j := by
 cases o with
 | none => simp [mH] at h
 | some j => exact ⟨j, rfl⟩
theorem kg {α : Type} [Inhabited α] {l : List α} {i : Nat} {x : α} (h : l[i]? = some x) : elt l (i : Int) = x := by
 unfold elt
 rw [List.getD_eq_getElem?_getD, show ((i : Nat) : Int).toNat = i from rfl, h]; rfl
end
theorem x0 {ifs : List bC} {i : Nat} {f : bC} (h : Ent [bP bC.ok ifs] (bP bC.ok ifs)) (hf : ifs[i]? = some f) : ∀ p ∈ [ShF aH.row f.versions, bP aH.ok f.versions.l], Ent [bP bC.ok ifs] p := fun p hp => by
 simp only [List.mem_cons, List.not_mem_nil, or_false] at hp
 rcases hp with rfl | rfl
 · exact bC.f_versions (Ent.all h hf)
 · exact bC.f_versionsA (Ent.all h hf)
theorem yO {f : bC} {n v : ByteArray} {e : cP} (hn : e.name = n) : exR f (n, v) e = (decide (v = ⟨#[]⟩) && (e.main || decide (e.version = ⟨#[]⟩)) || !decide (v = ⟨#[]⟩) && di f.versions.l e.version v) := by
 have e0 : (⟨#[]⟩ : ByteArray) = ByteArray.empty := rfl
 rw [e0]
 unfold exR
 rw [decide_eq_true hn]
 by_cases hv : v = ByteArray.empty <;> simp [hv]
theorem wE {ifs : List bC} {n v : ByteArray} {i : Nat} {f : bC} {e : cP} (hf : ifs[i]? = some f) (he : e ∈ f.exports.l) (hx : exR f (n, v) e = true) (hno : ∀ g ∈ ifs.take i, ifR (n, v) g = false) : cA ifs n v = (i : Int) := by
 obtain ⟨hi, hi2⟩ := List.getElem?_eq_some_iff.1 hf
 unfold cA
 rw [show ifs.findIdx? (ifR (n, v)) = some i from ?_]
 · rfl
 · rw [List.findIdx?_eq_some_iff_getElem]
   refine ⟨hi, ?_, fun j hj => ?_⟩
   · rw [hi2]; unfold ifR; exact List.any_eq_true.2 ⟨e, he, hx⟩
   · rw [hno ifs[j] (List.mem_take_iff_getElem.2 ⟨j, by omega, rfl⟩)]; simp
theorem xB {ifs : List bC} {n v : ByteArray} (hno : ∀ g ∈ ifs, ifR (n, v) g = false) : cA ifs n v = -1 := by
 unfold cA
 rw [List.findIdx?_eq_none_iff.2 hno]; rfl
theorem tM (vs : Sl aH) (n : ByteArray) : Con Tryz.prog 208 [vs.val, .string n] [ShF aH.row vs] [] fun r _ _ => r = .int .i64 (mH (ga vs.l n)) := by
 refine Con.enter Tryz.func208 rfl (by simp [Tryz.ntmps208]) ?_
 show awp _ _ _ _ ⟨[(0, true, _), (1, true, _)], _, _⟩
 refine bd (.of (an 0 rfl)) (fun hlen => ?_)
 refine aSR (aA rfl (aNs (aSR (aA rfl (aNn (aw ?_))))))
 refine aP [0, 1, 5] [0] [] (fun (i : Nat) st => (i ≤ vs.l.length ∧ ∀ d ∈ vs.l.take i, d.name ≠ n) ∧ st = ⟨[(0, true, vs.val), (1, true, .string n), (5, true, .int .i64 i)], [ShF aH.row vs], []⟩) (fun i => vs.l.length - i) rfl (⟨0, ⟨Nat.zero_le _, by simp⟩, rfl⟩) ?_
 rintro i st ⟨⟨hi, hno⟩, rfl⟩
 refine az (aSR (aM rfl (aM rfl (aU rfl (aZ Tryz.underlying24 rfl) (aU rfl (bt rfl rfl) (aNn ?_))))))
 refine ah _ rfl (fun h1 => ?_) (fun h1 => ?_)
 ·skip
  have hi' : i < vs.l.length := by simp at h1; omega
  obtain ⟨x, hx⟩ : ∃ x, vs.l[i]? = some x := ⟨_, List.getElem?_eq_getElem hi'⟩
  refine au (av (az (aw (aSR (aM rfl (aM rfl ?_))))))
  refine ck true rfl rfl (fun _ => ai Tryz.underlying24 tk178 rfl ((.of (an 0 rfl))) rfl (aJ hx) rfl rfl) (fun h => absurd h (by decide)) (fun ⟨b4_2, o4_2⟩ => ?_)
  refine aU rfl (qFA (off := 0) rfl) ?_
  refine aU rfl (aF (o := 0) tk9 rfl (an 0 rfl) rfl rfl) (aM rfl (aU rfl (cZ rfl rfl) (aNn ?_)))
  refine ah _ rfl (fun h2 => ?_) (fun h2 => ?_)
  ·skip
   have hxs : x.name = n := by simpa using h2
   refine aSR (aM rfl (aA rfl (aNn (aq (bj (aK (aK (bj (aK ?_)))))))))
   refine aV [] [] rfl Tryz.results208 rfl ?_ (.inr rfl)
   rw [vC hx hxs hno]; rfl
  ·skip
   have hxs : x.name ≠ n := by simpa using h2
   refine au (bu (av (ae (aM rfl ?_))))
   refine aU rfl (bf rfl rfl (by omega)) ?_
   refine aA rfl (aNn ?_)
   refine ⟨[0, 1, 5], [0], [], rfl, ?_⟩
   refine ⟨i + 1, ⟨⟨by omega, fun d hd => ?_⟩, rfl⟩, by omega⟩
   rw [List.take_add_one, hx, List.mem_append] at hd
   rcases hd with hd | hd
   · exact hno d hd
   · simp at hd; subst hd; exact hxs
 ·skip
  refine aR (aS (aS (aY (av (aSR (aA rfl (aNn (aq ?_))))))))
  refine aV [] [] rfl Tryz.results208 rfl ?_ (.inr rfl)
  have hge : vs.l.length ≤ i := by simp at h1; omega
  rw [List.take_of_length_le hge] at hno
  rw [tR hno]; rfl
theorem wm (vs : Sl aH) (v : ByteArray) (hU : (univ vs.l v).length ≤ 900000000) : Con Tryz.prog 104 [vs.val, .string v] [ShF aH.row vs, bP aH.ok vs.l] [] fun r ps hp => ps = [] ∧ ∃ l : List ByteArray, l.length ≤ 900000000 ∧ (∀ x, x ∈ l ↔ Srv vs.l v x) ∧ hp = [bA r 9 1 (l.map pG)] := by
 refine Con.enter Tryz.func104 rfl (by simp [Tryz.ntmps104]) ?_
 show awp _ _ _ _ ⟨[(0, true, _), (1, true, _)], _, _⟩
 refine bd (.of (an 0 rfl)) (fun hlen => ?_)
 refine aSR (aA rfl (aNn (aSR (aM rfl ?_))))
 refine aj (q := true) rfl (cG (zs := [.string .empty]) (l := [(0, .tmp 9)]) el77 (by kernel_rfl) (by decide) (by decide) (by decide) rfl rfl rfl (.more rfl (.v rfl .nil) .nil) rfl rfl (fun v1_1 => ?_))
 refine aHN ?_
 refine aA rfl (aNs (aSR (aA rfl (cr ?_))))
 refine av (aw (aP [0, 5, 6] [1, 0] [0] (fun (z : List ByteArray × Nat × Value) st => (fL vs.l v z.1 z.2.1 0 ∧ z.2.1 ≤ z.1.length) ∧ st = ⟨[(0, true, vs.val), (5, true, z.2.2), (6, true, .int .i64 z.2.1)], [ShF aH.row vs, bP aH.ok vs.l], [bA z.2.2 9 1 (z.1.map pG)]⟩) (fun z => (univ vs.l v).length - z.2.1) rfl (⟨([v], 0, _), ⟨.start v, Nat.zero_le _⟩, rfl⟩) ?_))
 rintro ⟨l, i, ov⟩ st ⟨⟨hA, hi⟩, rfl⟩
 dsimp only at hA hi
 dsimp only
 have hle := hA.le
 refine az (aSR (aM rfl (aM rfl (aU rfl (fG 0 Tryz.underlying77 rfl rfl) (aU rfl (bt rfl rfl) (aNn ?_))))))
 refine ah _ rfl (fun h1 => ?_) (fun h1 => ?_)
 ·skip
  have hi' : i < l.length := by simpa using h1
  obtain ⟨x, hx⟩ : ∃ x, l[i]? = some x := ⟨_, List.getElem?_eq_getElem hi'⟩
  refine au (av (az (aw (aSR (aM rfl (aM rfl (aM rfl ?_)))))))
  refine aU rfl (dV 0 i el77 rfl rfl rfl rfl (by simpa using hi')) ?_
  refine aU rfl (ez (u := .string x) 0 i 0 tk9 rfl rfl (aJ hx) rfl rfl) ?_
  refine aU rfl (bw (by kernel_rfl) rfl (fun w S fp hst => (tM vs x).quiet1 (an 0 rfl) hst)) ?_
  refine aA rfl (aNs (aSR (aM rfl (aU rfl (bt rfl rfl) (aNn ?_)))))
  refine ah _ rfl (fun h2 => ?_) (fun h2 => ?_)
  ·skip
   have hp0 : gy vs.l x = [] := xJ (by simpa using h2)
   refine aR (aS (aY (av (ae (aM rfl ?_)))))
   refine aU rfl (bf rfl rfl (by omega)) ?_
   refine aA rfl (aNn ?_)
   refine ⟨[0, 5, 6], [1, 0], [0], rfl, ?_⟩
   exact ⟨(l, i + 1, ov), ⟨⟨hA.next hx (by rw [hp0]; simp), by dsimp only; omega⟩, rfl⟩, by dsimp only; omega⟩
  ·skip
   obtain ⟨j, hj⟩ : ∃ j, ga vs.l x = some j := wk (by simpa using h2)
   obtain ⟨d, hd⟩ := vR hj
   have hpar : gy vs.l x = d.parents.l := by unfold gy; rw [hj]; dsimp only; rw [kg hd]
   rw [hj]
   refine bd (aH.f_parents (Ent.all (.of (an 1 rfl)) hd)) (fun hlenp => ?_)
   refine au (av (aSR (aA rfl (aNn (aw ?_)))))
   refine aP [0, 5, 6, 7, 8] [1, 0] [0] (fun (z : List ByteArray × Nat × Value) st => (fL vs.l v z.1 i z.2.1 ∧ i < z.1.length ∧ z.1[i]? = some x ∧ z.2.1 ≤ d.parents.l.length) ∧ st = ⟨[(0, true, vs.val), (5, true, z.2.2), (6, true, .int .i64 i), (7, true, .int .i64 (mH (some j))), (8, true, .int .i64 z.2.1)], [ShF aH.row vs, bP aH.ok vs.l], [bA z.2.2 9 1 (z.1.map pG)]⟩) (fun z => d.parents.l.length - z.2.1) rfl (⟨(l, 0, ov), ⟨hA, hi', hx, Nat.zero_le _⟩, rfl⟩) ?_
   clear hA hi hle h1 hi' hx
   rintro ⟨l, k, ov⟩ st ⟨⟨hA, hi', hx, hk⟩, rfl⟩
   dsimp only at hA hi' hx hk
   dsimp only
   have hle := hA.le
   refine az (aSR (aM rfl (aM rfl (aM rfl ?_))))
   refine ck true rfl rfl (fun _ => ai Tryz.underlying24 tk178 rfl ((.of (an 0 rfl))) rfl (aJ hd) rfl rfl) (fun h => absurd h (by decide)) (fun ⟨b8_3, o8_3⟩ => ?_)
   refine aU rfl (qFA (off := 1) rfl) ?_
   refine aU rfl (aF (o := 1) tk77 rfl (an 0 rfl) rfl rfl) (aU rfl (aZ Tryz.underlying77 rfl) (aU rfl (bt rfl rfl) (aNn ?_)))
   refine ah _ rfl (fun h3 => ?_) (fun h3 => ?_)
   ·skip
    have hk' : k < d.parents.l.length := by simp at h3; omega
    obtain ⟨p, hp⟩ : ∃ p, d.parents.l[k]? = some p := ⟨_, List.getElem?_eq_getElem hk'⟩
    refine au (av (az (aw (aSR (aM rfl (aM rfl (aM rfl ?_)))))))
    refine ck true rfl rfl (fun _ => ai Tryz.underlying24 tk178 rfl ((.of (an 1 rfl))) rfl (aJ hd) rfl rfl) (fun h => absurd h (by decide)) (fun ⟨b10_3, o10_3⟩ => ?_)
    refine aU rfl (qFA (off := 1) rfl) ?_
    refine aU rfl (aF (o := 1) tk77 rfl (an 0 rfl) rfl rfl) (aM rfl ?_)
    refine ck true rfl rfl (fun _ => ai Tryz.underlying77 tk9 rfl ((aH.f_parents (Ent.all (.of (an 3 rfl)) hd))) rfl (aJ hp) rfl rfl) (fun h => absurd h (by decide)) (fun ⟨b10_7, o10_7⟩ => ?_)
    refine aU rfl (aF (o := 0) tk9 rfl (an 0 rfl) rfl rfl) ?_
    refine aj (q := false) rfl (bF [] [0] (by kernel_rfl) rfl rfl rfl rfl (rm ov l p (by omega)) ?_)
    rintro _ _ _ ⟨rfl, rfl, rfl⟩
    refine aST ?_
    refine aU rfl (bT rfl) (aNn ?_)
    refine ah _ rfl (fun h4 => ?_) (fun h4 => ?_)
    ·skip
     have hpl : p ∉ l := fun h => by rw [iA.2 h] at h4; cases h4
     refine ae (aM rfl (aM rfl (aM rfl ?_)))
     refine ck true rfl rfl (fun _ => ai Tryz.underlying24 tk178 rfl ((.of (an 3 rfl))) rfl (aJ hd) rfl rfl) (fun h => absurd h (by decide)) (fun ⟨b11_3, o11_3⟩ => ?_)
     refine aU rfl (qFA (off := 1) rfl) ?_
     refine aU rfl (aF (o := 1) tk77 rfl (an 0 rfl) rfl rfl) (aM rfl ?_)
     refine ck true rfl rfl (fun _ => ai Tryz.underlying77 tk9 rfl ((aH.f_parents (Ent.all (.of (an 5 rfl)) hd))) rfl (aJ hp) rfl rfl) (fun h => absurd h (by decide)) (fun ⟨b11_7, o11_7⟩ => ?_)
     refine aU rfl (aF (o := 0) tk9 rfl (an 0 rfl) rfl rfl) ?_
     refine aj (q := true) rfl (cG (zs := [.string .empty]) (l := [(0, .tmp 54)]) el77 (by kernel_rfl) (by decide) (by decide) (by decide) rfl rfl rfl (.more rfl (.v rfl .nil) .nil) rfl rfl (fun v11_9 => ?_))
     refine aHN ?_
     refine aj rfl (cE 0 el77 rfl rfl rfl rfl (dH 1 el77 rfl (by simp)) (by first | assumption | simp) (by simp; omega) _ rfl (fun v11_10 c11_10 => ?_))
     refine aHK ?_
     refine aA rfl (cr (bu (av (ae (aM rfl ?_)))))
     refine aU rfl (bf rfl rfl (by omega)) ?_
     refine aA rfl (aNn ?_)
     refine ⟨[0, 5, 6, 7, 8], [1, 0], [0], rfl, ?_⟩
     refine ⟨(l ++ [p], k + 1, .slice v11_10 ((l.map pG).length + 1) c11_10), ⟨⟨hA.add hx (by rw [hpar]; exact hp) hpl, by simp; omega, by rw [List.getElem?_append_left hi']; exact hx, by dsimp only; omega⟩, ?_⟩, by dsimp only; omega⟩
     show _ = (⟨_, _, [bA _ _ 1 ((l ++ [p]).map pG)]⟩ : Sta)
     rw [List.map_append]
     rfl
    ·skip
     have hpl : p ∈ l := iA.1 (by simpa using h4)
     refine au (bu (av (ae (aM rfl ?_))))
     refine aU rfl (bf rfl rfl (by omega)) ?_
     refine aA rfl (aNn ?_)
     refine ⟨[0, 5, 6, 7, 8], [1, 0], [0], rfl, ?_⟩
     exact ⟨(l, k + 1, ov), ⟨⟨hA.hit hx (by rw [hpar]; exact hp) hpl, hi', hx, by dsimp only; omega⟩, rfl⟩, by dsimp only; omega⟩
   ·skip
    have hkk : d.parents.l.length ≤ k := by simp at h3; omega
    refine aR (aS (aS (aY (bu (av (ae (aM rfl ?_)))))))
    refine aU rfl (bf rfl rfl (by omega)) ?_
    refine aA rfl (aNn ?_)
    refine ⟨[0, 5, 6], [1, 0], [0], rfl, ?_⟩
    exact ⟨(l, i + 1, ov), ⟨⟨hA.next hx (by rw [hpar]; exact hkk), by dsimp only; omega⟩, rfl⟩, by dsimp only; omega⟩
 ·skip
  refine aR (aS (aS (aY (av (aSR (aM rfl (aA rfl (aNn (aq ?_)))))))))
  refine aV [] [0] rfl Tryz.results104 rfl ?_ (.inr rfl)
  exact ⟨rfl, l, by omega, hA.fin (by simpa using h1), rfl⟩
theorem kH (vs : Sl aH) (a b : ByteArray) (hU : (univ vs.l a).length ≤ 900000000) : Con Tryz.prog 48 [vs.val, .string a, .string b] [ShF aH.row vs, bP aH.ok vs.l] [] fun r _ _ => r = .bool (di vs.l a b) := by
 refine Con.enter Tryz.func48 rfl (by simp [Tryz.ntmps48]) ?_
 show awp _ _ _ _ ⟨[(0, true, _), (1, true, _), (2, true, _)], _, _⟩
 refine aSR (aA rfl (aNn (aSR (aM rfl (aM rfl ?_)))))
 refine aj (q := true) rfl (bF [1, 0] [] (by kernel_rfl) rfl rfl rfl rfl (wm vs a hU) ?_)
 rintro v _ _ ⟨rfl, l, hl, hm, rfl⟩
 refine aST ?_
 refine aM rfl ?_
 refine aj (q := false) rfl (bF [] [0] (by kernel_rfl) rfl rfl rfl rfl (rm v l b (by omega)) ?_)
 rintro _ _ _ ⟨rfl, rfl, rfl⟩
 refine aST ?_
 refine aA rfl (aNn (aq ?_))
 refine aV [] [] rfl Tryz.results48 rfl ?_ (.inr rfl)
 congr 1
 rw [Bool.eq_iff_iff, iA, hm, iQ]
theorem w7 (ifs : Sl bC) (n v : ByteArray) (hU : ∀ f ∈ ifs.l, (f.versions.l.flatMap fun d => d.parents.l).length ≤ 800000000) : Con Tryz.prog 23 [ifs.val, .string n, .string v] [ShF bC.row ifs, bP bC.ok ifs.l] [] fun r _ _ => r = .int .i64 (cA ifs.l n v) := by
 refine Con.enter Tryz.func23 rfl (by simp [Tryz.ntmps23]) ?_
 show awp _ _ _ _ ⟨[(0, true, _), (1, true, _), (2, true, _)], _, _⟩
 refine bd (.of (an 0 rfl)) (fun hlen => ?_)
 refine aSR (aA rfl (aNs (aSR (aA rfl (aNn (aw ?_))))))
 refine aP [0, 1, 2, 7] [1, 0] [] (fun (i : Nat) st => (i ≤ ifs.l.length ∧ ∀ f ∈ ifs.l.take i, ifR (n, v) f = false) ∧ st = ⟨[(0, true, ifs.val), (1, true, .string n), (2, true, .string v), (7, true, .int .i64 i)], [ShF bC.row ifs, bP bC.ok ifs.l], []⟩) (fun i => ifs.l.length - i) rfl (⟨0, ⟨Nat.zero_le _, by simp⟩, rfl⟩) ?_
 rintro i st ⟨⟨hi, hno⟩, rfl⟩
 refine az (aSR (aM rfl (aM rfl (aU rfl (aZ Tryz.underlying23 rfl) (aU rfl (bt rfl rfl) (aNn ?_))))))
 refine ah _ rfl (fun h1 => ?_) (fun h1 => ?_)
 ·skip
  have hi' : i < ifs.l.length := by simp at h1; omega
  obtain ⟨f, hf⟩ : ∃ f, ifs.l[i]? = some f := ⟨_, List.getElem?_eq_getElem hi'⟩
  have hUf := hU f (List.mem_of_getElem? hf)
  refine bd (bC.f_exports (Ent.all (.of (an 1 rfl)) hf)) (fun hlene => ?_)
  refine au (av (az (aw (aSR (aA rfl (aNn (aw ?_)))))))
  refine aP [0, 1, 2, 7, 8] [1, 0] [] (fun (k : Nat) st => (k ≤ f.exports.l.length ∧ ∀ e ∈ f.exports.l.take k, exR f (n, v) e = false) ∧ st = ⟨[(0, true, ifs.val), (1, true, .string n), (2, true, .string v), (7, true, .int .i64 i), (8, true, .int .i64 k)], [ShF bC.row ifs, bP bC.ok ifs.l], []⟩) (fun k => f.exports.l.length - k) rfl (⟨0, ⟨Nat.zero_le _, by simp⟩, rfl⟩) ?_
  rintro k st ⟨⟨hk, hnk⟩, rfl⟩
  refine az (aSR (aM rfl (aM rfl (aM rfl ?_))))
  refine ck true rfl rfl (fun _ => ai Tryz.underlying23 tk73 rfl ((.of (an 0 rfl))) rfl (aJ hf) rfl rfl) (fun h => absurd h (by decide)) (fun ⟨b5_3, o5_3⟩ => ?_)
  refine aU rfl (qFA (off := 1) rfl) ?_
  refine aU rfl (aF (o := 1) tk71 rfl (an 0 rfl) rfl rfl) (aU rfl (aZ Tryz.underlying71 rfl) (aU rfl (bt rfl rfl) (aNn ?_)))
  refine ah _ rfl (fun h2 => ?_) (fun h2 => ?_)
  ·skip
   have hk' : k < f.exports.l.length := by simp at h2; omega
   obtain ⟨e, he⟩ : ∃ e, f.exports.l[k]? = some e := ⟨_, List.getElem?_eq_getElem hk'⟩
   have hnext : exR f (n, v) e = false → ∀ x ∈ f.exports.l.take (k + 1), exR f (n, v) x = false := fun h x hx => by
     rw [List.take_add_one, he, List.mem_append] at hx
     rcases hx with hx | hx
     · exact hnk x hx
     · simp at hx; subst hx; exact h
   refine au (av (az (aw (aSR (aM rfl (aM rfl ?_))))))
   refine ck true rfl rfl (fun _ => ai Tryz.underlying23 tk73 rfl ((.of (an 1 rfl))) rfl (aJ hf) rfl rfl) (fun h => absurd h (by decide)) (fun ⟨b7_2, o7_2⟩ => ?_)
   refine aU rfl (qFA (off := 1) rfl) ?_
   refine aU rfl (aF (o := 1) tk71 rfl (an 0 rfl) rfl rfl) (aM rfl ?_)
   refine ck true rfl rfl (fun _ => ai Tryz.underlying71 tk128 rfl ((bC.f_exports (Ent.all (.of (an 3 rfl)) hf))) rfl (aJ he) rfl rfl) (fun h => absurd h (by decide)) (fun ⟨b7_6, o7_6⟩ => ?_)
   refine aU rfl (aF (o := 0) tk128 rfl (an 0 rfl) rfl rfl) ?_
   refine aj (q := true) rfl (bp (zs := [.string .empty, .string .empty, .bool false, .int .i64 0, .int .i64 0, .int .i64 0]) (by kernel_rfl) rfl (fun b7_8 => ?_))
   refine aHN ?_
   refine aj rfl (aT 0 tk128 rfl rfl rfl rfl ?_)
   refine aHK ?_
   refine aNs (aSR ?_)
   refine aU rfl (qFA (off := 0) rfl) ?_
   refine aU rfl (ab 0 tk9 rfl rfl rfl) (aM rfl (aU rfl (fH rfl rfl) (aNn ?_)))
   refine ah _ rfl (fun h3 => ?_) (fun h3 => ?_)
   ·skip
    have hne : ¬ e.name = n := by simpa using h3
    refine aR (aS (aY (av (ae (aM rfl ?_)))))
    refine aU rfl (bf rfl rfl (by omega)) ?_
    refine aA rfl (aNn ?_)
    refine ⟨[0, 1, 2, 7, 8], [1, 0], [], rfl, ?_⟩
    exact ⟨k + 1, ⟨⟨by omega, hnext (by unfold exR; rw [decide_eq_false hne]; rfl)⟩, rfl⟩, by omega⟩
   ·skip
    have hen : e.name = n := by simpa using h3
    refine au (av (az ?_))
    refine aX [] (by kernel_rfl) ?_
    show aB _ _ _ _ _ 26 #[false, false, false, false, false, false, false, false, false, false, false, false, false, false, false, false, false, false, false, false, false, false, false, false, false, false] _
    refine bV 0 rfl rfl (ar rfl) ?_
    refine bV 1 rfl rfl (cZ rfl rfl) ?_
    refine bV 2 rfl rfl (ar rfl) ?_
    refine bW 3 rfl rfl rfl (fun hc => qFA (off := 2) rfl) ?_
    refine bW 4 rfl rfl rfl (fun hc => ab 0 tk4 (aa rfl hc) rfl rfl) ?_
    refine bW 5 rfl rfl rfl (fun hc => ar (aa rfl hc)) ?_
    refine bW 6 rfl rfl rfl (fun hc => qFA (off := 1) rfl) ?_
    refine bW 7 rfl rfl rfl (fun hc => ab 0 tk9 (aa rfl hc) rfl rfl) ?_
    refine bW 8 rfl rfl rfl (fun hc => cZ (aa rfl hc) rfl) ?_
    refine bW 9 rfl rfl rfl (fun hc => ct (aa rfl hc) rfl (fun h => gf hc h)) ?_
    refine bV 10 rfl rfl (bn rfl rfl (fun h => gt rfl h)) ?_
    refine bV 11 rfl rfl (ar rfl) ?_
    refine bW 12 rfl rfl rfl (fun hc => ar rfl) ?_
    refine bW 13 rfl rfl rfl (fun hc => fH (aa rfl hc) rfl) ?_
    refine bW 14 rfl rfl rfl (fun hc => ar (aa rfl hc)) ?_
    refine bW 15 rfl rfl rfl (fun hc => ar rfl) ?_
    refine bW 16 rfl rfl rfl (fun hc => ar rfl) ?_
    refine cD 17 rfl (by kernel_rfl) _ rfl rfl (fun hc => ai Tryz.underlying23 tk73 (aa rfl hc) ((.of (an 3 rfl))) (aa rfl hc) (aJ hf) rfl rfl) (fun _ => ⟨(0, 0)⟩) (fun ⟨b9_17, o9_17⟩ => ?_)
    refine bW 18 rfl rfl rfl (fun hc => qFA (off := 2) (aa rfl hc)) ?_
    refine bW 19 rfl rfl rfl (fun hc => aF (o := 2) tk24 (aa rfl hc) (an 0 rfl) hc rfl) ?_
    refine bW 20 rfl rfl rfl (fun hc => qFA (off := 1) rfl) ?_
    refine bW 21 rfl rfl rfl (fun hc => ab 0 tk9 (aa rfl hc) rfl rfl) ?_
    refine bW 22 rfl rfl rfl (fun hc => ar rfl) ?_
    refine bW 23 rfl rfl rfl (fun hc => bw (by kernel_rfl) (aI (aa rfl hc) (aI (aa rfl hc) (aI (aa rfl hc) rfl))) (fun w S fp hst => ((kH f.versions e.version v (by simp only [univ, List.length_cons]; omega)).pre (ps0 := [bP bC.ok ifs.l]) (x0 (.of (an 0 rfl)) hf)).quiet1 (an 5 rfl) hst)) ?_
    refine bW 24 rfl rfl rfl (fun hc => bn (aa rfl hc) rfl (fun h => gt hc h)) ?_
    refine bV 25 rfl rfl (ct rfl rfl (fun h => gf rfl h)) ?_
    refine bD (by kernel_rfl) ?_
    refine av ?_
    refine ah _ rfl (fun h4 => ?_) (fun h4 => ?_)
    ·skip
     have hex : exR f (n, v) e = true := by rw [yO hen]; exact h4
     refine aSR (aM rfl (aA rfl (aNn (aq (bj (aK (aK (bj (bj (aK (aK (bj (aK ?_)))))))))))))
     refine aV [] [] rfl Tryz.results23 rfl ?_ (.inr rfl)
     rw [wE hf (List.mem_of_getElem? he) hex hno]
    ·skip
     have hex : exR f (n, v) e = false := by rw [yO hen]; exact h4
     refine au (bu (av (ae (aM rfl ?_))))
     refine aU rfl (bf rfl rfl (by omega)) ?_
     refine aA rfl (aNn ?_)
     refine ⟨[0, 1, 2, 7, 8], [1, 0], [], rfl, ?_⟩
     exact ⟨k + 1, ⟨⟨by omega, hnext hex⟩, rfl⟩, by omega⟩
  ·skip
   have hkk : f.exports.l.length ≤ k := by simp at h2; omega
   have hnf : ifR (n, v) f = false := by rw [List.take_of_length_le hkk] at hnk; unfold ifR; rw [List.any_eq_false]; exact fun x hx => by rw [hnk x hx]; simp
   refine aR (aS (aS (aY (bu (av (ae (aM rfl ?_)))))))
   refine aU rfl (bf rfl rfl (by omega)) ?_
   refine aA rfl (aNn ?_)
   refine ⟨[0, 1, 2, 7], [1, 0], [], rfl, ?_⟩
   refine ⟨i + 1, ⟨⟨by omega, fun g hg => ?_⟩, rfl⟩, by omega⟩
   rw [List.take_add_one, hf, List.mem_append] at hg
   rcases hg with hg | hg
   · exact hno g hg
   · simp at hg; subst hg; exact hnf
 ·skip
  refine aR (aS (aS (aY (av (aSR (aA rfl (aNn (aq ?_))))))))
  refine aV [] [] rfl Tryz.results23 rfl ?_ (.inr rfl)
  have hge : ifs.l.length ≤ i := by simp at h1; omega
  rw [List.take_of_length_le hge] at hno
  rw [xB hno]
end Go.Proofs.YtgmiihmahaahiaaGreatDoor

namespace Go.Sy
open Go.RowKit Go.Lp
abbrev gm : Int → List D := fun z => [.v (.int .i64 z)]
abbrev kK (l : List (Sl Int)) : Per := bP (ShF gm) l
abbrev td (s : Sl (Sl Int)) : Per := cx (ShF (fun t : Sl Int => [.v (.slice t.ad t.l.length t.cap)]) s) (kK s.l)
theorem oA {P : Program} {n : Fr} {c : Code} {Q : Exit → Sta → Prop} {env : Env} {ps : List Per} {hp : List Res} {outs : List (Sl Int)} {T : TypeId} {a : Option Addr} {z1 z2 : Int} (i : Nat)
   (hi : hp[i]? = some (bA (.slice a 2 2) T 1 [[.v (.int .i64 z1)], [.v (.int .i64 z2)]])) (hm : kK outs ∈ ps)
   (h : awp P n c Q ⟨env, kK (outs ++ [⟨a, 2, [z1, z2]⟩]) :: Sh (.slice a 2 2) (.sl [[.v (.int .i64 z1)], [.v (.int .i64 z2)]]) :: ps, hp.set i emp⟩) : awp P n c Q ⟨env, ps, hp⟩ := by
 refine dr i hi ?_
 refine eC (kK (outs ++ [⟨a, 2, [z1, z2]⟩])) (fun w S hps y hy => ?_) ?_
 · rcases List.mem_append.1 hy with hy | hy
   · exact hps _ (List.mem_cons_of_mem _ hm) y hy
   · rw [List.mem_singleton.1 hy]; exact hps _ List.mem_cons_self
 · exact h
end Go.Sy
namespace Go.Proofs.YtgmiihmahaahiaaGreatDoor
open Go.RowKit Go.Lp Go.Sy
open Go.Proofs.Tryz
attribute [local irreducible] aL aB awp aC fwp
abbrev prJ (d : Dfn) : List Int := [d.p.obj, d.p.sym]
theorem y9 {os : List ax} {kp : List (Sl Bool)} (hok : ew os kp) {i k : Nat} {o : ax} (hi : i < os.length) (ho : elt os (i : Int) = o) (hk : k ≤ o.syms.l.length) : (bQ os i ++ cu (i : Int) (o.syms.l.take k)).length ≤ 70 := by
 have hfl := gW hok
 obtain ⟨M, hM⟩ := gj os (i := i + 1) (n := os.length) (by omega)
 obtain ⟨M2, hM2⟩ := iB (i : Int) o.syms.l k
 have : aW os = (bQ os i ++ cu (i : Int) (o.syms.l.take k)) ++ (M2 ++ M) := by
   unfold aW; rw [hM, cq, ho, hM2]; simp
 rw [this, List.length_append] at hfl; omega
theorem lC (x : br) (hok : ew x.objs.l x.kp.l) (i k : Nat) (o : ax) (s : bg) (ho : x.objs.l[i]? = some o) (hs : o.syms.l[k]? = some s) : Con Tryz.prog 93 [x.objs.val, x.kp.val, .int .i64 i, .int .i64 k] [x.ok] [] fun r _ _ => r = .bool (dN x.kp.l ⟨⟨(i : Int), (k : Int)⟩, s⟩) := by
 have hi := (List.getElem?_eq_some_iff.1 ho).1
 have hkp := bN (l := x.kp.l) (i := i) (by have := hok.kn; omega)
 have hKl := hok.ks i hi
 rw [show elt x.objs.l (i : Int) = o from kg ho] at hKl
 have hsec := hok.sec o (List.mem_of_getElem? ho) s (List.mem_of_getElem? hs)
 have hdef : dN x.kp.l ⟨⟨(i : Int), (k : Int)⟩, s⟩ = (decide (s.bind = 3) || (decide (s.bind ≠ 0) && (decide (s.sec ≥ 0) && elt (elt x.kp.l (i : Int)).l s.sec))) := rfl
 refine Con.enter Tryz.func93 rfl (by simp [Tryz.ntmps93]) ?_
 show awp _ _ _ _ ⟨[(0, true, _), (1, true, _), (2, true, _), (3, true, _)], _, _⟩
 refine aSR (aA rfl (aNn (aSR (aM rfl (aM rfl ?_)))))
 refine ck true rfl rfl (fun _ => ai Tryz.underlying22 tk61 rfl ((br.f_objs (.of (an 0 rfl)))) rfl (aJ ho) rfl rfl) (fun h => absurd h (by decide)) (fun ⟨b1_2, o1_2⟩ => ?_)
 refine aU rfl (qFA (off := 2) rfl) ?_
 refine aU rfl (aF (o := 2) tk51 rfl (an 0 rfl) rfl rfl) (aM rfl ?_)
 refine ck true rfl rfl (fun _ => ai Tryz.underlying51 tk63 rfl ((ax.f_syms (Ent.all (br.f_objsA (.of (an 1 rfl))) ho))) rfl (aJ hs) rfl rfl) (fun h => absurd h (by decide)) (fun ⟨b1_6, o1_6⟩ => ?_)
 refine aU rfl (aF (o := 0) tk63 rfl (an 0 rfl) rfl rfl) ?_
 refine aj (q := true) rfl (bp (zs := [.string .empty, .string .empty, .bool false, .int .i64 0, .int .i64 0, .int .i64 0, .int .i64 0, .int .i64 0, .int .i64 0, .int .i64 0]) (by kernel_rfl) rfl (fun b1_8 => ?_))
 refine aHN ?_
 refine aj rfl (aT 0 tk63 rfl rfl rfl rfl ?_)
 refine aHK ?_
 refine aNs (aSR ?_)
 refine aU rfl (qFA (off := 3) rfl) ?_
 refine aU rfl (ab 0 tk3 rfl rfl rfl) (aU rfl (bB rfl rfl) (aNn ?_))
 refine ah _ rfl (fun h1 => ?_) (fun h1 => ?_)
 ·skip
  refine aSR (aA rfl (aNn (aq (aK ?_))))
  refine aV [] [] rfl Tryz.results93 rfl ?_ (.inr rfl)
  rw [hdef]; simp at h1; simp [h1]
 ·skip
  refine au (av (az ?_))
  refine aX [] (by kernel_rfl) ?_
  show aB _ _ _ _ _ 19 #[false, false, false, false, false, false, false, false, false, false, false, false, false, false, false, false, false, false, false] _
  refine bV 0 rfl rfl (qFA (off := 3) rfl) ?_
  refine bV 1 rfl rfl (ab 0 tk3 rfl rfl rfl) ?_
  refine bV 2 rfl rfl (cN rfl rfl) ?_
  refine bV 3 rfl rfl (ar rfl) ?_
  refine bW 4 rfl rfl rfl (fun hc => qFA (off := 6) rfl) ?_
  refine bW 5 rfl rfl rfl (fun hc => ab 0 tk3 (aa rfl hc) rfl rfl) ?_
  refine bW 6 rfl rfl rfl (fun hc => cL (aa rfl hc) rfl) ?_
  refine bV 7 rfl rfl (bn rfl rfl (fun h => gt rfl h)) ?_
  refine bV 8 rfl rfl (ar rfl) ?_
  refine bW 9 rfl rfl rfl (fun hc => ar rfl) ?_
  refine bW 10 rfl rfl rfl (fun hc => ar rfl) ?_
  refine cD 11 rfl (by kernel_rfl) _ rfl rfl (fun hc => ai Tryz.underlying27 tk68 (aa rfl hc) ((br.f_kp (.of (an 2 rfl)))) (aa rfl hc) (aJ hkp) rfl rfl) (fun _ => ⟨(0, 0)⟩) (fun ⟨b4_11, o4_11⟩ => ?_)
  refine bW 12 rfl rfl rfl (fun hc => aF (o := 0) tk68 (aa rfl hc) (an 0 rfl) hc rfl) ?_
  refine bW 13 rfl rfl rfl (fun hc => qFA (off := 6) rfl) ?_
  refine bW 14 rfl rfl rfl (fun hc => ab 0 tk3 (aa rfl hc) rfl rfl) ?_
  refine cD 15 rfl (by kernel_rfl) _ rfl rfl (fun hc => ai Tryz.underlying68 tk4 (aa rfl hc) ((Ent.all (f := ShF bR) (br.f_kpA (.of (an 3 rfl))) hkp)) (aa rfl hc) (cR (i := s.sec) (by simp at hc; omega) (by simp at hc; omega)) (by simp at hc; omega) rfl) (fun _ => ⟨(0, 0)⟩) (fun ⟨b4_15, o4_15⟩ => ?_)
  refine bW 16 rfl rfl rfl (fun hc => aF (o := 0) tk4 (aa rfl hc) (an 0 rfl) hc rfl) ?_
  refine bV 17 rfl rfl (bn rfl rfl (fun h => gt rfl h)) ?_
  refine bV 18 rfl rfl (bJ rfl) ?_
  refine bD (by kernel_rfl) ?_
  refine av (aq ?_)
  refine aV [] [] rfl Tryz.results93 rfl ?_ (.inr rfl)
  rw [hdef]; simp at h1; simp [h1, Bool.and_assoc]
theorem np (x : br) (hok : ew x.objs.l x.kp.l) (n v : ByteArray) : Con Tryz.prog 197 [x.objs.val, x.kp.val, .string n, .string v] [x.ok] [] fun r ps hp => hp = [] ∧ ∃ s : Sl (Sl Int), r = s.val ∧ s.l.map (·.l) = (db x.kp.l (aW x.objs.l) (n, v)).map prJ ∧ ps = [td s] := by
 have hn5 := hok.n
 refine Con.enter Tryz.func197 rfl (by simp [Tryz.ntmps197]) ?_
 show awp _ _ _ _ ⟨[(0, true, _), (1, true, _), (2, true, _), (3, true, _)], _, _⟩
 refine aSR (aA rfl (aNn (aSR (aA rfl ?_))))
 refine aNs (az (eb 90 1 ?_))
 show awp _ _ _ _ ⟨_, _, [_]⟩
 refine eC (kK []) (fun w S hps y hy => by cases hy) ?_
 refine ae (aA rfl (aNn (aw (aP [0, 1, 2, 3, 9, 10] [1, 0] [0] (fun (p : Nat × List (Sl Int) × Value) st => (p.1 ≤ x.objs.l.length ∧ p.2.1.map (·.l) = (db x.kp.l (bQ x.objs.l p.1) (n, v)).map prJ) ∧ st = ⟨[(0, true, x.objs.val), (1, true, x.kp.val), (2, true, .string n), (3, true, .string v), (9, true, p.2.2), (10, true, .int .i64 p.1)], [kK p.2.1, x.ok], [bA p.2.2 90 1 (p.2.1.map fun t : Sl Int => [D.v (.slice t.ad t.l.length t.cap)])]⟩) (fun p => x.objs.l.length - p.1) rfl (⟨(0, [], .slice none 0 0), ⟨Nat.zero_le _, rfl⟩, rfl⟩) ?_))))
 rintro ⟨i, outs, vo⟩ st ⟨⟨hi, hout⟩, rfl⟩
 dsimp only at hi hout
 refine az (aSR (aM rfl (aM rfl (aU rfl (aZ Tryz.underlying22 rfl) (aU rfl (bt rfl rfl) (aNn ?_))))))
 refine ah _ rfl (fun h1 => ?_) (fun h1 => ?_)
 ·skip
  have hi' : i < x.objs.l.length := by simp at h1; omega
  have ho := bN hi'
  generalize hoo : elt x.objs.l (i : Int) = o at ho
  have ho14 := hok.sy o (List.mem_of_getElem? ho)
  refine au (av (az (aw (aSR (aA rfl (aNn (aw ?_)))))))
  refine aP [0, 1, 2, 3, 9, 10, 11] [1, 0] [0] (fun (p : Nat × List (Sl Int) × Value) st => (p.1 ≤ o.syms.l.length ∧ p.2.1.map (·.l) = (db x.kp.l (bQ x.objs.l i ++ cu (i : Int) (o.syms.l.take p.1)) (n, v)).map prJ) ∧ st = ⟨[(0, true, x.objs.val), (1, true, x.kp.val), (2, true, .string n), (3, true, .string v), (9, true, p.2.2), (10, true, .int .i64 i), (11, true, .int .i64 p.1)], [kK p.2.1, x.ok], [bA p.2.2 90 1 (p.2.1.map fun t : Sl Int => [D.v (.slice t.ad t.l.length t.cap)])]⟩) (fun p => o.syms.l.length - p.1) rfl (⟨(0, outs, vo), ⟨Nat.zero_le _, by dsimp only; rw [hout]; simp [cu]⟩, rfl⟩) ?_
  rintro ⟨k, outs2, vo2⟩ st ⟨⟨hk, hout2⟩, rfl⟩
  dsimp only at hk hout2
  have hol : outs2.length ≤ 70 := by
    have h1 := congrArg List.length hout2
    rw [List.length_map, List.length_map] at h1
    have h2 := oT (kp := x.kp.l) (bQ x.objs.l i ++ cu (i : Int) (o.syms.l.take k)) (n, v)
    have h3 := y9 hok hi' hoo hk
    omega
  refine az (aSR (aM rfl (aM rfl (aM rfl ?_))))
  refine ck true rfl rfl (fun _ => ai Tryz.underlying22 tk61 rfl ((br.f_objs (.of (an 1 rfl)))) rfl (aJ ho) rfl rfl) (fun h => absurd h (by decide)) (fun ⟨b6_3, o6_3⟩ => ?_)
  refine aU rfl (qFA (off := 2) rfl) ?_
  refine aU rfl (aF (o := 2) tk51 rfl (an 0 rfl) rfl rfl) (aU rfl (aZ Tryz.underlying51 rfl) (aU rfl (bt rfl rfl) (aNn ?_)))
  refine ah _ rfl (fun h2 => ?_) (fun h2 => ?_)
  ·skip
   have hk' : k < o.syms.l.length := by simp at h2; omega
   obtain ⟨s, hsk⟩ : ∃ s, o.syms.l[k]? = some s := ⟨_, List.getElem?_eq_getElem hk'⟩
   refine au (av (az (aw (aSR (aM rfl (aM rfl ?_))))))
   refine ck true rfl rfl (fun _ => ai Tryz.underlying22 tk61 rfl ((br.f_objs (.of (an 2 rfl)))) rfl (aJ ho) rfl rfl) (fun h => absurd h (by decide)) (fun ⟨b8_2, o8_2⟩ => ?_)
   refine aU rfl (qFA (off := 2) rfl) ?_
   refine aU rfl (aF (o := 2) tk51 rfl (an 0 rfl) rfl rfl) (aM rfl ?_)
   refine ck true rfl rfl (fun _ => ai Tryz.underlying51 tk63 rfl ((ax.f_syms (Ent.all (br.f_objsA (.of (an 3 rfl))) ho))) rfl (aJ hsk) rfl rfl) (fun h => absurd h (by decide)) (fun ⟨b8_6, o8_6⟩ => ?_)
   refine aU rfl (aF (o := 0) tk63 rfl (an 0 rfl) rfl rfl) ?_
   refine aj (q := true) rfl (bp (zs := [.string .empty, .string .empty, .bool false, .int .i64 0, .int .i64 0, .int .i64 0, .int .i64 0, .int .i64 0, .int .i64 0, .int .i64 0]) (by kernel_rfl) rfl (fun b8_8 => ?_))
   refine aHN ?_
   refine aj rfl (aT 1 tk63 rfl rfl rfl rfl ?_)
   refine aHK ?_
   refine aNn (aSR ?_)
   refine aU rfl (qFA (off := 0) rfl) ?_
   refine aU rfl (ab 1 tk9 rfl rfl rfl) (aM rfl (aU rfl (cZ rfl rfl) (aM rfl ?_)))
   refine aG rfl rfl (fun hc => qFA (off := 1) rfl) ?_
   refine aG rfl rfl (fun hc => ab 1 tk9 (aa rfl hc) rfl rfl) (aG rfl rfl (fun hc => ar rfl) (aG rfl rfl (fun hc => cZ (aa rfl hc) (aa rfl hc)) (aU rfl (bn rfl rfl (fun h => gt rfl h)) (aM rfl (aG rfl rfl (fun hc => ar rfl) (aG rfl rfl (fun hc => ar rfl) (aG rfl rfl (fun hc => ar rfl) (aG rfl rfl (fun hc => ar rfl) ?_))))))))
   refine aG rfl rfl (fun hc => bw (by kernel_rfl) (aI (aa rfl hc) (aI (aa rfl hc) (aI (aa rfl hc) (aI (aa rfl hc) rfl)))) (fun w S fp hst => (lC x hok i k o s ho hsk).quiet1 (an 4 rfl) hst)) ?_
   refine aU rfl (bn rfl rfl (fun h => gt rfl h)) (aNn ?_)
   refine ah _ rfl (fun h3 => ?_) (fun h3 => ?_)
   ·skip
    have hc3 : dN x.kp.l ⟨⟨(i : Int), (k : Int)⟩, s⟩ = true ∧ (⟨⟨(i : Int), (k : Int)⟩, s⟩ : Dfn).key = (n, v) := by simp at h3; exact ⟨h3.2, by show (s.name, s.version) = (n, v); rw [h3.1.1, h3.1.2]⟩
    refine ae (aM rfl (aM rfl (aM rfl ?_)))
    refine aj (q := true) rfl (cG (zs := [.int .i64 0]) (l := [(0, .tmp 55), (1, .tmp 56)]) el90 (by kernel_rfl) (by decide) (by decide) (by decide) rfl rfl rfl (.more rfl (.v rfl .nil) (.more rfl (.v rfl .nil) .nil)) rfl rfl (fun v10_3 => ?_))
    refine aHN ?_
    refine aj (q := true) rfl (cG (zs := [.slice none 0 0]) (l := [(0, .tmp 57)]) el288 (by kernel_rfl) (by decide) (by decide) (by decide) rfl rfl rfl (.more rfl (.v rfl .nil) .nil) rfl rfl (fun v10_4 => ?_))
    refine aHN ?_
    refine aj rfl (cE 0 el288 rfl rfl rfl rfl (dH 3 el288 rfl (by simp)) (by first | assumption | simp) (by simp; omega) _ rfl (fun v10_5 c10_5 => ?_))
    refine aHK ?_
    refine aA rfl (cr (bu (av ?_)))
    first | refine oA (outs := outs2) 2 rfl (by simp) ?_ | skip
    refine ae (aM rfl ?_)
    refine aU rfl (bf rfl rfl (by omega)) ?_
    refine aA rfl (aNn ?_)
    refine ⟨[0, 1, 2, 3, 9, 10, 11], [6, 0], [0], rfl, ?_⟩
    refine ⟨(k + 1, outs2 ++ [⟨v10_3, 2, [(i : Int), (k : Int)]⟩], .slice v10_5 ((outs2.map fun t : Sl Int => [D.v (.slice t.ad t.l.length t.cap)]).length + 1) c10_5), ⟨⟨by dsimp only; omega, ?_⟩, ?_⟩, by dsimp only; omega⟩
    · dsimp only; rw [List.map_append, hout2, dz hsk, ← List.append_assoc, gh, if_pos hc3, List.map_append]; rfl
    · dsimp only; rw [List.map_append]; rfl
   ·skip
    have hc3 : ¬ (dN x.kp.l ⟨⟨(i : Int), (k : Int)⟩, s⟩ = true ∧ (⟨⟨(i : Int), (k : Int)⟩, s⟩ : Dfn).key = (n, v)) := fun ⟨g1, g2⟩ => by
      have e1 : s.name = n := congrArg Prod.fst g2
      have e2 : s.version = v := congrArg Prod.snd g2
      simp [g1, e1, e2] at h3
    refine au (bu (av ?_))
    first | refine oA (outs := outs2) 2 rfl (by simp) ?_ | skip
    refine ae (aM rfl ?_)
    refine aU rfl (bf rfl rfl (by omega)) ?_
    refine aA rfl (aNn ?_)
    refine ⟨[0, 1, 2, 3, 9, 10, 11], [1, 0], [0], rfl, ?_⟩
    refine ⟨(k + 1, outs2, vo2), ⟨⟨by dsimp only; omega, ?_⟩, rfl⟩, by dsimp only; omega⟩
    dsimp only; rw [hout2, dz hsk, ← List.append_assoc, gh, if_neg hc3, List.append_nil]
  ·skip
   have hkl : o.syms.l.length ≤ k := by simp at h2; omega
   refine aR (aS (aS (aY (bu (av (ae (aM rfl ?_)))))))
   refine aU rfl (bf rfl rfl (by omega)) ?_
   refine aA rfl (aNn ?_)
   refine ⟨[0, 1, 2, 3, 9, 10], [1, 0], [0], rfl, ?_⟩
   refine ⟨(i + 1, outs2, vo2), ⟨⟨by dsimp only; omega, ?_⟩, rfl⟩, by dsimp only; omega⟩
   dsimp only; rw [hout2, cq, hoo, List.take_of_length_le hkl]
 ·skip
  have hil : i = x.objs.l.length := by simp at h1; omega
  subst hil
  dsimp only
  refine aR (aS (aS (aY (av (az (dr 0 rfl ?_))))))
  refine fo (.of (an 0 rfl)) (fun ao co hvo => ?_)
  rw [List.length_map] at hvo
  subst hvo
  refine eC (td ⟨ao, co, outs⟩) (fun w S hps => ⟨hps _ List.mem_cons_self, hps (kK outs) (by simp)⟩) ?_
  refine ae (aM rfl (aA rfl (aNn (aq ?_))))
  refine aV [3] [] rfl Tryz.results197 rfl ?_ (.inr rfl)
  exact ⟨rfl, ⟨ao, co, outs⟩, rfl, hout, rfl⟩
def iC (o : Option Dfn) (s : Sl Int) (b : Bool) : Prop := b = o.isSome ∧ ∀ e, o = some e → s.l = prJ e
theorem th {s : Sl (Sl Int)} {L : List Dfn} (h : s.l.map (·.l) = L.map prJ) {i : Nat} {t : Sl Int} (ht : s.l[i]? = some t) : ∃ d, L[i]? = some d ∧ t.l = prJ d := by
 have h1 : (s.l.map (·.l))[i]? = some t.l := by rw [List.getElem?_map, ht]; rfl
 rw [h, List.getElem?_map] at h1
 cases hd : L[i]? with
 | none => rw [hd] at h1; cases h1
 | some d => rw [hd] at h1; exact ⟨d, rfl, (Option.some.inj h1).symm⟩
theorem vz {α : Type} {p : α → Bool} {l : List α} {i : Nat} {x : α} (hx : l[i]? = some x) (hp : p x = true) (hno : ∀ y ∈ l.take i, p y = false) : l.find? p = some x := by
 obtain ⟨hi, hi2⟩ := List.getElem?_eq_some_iff.1 hx
 rw [List.find?_eq_some_iff_getElem]
 refine ⟨hp, i, hi, hi2, fun j hj => ?_⟩
 rw [hno l[j] (List.mem_take_iff_getElem.2 ⟨j, by omega, rfl⟩)]; rfl
theorem vU {A : List Dfn} {p : Nat} {d : Dfn} {t : Sl Int} (hno : ∀ j : Nat, j < p → A.find? (fun d => decide (d.s.bind = 1 + 2 * (j : Int))) = none) (hf : A.find? (fun d => decide (d.s.bind = 1 + 2 * (p : Int))) = some d) (hp : p < 2) (ht : t.l = prJ d) :
   iC ((A.find? fun d => decide (d.s.bind = 1)).or ((A.find? fun d => decide (d.s.bind = 3)).or A.head?)) t true := by
 rcases (by omega : p = 0 ∨ p = 1) with rfl | rfl
 · rw [show (A.find? fun d => decide (d.s.bind = 1)) = some d from hf]
   exact ⟨rfl, fun e he => by rw [← Option.some.inj he]; exact ht⟩
 · rw [show (A.find? fun d => decide (d.s.bind = 1)) = none from hno 0 (by omega), show (A.find? fun d => decide (d.s.bind = 3)) = some d from hf]
   exact ⟨rfl, fun e he => by rw [← Option.some.inj he]; exact ht⟩
theorem yH {A : List Dfn} {d : Dfn} {t : Sl Int} (hno : ∀ j : Nat, j < 2 → A.find? (fun d => decide (d.s.bind = 1 + 2 * (j : Int))) = none) (hd : A[0]? = some d) (ht : t.l = prJ d) :
   iC ((A.find? fun d => decide (d.s.bind = 1)).or ((A.find? fun d => decide (d.s.bind = 3)).or A.head?)) t true := by
 rw [show (A.find? fun d => decide (d.s.bind = 1)) = none from hno 0 (by omega), show (A.find? fun d => decide (d.s.bind = 3)) = none from hno 1 (by omega), List.head?_eq_getElem?, hd]
 exact ⟨rfl, fun e he => by rw [← Option.some.inj he]; exact ht⟩
theorem kI (x : br) (hok : ew x.objs.l x.kp.l) (n v : ByteArray) : Con Tryz.prog 100 [x.objs.val, x.kp.val, .string n, .string v] [x.ok] [] fun r ps hp => hp = [] ∧ ∃ (s : Sl Int) (b : Bool), r = .tuple #[s.val, .bool b] ∧ iC (cd x.kp.l (aW x.objs.l) (n, v)) s b ∧ ps = [ShF gm s] := by
 have hch : cd x.kp.l (aW x.objs.l) (n, v) = _ := pj (db x.kp.l (aW x.objs.l) (n, v))
 have hin : ∀ (i : Nat) (d : Dfn), (db x.kp.l (aW x.objs.l) (n, v))[i]? = some d → InD x.objs.l d := fun i d hd => i1.1 (iI.1 (List.mem_of_getElem? hd)).1
 have hlen : (db x.kp.l (aW x.objs.l) (n, v)).length ≤ 70 := Nat.le_trans (oT _ _) (gW hok)
 refine Con.enter Tryz.func100 rfl (by simp [Tryz.ntmps100]) ?_
 show awp _ _ _ _ ⟨[(0, true, _), (1, true, _), (2, true, _), (3, true, _)], _, _⟩
 refine aSR (aA rfl (aA rfl (aNn (aSR (aM rfl (aM rfl (aM rfl (aM rfl ?_))))))))
 refine aj (q := true) rfl (bF [0] [] (by kernel_rfl) rfl rfl rfl rfl (np x hok n v) ?_)
 rintro _ _ _ ⟨rfl, L, rfl, hL, rfl⟩
 refine aST ?_
 refine aA rfl (aNs (az ?_))
 generalize db x.kp.l (aW x.objs.l) (n, v) = A at hch hin hlen hL
 have hLA : L.l.length = A.length := by have := congrArg List.length hL; rw [List.length_map, List.length_map] at this; exact this
 refine ae (aM rfl (aU rfl (aZ Tryz.underlying288 rfl) (aU rfl (bB rfl rfl) (aNn ?_))))
 refine ah _ rfl (fun h1 => ?_) (fun h1 => ?_)
 ·skip
  refine aSR (aA rfl (aA rfl (aNn ?_)))
  refine eC (ShF gm ⟨none, 0, []⟩) (fun _ _ _ => .e none 0 (by unfold maxLen; omega)) ?_
  refine aq (aK ?_)
  refine jF [2] [] rfl Tryz.results100 rfl rfl ?_ (.inr rfl)
  have hA0 : A = [] := List.eq_nil_of_length_eq_zero (by simp at h1; rw [← hLA]; simp [h1])
  subst hA0
  exact ⟨rfl, ⟨none, 0, []⟩, false, rfl, by rw [hch]; exact ⟨rfl, fun e he => by cases he⟩, rfl⟩
 ·skip
  have hpos : 0 < A.length := by rw [← hLA]; simp at h1; exact List.length_pos_iff.2 h1
  refine au (av (az (aSR (aA rfl (aNn (aw ?_))))))
  refine aP [0, 10, 11] [1, 0] [] (fun (p : Nat) st => (p ≤ 2 ∧ ∀ j, j < p → A.find? (fun d => decide (d.s.bind = 1 + 2 * (j : Int))) = none) ∧ st = ⟨[(0, true, x.objs.val), (10, true, L.val), (11, true, .int .i64 (1 + 2 * (p : Int)))], [td L, x.ok], []⟩) (fun p => 2 - p) rfl (⟨0, ⟨by omega, fun j hj => by omega⟩, rfl⟩) ?_
  rintro p st ⟨⟨hp, hno⟩, rfl⟩
  refine az (aSR (aM rfl (aU rfl (eE rfl rfl) (aNn ?_))))
  refine ah _ rfl (fun h2 => ?_) (fun h2 => ?_)
  ·skip
   have hp' : p < 2 := by simp at h2; omega
   refine au (av (az (aw (aSR (aA rfl (aNn (aw ?_)))))))
   refine aP [0, 10, 11, 12] [1, 0] [] (fun (i : Nat) st => (i ≤ A.length ∧ ∀ d ∈ A.take i, decide (d.s.bind = 1 + 2 * (p : Int)) = false) ∧ st = ⟨[(0, true, x.objs.val), (10, true, L.val), (11, true, .int .i64 (1 + 2 * (p : Int))), (12, true, .int .i64 i)], [td L, x.ok], []⟩) (fun i => A.length - i) rfl (⟨0, ⟨Nat.zero_le _, by simp⟩, rfl⟩) ?_
   rintro i st ⟨⟨hi, hnd⟩, rfl⟩
   refine az (aSR (aM rfl (aM rfl (aU rfl (aZ Tryz.underlying288 rfl) (aU rfl (bt rfl rfl) (aNn ?_))))))
   refine ah _ rfl (fun h3 => ?_) (fun h3 => ?_)
   ·skip
    have hi' : i < L.l.length := by simp at h3; omega
    obtain ⟨t, ht⟩ : ∃ t, L.l[i]? = some t := ⟨_, List.getElem?_eq_getElem hi'⟩
    obtain ⟨d, hd, htl⟩ := th hL ht
    obtain ⟨a, b, ha, hab, hdp⟩ := hin i d hd
    obtain ⟨dp, ds⟩ := d
    dsimp only at hab hdp
    subst hdp
    have hoa := bN ha
    refine au (av (az (aw (az ?_))))
    refine aX [] (by kernel_rfl) ?_
    show aB _ _ _ _ _ 21 #[false, false, false, false, false, false, false, false, false, false, false, false, false, false, false, false, false, false, false, false, false] _
    refine bV 0 rfl rfl (ar rfl) ?_
    refine bV 1 rfl rfl (ar rfl) ?_
    refine bV 2 rfl rfl (ar rfl) ?_
    refine cD 3 rfl (by kernel_rfl) true rfl rfl (fun _ => ai Tryz.underlying288 tk90 rfl ((Ent.left (.of (an 0 rfl)))) rfl (aJ ht) rfl rfl) (fun h => absurd h (by decide)) (fun ⟨b10_3, o10_3⟩ => ?_)
    refine bV 4 rfl rfl (aF (o := 0) tk90 rfl (an 0 rfl) rfl rfl) ?_
    refine cD 5 rfl (by kernel_rfl) true rfl rfl (fun _ => ai Tryz.underlying90 tk3 rfl ((Ent.all (f := ShF gm) (Ent.right (.of (an 1 rfl))) ht)) rfl (show (t.l.map gm)[0]? = some [D.v (.int .i64 (a : Int))] from by rw [htl]; rfl) rfl rfl) (fun h => absurd h (by decide)) (fun ⟨b10_5, o10_5⟩ => ?_)
    refine bV 6 rfl rfl (aF (o := 0) tk3 rfl (an 0 rfl) rfl rfl) ?_
    refine cD 7 rfl (by kernel_rfl) true rfl rfl (fun _ => ai Tryz.underlying22 tk61 rfl ((br.f_objs (.of (an 3 rfl)))) rfl (aJ hoa) rfl rfl) (fun h => absurd h (by decide)) (fun ⟨b10_7, o10_7⟩ => ?_)
    refine bV 8 rfl rfl (qFA (off := 2) rfl) ?_
    refine bV 9 rfl rfl (aF (o := 2) tk51 rfl (an 0 rfl) rfl rfl) ?_
    refine bV 10 rfl rfl (ar rfl) ?_
    refine bV 11 rfl rfl (ar rfl) ?_
    refine cD 12 rfl (by kernel_rfl) true rfl rfl (fun _ => ai Tryz.underlying288 tk90 rfl ((Ent.left (.of (an 3 rfl)))) rfl (aJ ht) rfl rfl) (fun h => absurd h (by decide)) (fun ⟨b10_12, o10_12⟩ => ?_)
    refine bV 13 rfl rfl (aF (o := 0) tk90 rfl (an 0 rfl) rfl rfl) ?_
    refine cD 14 rfl (by kernel_rfl) true rfl rfl (fun _ => ai Tryz.underlying90 tk3 rfl ((Ent.all (f := ShF gm) (Ent.right (.of (an 4 rfl))) ht)) rfl (show (t.l.map gm)[1]? = some [D.v (.int .i64 (b : Int))] from by rw [htl]; rfl) rfl rfl) (fun h => absurd h (by decide)) (fun ⟨b10_14, o10_14⟩ => ?_)
    refine bV 15 rfl rfl (aF (o := 0) tk3 rfl (an 0 rfl) rfl rfl) ?_
    refine cD 16 rfl (by kernel_rfl) true rfl rfl (fun _ => ai Tryz.underlying51 tk63 rfl ((ax.f_syms (Ent.all (br.f_objsA (.of (an 6 rfl))) hoa))) rfl (aJ hab) rfl rfl) (fun h => absurd h (by decide)) (fun ⟨b10_16, o10_16⟩ => ?_)
    refine bV 17 rfl rfl (qFA (off := 3) rfl) ?_
    refine bV 18 rfl rfl (aF (o := 3) tk3 rfl (an 0 rfl) rfl rfl) ?_
    refine bV 19 rfl rfl (ar rfl) ?_
    refine bV 20 rfl rfl (bB rfl rfl) ?_
    refine bD (by kernel_rfl) ?_
    refine av ?_
    refine ah _ rfl (fun h4 => ?_) (fun h4 => ?_)
    ·skip
     have hfi := vz (p := fun d : Dfn => decide (d.s.bind = 1 + 2 * (p : Int))) hd (by simpa using h4) hnd
     refine aSR (aM rfl (aM rfl ?_))
     refine ck true rfl rfl (fun _ => ai Tryz.underlying288 tk90 rfl ((Ent.left (.of (an 6 rfl)))) rfl (aJ ht) rfl rfl) (fun h => absurd h (by decide)) (fun ⟨b11_2, o11_2⟩ => ?_)
     refine aU rfl (aF (o := 0) tk90 rfl (an 0 rfl) rfl rfl) (aA rfl (aA rfl (aNn (ei (ShF gm t) (Ent.all (f := ShF gm) (Ent.right (.of (an 7 rfl))) ht) (aq (bj ?_))))))
     refine aK (aK (bj (bj (aK (aK (bj (aK ?_)))))))
     refine jF [9] [] rfl Tryz.results100 rfl rfl ?_ (.inr rfl)
     refine ⟨rfl, t, true, rfl, ?_, rfl⟩
     rw [hch]
     exact vU hno hfi hp' htl
    ·skip
     have hfn : decide (ds.bind = 1 + 2 * (p : Int)) = false := h4
     refine au (bu (av (ae (aM rfl ?_))))
     refine aU rfl (bf rfl rfl (by omega)) ?_
     refine aA rfl (aNn ?_)
     refine ⟨[0, 10, 11, 12], [1, 0], [], rfl, ?_⟩
     refine ⟨i + 1, ⟨⟨by omega, fun d2 hd2 => ?_⟩, rfl⟩, by omega⟩
     rw [List.take_add_one, hd, List.mem_append] at hd2
     rcases hd2 with hd2 | hd2
     · exact hnd d2 hd2
     · simp at hd2; subst hd2; exact hfn
   ·skip
    have hfn : A.find? (fun d => decide (d.s.bind = 1 + 2 * (p : Int))) = none := by
      have hge : A.length ≤ i := by simp at h3; omega
      rw [List.take_of_length_le hge] at hnd
      rw [List.find?_eq_none]; exact fun d hd => by rw [hnd d hd]; simp
    refine aR (aS (aS (aY (bu (av (ae (aM rfl ?_)))))))
    refine aU rfl (bf rfl rfl (by omega)) ?_
    refine aA rfl (aNn ?_)
    refine ⟨[0, 10, 11], [1, 0], [], rfl, ?_⟩
    refine ⟨p + 1, ⟨⟨by omega, fun j hj => ?_⟩, ?_⟩, by omega⟩
    · rcases Nat.lt_or_ge j p with h | h
      · exact hno j h
      · obtain rfl : j = p := by omega
        exact hfn
    · rw [show (1 : Int) + 2 * ((p + 1 : Nat) : Int) = 1 + 2 * (p : Int) + 2 by omega]
      rfl
  ·skip
   have hp2 : p = 2 := by simp at h2; omega
   obtain ⟨t, ht⟩ : ∃ t, L.l[0]? = some t := ⟨_, List.getElem?_eq_getElem (by omega)⟩
   obtain ⟨d, hd, htl⟩ := th hL ht
   refine aR (aS (aS (aY (av (aSR (aM rfl ?_))))))
   refine ck true rfl rfl (fun _ => ai Tryz.underlying288 tk90 rfl ((Ent.left (.of (an 0 rfl)))) rfl (aJ ht) rfl rfl) (fun h => absurd h (by decide)) (fun ⟨b12_1, o12_1⟩ => ?_)
   refine aU rfl (aF (o := 0) tk90 rfl (an 0 rfl) rfl rfl) (aA rfl (aA rfl (aNn (ei (ShF gm t) (Ent.all (f := ShF gm) (Ent.right (.of (an 1 rfl))) ht) (aq ?_)))))
   refine jF [3] [] rfl Tryz.results100 rfl rfl ?_ (.inr rfl)
   refine ⟨rfl, t, true, rfl, ?_, rfl⟩
   rw [hch]
   exact yH (fun j hj => hno j (by omega)) hd htl
end Go.Proofs.YtgmiihmahaahiaaGreatDoor

