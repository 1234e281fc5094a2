/- Parts of the proof, in build order. No condition. -/
import Derived.Test.YtgmiihmahaahiaaGreatDoorQd08
import Derived.Test.YtgmiihmahaahiaaGreatDoorQd03
import Derived.Test.YtgmiihmahaahiaaGreatDoorQd06
import Derived.Shelf.SlSortCmp.WholeK
import Derived.Shelf.SlSortCmp.NoneTotal
import Derived.Test.YtgmiihmahaahiaaGreatDoorProg
import Derived.Ground.SlsfProg
set_option linter.unusedSimpArgs false
set_option linter.unusedVariables false
set_option maxHeartbeats 1000000
set_option maxRecDepth 20000
namespace Go.Proofs.YtgmiihmahaahiaaGreatDoor
open Go.RowKit Go.Lp Go.Sy
open Go.Proofs.Tryz
attribute [local irreducible] aL aB awp aC fwp
abbrev oP (vs : List aW) : ByteArray → Option Int := fun s => (lA vs s).map fun i : Nat => (i : Int)
theorem pN (l : List aW) (d : aW) (s : ByteArray) : lA (l ++ [d]) s = (lA l s).or (if d.name = s then some l.length else none) := by
 unfold lA
 rw [List.findIdx?_append]
 congr 1
 by_cases h : d.name = s <;> simp [h, List.findIdx?_cons]
theorem vj (l : Sl aW) : Con Tryz.prog 101 [l.val] [ShF aW.row l] [] fun r ps hp => ps = [] ∧ ∃ b, r = .map (some b) ∧ hp = [dg b eS eI (oP l.l)] := by
 refine Con.enter Tryz.func101 rfl (by simp [Tryz.ntmps101]) ?_
 show awp _ _ _ _ ⟨[(0, true, _)], _, _⟩
 refine bA (.of (aF 0 rfl)) (fun hlen => ?_)
 refine aSR (aA rfl (aNn (aSR ?_)))
 refine an (q := true) rfl (fk (eS) (eI) rfl (fun b1_0 => ?_))
 refine aHN ?_
 refine aA rfl (aNs (aSR (aM rfl (aU rfl (aZ Tryz.underlying24 rfl) ?_))))
 refine aM rfl (aNn (aI (aT [3, 9, 10, 11] [0] [0] (fun (k : Nat) s => k ≤ l.l.length ∧ s = ⟨[(3, true, .map (some b1_0)), (9, true, l.val), (10, true, .int .i64 l.l.length), (11, true, .int .i64 k)], [ShF aW.row l], [dg b1_0 eS eI (oP (l.l.take k))]⟩) (fun k => l.l.length - k) rfl (⟨0, Nat.zero_le _, rfl⟩) ?_)))
 rintro k s ⟨hk, rfl⟩
 refine aSR (aU rfl (bw rfl rfl) (aNs ?_))
 refine al _ rfl (fun h1 => ?_) (fun h1 => ?_)
 ·skip
  have hk' : k < l.l.length := by simpa using h1
  obtain ⟨a, ha⟩ : ∃ a, l.l[k]? = some a := ⟨l.l[k]'hk', by simp⟩
  have hlt : (l.l.take k).length = k := by rw [List.length_take]; omega
  refine aq (az (aH (aI (aSR (aM rfl ?_)))))
  refine cJ true rfl rfl (fun _ => av Tryz.underlying24 tk178 rfl ((.of (aF 0 rfl))) rfl (aQ ha) rfl rfl) (fun h => absurd h (by decide)) (fun ⟨b4_1, o4_1⟩ => ?_)
  refine aU rfl (aP (o := 0) tk178 rfl (aF 0 rfl) rfl rfl) ?_
  refine an (q := true) rfl (bc (zs := [.string .empty, .slice none 0 0]) (by kernel_rfl) rfl (fun b4_3 => ?_))
  refine aHN ?_
  refine aA rfl ?_
  refine an rfl (aV 1 tk178 rfl rfl rfl rfl ?_)
  refine aHK ?_
  refine aNn (aSR (aM rfl ?_))
  refine aU rfl (qFA (off := 0) rfl) ?_
  refine aU rfl (ah 1 tk9 rfl rfl rfl) ?_
  refine aU rfl (um (k := a.name) (v0 := (0 : Int)) 0 Tryz.underlying173 (kyT) (by kernel_rfl) rfl rfl rfl) ?_
  refine aM rfl (aU rfl (bD rfl rfl) (aU rfl (bD rfl rfl) (aA rfl (aA rfl (aNn (aSR (aM rfl (aU rfl (bZ rfl) (aNn ?_)))))))))
  refine al _ rfl (fun h2 => ?_) (fun h2 => ?_)
  ·skip
   have hno : lA (l.l.take k) a.name = none := by simpa using h2
   have hm : cO (oP (l.l.take k)) a.name (k : Int) = oP (l.l.take (k + 1)) := by
     funext s
     unfold oP cO
     rw [List.take_add_one, ha, Option.toList_some, pN, hlt]
     by_cases hs : s = a.name
     · subst hs; rw [if_pos rfl, hno, if_pos rfl]; rfl
     · rw [if_neg hs, if_neg (Ne.symm hs), Option.or_none]
   refine aj (aM rfl ?_)
   refine aU rfl (qFA (off := 0) rfl) ?_
   refine aU rfl (ah 1 tk9 rfl rfl rfl) (aM rfl ?_)
   refine an rfl (dQ (k := a.name) (v := (k : Int)) 0 Tryz.underlying173 (kyT) rfl rfl rfl rfl ?_)
   refine aHK ?_
   refine cn (bB (az (aj ?_)))
   refine aU rfl (bd rfl rfl (by omega)) ?_
   refine aM rfl (aNn ?_)
   refine ⟨[3, 9, 10, 11], [0], [0], rfl, ?_⟩
   exact ⟨k + 1, ⟨by omega, by rw [← hm]; rfl⟩, by omega⟩
  ·skip
   have hyes : (lA (l.l.take k) a.name).isSome = true := by simpa using h2
   have hm : oP (l.l.take k) = oP (l.l.take (k + 1)) := by
     funext s
     unfold oP
     rw [List.take_add_one, ha, Option.toList_some, pN]
     by_cases hs : a.name = s
     · subst hs
       obtain ⟨i, hi⟩ := Option.isSome_iff_exists.1 hyes
       rw [hi]; rfl
     · rw [if_neg hs, Option.or_none]
   refine aq (bB (az (aj ?_)))
   refine aU rfl (bd rfl rfl (by omega)) ?_
   refine aM rfl (aNn ?_)
   refine ⟨[3, 9, 10, 11], [0], [0], rfl, ?_⟩
   exact ⟨k + 1, ⟨by omega, by rw [← hm]; rfl⟩, by omega⟩
 ·skip
  refine aX (aY (aY (bf (az (aSR (aM rfl (aA rfl (aNn (aJ ?_)))))))))
  refine br [] [0] rfl Tryz.results101 rfl ?_ (.inr rfl)
  exact ⟨rfl, b1_0, rfl, by rw [List.take_of_length_le (by simpa using h1)]; rfl⟩
theorem tk175 : tyk Tryz.prog 175 = some (false, 1) := by kernel_rfl
abbrev abn (l : Sl aW) (bo ba bl bv bout bat : Nat) : List Per :=
 [At bo 0 [.v (.map (some bout))], At ba 0 [.v (.map (some bat))], At bl 0 [.v (slV l)], At bv 0 [.v (.func (.func 102) #[] #[.pointer (some ⟨bo, 0, none⟩), .pointer (some ⟨ba, 0, none⟩), .pointer (some ⟨bl, 0, none⟩), .pointer (some ⟨bv, 0, none⟩)])], ShM bat eS eI (oP l.l), ShF aW.row l, cv aW.ok l.l]
abbrev vV (l : Sl aW) (bo ba bl bv bout bat : Nat) (s : ByteArray) (m : List ByteArray) : Prop :=
 Con Tryz.prog 102 [.string s, .pointer (some ⟨bo, 0, none⟩), .pointer (some ⟨ba, 0, none⟩), .pointer (some ⟨bl, 0, none⟩), .pointer (some ⟨bv, 0, none⟩)] (abn l bo ba bl bv bout bat) [dg bout eS vBo (mH m)]
   fun _ ps hp => ps = [] ∧ ∃ m2, Vis l.l s m m2 ∧ hp = [dg bout eS vBo (mH m2)]
theorem vq (l : Sl aW) (v : ByteArray) (bo ba bl bv bout bat : Nat) (s : ByteArray) (m : List ByteArray) (hs : s ∈ univ l.l v) (ih : ∀ s' m', left (univ l.l v) m' < left (univ l.l v) m → s' ∈ univ l.l v → vV l bo ba bl bv bout bat s' m') : vV l bo ba bl bv bout bat s m := by
 refine Con.enter Tryz.func102 rfl (by simp [Tryz.ntmps102]) ?_
 show awp _ _ _ _ ⟨[(0, true, _), (1, true, _), (2, true, _), (3, true, _), (4, true, _)], _, _⟩
 refine aH (aSR (aU rfl (aN (o := 0) tk125 rfl (.of (aF 0 rfl)) rfl) (aM rfl ?_)))
 refine aU rfl (jd (k := s) (v0 := false) 0 Tryz.underlying125 (kyT) (by kernel_rfl) rfl rfl rfl) ?_
 refine aNn ?_
 refine al _ rfl (fun h1 => ?_) (fun h1 => ?_)
 ·skip
  have hin : s ∈ m := by have h1' : ((mH m s).getD false) = true := h1; rw [nj] at h1'; simpa using h1'
  refine aJ (aO ?_)
  refine ir [] [0] rfl Tryz.results102 ?_ (.inr rfl)
  exact ⟨rfl, m, .hit hin, rfl⟩
 ·skip
  have hin : s ∉ m := by have h1' : ((mH m s).getD false) = false := h1; rw [nj] at h1'; simpa using h1'
  have hlt := aaQ hs hin
  refine aq (az (aSR (aU rfl (aN (o := 0) tk125 rfl (.of (aF 0 rfl)) rfl) (aM rfl ?_))))
  refine an rfl (dQ (k := s) (v := true) 0 Tryz.underlying125 (kyT) rfl rfl rfl rfl ?_)
  refine aHK ?_
  refine aNs ?_
  rw [← zV]
  refine aj (aU rfl (aN (o := 0) tk173 rfl (.of (aF 1 rfl)) rfl) (aM rfl ?_))
  refine aU rfl (mc (k := s) (v0 := (0 : Int)) Tryz.underlying173 (kyT) (by kernel_rfl) rfl rfl ((.of (aF 4 rfl)))) ?_
  refine aM rfl (aU rfl (bD rfl rfl) (aU rfl (bD rfl rfl) (aA rfl (aA rfl (aNn (aSR (aM rfl (aNn ?_))))))))
  refine al _ rfl (fun h2 => ?_) (fun h2 => ?_)
  ·skip
   obtain ⟨i, hi⟩ : ∃ i, lA l.l s = some i := by
     cases hc : lA l.l s with
     | some i => exact ⟨i, rfl⟩
     | none => simp [hc] at h2
   have hz : ((lA l.l s).map fun i : Nat => (i : Int)).getD 0 = i := by rw [hi]; rfl
   have hil : i < l.l.length := by unfold lA at hi; rw [List.findIdx?_eq_some_iff_getElem] at hi; exact hi.1
   have hpar : kN l.l s = (elt l.l (i : Int)).parents.l := by unfold kN; rw [hi]
   refine aSR (aU rfl (aN (o := 0) tk24 rfl (.of (aF 2 rfl)) rfl) (aM rfl ?_))
   refine cJ true rfl rfl (fun _ => av Tryz.underlying24 tk178 rfl ((.of (aF 5 rfl))) rfl (aQ (bM hil)) (hz) rfl) (fun h => absurd h (by decide)) (fun ⟨b4_2, o4_2⟩ => ?_)
   refine aU rfl (qFA (off := 1) rfl) ?_
   refine aU rfl (aP (o := 1) tk77 rfl (aF 0 rfl) rfl rfl) (aU rfl (aZ Tryz.underlying77 rfl) (aM rfl (aNn (aI ?_))))
   refine bA (aW.f_parents (Ent.all (f := aW.ok) (.of (aF 7 rfl)) (bM hil))) (fun hlen => ?_)
   refine aT [1, 2, 3, 4, 26, 27, 28] [6, 5, 4, 3, 2, 1, 0] [0] (fun (q : Nat × List ByteArray) st => (q.1 ≤ (elt l.l (i : Int)).parents.l.length ∧ qL l.l s m q.2 q.1) ∧ st = ⟨[(1, true, .pointer (some ⟨bo, 0, none⟩)), (2, true, .pointer (some ⟨ba, 0, none⟩)), (3, true, .pointer (some ⟨bl, 0, none⟩)), (4, true, .pointer (some ⟨bv, 0, none⟩)), (26, true, (elt l.l (i : Int)).parents.val), (27, true, .int .i64 (elt l.l (i : Int)).parents.l.length), (28, true, .int .i64 q.1)], abn l bo ba bl bv bout bat, [dg bout eS vBo (mH q.2)]⟩) (fun q => (elt l.l (i : Int)).parents.l.length - q.1) rfl (⟨(0, m ++ [s]), ⟨Nat.zero_le _, .start⟩, rfl⟩) ?_
   rintro ⟨k, m2⟩ st ⟨⟨hk, hV⟩, rfl⟩
   dsimp only at hk hV
   refine aSR (aU rfl (bw rfl rfl) (aNs ?_))
   refine al _ rfl (fun h3 => ?_) (fun h3 => ?_)
   ·skip
    have hk' : k < (elt l.l (i : Int)).parents.l.length := by simp at h3; omega
    obtain ⟨p, hp⟩ : ∃ p, (elt l.l (i : Int)).parents.l[k]? = some p := ⟨_, List.getElem?_eq_getElem hk'⟩
    have hp2 : (kN l.l s)[k]? = some p := by rw [hpar]; exact hp
    refine aq (az (aH (aI (aSR ?_))))
    refine cJ true rfl rfl (fun _ => av Tryz.underlying77 tk9 rfl ((aW.f_parents (Ent.all (f := aW.ok) (.of (aF 6 rfl)) (bM hil)))) rfl (aQ hp) rfl rfl) (fun h => absurd h (by decide)) (fun ⟨b6_0, o6_0⟩ => ?_)
    refine aU rfl (aP (o := 0) tk9 rfl (aF 0 rfl) rfl rfl) (aA rfl (aNn (aj (aU rfl (aN (o := 0) tk175 rfl (.of (aF 4 rfl)) rfl) (aM rfl ?_)))))
    refine an (q := false) rfl (gA [6, 5, 4, 3, 2, 1, 0] [0] (by kernel_rfl) rfl rfl rfl rfl rfl (ih p m2 (Nat.lt_of_le_of_lt (wv fun x hx => hV.sub x hx) hlt) (y7 (List.mem_of_getElem? hp2))) ?_)
    rintro _ _ _ ⟨rfl, m3, hv3, rfl⟩
    refine aST ?_
    refine cn (bB (az (aj ?_)))
    refine aU rfl (bd rfl rfl (by omega)) ?_
    refine aM rfl (aNn ?_)
    refine ⟨[1, 2, 3, 4, 26, 27, 28], [6, 5, 4, 3, 2, 1, 0], [0], rfl, ?_⟩
    exact ⟨(k + 1, m3), ⟨⟨by dsimp only; omega, hV.step hp2 hv3⟩, rfl⟩, by dsimp only; omega⟩
   ·skip
    refine aX (aY (aY (bf ?_)))
    refine ir [] [0] rfl Tryz.results102 ?_ (.inl rfl)
    exact ⟨rfl, m2, hV.fin (by rw [hpar]; simp at h3; omega), rfl⟩
  ·skip
   have hpar : kN l.l s = [] := by
     unfold kN
     cases hc : lA l.l s with
     | none => rfl
     | some i => simp [hc] at h2
   refine aq ?_
   refine ir [] [0] rfl Tryz.results102 ?_ (.inl rfl)
   exact ⟨rfl, m ++ [s], qL.start.fin (by rw [hpar]; exact Nat.le_refl _), rfl⟩
theorem qA (l : Sl aW) (v : ByteArray) (bo ba bl bv bout bat : Nat) : ∀ (N : Nat) (s : ByteArray) (m : List ByteArray), left (univ l.l v) m < N → s ∈ univ l.l v → vV l bo ba bl bv bout bat s m
 | 0, _, _, h, _ => by omega
 | N + 1, s, m, h, hs => vq l v bo ba bl bv bout bat s m hs fun s' m' h' hs' => qA l v bo ba bl bv bout bat N s' m' (by omega) hs'
theorem vQ (l : Sl aW) (v : ByteArray) : Con Tryz.prog 47 [l.val, .string v] [ShF aW.row l, cv aW.ok l.l] [] fun r ps hp => ps = [] ∧ ∃ b m, r = .map (some b) ∧ (∀ x, x ∈ m ↔ Srv l.l v x) ∧ hp = [dg b eS vBo (mH m)] := by
 refine Con.enter Tryz.func47 rfl (by simp [Tryz.ntmps47]) ?_
 show awp _ _ _ _ ⟨[(0, true, _), (1, true, _)], _, _⟩
 refine aSR ?_
 refine an (q := true) rfl (ab0 ([slV l]) rfl rfl rfl (fun b0_0 => ?_))
 refine aHN ?_
 refine aA rfl (aNn (aSR (aU rfl (ah 0 tk24 rfl rfl rfl) ?_)))
 refine an (q := true) rfl (bH [1] [] (by kernel_rfl) rfl rfl rfl rfl (vj l) ?_)
 rintro _ _ _ ⟨rfl, bat, rfl, rfl⟩
 refine aST ?_
 refine an (q := true) rfl (bc (zs := [.map none]) (by kernel_rfl) rfl (fun b1_2 => ?_))
 refine aHN ?_
 refine an rfl (aV 2 tk173 rfl rfl rfl rfl ?_)
 refine aHK ?_
 refine aNn (aSR ?_)
 refine an (q := true) rfl (fk (eS) (vBo) rfl (fun b2_0 => ?_))
 refine aHN ?_
 refine an (q := true) rfl (bc (zs := [.map none]) (by kernel_rfl) rfl (fun b2_1 => ?_))
 refine aHN ?_
 refine an rfl (aV 4 tk125 rfl rfl rfl rfl ?_)
 refine aHK ?_
 refine aNn (aSR ?_)
 refine an (q := true) rfl (bc (zs := [.nilFunc]) (by kernel_rfl) rfl (fun b3_0 => ?_))
 refine aHN ?_
 refine aNn (aSR (aU rfl (im (l := [.tmp 6, .tmp 5, .tmp 2, .tmp 7]) rfl) ?_))
 refine an rfl (aV 5 tk175 rfl rfl rfl rfl ?_)
 refine aHK ?_
 refine aNs (eC 1 (ShM bat eS eI (oP l.l)) rfl (fun _ _ _ hh => wJ hh) (cX 5 rfl rfl (cX 0 rfl rfl (cX 2 rfl rfl (cX 4 rfl rfl ?_)))))
 show awp _ _ _ _ ⟨_, At b2_1 0 [.v (.map (some b2_0))] :: At b1_2 0 [.v (.map (some bat))] :: At b0_0 0 [.v (slV l)] :: At b3_0 0 [.v (.func (.func 102) #[] #[.pointer (some ⟨b2_1, 0, none⟩), .pointer (some ⟨b1_2, 0, none⟩), .pointer (some ⟨b0_0, 0, none⟩), .pointer (some ⟨b3_0, 0, none⟩)])] :: ShM bat eS eI (oP l.l) :: _ :: _ :: [], _⟩
 refine aj (aU rfl (aN (o := 0) tk175 rfl (.of (aF 3 rfl)) rfl) (aM rfl ?_))
 refine an (q := false) rfl (gA [6, 5, 4, 3, 2, 1, 0] [3] (by kernel_rfl) rfl rfl rfl rfl rfl (qA l v b2_1 b1_2 b0_0 b3_0 b2_0 bat _ v [] (Nat.lt_succ_self _) List.mem_cons_self) ?_)
 rintro _ _ _ ⟨rfl, m2, hv, rfl⟩
 refine aST ?_
 refine aNn (aSR (aU rfl (aN (o := 0) tk125 rfl (.of (aF 0 rfl)) rfl) (aA rfl (aNn (aJ ?_)))))
 refine br [] [3] rfl Tryz.results47 rfl ?_ (.inr rfl)
 exact ⟨rfl, b2_0, m2, rfl, hv.all, rfl⟩
theorem pB (l : Sl aW) (a : ByteArray) : Con Tryz.prog 22 [l.val, .string a, .string a] [ShF aW.row l, cv aW.ok l.l] [] fun r _ _ => r = .bool true := by
 refine Con.enter Tryz.func22 rfl (by simp [Tryz.ntmps22]) ?_
 show awp _ _ _ _ ⟨[(0, true, _), (1, true, _), (2, true, _)], _, _⟩
 refine aSR (aA rfl (aNn (aSR (aM rfl (aM rfl ?_)))))
 refine aU rfl ((eE rfl rfl).castV (v' := .bool true) (by rw [decide_eq_true rfl])) ?_
 refine aM rfl (aG rfl rfl (fun hc => aD rfl) (aG rfl rfl (fun hc => aD rfl) ?_))
 refine bT (caps := []) [1, 0] (none) (by kernel_rfl) _ rfl rfl (fun _ => rfl) (fun hc => (aS (ae rfl hc) (aS (ae rfl hc) rfl))) (fun hc => by rw [List.append_nil]; exact (absurd hc (by decide) : Con _ _ _ _ _ (YN (fun m : Option Nat => Value.map m) fun _ => True))) (fun m6 hm6 => ?_)
 refine aG rfl rfl (fun hc => aD rfl) ?_
 refine aG rfl rfl (fun hc => (absurd hc (by decide) : Quiet _ _ _ _ (.bool false))) ?_
 refine aU rfl (bY rfl rfl (fun h => gf rfl h)) (aA rfl (aNn (aJ ?_)))
 refine br [] [] rfl Tryz.results22 rfl ?_ (.inr rfl)
 rfl
theorem pz (l : Sl aW) (a b : ByteArray) (hab : a ≠ b) (SV : ByteArray → ByteArray → Bool) (hSV : ∀ x y, SV x y = true ↔ Srv l.l x y) : Con Tryz.prog 22 [l.val, .string a, .string b] [ShF aW.row l, cv aW.ok l.l] [] fun r _ _ => r = .bool (SV a b) := by
 refine Con.enter Tryz.func22 rfl (by simp [Tryz.ntmps22]) ?_
 show awp _ _ _ _ ⟨[(0, true, _), (1, true, _), (2, true, _)], _, _⟩
 refine aSR (aA rfl (aNn (aSR (aM rfl (aM rfl ?_)))))
 refine aU rfl ((eE rfl rfl).castV (v' := .bool false) (by rw [decide_eq_false hab])) ?_
 refine aM rfl (aM rfl (aM rfl ?_))
 refine an (q := true) rfl (bH [1, 0] [] (by kernel_rfl) rfl rfl rfl rfl (vQ l a) ?_)
 rintro _ _ _ ⟨rfl, bm, m, rfl, hm, rfl⟩
 refine aST ?_
 refine aM rfl ?_
 refine aU rfl ((jd (k := b) (v0 := false) 0 Tryz.underlying125 (kyT) (by kernel_rfl) rfl rfl rfl).castV (v' := .bool (SV a b)) (by (show Value.bool ((mH m b).getD false) = _); rw [nj]; congr 1; rw [Bool.eq_iff_iff, hSV, ← hm]; simp)) ?_
 refine aU rfl (bY rfl rfl (fun _ => rfl)) (aA rfl (aNn (aJ ?_)))
 refine br [] [] rfl Tryz.results22 rfl ?_ (.inr rfl)
 rfl
theorem pf (l : Sl aW) (a b : ByteArray) (SV : ByteArray → ByteArray → Bool) (hSV : ∀ x y, SV x y = true ↔ Srv l.l x y) : Con Tryz.prog 22 [l.val, .string a, .string b] [ShF aW.row l, cv aW.ok l.l] [] fun r _ _ => r = .bool (SV a b) := by
 by_cases hab : a = b
 · subst hab
   rw [show SV a a = true from (hSV a a).2 .refl]
   exact pB l a
 · exact pz l a b hab SV hSV
end Go.Proofs.YtgmiihmahaahiaaGreatDoor

namespace Go.Sy
open Go.RowKit Go.Lp Go.Sort Go.Proofs
section
variable {α : Type} [Inhabited α] {enc : α → List Value} {k : Nat}
omit [Inhabited α] in
theorem hJ (hk : ∀ x, (enc x).length = k) : ∀ zs : List α, (zs.flatMap enc).length = zs.length * k
 | [] => by simp
 | x :: zs => by rw [List.flatMap_cons, List.length_append, hJ hk zs, hk, List.length_cons, Nat.add_mul, Nat.one_mul]; omega
omit [Inhabited α] in
theorem flat_get (hk : ∀ x, (enc x).length = k) : ∀ (zs : List α) (i j : Nat) (x : α), zs[i]? = some x → j < k → (zs.flatMap enc)[i * k + j]? = (enc x)[j]?
 | [], i, j, x, h, _ => by simp at h
 | y :: zs, 0, j, x, h, hj => by
   simp only [List.getElem?_cons_zero, Option.some.injEq] at h
   subst h
   rw [List.flatMap_cons, Nat.zero_mul, Nat.zero_add, List.getElem?_append_left (by rw [hk]; exact hj)]
 | y :: zs, i + 1, j, x, h, hj => by
   rw [List.getElem?_cons_succ] at h
   rw [List.flatMap_cons, List.getElem?_append_right (by rw [hk, Nat.add_mul]; omega), hk, show (i + 1) * k + j - k = i * k + j by rw [Nat.add_mul]; omega]
   exact flat_get hk zs i j x h hj
theorem oL (hk : ∀ x, (enc x).length = k) (d : Array α) : flatK enc k d = (d.toList.flatMap enc).toArray := by
 apply Array.ext'
 apply List.ext_getElem?
 intro t
 show (flatK enc k d).toList[t]? = (d.toList.flatMap enc)[t]?
 by_cases ht : t < d.size * k
 · have k0 : 0 < k := by rcases Nat.eq_zero_or_pos k with h | h
                         · subst h; simp at ht
                         · exact h
   have hd : t / k < d.size := (Nat.div_lt_iff_lt_mul k0).2 ht
   have h1 := flat_get hk d.toList (t / k) (t % k) d[t / k]! (by simp [hd]) (Nat.mod_lt _ k0)
   rw [show t / k * k + t % k = t by rw [Nat.mul_comm]; exact Nat.div_add_mod t k] at h1
   rw [h1, Array.getElem?_toList]
   have h2 := get_flatK enc k d t ht
   have h3 : t % k < (enc d[t / k]!).length := by rw [hk]; exact Nat.mod_lt _ k0
   rw [List.getElem?_eq_getElem h3]
   have hs : t < (flatK enc k d).size := by rw [size_flatK]; exact ht
   rw [Array.getElem?_eq_getElem hs]
   rw [getElem!_pos _ t hs] at h2
   rw [h2, getElem!_pos (enc d[t / k]!) (t % k) h3]
 · rw [List.getElem?_eq_none (by simpa using ht), List.getElem?_eq_none (by rw [hJ hk]; simpa using ht)]
abbrev tm (enc : α → List Value) (l : List α) : List (List D) := l.map fun x => (enc x).map D.v
theorem za (hk : ∀ x, (enc x).length = k) (k0 : 0 < k) {w : World} {S F : bz} {v : Value} {T : TypeId} {zs : List α} (h : (bg v T k (tm enc zs)).holds w S F) :
   (v = .slice none 0 0 ∧ zs = []) ∨ ∃ b cap sp, v = .slice (some ⟨b, 0, none⟩) zs.length cap ∧ w.heap[b]? = some (.cells (zs.flatMap enc ++ sp).toArray T (0, 0)) ∧ zs.length * k + sp.length = cap * k ∧ zs.length ≤ cap ∧ cap ≤ maxLen ∧ (∀ j, F j ↔ j = b) ∧ HoldsK enc k w b 0 zs.toArray := by
 rcases h with ⟨h1, h2, _⟩ | ⟨b, cap, hv, ⟨cs, sp, hb, hr, hl, hle, hc⟩, hF⟩
 · left; exact ⟨h1, by simpa using h2⟩
 · right
   have hlen := hr.len
   rw [List.length_map] at hlen
   have hcs : cs = zs.flatMap enc := by
     apply List.ext_getElem?
     intro t
     by_cases ht : t < zs.length * k
     · have hd : t / k < zs.length := (Nat.div_lt_iff_lt_mul k0).2 ht
       have hj := Nat.mod_lt t k0
       have hx : zs[t / k]? = some (zs[t / k]'hd) := List.getElem?_eq_getElem hd
       have h1 := flat_get hk zs (t / k) (t % k) _ hx hj
       have h3 : t % k < (enc (zs[t / k]'hd)).length := by rw [hk]; exact hj
       obtain ⟨u, hu, hrep⟩ := hr.rep (t / k) (t % k) ((enc (zs[t / k]'hd)).map D.v) (.v ((enc (zs[t / k]'hd))[t % k]'h3)) (by rw [List.getElem?_map, hx]; rfl) (by rw [List.getElem?_map, List.getElem?_eq_getElem h3]; rfl)
       rw [show t / k * k + t % k = t by rw [Nat.mul_comm]; exact Nat.div_add_mod t k] at h1 hu
       cases hrep
       rw [hu, h1, List.getElem?_eq_getElem h3]
     · rw [List.getElem?_eq_none (by omega), List.getElem?_eq_none (by rw [hJ hk]; omega)]
   subst hcs
   refine ⟨b, cap, sp, by rw [hv, List.length_map], hb, by rw [← hl, List.length_append, hJ hk], by rwa [List.length_map] at hle, hc, hF, fun j hj => ?_⟩
   rw [oL hk] at hj ⊢
   have hj' : j < (zs.flatMap enc).length := by simpa using hj
   refine ⟨?_, ?_⟩
   · rw [Nat.zero_add, ef hb, List.getElem?_append_left hj', List.getElem?_eq_getElem hj']
     congr 1
     show _ = (zs.flatMap enc).toArray[j]!
     rw [getElem!_pos (zs.flatMap enc).toArray j (by simpa using hj')]; simp
   · unfold World.frozen?
     rw [hb]
     simp
theorem qh {P : Program} {ρ : Go.Shelf.Ren} (L : SlLaysF0.n6 P ρ) (k0 : 0 < k) (aE : ∀ w, (isAgg (ρ.t 24)).run P w = .ok true w) (zE : ∀ w, (Go.sizeOf (ρ.t 24)).run P w = .ok k w) (hk : ∀ x, (enc x).length = k) (h1 : ∀ x, ∀ v ∈ enc x, v.oneCell' = true)
   (cf : α → α → Int) (hO : SWO (ltOf cf)) (g : FuncId) (hg : e8 P g = true) (hcmp : ∀ x y, Con P g [.agg (enc x).toArray, .agg (enc y).toArray] [] [] fun r _ _ => r = .int .i64 (cf x y)) {T : TypeId} {v : Value} (zs : List α) (hz : zs.length < 4611686018427387904) :
   Con P (ρ.f 6) [v, .func (.func g) #[] #[]] [] [bg v T k (tm enc zs)] fun _ ps' hp' => ps' = [] ∧ ∃ q : List α, q.Perm zs ∧ (q.Pairwise fun a b => ¬ cf b a < 0) ∧ hp' = [bg v T k (tm enc q)] := fun w S fp hst => by
 have hr := hst.res 0 _ rfl
 rcases za hk k0 hr with ⟨e1, e2⟩ | ⟨b, cap, sp, hv, hb, hl, hle, hc, hF, hH⟩
 · subst e1 e2
   refine (AnyF.slices_SortFunc_none L none 0 (.func (.func g) #[] #[]) w).mono fun e w' ⟨he, hw⟩ => ?_
   have hbl : Go.Sy.Below w.heap.size w w' := by rw [hw]; exact .refl _ _
   exact ⟨_, [], _, S, fp, he, ⟨rfl, [], List.Perm.refl _, List.Pairwise.nil, rfl⟩, ⟨(fun p hp => by cases hp), (hst.below hbl).res, (hst.below hbl).lt, hst.dj, (hst.below hbl).slt⟩, Evo.of_below _ _ hbl, fun b hb => .inl hb⟩
 · have hbl := lt_of_heap hb
   have eg : ∀ args w, (callFunc g args).run P w = .ok (.enter g args) w := jc hg
   have hlays : CmpLays P g #[] enc k cf b 0 zs.toArray.size w := fun m os dk _ x y => by
     have hst0 : ∀ W : World, St W (fun _ => False) (fun _ _ => False) [] [] := fun W => ⟨fun p hp => (by cases hp), fun i R hi => (by simp at hi), fun i hi => (by simp at hi), fun i j hi => (by simp at hi), fun b hb => hb.elim⟩
     refine ((hcmp x y).quiet0 (hst0 (sortWorldK enc k w b 0 m dk os))).mono fun e w' ⟨he, hbw⟩ => ⟨he, ?_⟩
     obtain ⟨objs, d, rfl⟩ := lu hbw.kit
     have hd := hbw.drawn
     refine ⟨d - (sortWorldK enc k w b 0 m dk os).drawn, objs, ?_⟩
     unfold World.ext grow World.drewN
     have hd' : (sortWorldK enc k w b 0 m dk os).drawn ≤ d := hd
     simp only [World.mk.injEq, true_and, and_true]
     omega
   have hcall := AnyQ.slices_SortFunc L k aE zE enc hk h1 cf hO g #[] b 0 cap zs.toArray w eg hlays hH hbl (by simpa using hz)
   rw [show zs.toArray.size = zs.length by simp, ← hv] at hcall
   refine hcall.mono fun e w' ⟨he, d', n, os, hp, hs, hw⟩ => ?_
   obtain ⟨p1, _, p3⟩ := hp
   have hsz' : d'.toList.length = zs.length := by simpa using p1
   have hperm : d'.toList.Perm zs := by
     have e1 : (d'.extract 0 zs.length).toList = d'.toList := by
       rw [Array.toList_extract, List.extract_eq_take_drop, List.drop_zero, List.take_of_length_le (by omega)]
     have e2 : (zs.toArray.extract 0 zs.length).toList = zs := by simp
     rw [e1, e2] at p3; exact p3
   have hsort : d'.toList.Pairwise fun a b => ¬ cf b a < 0 := by
     rw [List.pairwise_iff_getElem]
     intro i j hi hj hij
     have hi' : i < d'.size := by simpa using hi
     have hj' : j < d'.size := by simpa using hj
     have := hs i j (Nat.zero_le _) hij (by omega)
     rw [getElem!_pos d' i hi', getElem!_pos d' j hj'] at this
     unfold ltOf at this
     simpa using this
   have hfl : (flatK enc k d') = (d'.toList.flatMap enc).toArray := oL hk d'
   have hlen' : (d'.toList.flatMap enc).length = zs.length * k := by rw [hJ hk, hsz']
   have hb' : w'.heap[b]? = some (.cells (d'.toList.flatMap enc ++ sp).toArray T (0, 0)) := by
     rw [hw]
     show ((w.heap.modify b (onCells (putCells id 0 (flatK enc k d')))) ++ os)[b]? = _
     rw [Array.getElem?_append_left (by simpa using hbl), Array.getElem?_modify, if_pos rfl, hb, Option.map_some]
     show some (Obj.cells (putCells id 0 (flatK enc k d') (zs.flatMap enc ++ sp).toArray) T (0, 0)) = _
     rw [hfl, kf id (d'.toList.flatMap enc) (zs.flatMap enc) sp (by rw [hlen', hJ hk]), List.map_id]
   have hoth : ∀ j, j < w.heap.size → j ≠ b → w'.heap[j]? = w.heap[j]? := fun j hj hne => by
     rw [hw]
     show ((w.heap.modify b (onCells (putCells id 0 (flatK enc k d')))) ++ os)[j]? = _
     rw [Array.getElem?_append_left (by simpa using hj), Array.getElem?_modify, if_neg (Ne.symm hne)]
   have hsz : w.heap.size ≤ w'.heap.size := by
     rw [hw]
     show _ ≤ ((w.heap.modify b (onCells (putCells id 0 (flatK enc k d')))) ++ os).size
     simp
   have hfb : fp 0 b := (hF b).2 rfl
   refine ⟨_, [], [bg v T k (tm enc d'.toList)], S, fp, he, ⟨rfl, d'.toList, hperm, hsort, rfl⟩, ⟨(fun p hp => by cases hp), fun i R' hi => ?_, fun i hi j hj => ?_, hst.dj, fun j hj => Nat.lt_of_lt_of_le (hst.slt j hj) hsz⟩, ⟨by rw [hw]; rfl, by rw [hw]; rfl, by rw [hw]; rfl, hsz, by rw [hw]; exact Nat.le_add_right _ _, fun j hj hx => hoth j hj fun e => hx ⟨0, by simp, e ▸ hfb⟩, fun _ h => h, fun _ h => .inl h⟩, fun j hj => .inl hj⟩
   · cases i with
     | succ i => simp at hi
     | zero =>
       simp only [List.getElem?_cons_zero, Option.some.injEq] at hi
       subst hi
       refine .inr ⟨b, cap, by rw [List.length_map, hsz', hv], ⟨d'.toList.flatMap enc, sp, hb', ⟨by rw [List.length_map, hJ hk], fun i r hi => ?_, fun u hu => ?_, fun i j r d g1 g2 => ?_⟩, by rw [List.length_append, hlen']; exact hl, by rw [List.length_map, hsz']; exact hle, hc⟩, hF⟩
       · rw [List.getElem?_map, Option.map_eq_some_iff] at hi
         obtain ⟨x, _, rfl⟩ := hi; rw [List.length_map, hk]
       · obtain ⟨x, _, hx⟩ := List.mem_flatMap.1 hu; exact h1 x u hx
       · rw [List.getElem?_map, Option.map_eq_some_iff] at g1
         obtain ⟨x, hx, rfl⟩ := g1
         rw [List.getElem?_map, Option.map_eq_some_iff] at g2
         obtain ⟨u, hu, rfl⟩ := g2
         have hj : j < k := by rw [← hk x]; exact (List.getElem?_eq_some_iff.1 hu).1
         exact ⟨u, by rw [flat_get hk _ i j x hx hj]; exact hu, .v u⟩
   · have hi' : i < [bg v T k (tm enc zs)].length := by simpa using hi
     exact ⟨Nat.lt_of_lt_of_le (hst.lt i hi' j hj).1 hsz, (hst.lt i hi' j hj).2⟩
end
def abl (P : Program) (T : TypeId) (i : Nat) : Option Nat := match P.underlying T with
 | some (.struct fs) => (match fs[i]? with
   | some f => if P.plainKey f.type = true then some f.offset else none
   | none => none)
 | _ => none
theorem tO {P : Program} {n : Fr} {s : Sta} {d : Option Tmp} {ty : TypeId} {pos : String} {af : Array Edge} {gd : Option (Nat × Bool)} {T : TypeId} {i off : Nat} {x : Operand} {xs : Array Value} {v : Value} (hf : abl P T i = some off) (hx : ev s.env x = some (true, .agg xs)) (hv : xs[off]? = some v) :
   Quiet P n ⟨d, .field T x i, ty, pos, af, gd⟩ s v := fun w S fp a hst he hn => by
 have h1 := he.val hx rfl
 unfold abl at hf
 cases hu : P.underlying T with
 | none => rw [hu] at hf; cases hf
 | some t =>
   rw [hu] at hf
   cases t with
   | struct fs =>
     dsimp only at hf
     cases hi : fs[i]? with
     | none => rw [hi] at hf; cases hf
     | some f =>
       rw [hi] at hf
       dsimp only at hf
       split at hf
       · rename_i hp
         obtain rfl := Option.some.inj hf
         have : (execOp a.eval ⟨d, .field T x i, ty, pos, af, gd⟩).run P w = .ok (.value v) w := by
           unfold execOp; dsimp only; rw [h1]
           show ((Instr.field T (.agg xs) i).bind fun r => Sem.pure (Next.value r)).run P w = _
           have h2 : (Instr.field T (.agg xs) i).run P w = .ok v w := by
             simp only [Instr.field, Sem.run_bind, run_underlying hu, Result.andThen, hi, asAgg, Sem.run_pure]
             exact run_part_plain w hp hv
           rw [Sem.run_bind', h2]; rfl
         rw [this]; exact ck _ _
       · cases hf
   | _ => cases hf
end Go.Sy

namespace Go.Proofs
open Go.Shelf
def Tryz.sortO_ren : Go.Shelf.Ren := ⟨fun | 6 => 42 | 15 => 98 | 14 => 97 | 28 => 206 | 29 => 207 | 20 => 198 | 21 => 199 | 22 => 200 | 23 => 201 | 24 => 202 | 25 => 203 | 26 => 204 | 27 => 205 | 46 => 261 | 47 => 262 | 48 => 263 | 49 => 264 | 50 => 265 | 57 => 289 | n => n, fun | 22 => 41 | 24 => 46 | 25 => 123 | 3 => 3 | 39 => 147 | 0 => 0 | 53 => 272 | 55 => 275 | 4 => 4 | 46 => 292 | 45 => 291 | 50 => 176 | 5 => 5 | 9 => 9 | 66 => 328 | 70 => 332 | 76 => 357 | 77 => 358 | n => n, fun | n => n⟩
theorem Tryz.sortO : Go.Proofs.SlLaysF0.n6 Tryz.prog Tryz.sortO_ren := {
 mixed := by kernel_rfl
 f6 := ⟨Tryz.f42.name, by decide, Tryz.func42.trans (congrArg some (by kernel_rfl))⟩
 f14 := ⟨Tryz.f97.name, by decide, Tryz.func97.trans (congrArg some (by kernel_rfl))⟩
 f15 := Tryz.func98.trans (congrArg some (by kernel_rfl))
 f20 := ⟨Tryz.f198.name, by decide, Tryz.func198.trans (congrArg some (by kernel_rfl))⟩
 f21 := ⟨Tryz.f199.name, by decide, Tryz.func199.trans (congrArg some (by kernel_rfl))⟩
 f22 := ⟨Tryz.f200.name, by decide, Tryz.func200.trans (congrArg some (by kernel_rfl))⟩
 f23 := ⟨Tryz.f201.name, by decide, Tryz.func201.trans (congrArg some (by kernel_rfl))⟩
 f24 := ⟨Tryz.f202.name, by decide, Tryz.func202.trans (congrArg some (by kernel_rfl))⟩
 f25 := ⟨Tryz.f203.name, by decide, Tryz.func203.trans (congrArg some (by kernel_rfl))⟩
 f26 := ⟨Tryz.f204.name, by decide, Tryz.func204.trans (congrArg some (by kernel_rfl))⟩
 f27 := ⟨Tryz.f205.name, by decide, Tryz.func205.trans (congrArg some (by kernel_rfl))⟩
 f28 := Tryz.func206.trans (congrArg some (by kernel_rfl))
 f29 := Tryz.func207.trans (congrArg some (by kernel_rfl))
 f46 := ⟨Tryz.f261.name, by decide, Tryz.func261.trans (congrArg some (by kernel_rfl))⟩
 f47 := Tryz.func262.trans (congrArg some (by kernel_rfl))
 f48 := Tryz.func263.trans (congrArg some (by kernel_rfl))
 f49 := ⟨Tryz.f264.name, by decide, Tryz.func264.trans (congrArg some (by kernel_rfl))⟩
 f50 := ⟨Tryz.f265.name, by decide, Tryz.func265.trans (congrArg some (by kernel_rfl))⟩
 f57 := ⟨Tryz.f289.name, by decide, Tryz.func289.trans (congrArg some (by kernel_rfl))⟩
 t0 := Tryz.underlying0
 a0 := Tryz.isAgg0
 z0 := Tryz.sizeOf0
 v0 := Tryz.zeroValue0
 t3 := Tryz.underlying3
 a3 := Tryz.isAgg3
 z3 := Tryz.sizeOf3
 v3 := Tryz.zeroValue3
 t4 := Tryz.underlying4
 a4 := Tryz.isAgg4
 z4 := Tryz.sizeOf4
 v4 := Tryz.zeroValue4
 t5 := Tryz.underlying5
 a5 := Tryz.isAgg5
 z5 := Tryz.sizeOf5
 v5 := Tryz.zeroValue5
 t9 := Tryz.underlying9
 a9 := Tryz.isAgg9
 z9 := Tryz.sizeOf9
 v9 := Tryz.zeroValue9
 t22 := Tryz.underlying41
 a22 := Tryz.isAgg41
 z22 := Tryz.sizeOf41
 v22 := Tryz.zeroValue41
 t25 := Tryz.underlying123
 a25 := Tryz.isAgg123
 z25 := Tryz.sizeOf123
 v25 := Tryz.zeroValue123
 t39 := Tryz.underlying147
 a39 := Tryz.isAgg147
 z39 := Tryz.sizeOf147
 v39 := Tryz.zeroValue147
 t45 := Tryz.underlying291
 a45 := Tryz.isAgg291
 z45 := Tryz.sizeOf291
 v45 := Tryz.zeroValue291
 t46 := Tryz.underlying292
 a46 := Tryz.isAgg292
 z46 := Tryz.sizeOf292
 v46 := Tryz.zeroValue292
 t50 := Tryz.underlying176
 a50 := Tryz.isAgg176
 z50 := Tryz.sizeOf176
 v50 := Tryz.zeroValue176
 t53 := Tryz.underlying272
 a53 := Tryz.isAgg272
 z53 := Tryz.sizeOf272
 v53 := Tryz.zeroValue272
 t55 := Tryz.underlying275
 a55 := Tryz.isAgg275
 z55 := Tryz.sizeOf275
 v55 := Tryz.zeroValue275
 t66 := Tryz.underlying328
 a66 := Tryz.isAgg328
 z66 := Tryz.sizeOf328
 v66 := Tryz.zeroValue328
 t70 := Tryz.underlying332
 a70 := Tryz.isAgg332
 z70 := Tryz.sizeOf332
 v70 := Tryz.zeroValue332
 t76 := Tryz.underlying357
 a76 := Tryz.isAgg357
 z76 := Tryz.sizeOf357
 v76 := Tryz.zeroValue357
 t77 := Tryz.underlying358
 a77 := Tryz.isAgg358
 z77 := Tryz.sizeOf358
 v77 := Tryz.zeroValue358 }
def Tryz.sortC_ren : Go.Shelf.Ren := ⟨fun | 6 => 88 | 15 => 98 | 14 => 191 | 28 => 206 | 29 => 207 | 20 => 252 | 21 => 253 | 22 => 254 | 23 => 255 | 24 => 256 | 25 => 257 | 26 => 258 | 27 => 259 | 46 => 286 | 47 => 262 | 48 => 263 | 49 => 287 | 50 => 288 | 57 => 306 | n => n, fun | 22 => 158 | 24 => 34 | 25 => 163 | 3 => 3 | 39 => 147 | 0 => 0 | 53 => 272 | 55 => 275 | 4 => 4 | 46 => 292 | 45 => 291 | 50 => 176 | 5 => 5 | 9 => 9 | 66 => 328 | 70 => 332 | 76 => 357 | 77 => 358 | n => n, fun | n => n⟩
theorem Tryz.sortC : Go.Proofs.SlLaysF0.n6 Tryz.prog Tryz.sortC_ren := {
 mixed := by kernel_rfl
 f6 := ⟨Tryz.f88.name, by decide, Tryz.func88.trans (congrArg some (by kernel_rfl))⟩
 f14 := ⟨Tryz.f191.name, by decide, Tryz.func191.trans (congrArg some (by kernel_rfl))⟩
 f15 := Tryz.func98.trans (congrArg some (by kernel_rfl))
 f20 := ⟨Tryz.f252.name, by decide, Tryz.func252.trans (congrArg some (by kernel_rfl))⟩
 f21 := ⟨Tryz.f253.name, by decide, Tryz.func253.trans (congrArg some (by kernel_rfl))⟩
 f22 := ⟨Tryz.f254.name, by decide, Tryz.func254.trans (congrArg some (by kernel_rfl))⟩
 f23 := ⟨Tryz.f255.name, by decide, Tryz.func255.trans (congrArg some (by kernel_rfl))⟩
 f24 := ⟨Tryz.f256.name, by decide, Tryz.func256.trans (congrArg some (by kernel_rfl))⟩
 f25 := ⟨Tryz.f257.name, by decide, Tryz.func257.trans (congrArg some (by kernel_rfl))⟩
 f26 := ⟨Tryz.f258.name, by decide, Tryz.func258.trans (congrArg some (by kernel_rfl))⟩
 f27 := ⟨Tryz.f259.name, by decide, Tryz.func259.trans (congrArg some (by kernel_rfl))⟩
 f28 := Tryz.func206.trans (congrArg some (by kernel_rfl))
 f29 := Tryz.func207.trans (congrArg some (by kernel_rfl))
 f46 := ⟨Tryz.f286.name, by decide, Tryz.func286.trans (congrArg some (by kernel_rfl))⟩
 f47 := Tryz.func262.trans (congrArg some (by kernel_rfl))
 f48 := Tryz.func263.trans (congrArg some (by kernel_rfl))
 f49 := ⟨Tryz.f287.name, by decide, Tryz.func287.trans (congrArg some (by kernel_rfl))⟩
 f50 := ⟨Tryz.f288.name, by decide, Tryz.func288.trans (congrArg some (by kernel_rfl))⟩
 f57 := ⟨Tryz.f306.name, by decide, Tryz.func306.trans (congrArg some (by kernel_rfl))⟩
 t0 := Tryz.underlying0
 a0 := Tryz.isAgg0
 z0 := Tryz.sizeOf0
 v0 := Tryz.zeroValue0
 t3 := Tryz.underlying3
 a3 := Tryz.isAgg3
 z3 := Tryz.sizeOf3
 v3 := Tryz.zeroValue3
 t4 := Tryz.underlying4
 a4 := Tryz.isAgg4
 z4 := Tryz.sizeOf4
 v4 := Tryz.zeroValue4
 t5 := Tryz.underlying5
 a5 := Tryz.isAgg5
 z5 := Tryz.sizeOf5
 v5 := Tryz.zeroValue5
 t9 := Tryz.underlying9
 a9 := Tryz.isAgg9
 z9 := Tryz.sizeOf9
 v9 := Tryz.zeroValue9
 t22 := Tryz.underlying158
 a22 := Tryz.isAgg158
 z22 := Tryz.sizeOf158
 v22 := Tryz.zeroValue158
 t25 := Tryz.underlying163
 a25 := Tryz.isAgg163
 z25 := Tryz.sizeOf163
 v25 := Tryz.zeroValue163
 t39 := Tryz.underlying147
 a39 := Tryz.isAgg147
 z39 := Tryz.sizeOf147
 v39 := Tryz.zeroValue147
 t45 := Tryz.underlying291
 a45 := Tryz.isAgg291
 z45 := Tryz.sizeOf291
 v45 := Tryz.zeroValue291
 t46 := Tryz.underlying292
 a46 := Tryz.isAgg292
 z46 := Tryz.sizeOf292
 v46 := Tryz.zeroValue292
 t50 := Tryz.underlying176
 a50 := Tryz.isAgg176
 z50 := Tryz.sizeOf176
 v50 := Tryz.zeroValue176
 t53 := Tryz.underlying272
 a53 := Tryz.isAgg272
 z53 := Tryz.sizeOf272
 v53 := Tryz.zeroValue272
 t55 := Tryz.underlying275
 a55 := Tryz.isAgg275
 z55 := Tryz.sizeOf275
 v55 := Tryz.zeroValue275
 t66 := Tryz.underlying328
 a66 := Tryz.isAgg328
 z66 := Tryz.sizeOf328
 v66 := Tryz.zeroValue328
 t70 := Tryz.underlying332
 a70 := Tryz.isAgg332
 z70 := Tryz.sizeOf332
 v70 := Tryz.zeroValue332
 t76 := Tryz.underlying357
 a76 := Tryz.isAgg357
 z76 := Tryz.sizeOf357
 v76 := Tryz.zeroValue357
 t77 := Tryz.underlying358
 a77 := Tryz.isAgg358
 z77 := Tryz.sizeOf358
 v77 := Tryz.zeroValue358 }
end Go.Proofs

namespace Go.Proofs.YtgmiihmahaahiaaGreatDoor
open Go.RowKit Go.Lp Go.Sy Go.Sort
open Go.Proofs.Tryz
attribute [local irreducible] aL aB awp aC fwp
theorem ma (p q : aK) : ltOf xm p q = decide (ltC p q) := by
 unfold ltOf; rw [Bool.eq_iff_iff, decide_eq_true_eq, decide_eq_true_eq, lJ]
theorem yT : SWO (ltOf xm) where
 irrefl x := by rw [ma, decide_eq_false_iff_not]; exact eQ x
 trans x y z h1 h2 := by rw [ma, decide_eq_true_eq] at *; exact fj h1 h2
 ntrans x y z h1 h2 := by
   rw [ma, decide_eq_false_iff_not] at *
   unfold ltC at *; omega
theorem yc (v : Value) (zs : List aK) (hz : zs.length ≤ 1000) : Con Tryz.prog 88 [v, .func (.func 89) #[] #[]] [] [bg v 34 2 (zs.map aK.row)]
   fun _ ps hp => ps = [] ∧ ∃ q : List aK, q.Perm zs ∧ (q.Pairwise fun a b => ¬ ltC b a) ∧ hp = [bg v 34 2 (q.map aK.row)] :=
 (qh (enc := aK.vs) Tryz.sortC (by decide) Tryz.isAgg34 Tryz.sizeOf34 (fun _ => rfl) (fun x v hv => by simp at hv; rcases hv with rfl | rfl <;> rfl) xm yT 89 (by kernel_rfl) (fun x y => o0 x y) (T := 34) (v := v) zs (by omega)).post
   fun _ _ _ ⟨h1, q, h2, h3, h4⟩ => ⟨h1, q, h2, h3.imp fun h => by rw [lJ] at h; exact h, h4⟩
section
variable {kp : List (Sl Bool)} {L : List Dfn}
structure pE (kp : List (Sl Bool)) (L : List Dfn) (seen : List ByteArray) (mM : ByteArray → Option aK) (fa : aK × Bool) : Prop where
 got : ∀ n ∈ seen, mM n = (cU kp L n)[0]?.map (·.p)
 not : ∀ n, n ∉ seen → mM n = none
 tw : fa.2 = true → ∃ n ∈ seen, ∃ d, (cU kp L n)[1]? = some d ∧ fa.1 = d.p
 lo : ∀ n ∈ seen, ∀ d, (cU kp L n)[1]? = some d → fa.2 = true ∧ ¬ ltC d.p fa.1
theorem pE.start {fa : aK × Bool} (h : fa.2 = false) : pE kp L [] (fun _ => none) fa := ⟨fun _ h => (by cases h), fun _ _ => rfl, fun h2 => (by rw [h] at h2; cases h2), fun _ h => by cases h⟩
theorem pE.step {seen : List ByteArray} {mM : ByteArray → Option aK} {fa : aK × Bool} (h : pE kp L seen mM fa) {n : ByteArray} (hn : n ∉ seen) {mM' : ByteArray → Option aK} {fa' : aK × Bool}
   (hm : mM' = match (cU kp L n)[0]? with | some d => cO mM n d.p | none => mM) (hf : fa' = match (cU kp L n)[1]? with | some d => el fa d.p | none => fa) : pE kp L (n :: seen) mM' fa' where
 got a ha := by
   rw [hm]
   rcases List.mem_cons.1 ha with rfl | ha
   · cases h0 : (cU kp L a)[0]? with
     | none => exact h.not a hn
     | some d => exact wg _ _ _
   · have hne : a ≠ n := fun e => hn (e ▸ ha)
     cases h0 : (cU kp L n)[0]? with
     | none => exact h.got a ha
     | some d => exact (wP _ _ hne).trans (h.got a ha)
 not a ha := by
   rw [hm]
   have hne : a ≠ n := fun e => ha (e ▸ List.mem_cons_self)
   have h2 := h.not a fun h => ha (List.mem_cons_of_mem _ h)
   cases h0 : (cU kp L n)[0]? with
   | none => exact h2
   | some d => exact (wP _ _ hne).trans h2
 tw hb := by
   rw [hf] at hb ⊢
   cases h1 : (cU kp L n)[1]? with
   | none =>
     rw [h1] at hb
     obtain ⟨a, ha, d, h2, h3⟩ := h.tw hb
     exact ⟨a, List.mem_cons_of_mem _ ha, d, h2, h3⟩
   | some d =>
     unfold el
     dsimp only
     split
     · exact ⟨n, List.mem_cons_self, d, h1, rfl⟩
     · rename_i hno
       have hb2 : fa.2 = true := by
         cases hb3 : fa.2 with
         | true => rfl
         | false => exact (hno (.inl hb3)).elim
       obtain ⟨a, ha, d2, h2, h3⟩ := h.tw hb2
       exact ⟨a, List.mem_cons_of_mem _ ha, d2, h2, h3⟩
 lo a ha d hd := by
   rw [hf]
   have old : ∀ p : aK, fa.2 = true → ¬ ltC p fa.1 → ∀ q : aK, (el fa q).2 = true ∧ ¬ ltC p (el fa q).1 := fun p hb hp q => by
     unfold el
     split
     · rename_i hc
       refine ⟨rfl, fun hlt => ?_⟩
       rcases hc with hc | hc
       · rw [hb] at hc; cases hc
       · exact hp (fj hlt hc)
     · exact ⟨hb, hp⟩
   rcases List.mem_cons.1 ha with rfl | ha
   · rw [hd]
     dsimp only
     unfold el
     split
     · exact ⟨rfl, eQ _⟩
     · rename_i hno
       refine ⟨?_, fun hlt => hno (.inr hlt)⟩
       cases hb3 : fa.2 with
       | true => rfl
       | false => exact (hno (.inl hb3)).elim
   · obtain ⟨h1, h2⟩ := h.lo a ha d hd
     cases h3 : (cU kp L n)[1]? with
     | none => exact ⟨h1, h2⟩
     | some d2 => exact old _ h1 h2 _
theorem pE.fin {seen : List ByteArray} {mM : ByteArray → Option aK} {fa : aK × Bool} (h : pE kp L seen mM fa) (hA : Asc L) (hall : ∀ n, n ∉ seen → cU kp L n = []) :
   fx kp L = (if fa.2 = true then some fa.1 else none) ∧ ∀ n, mM n = (cU kp L n).head?.map (·.p) := by
 refine ⟨?_, fun n => ?_⟩
 · cases hb : fa.2 with
   | true =>
     obtain ⟨n, hn, d, h1, h2⟩ := h.tw hb
     rw [if_pos rfl, h2]
     refine sJ hA h1 fun n2 d2 h3 => ?_
     by_cases hs : n2 ∈ seen
     · rw [← h2]; exact (h.lo n2 hs d2 h3).2
     · rw [hall n2 hs] at h3; cases h3
   | false =>
     rw [if_neg (by decide)]
     refine sE hA fun n => ?_
     by_cases hs : n ∈ seen
     · cases h1 : (cU kp L n)[1]? with
       | none => rfl
       | some d => have := (h.lo n hs d h1).1; rw [hb] at this; cases this
     · rw [hall n hs]; rfl
 · by_cases hs : n ∈ seen
   · rw [h.got n hs, List.head?_eq_getElem?]
   · rw [h.not n hs, hall n hs]; rfl
theorem vf (hA : Asc L) {n : ByteArray} (h : eG kp L n = []) : cU kp L n = [] := by
 apply List.eq_nil_iff_forall_not_mem.2
 intro d hd
 have : d.p ∈ (cU kp L n).map (·.p) := List.mem_map_of_mem hd
 rw [← qz hA, h] at this
 simp [gk] at this
end
def gi (kp : List (Sl Bool)) (L : List Dfn) : Option aK := (gL kp L).or (fx kp L)
theorem rR (x : cm) (hok : jv x.objs.l x.kp.l) (lb b1 a b : Nat) : Con Tryz.prog 36 [.pointer (some ⟨lb, 0, none⟩), .func (.func 84) #[] #[.pointer (some ⟨b1, 0, none⟩), .pointer (some ⟨a, 0, none⟩), .pointer (some ⟨b, 0, none⟩)]]
   [At b1 0 [.v (.pointer (some ⟨lb, 0, none⟩))], At lb 0 x.row, x.ok] (sW x a b [] ⟨fun _ => none, fun _ => none, (⟨0, 0⟩, false)⟩) fun _ ps hp => ps = [] ∧ ∃ st, i6 x.kp.l (bQ x.objs.l) st ∧ hp = sW x a b (bQ x.objs.l) st := by
 refine (oR (I := i6 x.kp.l []) (I' := i6 x.kp.l (bQ x.objs.l)) (l := sW x a b []) (l' := sW x a b (bQ x.objs.l)) (x := ⟨fun _ => none, fun _ => none, (⟨0, 0⟩, false)⟩)
   ((tE x hok.n hok.sy lb 84 [.pointer (some ⟨b1, 0, none⟩), .pointer (some ⟨a, 0, none⟩), .pointer (some ⟨b, 0, none⟩)] (cA (At b1 0 [.v (.pointer (some ⟨lb, 0, none⟩))]) (cA (At lb 0 x.row) x.ok)) (fun L => pv (i6 x.kp.l L) (sW x a b L)) (by kernel_rfl)
     fun L d hd hl hp => pK fun st hst => (xR x hok lb b1 a b L d hd hl hp st hst).pre fun p hp => ?_).pre fun p hp => ?_) ⟨fun _ => rfl, fun _ => rfl, rfl⟩)
 · simp only [List.mem_cons, List.not_mem_nil, or_false] at hp
   rcases hp with rfl | rfl | rfl
   · exact (Ent.of (List.mem_singleton.2 rfl)).left
   · exact (Ent.of (List.mem_singleton.2 rfl)).right.left
   · exact (Ent.of (List.mem_singleton.2 rfl)).right.right
 · simp only [List.mem_cons, List.not_mem_nil, or_false] at hp
   rcases hp with rfl | rfl | rfl
   · exact .of (aF 1 rfl)
   · exact .of (aF 2 rfl)
   · exact .mk2 (.of (aF 0 rfl)) (.mk2 (.of (aF 1 rfl)) (.of (aF 2 rfl)))
theorem qX {os : List ax} {kp : List (Sl Bool)} (hok : jv os kp) : (bQ os).length ≤ 70 := by
 have hfl : ∀ i, i ≤ os.length → (cZ os i).length ≤ 14 * i := fun i => by
   induction i with
   | zero => intro _; exact Nat.le_refl _
   | succ i ih =>
     intro hi
     rw [eb, List.length_append]
     have h1 := ih (by omega)
     have h2 := hok.sy _ (List.mem_of_getElem? (bM (l := os) (i := i) (by omega)))
     have h3 : (dW (i : Int) (elt os (i : Int)).syms.l).length = (elt os (i : Int)).syms.l.length := by unfold dW; simp
     omega
 have := hfl _ (Nat.le_refl _)
 have := hok.n
 unfold bQ; omega
theorem ur (x : cm) (hok : jv x.objs.l x.kp.l) (lb : Nat) : Con Tryz.prog 35 [.pointer (some ⟨lb, 0, none⟩)] [At lb 0 x.row, x.ok]
   [dg x.ball cI slV (fun _ => none : dw → Option (Sl aK)), eM 34 2 aK.row (fun _ => none : dw → Option (Sl aK)), dg x.bch cI aK.val (chP x.kp.l []), dg x.bnm eS slV (fun _ => none : ByteArray → Option (Sl dw)), eM 157 2 iP (fun _ => none : ByteArray → Option (Sl dw)), dg x.bmn eS aK.val (fun _ => none : ByteArray → Option aK)]
   fun r ps hp => ps = [] ∧ ∃ (st : CS) (at_ : aK) (mM : ByteArray → Option aK), i6 x.kp.l (bQ x.objs.l) st ∧ r = .tuple #[.int .i64 (if (gi x.kp.l (bQ x.objs.l)).isSome then 4 else 0), at_.val] ∧ (∀ p, gi x.kp.l (bQ x.objs.l) = some p → at_ = p) ∧
     (gi x.kp.l (bQ x.objs.l) = none → ∀ n, mM n = (cU x.kp.l (bQ x.objs.l) n).head?.map (·.p)) ∧
     hp = [dg x.ball cI slV st.mA, eM 34 2 aK.row st.mA, dg x.bch cI aK.val (chP x.kp.l (bQ x.objs.l)), dg x.bnm eS slV st.mN, eM 157 2 iP st.mN, dg x.bmn eS aK.val mM] := by
 have hA : Asc (bQ x.objs.l) := gp _ _
 have hfl : (bQ x.objs.l).length ≤ 70 := qX hok
 generalize hL : bQ x.objs.l = L at hA hfl
 have hin : ∀ e ∈ L, InD x.objs.l e := fun e he => by rw [← mX, hL]; exact he
 refine Con.enter Tryz.func35 rfl (by simp [Tryz.ntmps35]) ?_
 show awp _ _ _ _ ⟨[(0, true, _)], _, _⟩
 refine aSR ?_
 refine an (q := true) rfl (cx rfl rfl rfl (fun b0_0 => ?_))
 refine aHN ?_
 refine aA rfl ?_
 refine an (q := true) rfl (bc (zs := [.int .i64 0, .int .i64 0]) (by kernel_rfl) rfl (fun b0_2 => ?_))
 refine aHN ?_
 refine aNn (aSR ?_)
 refine an (q := true) rfl (bc (zs := [.int .i64 0, .int .i64 0]) (by kernel_rfl) rfl (fun b1_0 => ?_))
 refine aHN ?_
 refine aNn (aSR ?_)
 refine an (q := true) rfl (bc (zs := [.bool false]) (by kernel_rfl) rfl (fun b2_0 => ?_))
 refine aHN ?_
 refine an rfl (aV 9 tk4 rfl rfl rfl rfl ?_)
 refine aHK ?_
 refine aNs (cX 6 rfl rfl ?_)
 show awp _ _ _ _ ⟨_, At _ 0 _ :: _, _⟩
 refine aj (aU rfl (aN (o := 0) tk101 rfl (.of (aF 0 rfl)) rfl) (aU rfl (im (l := [.tmp 1, .tmp 4, .tmp 5]) rfl) ?_))
 refine an (q := false) rfl (bH [2, 1, 0] [0, 1, 2, 3, 4, 8, 9] (by kernel_rfl) rfl rfl rfl rfl (rR x hok lb b0_0 b1_0 b2_0) ?_)
 rintro _ _ _ ⟨rfl, st, hI, rfl⟩
 refine aST ?_
 refine aNs (aH ?_)
 rw [hL] at hI
 rw [hL]
 refine aj (aU rfl (ah 9 tk4 rfl rfl rfl) (aNn ?_))
 refine al _ rfl (fun h1 => ?_) (fun h1 => ?_)
 ·skip
  have hce : gi x.kp.l L = some st.fa.1 := by unfold gi; rw [hI.tw, if_pos h1]; rfl
  refine aH ?_
  refine bp [2] (by kernel_rfl) ?_
  show aB _ _ _ _ _ 3 #[false, false, false] _
  refine bV 0 rfl rfl (ah 8 tk34 rfl rfl rfl) ?_
  refine bV 1 rfl rfl (cz rfl) ?_
  refine cg 2 rfl (by kernel_rfl) rfl rfl (aV 7 tk34 rfl rfl rfl rfl ?_)
  refine bST rfl ?_
  refine bO (by kernel_rfl) ?_
  refine az (aJ (aO ?_))
  refine fS [] [0, 1, 2, 3, 4, 5] rfl Tryz.results35 (dV rfl) (cV 7 tk34 rfl rfl rfl) ?_ (.inr rfl)
  exact ⟨rfl, st, st.fa.1, fun _ => none, hI, by rw [hce]; rfl, (fun p hp => by rw [hce] at hp; exact Option.some.inj hp), (fun h => by rw [hce] at h; cases h), rfl⟩
 ·skip
  have htw : gL x.kp.l L = none := by rw [hI.tw, if_neg (by rw [h1]; decide)]
  have hst0 : pE x.kp.l L [] (fun _ => none) st.fa := .start (by cases hb : st.fa.2 with | false => rfl | true => rw [hb] at h1; cases h1)
  have hlN : ∀ n, ((cK st.mN n).l).length ≤ 70 := fun n => by rw [hI.names]; have := lX (kp := x.kp.l) L n; omega
  refine aq (az (aH (aSR (aU rfl (aN (o := 0) tk101 rfl (.of (aF 0 rfl)) rfl) (aU rfl (aR rfl) ?_)))))
  refine aU rfl (qFA (off := 7) rfl) ?_
  refine aU rfl (aN (o := 7) tk104 rfl (.of (aF 1 rfl)) rfl) ?_
  refine an rfl (aaF 3 Tryz.underlying104 rfl rfl rfl (fun r6_4 N6_4 => ?_))
  refine aHK ?_
  refine aNn (aI ?_)
  refine aT [1, 3, 4, 5, 21] [2, 1, 0] [0, 1, 2, 3, 4, 5, 7, 8, 9] (fun (q : List ByteArray × (ByteArray → Option aK) × (aK × Bool)) s => pE x.kp.l L q.1 q.2.1 q.2.2 ∧ s = ⟨[(1, true, .pointer (some ⟨b0_0, 0, none⟩)), (3, true, .pointer (some ⟨b0_2, 0, none⟩)), (4, true, .pointer (some ⟨b1_0, 0, none⟩)), (5, true, .pointer (some ⟨b2_0, 0, none⟩)), (21, true, .pointer (some ⟨r6_4, 0, none⟩))], [At b0_0 0 [.v (.pointer (some ⟨lb, 0, none⟩))], At lb 0 x.row, x.ok],
    [dg x.ball cI slV st.mA, eM 34 2 aK.row st.mA, dg x.bch cI aK.val (chP x.kp.l L), ItR x.bnm r6_4 eS slV st.mN N6_4 q.1, eM 157 2 iP st.mN, dg x.bmn eS aK.val q.2.1, Box b0_2 34 [.int .i64 0, .int .i64 0], Box b1_0 34 q.2.2.1.vs, Box b2_0 4 [.bool q.2.2.2]]⟩) (fun q => N6_4 - q.1.length) rfl (⟨([], fun _ => none, st.fa), hst0, rfl⟩) ?_
  rintro ⟨seen, mM, fa⟩ s ⟨hM, rfl⟩
  dsimp only at hM
  refine aSR ?_
  refine an rfl (abO 3 (kyT) rfl rfl rfl (fun hend7 => ?_) (fun ka7 va7 hm7 hns7 hlt7 => ?_))
  ·skip
   refine aU rfl (bD rfl rfl) (aNs ?_)
   refine al _ rfl (fun h => absurd h (by decide)) (fun _ => ?_)
   refine aX (aY (aY (bf (az (aH (aH ?_))))))
   have hfin := pE.fin hM hA (fun n hn => vf hA (by
     rw [← hI.names n]
     unfold cK
     cases hc : st.mN n with
     | none => rfl
     | some v => exact (hn (hend7 n v hc)).elim))
   refine xh 3 rfl (fun J => ?_)
   refine aj (aU rfl (ah 8 tk4 rfl rfl rfl) (aNn ?_))
   refine al _ rfl (fun h2 => ?_) (fun h2 => ?_)
   ·skip
    have hce : gi x.kp.l L = some fa.1 := by unfold gi; rw [htw, hfin.1, if_pos h2]; rfl
    refine aH ?_
    refine bp [2] (by kernel_rfl) ?_
    show aB _ _ _ _ _ 3 #[false, false, false] _
    refine bV 0 rfl rfl (ah 7 tk34 rfl rfl rfl) ?_
    refine bV 1 rfl rfl (cz rfl) ?_
    refine cg 2 rfl (by kernel_rfl) rfl rfl (aV 6 tk34 rfl rfl rfl rfl ?_)
    refine bST rfl ?_
    refine bO (by kernel_rfl) ?_
    refine az (aJ (aO ?_))
    refine fS [] [0, 1, 2, 3, 4, 5] rfl Tryz.results35 (dV rfl) (cV 6 tk34 rfl rfl rfl) ?_ (.inr rfl)
    exact ⟨rfl, st, fa.1, mM, hI, by rw [hce]; rfl, (fun p hp => by rw [hce] at hp; exact Option.some.inj hp), (fun h => by rw [hce] at h; cases h), rfl⟩
   ·skip
    have hce : gi x.kp.l L = none := by unfold gi; rw [htw, hfin.1, if_neg (by rw [h2]; decide)]; rfl
    refine aq (az (aH ?_))
    refine bp [2] (by kernel_rfl) ?_
    show aB _ _ _ _ _ 3 #[false, false, false] _
    refine bV 0 rfl rfl (ah 7 tk34 rfl rfl rfl) ?_
    refine bV 1 rfl rfl (cz rfl) ?_
    refine cg 2 rfl (by kernel_rfl) rfl rfl (aV 6 tk34 rfl rfl rfl rfl ?_)
    refine bST rfl ?_
    refine bO (by kernel_rfl) ?_
    refine az (aJ ?_)
    refine fS [] [0, 1, 2, 3, 4, 5] rfl Tryz.results35 (dV rfl) (cV 6 tk34 rfl rfl rfl) ?_ (.inr rfl)
    exact ⟨rfl, st, fa.1, mM, hI, by rw [hce]; rfl, (fun p hp => by rw [hce] at hp; cases hp), (fun _ => hfin.2), rfl⟩
  ·skip
   refine aHK ?_
   refine aU rfl (bD rfl rfl) (aNs ?_)
   refine al _ rfl (fun _ => ?_) (fun h => absurd h (by decide))
   refine aq (az (aI (aSR (aU rfl (aa7 3 (kyT) rfl rfl (hm7)) (aU rfl (bD rfl rfl) (aU rfl (bD rfl rfl) (aA rfl (aA rfl (aNs ?_)))))))))
   have hg : cK st.mN ka7 = va7 := by unfold cK; rw [hm7]; rfl
   have hnm : va7.l = eG x.kp.l L ka7 := by rw [← hg]; exact hI.names ka7
   have hvl : va7.l.length ≤ 70 := by rw [← hg]; exact hlN ka7
   refine gG (row := iP) 4 ka7 rfl ?_
   rw [hg]
   refine aj (aA rfl (aNs (aH (eD 34 2 ?_))))
   show awp _ _ _ _ ⟨_, _, [_, _, _, _, _, _, _, _, _, _, _]⟩
   refine aj (aM rfl (aU rfl (aZ Tryz.underlying159 rfl) (aM rfl (aNn (aI ?_)))))
   refine aT [1, 3, 4, 5, 6, 8, 21, 27, 28, 29] [2, 1, 0] [0, 1, 2, 3, 4, 5, 6, 7, 8, 9, 10] (fun (q : Nat × Value) s => q.1 ≤ va7.l.length ∧ s = ⟨[(1, true, .pointer (some ⟨b0_0, 0, none⟩)), (3, true, .pointer (some ⟨b0_2, 0, none⟩)), (4, true, .pointer (some ⟨b1_0, 0, none⟩)), (5, true, .pointer (some ⟨b2_0, 0, none⟩)), (6, true, .string ka7), (8, true, q.2), (21, true, .pointer (some ⟨r6_4, 0, none⟩)), (27, true, slV va7), (28, true, .int .i64 va7.l.length), (29, true, .int .i64 q.1)], [At b0_0 0 [.v (.pointer (some ⟨lb, 0, none⟩))], At lb 0 x.row, x.ok],
     [dg x.ball cI slV st.mA, eM 34 2 aK.row st.mA, dg x.bch cI aK.val (chP x.kp.l L), ItR x.bnm r6_4 eS slV st.mN N6_4 (ka7 :: seen), eM 157 2 iP (ny st.mN ka7), dg x.bmn eS aK.val mM, Box b0_2 34 [.int .i64 0, .int .i64 0], Box b1_0 34 fa.1.vs, Box b2_0 4 [.bool fa.2], bg (slV va7) 157 2 (va7.l.map iP), bg q.2 34 2 ((gk x.kp.l L (va7.l.take q.1)).map aK.row)]⟩) (fun q => va7.l.length - q.1) rfl (⟨(0, _), Nat.zero_le _, rfl⟩) ?_
   rintro ⟨j, v⟩ s ⟨hj, rfl⟩
   dsimp only at hj
   refine aSR (aU rfl (bw rfl rfl) (aNs ?_))
   refine al _ rfl (fun h3 => ?_) (fun h3 => ?_)
   ·skip
    have hj' : j < va7.l.length := by simp at h3; omega
    obtain ⟨kk, hkk⟩ : ∃ kk, va7.l[j]? = some kk := ⟨_, List.getElem?_eq_getElem hj'⟩
    obtain ⟨ee, hee⟩ : ∃ ee, cE x.kp.l L kk = some ee := by
      cases hc : cE x.kp.l L kk with
      | some ee => exact ⟨ee, rfl⟩
      | none => exact ((fJ.1 (by rw [← hnm]; exact List.mem_of_getElem? hkk)).1 (fg.1 hc)).elim
    have hmp := sP (kp := x.kp.l) L (va7.l.take j)
    rw [List.length_take] at hmp
    refine aq (az (aH (aI (aSR ?_))))
    refine aU rfl (fM 9 j el159 rfl rfl rfl rfl (by rw [List.length_map]; exact hj')) ?_
    refine aU rfl (eF 9 j 0 tk157 rfl rfl (aQ hkk) rfl rfl) ?_
    refine an (q := true) rfl (bc (zs := [.string .empty, .string .empty]) (by kernel_rfl) rfl (fun b12_2 => ?_))
    refine aHN ?_
    refine an rfl (aV 11 tk157 rfl rfl rfl rfl ?_)
    refine aHK ?_
    refine aNs ?_
    refine bp [7] (by kernel_rfl) ?_
    show aB _ _ _ _ _ 8 #[false, false, false, false, false, false, false, false] _
    refine bV 0 rfl rfl (aN (o := 0) tk101 rfl (.of (aF 0 rfl)) rfl) ?_
    refine bV 1 rfl rfl (aR rfl) ?_
    refine bV 2 rfl rfl (qFA (off := 6) rfl) ?_
    refine bV 3 rfl rfl (aN (o := 6) tk103 rfl (.of (aF 1 rfl)) rfl) ?_
    refine bV 4 rfl rfl (ah 11 tk157 rfl rfl rfl) ?_
    refine bV 5 rfl rfl ((jd (k := kk) (v0 := (⟨0, 0⟩ : aK)) 2 Tryz.underlying103 (kyK) (by kernel_rfl) rfl rfl rfl).castV (v' := aK.val ee.p) (congrArg aK.val (by unfold chP; rw [hee]; rfl))) ?_
    refine cg (q := true) 6 rfl (by kernel_rfl) rfl rfl (bc (zs := [.int .i64 0, .int .i64 0]) (by kernel_rfl) rfl (fun b13_6 => ?_))
    refine bST rfl ?_
    refine cg 7 rfl (by kernel_rfl) rfl rfl (aV 12 tk34 rfl rfl rfl rfl ?_)
    refine bST rfl ?_
    refine bO (by kernel_rfl) ?_
    refine az (aSR ?_)
    refine aU rfl (qFA (off := 1) rfl) ?_
    refine aU rfl (ah 11 tk9 rfl rfl rfl) (aU rfl (eE rfl rfl) (aM rfl (aG rfl rfl (fun hc => aN (o := 0) tk101 rfl (.of (aF 0 rfl)) rfl) (aG rfl rfl (fun hc => ah 12 tk34 rfl rfl rfl) ?_))))
    refine aG rfl rfl (fun hc => bC (by kernel_rfl) (aS (ae rfl hc) (aS (ae rfl hc) rfl)) (fun w S fp hst => (mV x lb ee (hin ee (dP hee).1)).quiet2 (aF 1 rfl) (aF 2 rfl) hst)) ?_
    refine aG rfl rfl (fun hc => tO (off := 2) (by kernel_rfl) (ae rfl hc) rfl) ?_
    refine aU rfl (bY rfl rfl (fun h => gf rfl h)) (aNn ?_)
    refine al _ rfl (fun h4 => ?_) (fun h4 => ?_)
    ·skip
     have hc4 : kk.2 = .empty ∨ ee.s.main = true := by
       rw [Bool.or_eq_true, decide_eq_true_eq] at h4; exact h4
     have hmp2 : gk x.kp.l L (va7.l.take (j + 1)) = gk x.kp.l L (va7.l.take j) ++ [ee.p] := by
       rw [List.take_add_one, hkk, Option.toList_some, oZ L _ kk hee, if_pos hc4]
     refine aj (aM rfl (aU rfl (ah 12 tk34 rfl rfl rfl) ?_))
     refine an (q := true) rfl (cB (zs := [.int .i64 0, .int .i64 0]) (l := [(0, .tmp 49)]) el158 (by kernel_rfl) (by decide) (by decide) (by decide) rfl rfl rfl (.more rfl (.v rfl (.v rfl .nil)) .nil) rfl rfl (fun v15_2 => ?_))
     refine aHN ?_
     refine an rfl (cL 10 el158 rfl rfl rfl rfl (dR 13 el158 rfl (by simp)) (by first | assumption | simp) (by show ((gk x.kp.l L (va7.l.take j)).map aK.row).length + 1 ≤ _; rw [List.length_map]; omega) (((gk x.kp.l L (va7.l.take j)) ++ [ee.p]).length) (by show ((gk x.kp.l L (va7.l.take j)).map aK.row).length + 1 = _; rw [List.length_map, List.length_append]; rfl) (fun v15_3 c15_3 => ?_))
     refine aHK ?_
     refine aA rfl (cn (bB (az (aj ?_))))
     refine aU rfl (bd rfl rfl (by omega)) ?_
     refine aM rfl (aNn ?_)
     refine ⟨[1, 3, 4, 5, 6, 8, 21, 27, 28, 29], [2, 1, 0], [0, 1, 2, 3, 4, 5, 6, 7, 8, 9, 10], rfl, ?_⟩
     exact ⟨(j + 1, _), ⟨by dsimp only; omega, by dsimp only; rw [hmp2, List.map_append]; rfl⟩, by dsimp only; omega⟩
    ·skip
     have hc4 : ¬ (kk.2 = .empty ∨ ee.s.main = true) := by
       rw [← decide_eq_true_eq (p := kk.2 = .empty), ← Bool.or_eq_true]; exact fun h => by rw [show (decide (kk.2 = ByteArray.empty) || ee.s.main) = false from h4] at h; cases h
     have hmp2 : gk x.kp.l L (va7.l.take (j + 1)) = gk x.kp.l L (va7.l.take j) := by
       rw [List.take_add_one, hkk, Option.toList_some, oZ L _ kk hee, if_neg hc4, List.append_nil]
     refine aq (bB (az (aj ?_)))
     refine aU rfl (bd rfl rfl (by omega)) ?_
     refine aM rfl (aNn ?_)
     refine ⟨[1, 3, 4, 5, 6, 8, 21, 27, 28, 29], [2, 1, 0], [0, 1, 2, 3, 4, 5, 6, 7, 8, 9, 10], rfl, ?_⟩
     exact ⟨(j + 1, _), ⟨by dsimp only; omega, by dsimp only; rw [hmp2]; rfl⟩, by dsimp only; omega⟩
   ·skip
    have hjl : j = va7.l.length := by simp at h3; omega
    have hmpl := sP (kp := x.kp.l) L va7.l
    dsimp only
    rw [hjl, List.take_length]
    refine aX (aY (aY (bf (az (aSR (aM rfl ?_))))))
    refine an (q := false) rfl (bH [] [10] (by kernel_rfl) rfl rfl rfl rfl (yc v (gk x.kp.l L va7.l) (by omega)) ?_)
    rintro _ _ _ ⟨rfl, q, hqp, hqs, rfl⟩
    refine aST ?_
    refine aNs (aH ?_)
    have hq : q = (cU x.kp.l L ka7).map (·.p) := rr hA (by rw [← hnm]; exact hqp) hqs
    refine aj (aM rfl (aU rfl (kK 10 Tryz.underlying158 rfl rfl) (aU rfl (cN rfl rfl) (aNn ?_))))
    refine al _ rfl (fun h5 => ?_) (fun h5 => ?_)
    ·skip
     obtain ⟨p1, hp1⟩ : ∃ p1, q[1]? = some p1 := ⟨_, List.getElem?_eq_getElem (by simp at h5; omega)⟩
     refine aj (aM rfl ?_)
     refine aU rfl (fM 10 1 el158 rfl rfl rfl rfl (by rw [List.length_map]; exact (List.getElem?_eq_some_iff.1 hp1).1)) ?_
     refine aU rfl (eF 10 1 0 tk34 rfl rfl (aQ hp1) rfl rfl) ?_
     refine an (q := false) rfl (bH [] [7, 8] (by kernel_rfl) rfl rfl rfl rfl (jY b1_0 b2_0 fa p1) ?_)
     rintro _ _ _ ⟨rfl, rfl⟩
     refine aST ?_
     refine aNs (ru (row := iP) 4 9 ka7 va7 rfl rfl rfl rfl (iO _ _) rfl ?_)
     rw [jG, qG hm7]
     refine aj (aM rfl (aU rfl (kK 10 Tryz.underlying158 rfl rfl) (aU rfl (cN rfl rfl) (aNn ?_))))
     refine al _ rfl (fun h6 => ?_) (fun h6 => ?_)
     ·skip
      obtain ⟨p0, hp0⟩ : ∃ p0, q[0]? = some p0 := ⟨_, List.getElem?_eq_getElem (by simp at h6; omega)⟩
      refine bp [8] (by kernel_rfl) ?_
      show aB _ _ _ _ _ 9 #[false, false, false, false, false, false, false, false, false] _
      refine bV 0 rfl rfl (aN (o := 0) tk101 rfl (.of (aF 0 rfl)) rfl) ?_
      refine bV 1 rfl rfl (aR rfl) ?_
      refine bV 2 rfl rfl (qFA (off := 8) rfl) ?_
      refine bV 3 rfl rfl (aN (o := 8) tk105 rfl (.of (aF 1 rfl)) rfl) ?_
      refine bV 4 rfl rfl (aD rfl) ?_
      refine bV 5 rfl rfl (aD rfl) ?_
      refine bV 6 rfl rfl (fM 10 0 el158 rfl rfl rfl rfl (by rw [List.length_map]; exact (List.getElem?_eq_some_iff.1 hp0).1)) ?_
      refine bV 7 rfl rfl (eF 10 0 0 tk34 rfl rfl (aQ hp0) rfl rfl) ?_
      refine cg 8 rfl (by kernel_rfl) rfl rfl (dQ (k := ka7) (v := p0) 5 Tryz.underlying105 (kyT) rfl rfl rfl rfl ?_)
      refine bST rfl ?_
      refine bO (by kernel_rfl) ?_
      refine bB (az ?_)
      refine ⟨[1, 3, 4, 5, 21], [2, 1, 0], [0, 1, 2, 3, 4, 5, 6, 7, 8], rfl, ?_⟩
      rw [hq, List.getElem?_map, Option.map_eq_some_iff] at hp0 hp1
      obtain ⟨d0, hd0, rfl⟩ := hp0
      obtain ⟨d1, hd1, rfl⟩ := hp1
      exact ⟨(ka7 :: seen, cO mM ka7 d0.p, el fa d1.p), ⟨hM.step hns7 (by rw [hd0]) (by rw [hd1]), rfl⟩, by dsimp only at hlt7 ⊢; rw [List.length_cons]; omega⟩
     ·skip
      exfalso; have := (List.getElem?_eq_some_iff.1 hp1).1; simp at h6; rw [h6] at this; simp at this
    ·skip
     refine aq (az (aH (ru (row := iP) 4 9 ka7 va7 rfl rfl rfl rfl (iO _ _) rfl ?_)))
     rw [jG, qG hm7]
     refine aj (aM rfl (aU rfl (kK 10 Tryz.underlying158 rfl rfl) (aU rfl (cN rfl rfl) (aNn ?_))))
     refine al _ rfl (fun h7 => ?_) (fun h7 => ?_)
     ·skip
      obtain ⟨p0, hp0⟩ : ∃ p0, q[0]? = some p0 := ⟨_, List.getElem?_eq_getElem (by simp at h7; omega)⟩
      refine bp [8] (by kernel_rfl) ?_
      show aB _ _ _ _ _ 9 #[false, false, false, false, false, false, false, false, false] _
      refine bV 0 rfl rfl (aN (o := 0) tk101 rfl (.of (aF 0 rfl)) rfl) ?_
      refine bV 1 rfl rfl (aR rfl) ?_
      refine bV 2 rfl rfl (qFA (off := 8) rfl) ?_
      refine bV 3 rfl rfl (aN (o := 8) tk105 rfl (.of (aF 1 rfl)) rfl) ?_
      refine bV 4 rfl rfl (aD rfl) ?_
      refine bV 5 rfl rfl (aD rfl) ?_
      refine bV 6 rfl rfl (fM 10 0 el158 rfl rfl rfl rfl (by rw [List.length_map]; exact (List.getElem?_eq_some_iff.1 hp0).1)) ?_
      refine bV 7 rfl rfl (eF 10 0 0 tk34 rfl rfl (aQ hp0) rfl rfl) ?_
      refine cg 8 rfl (by kernel_rfl) rfl rfl (dQ (k := ka7) (v := p0) 5 Tryz.underlying105 (kyT) rfl rfl rfl rfl ?_)
      refine bST rfl ?_
      refine bO (by kernel_rfl) ?_
      refine bB (az ?_)
      refine ⟨[1, 3, 4, 5, 21], [2, 1, 0], [0, 1, 2, 3, 4, 5, 6, 7, 8], rfl, ?_⟩
      have hn1 : (cU x.kp.l L ka7)[1]? = none := List.getElem?_eq_none (by rw [hq, List.length_map] at h5; simp at h5; omega)
      rw [hq, List.getElem?_map, Option.map_eq_some_iff] at hp0
      obtain ⟨d0, hd0, rfl⟩ := hp0
      exact ⟨(ka7 :: seen, cO mM ka7 d0.p, fa), ⟨hM.step hns7 (by rw [hd0]) (by rw [hn1]), rfl⟩, by dsimp only at hlt7 ⊢; rw [List.length_cons]; omega⟩
     ·skip
      refine aq (bB (az ?_))
      refine ⟨[1, 3, 4, 5, 21], [2, 1, 0], [0, 1, 2, 3, 4, 5, 6, 7, 8], rfl, ?_⟩
      have hn1 : (cU x.kp.l L ka7)[1]? = none := List.getElem?_eq_none (by rw [hq, List.length_map] at h5; simp at h5; omega)
      have hn0 : (cU x.kp.l L ka7)[0]? = none := List.getElem?_eq_none (by rw [hq, List.length_map] at h7; simp at h7; rw [h7]; simp)
      exact ⟨(ka7 :: seen, mM, fa), ⟨hM.step hns7 (by rw [hn0]) (by rw [hn1]), rfl⟩, by dsimp only at hlt7 ⊢; rw [List.length_cons]; omega⟩
end Go.Proofs.YtgmiihmahaahiaaGreatDoor

namespace Go.Proofs.YtgmiihmahaahiaaGreatDoor
open Go.RowKit Go.Lp Go.Sy
open Go.Proofs.Tryz
attribute [local irreducible] aL aB awp aC fwp
def lI (n : ByteArray) (v : Int) (d : Dfn) : Int := if d.s.name = n ∧ d.s.bind ≠ 0 then max v d.s.vis else v
theorem xL (L : List Dfn) (d : Dfn) (n : ByteArray) : iu (L ++ [d]) n = lI n (iu L n) d := by unfold iu lI; rw [List.foldl_append]; rfl
theorem v7 (l : Sl ax) (n : ByteArray) : Con Tryz.prog 16 [l.val, .string n] [ShF ax.row l, cv ax.ok l.l] [] (fun r _ _ => r = .int .i64 (iu (bQ l.l) n)) := by
 refine Con.enter Tryz.func16 rfl (by simp [Tryz.ntmps16]) ?_
 show awp _ _ _ _ ⟨[(0, true, _), (1, true, _)], _, _⟩
 refine bA (.of (aF 0 rfl)) (fun hlen => ?_)
 refine aSR (aA rfl (aNn (aSR (aA rfl (aNs (aSR (aM rfl (aU rfl (aZ Tryz.underlying22 rfl) (aM rfl ?_)))))))))
 refine aNn (aI (aT [1, 5, 10, 11, 12] [1, 0] [] (fun (i : Nat) st => i ≤ l.l.length ∧ st = ⟨[(1, true, .string n), (5, true, .int .i64 (iu (cZ l.l i) n)), (10, true, l.val), (11, true, .int .i64 l.l.length), (12, true, .int .i64 i)], [ShF ax.row l, cv ax.ok l.l], []⟩) (fun i => l.l.length - i) rfl (⟨0, Nat.zero_le _, rfl⟩) ?_))
 rintro i st ⟨hi, rfl⟩
 refine aSR (aU rfl (bw rfl rfl) (aNs ?_))
 refine al _ rfl (fun h1 => ?_) (fun h1 => ?_)
 ·skip
  have hi' : i < l.l.length := by simp at h1; omega
  have ho := bM hi'
  generalize hoo : elt l.l (i : Int) = o at ho
  refine aq (az (aH (aI (aSR ?_))))
  refine cJ true rfl rfl (fun _ => av Tryz.underlying22 tk61 rfl ((.of (aF 0 rfl))) rfl (aQ ho) rfl rfl) (fun h => absurd h (by decide)) (fun ⟨b4_0, o4_0⟩ => ?_)
  refine aU rfl (aP (o := 0) tk61 rfl (aF 0 rfl) rfl rfl) ?_
  refine an (q := true) rfl (bc (zs := [.string .empty, .slice none 0 0, .slice none 0 0, .slice none 0 0, .slice none 0 0, .slice none 0 0, .slice none 0 0, .slice none 0 0, .slice none 0 0, .slice none 0 0, .slice none 0 0]) (by kernel_rfl) rfl (fun b4_2 => ?_))
  refine aHN ?_
  refine an rfl (aV 0 tk61 rfl rfl rfl rfl ?_)
  refine aHK ?_
  refine aNs ?_
  refine bA (ax.f_syms (Ent.all (.of (aF 2 rfl)) ho)) (fun hlen2 => ?_)
  refine aj ?_
  refine aU rfl (qFA (off := 2) rfl) ?_
  refine aU rfl (ah 0 tk51 rfl rfl rfl) (aU rfl (aZ Tryz.underlying51 rfl) (aM rfl (aNn (aI ?_))))
  refine aT [1, 5, 10, 11, 12, 17, 18, 19] [1, 0] [] (fun (k : Nat) st => k ≤ o.syms.l.length ∧ st = ⟨[(1, true, .string n), (5, true, .int .i64 (iu (cZ l.l i ++ dW (i : Int) (o.syms.l.take k)) n)), (10, true, l.val), (11, true, .int .i64 l.l.length), (12, true, .int .i64 i), (17, true, o.syms.val), (18, true, .int .i64 o.syms.l.length), (19, true, .int .i64 k)], [ShF ax.row l, cv ax.ok l.l], []⟩) (fun k => o.syms.l.length - k) rfl (⟨0, Nat.zero_le _, by rw [List.take_zero, show dW (i : Int) [] = [] from rfl, List.append_nil]; rfl⟩) ?_
  rintro k st ⟨hk, rfl⟩
  refine aSR (aU rfl (bw rfl rfl) (aNs ?_))
  refine al _ rfl (fun h2 => ?_) (fun h2 => ?_)
  ·skip
   have hk' : k < o.syms.l.length := by simp at h2; omega
   obtain ⟨s, hs'⟩ : ∃ s, o.syms.l[k]? = some s := ⟨_, List.getElem?_eq_getElem hk'⟩
   have hstep : iu (cZ l.l i ++ dW (i : Int) (o.syms.l.take (k + 1))) n = lI n (iu (cZ l.l i ++ dW (i : Int) (o.syms.l.take k)) n) ⟨⟨(i : Int), (k : Int)⟩, s⟩ := by
     rw [jW hs', ← List.append_assoc, xL]
   refine aq (az (aH (aI (aSR ?_))))
   refine cJ true rfl rfl (fun _ => av Tryz.underlying51 tk63 rfl ((ax.f_syms (Ent.all (.of (aF 1 rfl)) ho))) rfl (aQ hs') rfl rfl) (fun h => absurd h (by decide)) (fun ⟨b7_0, o7_0⟩ => ?_)
   refine aU rfl (aP (o := 0) tk63 rfl (aF 0 rfl) rfl rfl) ?_
   refine an (q := true) rfl (bc (zs := [.string .empty, .string .empty, .bool false, .int .i64 0, .int .i64 0, .int .i64 0, .int .i64 0, .int .i64 0, .int .i64 0, .int .i64 0]) (by kernel_rfl) rfl (fun b7_2 => ?_))
   refine aHN ?_
   refine an rfl (aV 0 tk63 rfl rfl rfl rfl ?_)
   refine aHK ?_
   refine aNn (aSR ?_)
   refine aU rfl (qFA (off := 0) rfl) ?_
   refine aU rfl (ah 0 tk9 rfl rfl rfl) (aM rfl (aU rfl (eE rfl rfl) (aM rfl ?_)))
   refine aG rfl rfl (fun hc => qFA (off := 3) rfl) ?_
   refine aG rfl rfl (fun hc => ah 0 tk3 (ae rfl hc) rfl rfl) (aG rfl rfl (fun hc => dB (ae rfl hc) rfl) (aU rfl (bJ rfl rfl (fun h => gt rfl h)) (aNn ?_)))
   refine al _ rfl (fun h3 => ?_) (fun h3 => ?_)
   ·skip
    have hc3 : s.name = n ∧ s.bind ≠ 0 := by simpa using h3
    refine aj (aM rfl ?_)
    refine aU rfl (qFA (off := 4) rfl) ?_
    refine aU rfl (ah 0 tk3 rfl rfl rfl) (aU rfl (acu rfl rfl) (aA rfl (cn (bB (az (aj ?_))))))
    refine aU rfl (bd rfl rfl (by omega)) ?_
    refine aM rfl (aNn ?_)
    refine ⟨[1, 5, 10, 11, 12, 17, 18, 19], [1, 0], [], rfl, ?_⟩
    exact ⟨k + 1, ⟨by omega, by rw [hstep]; unfold lI; rw [if_pos hc3]; rfl⟩, by omega⟩
   ·skip
    have hc3 : ¬ (s.name = n ∧ s.bind ≠ 0) := by simpa using h3
    refine aq (bB (az (aj ?_)))
    refine aU rfl (bd rfl rfl (by omega)) ?_
    refine aM rfl (aNn ?_)
    refine ⟨[1, 5, 10, 11, 12, 17, 18, 19], [1, 0], [], rfl, ?_⟩
    exact ⟨k + 1, ⟨by omega, by rw [hstep]; unfold lI; rw [if_neg hc3]; rfl⟩, by omega⟩
  ·skip
   refine aX (aY (aY (bf (bB (az (aj ?_))))))
   refine aU rfl (bd rfl rfl (by omega)) ?_
   refine aM rfl (aNn ?_)
   refine ⟨[1, 5, 10, 11, 12], [1, 0], [], rfl, ?_⟩
   rw [List.take_of_length_le (by simp at h2; omega)]
   exact ⟨i + 1, ⟨by omega, by rw [eb, hoo]; rfl⟩, by omega⟩
 ·skip
  refine aX (aY (aY (bf (az (aSR (aM rfl (aA rfl (aNn (aJ ?_)))))))))
  refine br [] [] rfl Tryz.results16 rfl ?_ (.inr rfl)
  rw [show i = l.l.length by simp at h1; omega]; rfl
def cm.fin (x : cm) (L : List Dfn) (st : CS) (mM : ByteArray → Option aK) : Per :=
 cA (ShM x.ball cI slV st.mA) (cA (ShM x.bch cI aK.val (chP x.kp.l L)) (cA (ShM x.bnm eS slV st.mN) (cA (ShM x.bmn eS aK.val mM) (Go.Sy.pF iP st.mN))))
section
variable {ps : List Per} {x : cm} {L : List Dfn} {st : CS} {mM : ByteArray → Option aK} (h : Ent ps (x.fin L st mM))
include h
theorem cm.g_all : Ent ps (ShM x.ball cI slV st.mA) := h.left
theorem cm.g_ch : Ent ps (ShM x.bch cI aK.val (chP x.kp.l L)) := h.right.left
theorem cm.g_nm : Ent ps (ShM x.bnm eS slV st.mN) := h.right.right.left
theorem cm.g_mn : Ent ps (ShM x.bmn eS aK.val mM) := h.right.right.right.left
theorem cm.g_keys : Ent ps (Go.Sy.pF iP st.mN) := h.right.right.right.right
end
structure mB (x : cm) (L : List Dfn) (st : CS) (mM : ByteArray → Option aK) : Prop where
 flat : L = bQ x.objs.l
 inv : i6 x.kp.l L st
 mains : ∀ n, mM n = (cU x.kp.l L n).head?.map (·.p)
 twice : fx x.kp.l L = none
theorem mB.asc {x : cm} {L : List Dfn} {st : CS} {mM : ByteArray → Option aK} (h : mB x L st mM) : Asc L := by rw [h.flat]; exact gp _ _
theorem aaO (x : cm) (hok : jv x.objs.l x.kp.l) (lb : Nat) (L : List Dfn) (st : CS) (mM : ByteArray → Option aK) (hF : mB x L st mM) (s : bE) (e : Dfn) (he : e ∈ L) : Con Tryz.prog 91 [.pointer (some ⟨lb, 0, none⟩), s.val, e.p.val] [At lb 0 x.row, x.ok, x.fin L st mM] [] (fun r _ _ => r = .int .i64 (mh x.kp.l L s e)) := by
 have hin : InD x.objs.l e := by rw [← mX, ← hF.flat]; exact he
 have hl : ((st.mA e.key).getD ⟨none, 0, []⟩).l.length = (dZ x.kp.l L e.key).length := by
   have := congrArg List.length (hF.inv.all e.key)
   rw [List.length_map] at this; exact this
 refine Con.enter Tryz.func91 rfl (by simp [Tryz.ntmps91]) ?_
 show awp _ _ _ _ ⟨[(0, true, _), (1, true, _), (2, true, _)], _, _⟩
 refine aSR ?_
 refine an (q := true) rfl (cx rfl rfl rfl (fun b0_0 => ?_))
 refine aHN ?_
 refine an (q := true) rfl (cx rfl rfl rfl (fun b0_1 => ?_))
 refine aHN ?_
 refine aA rfl (aNn (aSR (aM rfl (aU rfl (ah 1 tk34 rfl rfl rfl) ?_))))
 refine aU rfl (bC (by kernel_rfl) rfl (fun w S fp hst => (mV x lb e hin).quiet2 (aF 0 rfl) (aF 1 rfl) hst)) ?_
 refine an (q := true) rfl (bc (zs := [.string .empty, .string .empty, .bool false, .int .i64 0, .int .i64 0, .int .i64 0, .int .i64 0, .int .i64 0, .int .i64 0, .int .i64 0]) (by kernel_rfl) rfl (fun b1_3 => ?_))
 refine aHN ?_
 refine an rfl (aV 2 tk63 rfl rfl rfl rfl ?_)
 refine aHK ?_
 refine aNs (aI (aSR ?_))
 refine aU rfl (qFA (off := 3) rfl) ?_
 refine aU rfl (ah 2 tk3 rfl rfl rfl) (aU rfl (bx rfl rfl) (aA rfl (aNn ?_)))
 refine al _ rfl (fun h1 => ?_) (fun h1 => ?_)
 ·skip
  have c1 : e.s.bind = 3 := by simpa using h1
  refine aSR (aA rfl (aNn (aJ (bu (aO ?_)))))
  refine br [] [] rfl Tryz.results91 rfl ?_ (.inr rfl)
  unfold mh; rw [if_pos c1]
 ·skip
  have c1 : ¬ e.s.bind = 3 := by simpa using h1
  refine aSR ?_
  refine aU rfl (qFA (off := 1) rfl) ?_
  refine aU rfl (ah 2 tk9 rfl rfl rfl) ?_
  refine aU rfl (qFA (off := 1) rfl) ?_
  refine aU rfl (ah 0 tk9 rfl rfl rfl) (aU rfl (rf rfl rfl) (aA rfl (aNn ?_)))
  refine al _ rfl (fun h2 => ?_) (fun h2 => ?_)
  ·skip
   have c2 : e.s.version ≠ s.version := by simpa using h2
   refine aSR (aA rfl (aNn (aJ (bu (aO ?_)))))
   refine br [] [] rfl Tryz.results91 rfl ?_ (.inr rfl)
   unfold mh; rw [if_neg c1, if_pos c2]
  ·skip
   have c2 : ¬ e.s.version ≠ s.version := by simpa using h2
   refine aH ?_
   refine bp [] (by kernel_rfl) ?_
   show aB _ _ _ _ _ 13 #[false, false, false, false, false, false, false, false, false, false, false, false, false] _
   refine bV 0 rfl rfl (aD rfl) ?_
   refine bV 1 rfl rfl (aR rfl) ?_
   refine bV 2 rfl rfl (qFA (off := 5) rfl) ?_
   refine bV 3 rfl rfl (aN (o := 5) tk102 rfl (.of (aF 0 rfl)) rfl) ?_
   refine bV 4 rfl rfl (qFA (off := 0) rfl) ?_
   refine bV 5 rfl rfl (ah 2 tk9 rfl rfl rfl) ?_
   refine bV 6 rfl rfl (qFA (off := 1) rfl) ?_
   refine bV 7 rfl rfl (ah 2 tk9 rfl rfl rfl) ?_
   refine bV 8 rfl rfl (dz (l := [(0, .tmp 27), (1, .tmp 29)]) (zs := [.string .empty, .string .empty]) (pl := [(0, 1), (1, 1)]) (by kernel_rfl) (by kernel_rfl) (by kernel_rfl) rfl rfl rfl) ?_
   refine bV 9 rfl rfl (rS (k := e.key) (v0 := (⟨none, 0, []⟩ : Sl aK)) Tryz.underlying102 (kyK) (by kernel_rfl) rfl rfl ((cm.g_all (.of (aF 2 rfl))))) ?_
   refine bV 10 rfl rfl (aZ Tryz.underlying158 rfl) ?_
   refine bV 11 rfl rfl (bx rfl rfl) ?_
   refine bV 12 rfl rfl (cz rfl) ?_
   refine bO (by kernel_rfl) ?_
   refine az ?_
   refine al _ rfl (fun h3 => ?_) (fun h3 => ?_)
   ·skip
    have c3 : (dZ x.kp.l L e.key).length = 1 := by
      have := of_decide_eq_true h3; rw [hl] at this; omega
    refine aSR (aA rfl (aNn (aJ (bu (aO ?_)))))
    refine br [] [] rfl Tryz.results91 rfl ?_ (.inr rfl)
    unfold mh; rw [if_neg c1, if_neg c2, if_pos c3]
   ·skip
    have c3 : ¬ (dZ x.kp.l L e.key).length = 1 := by
      have := of_decide_eq_false h3; rw [hl] at this; omega
    refine aSR ?_
    refine aU rfl (qFA (off := 3) rfl) ?_
    refine aU rfl (ah 2 tk3 rfl rfl rfl) (aU rfl (bx rfl rfl) (aA rfl (aNn ?_)))
    refine al _ rfl (fun h4 => ?_) (fun h4 => ?_)
    ·skip
     have c4 : e.s.bind = 1 := by simpa using h4
     refine aSR (aA rfl (aNn (aJ (bu (aO ?_)))))
     refine br [] [] rfl Tryz.results91 rfl ?_ (.inr rfl)
     unfold mh; rw [if_neg c1, if_neg c2, if_neg c3, if_pos c4]
    ·skip
     have c4 : ¬ e.s.bind = 1 := by simpa using h4
     refine aq (bB (az (aSR (aA rfl (aNn (aJ ?_))))))
     refine br [] [] rfl Tryz.results91 rfl ?_ (.inr rfl)
     unfold mh; rw [if_neg c1, if_neg c2, if_neg c3, if_neg c4]
end Go.Proofs.YtgmiihmahaahiaaGreatDoor

namespace Go.Proofs.YtgmiihmahaahiaaGreatDoor
open Go.RowKit Go.Lp Go.Sy
open Go.Proofs.Tryz
attribute [local irreducible] aL aB awp aC fwp
theorem sr (x : cm) (a b : ByteArray) (SV : ByteArray → ByteArray → Bool) (hSV : ∀ p q, SV p q = true ↔ Srv x.vs.l p q) : Con Tryz.prog 22 [x.vs.val, .string a, .string b] [x.ok] [] fun r _ _ => r = .bool (SV a b) :=
 (pf x.vs a b SV hSV).pre fun p hp => by
   simp only [List.mem_cons, List.not_mem_nil, or_false] at hp
   rcases hp with rfl | rfl
   · exact cm.f_vs (.of (aF 0 rfl))
   · exact cm.f_vsA (.of (aF 0 rfl))
structure jn (kp : List (Sl Bool)) (L : List Dfn) (SV : ByteArray → ByteArray → Bool) (v : ByteArray) (ks : List dw) (fa : aK × Bool) : Prop where
 tw : fa.2 = true → ∃ k ∈ ks, ∃ e, cE kp L k = some e ∧ SV k.2 v = true ∧ fa.1 = e.p
 lo : ∀ k ∈ ks, ∀ e, cE kp L k = some e → SV k.2 v = true → fa.2 = true ∧ ¬ ltC e.p fa.1
section
variable {kp : List (Sl Bool)} {L : List Dfn} {SV : ByteArray → ByteArray → Bool} {v : ByteArray} {ks : List dw} {fa : aK × Bool}
theorem jn.start (p : aK) : jn kp L SV v [] (p, false) := ⟨fun h => (by cases h), fun _ h => by cases h⟩
theorem jn.hit (h : jn kp L SV v ks fa) {k : dw} {e : Dfn} (he : cE kp L k = some e) (hs : SV k.2 v = true) : jn kp L SV v (ks ++ [k]) (el fa e.p) where
 tw hb := by
   unfold el at hb ⊢
   split
   · exact ⟨k, by simp, e, he, hs, rfl⟩
   · rename_i hno
     rw [if_neg hno] at hb
     obtain ⟨k2, h1, h2⟩ := h.tw hb
     exact ⟨k2, List.mem_append_left _ h1, h2⟩
 lo k2 hk e2 he2 hs2 := by
   rcases List.mem_append.1 hk with hk | hk
   · obtain ⟨h1, h2⟩ := h.lo k2 hk e2 he2 hs2
     unfold el
     split
     · rename_i hc
       refine ⟨rfl, fun hlt => ?_⟩
       rcases hc with hc | hc
       · rw [h1] at hc; cases hc
       · exact h2 (fj hlt hc)
     · exact ⟨h1, h2⟩
   · rw [List.mem_singleton.1 hk, he] at he2
     obtain rfl := Option.some.inj he2
     unfold el
     split
     · exact ⟨rfl, eQ _⟩
     · rename_i hno
       refine ⟨?_, fun hlt => hno (.inr hlt)⟩
       cases hb3 : fa.2 with
       | true => rfl
       | false => exact (hno (.inl hb3)).elim
theorem jn.miss (h : jn kp L SV v ks fa) {k : dw} (hs : ¬ SV k.2 v = true) : jn kp L SV v (ks ++ [k]) fa where
 tw hb := by
   obtain ⟨k2, h1, h2⟩ := h.tw hb
   exact ⟨k2, List.mem_append_left _ h1, h2⟩
 lo k2 hk e2 he2 hs2 := by
   rcases List.mem_append.1 hk with hk | hk
   · exact h.lo k2 hk e2 he2 hs2
   · rw [List.mem_singleton.1 hk] at hs2; exact (hs hs2).elim
theorem jn.fin {n : ByteArray} (h : jn kp L SV v (eG kp L n) fa) (hA : Asc L) : match L.find? fun d => decide (d.s.name = n) && (jJ kp L d && SV d.s.version v) with
   | some d => fa.2 = true ∧ fa.1 = d.p
   | none => fa.2 = false := by
 have pred : ∀ k ∈ eG kp L n, ∀ e, cE kp L k = some e → SV k.2 v = true → e ∈ L ∧ (decide (e.s.name = n) && (jJ kp L e && SV e.s.version v)) = true := fun k hk e he hs => by
   obtain ⟨m1, _, m3⟩ := dP he
   refine ⟨m1, ?_⟩
   have h1 : e.s.name = n := by rw [← (fJ.1 hk).2, ← m3]
   have h2 : SV e.s.version v = true := by rw [show e.s.version = k.2 from congrArg Prod.snd m3]; exact hs
   simp [h1, h2, mb hA he]
 cases hf : L.find? fun d => decide (d.s.name = n) && (jJ kp L d && SV d.s.version v) with
 | none =>
   rw [List.find?_eq_none] at hf
   dsimp only
   cases hb : fa.2 with
   | false => rfl
   | true =>
     obtain ⟨k, hk, e, he, hs, _⟩ := h.tw hb
     obtain ⟨m1, m2⟩ := pred k hk e he hs
     exact (hf e m1 m2).elim
 | some d =>
   have h1 := List.find?_some hf
   have hm := List.mem_of_find?_eq_some hf
   simp only [Bool.and_eq_true, decide_eq_true_eq] at h1
   have hc := (gY hA hm).1 h1.2.1
   have hk : d.key ∈ eG kp L n := fJ.2 ⟨fun h0 => (by rw [← fg (kp := kp)] at h0; rw [h0] at hc; cases hc), h1.1⟩
   obtain ⟨g1, g2⟩ := h.lo d.key hk d hc h1.2.2
   refine ⟨g1, ?_⟩
   obtain ⟨k, hk2, e, he, hs, hp⟩ := h.tw g1
   obtain ⟨m1, m2⟩ := pred k hk2 e he hs
   rcases find?_asc hA m1 m2 hf with hd | hd
   · rw [hp, hd]
   · rw [← hp] at hd; exact (g2 hd).elim
end
theorem y4 (x : cm) (hok : jv x.objs.l x.kp.l) (lb : Nat) (L : List Dfn) (st : CS) (mM : ByteArray → Option aK) (hF : mB x L st mM) (SV : ByteArray → ByteArray → Bool) (hSV : ∀ p q, SV p q = true ↔ Srv x.vs.l p q) (n v : ByteArray) :
   Con Tryz.prog 90 [.pointer (some ⟨lb, 0, none⟩), cI (n, v)] [At lb 0 x.row, x.ok, x.fin L st mM] [] (fun r ps hp => ps = [] ∧ hp = [] ∧ ∃ p : aK, r = .tuple #[p.val, .bool (fP x.kp.l L SV n v).isSome] ∧ ∀ e, fP x.kp.l L SV n v = some e → p = e.p) := by
 have hlN : ((cK st.mN n).l).length ≤ 70 := by
   rw [hF.inv.names]
   have := lX (kp := x.kp.l) L n
   have h2 := qX hok
   rw [← hF.flat] at h2; omega
 refine Con.enter Tryz.func90 rfl (by simp [Tryz.ntmps90]) ?_
 show awp _ _ _ _ ⟨[(0, true, _), (1, true, _)], _, _⟩
 refine aSR ?_
 refine an (q := true) rfl (cx rfl rfl rfl (fun b0_0 => ?_))
 refine aHN ?_
 refine an (q := true) rfl (bc (zs := [.int .i64 0, .int .i64 0]) (by kernel_rfl) rfl (fun b0_1 => ?_))
 refine aHN ?_
 refine aA rfl (aNs (aSR ?_))
 refine aU rfl (qFA (off := 1) rfl) ?_
 refine aU rfl (ah 0 tk9 rfl rfl rfl) (aU rfl (eE rfl rfl) (aNn ?_))
 refine al _ rfl (fun h1 => ?_) (fun h1 => ?_)
 ·skip
  have c1 : v = .empty := of_decide_eq_true h1
  refine aH ?_
  refine bp [11] (by kernel_rfl) ?_
  show aB _ _ _ _ _ 13 #[false, false, false, false, false, false, false, false, false, false, false, false, false] _
  refine bV 0 rfl rfl (aD rfl) ?_
  refine bV 1 rfl rfl (aR rfl) ?_
  refine bV 2 rfl rfl (qFA (off := 8) rfl) ?_
  refine bV 3 rfl rfl (aN (o := 8) tk105 rfl (.of (aF 0 rfl)) rfl) ?_
  refine bV 4 rfl rfl (qFA (off := 0) rfl) ?_
  refine bV 5 rfl rfl (ah 0 tk9 rfl rfl rfl) ?_
  refine bV 6 rfl rfl (mc (k := n) (v0 := (⟨0, 0⟩ : aK)) Tryz.underlying105 (kyT) (by kernel_rfl) rfl rfl ((cm.g_mn (.of (aF 2 rfl))))) ?_
  refine bV 7 rfl rfl (aD rfl) ?_
  refine bV 8 rfl rfl (bD rfl rfl) ?_
  refine tJ 9 rfl (by kernel_rfl) true rfl rfl (fun _ => bD rfl rfl) ?_
  refine cg (q := true) 10 rfl (by kernel_rfl) rfl rfl (bc (zs := [.int .i64 0, .int .i64 0]) (by kernel_rfl) rfl (fun b2_10 => ?_))
  refine bST rfl ?_
  refine cg 11 rfl (by kernel_rfl) rfl rfl (aV 2 tk34 rfl rfl rfl rfl ?_)
  refine bST rfl ?_
  refine bV 12 rfl rfl (cz rfl) ?_
  refine bO (by kernel_rfl) ?_
  refine az (aSR (aU rfl (ah 2 tk34 rfl rfl rfl) (aM rfl ?_)))
  refine an rfl (aV 1 tk34 rfl rfl rfl rfl ?_)
  refine aHK ?_
  refine aA rfl (aNn (aJ (aO ?_)))
  refine fS [] [] rfl Tryz.results90 (cV 1 tk34 rfl rfl rfl) (dV rfl) ?_ (.inr rfl)
  have hfr : fP x.kp.l L SV n v = (cU x.kp.l L n).head? := by unfold fP; rw [if_pos c1]
  refine ⟨rfl, rfl, (mM n).getD ⟨0, 0⟩, ?_, fun e he => ?_⟩
  · rw [hfr, hF.mains]; cases (cU x.kp.l L n).head? <;> rfl
  · rw [hF.mains, ← hfr, he]; rfl
 ·skip
  have c1 : ¬ v = .empty := of_decide_eq_false h1
  refine aq (az (aH (aH ?_)))
  refine bp [10] (by kernel_rfl) ?_
  show aB _ _ _ _ _ 12 #[false, false, false, false, false, false, false, false, false, false, false, false] _
  refine bV 0 rfl rfl (aD rfl) ?_
  refine bV 1 rfl rfl (aR rfl) ?_
  refine bV 2 rfl rfl (qFA (off := 6) rfl) ?_
  refine bV 3 rfl rfl (aN (o := 6) tk103 rfl (.of (aF 0 rfl)) rfl) ?_
  refine bV 4 rfl rfl (ah 0 tk157 rfl rfl rfl) ?_
  refine bV 5 rfl rfl (mc (k := (n, v)) (v0 := (⟨0, 0⟩ : aK)) Tryz.underlying103 (kyK) (by kernel_rfl) rfl rfl ((cm.g_ch (.of (aF 2 rfl))))) ?_
  refine bV 6 rfl rfl (aD rfl) ?_
  refine bV 7 rfl rfl (bD rfl rfl) ?_
  refine tJ 8 rfl (by kernel_rfl) true rfl rfl (fun _ => bD rfl rfl) ?_
  refine cg (q := true) 9 rfl (by kernel_rfl) rfl rfl (bc (zs := [.int .i64 0, .int .i64 0]) (by kernel_rfl) rfl (fun b4_9 => ?_))
  refine bST rfl ?_
  refine cg 10 rfl (by kernel_rfl) rfl rfl (aV 2 tk34 rfl rfl rfl rfl ?_)
  refine bST rfl ?_
  refine bV 11 rfl rfl (cz rfl) ?_
  refine bO (by kernel_rfl) ?_
  refine az (aSR (aM rfl (aNn ?_)))
  refine al _ rfl (fun h2 => ?_) (fun h2 => ?_)
  ·skip
   obtain ⟨e, he⟩ : ∃ e, cE x.kp.l L (n, v) = some e := by
     cases hc : cE x.kp.l L (n, v) with
     | some e => exact ⟨e, rfl⟩
     | none => unfold chP at h2; rw [hc] at h2; cases h2
   have hp0 : (chP x.kp.l L (n, v)).getD ⟨0, 0⟩ = e.p := by unfold chP; rw [he]; rfl
   refine aSR (aU rfl (ah 2 tk34 rfl rfl rfl) ?_)
   refine an rfl (aV 1 tk34 rfl rfl rfl rfl ?_)
   refine aHK ?_
   refine aA rfl (aNn (aJ (aO ?_)))
   refine fS [] [] rfl Tryz.results90 (cV 1 tk34 rfl rfl rfl) (dV rfl) ?_ (.inr rfl)
   have hfr : fP x.kp.l L SV n v = some e := by unfold fP; rw [if_neg c1, he]; rfl
   refine ⟨rfl, rfl, (chP x.kp.l L (n, v)).getD ⟨0, 0⟩, by rw [hfr]; rfl, fun e2 he2 => ?_⟩
   rw [hfr] at he2
   rw [hp0, Option.some.inj he2]
  ·skip
   have he : cE x.kp.l L (n, v) = none := by
     cases hc : cE x.kp.l L (n, v) with
     | none => rfl
     | some e => unfold chP at h2; rw [hc] at h2; cases h2
   refine aq (az (aSR ?_))
   refine an (q := true) rfl (bc (zs := [.int .i64 0, .int .i64 0]) (by kernel_rfl) rfl (fun b7_0 => ?_))
   refine aHN ?_
   refine aNn (aSR ?_)
   refine an (q := true) rfl (bc (zs := [.bool false]) (by kernel_rfl) rfl (fun b8_0 => ?_))
   refine aHN ?_
   refine an rfl (aV 4 tk4 rfl rfl rfl rfl ?_)
   refine aHK ?_
   refine aNs (aH ?_)
   refine bp [] (by kernel_rfl) ?_
   show aB _ _ _ _ _ 9 #[false, false, false, false, false, false, false, false, false] _
   refine bV 0 rfl rfl (aD rfl) ?_
   refine bV 1 rfl rfl (aR rfl) ?_
   refine bV 2 rfl rfl (qFA (off := 7) rfl) ?_
   refine bV 3 rfl rfl (aN (o := 7) tk104 rfl (.of (aF 0 rfl)) rfl) ?_
   refine bV 4 rfl rfl (qFA (off := 0) rfl) ?_
   refine bV 5 rfl rfl (ah 0 tk9 rfl rfl rfl) ?_
   refine bV 6 rfl rfl (rS (k := n) (v0 := (⟨none, 0, []⟩ : Sl dw)) Tryz.underlying104 (kyT) (by kernel_rfl) rfl rfl ((cm.g_nm (.of (aF 2 rfl))))) ?_
   refine bV 7 rfl rfl (aZ Tryz.underlying159 rfl) ?_
   refine bV 8 rfl rfl (aD rfl) ?_
   refine bO (by kernel_rfl) ?_
   refine az (aI ?_)
   refine aT [0, 3, 4, 10, 11, 46, 47, 48] [2, 1, 0] [0, 1, 3, 4] (fun (q : Nat × (aK × Bool)) s => (q.1 ≤ (cK st.mN n).l.length ∧ jn x.kp.l L SV v ((cK st.mN n).l.take q.1) q.2) ∧ s = ⟨[(0, true, .pointer (some ⟨lb, 0, none⟩)), (3, true, .pointer (some ⟨b0_0, 0, none⟩)), (4, true, .pointer (some ⟨b0_1, 0, none⟩)), (10, true, .pointer (some ⟨b7_0, 0, none⟩)), (11, true, .pointer (some ⟨b8_0, 0, none⟩)), (46, true, slV (cK st.mN n)), (47, true, .int .i64 (cK st.mN n).l.length), (48, true, .int .i64 q.1)],
     [At lb 0 x.row, x.ok, x.fin L st mM], [Box b0_0 157 [.string n, .string v], Box b0_1 34 [.int .i64 0, .int .i64 0], Box b7_0 34 q.2.1.vs, Box b8_0 4 [.bool q.2.2]]⟩) (fun q => (cK st.mN n).l.length - q.1) rfl (⟨(0, (⟨0, 0⟩, false)), ⟨Nat.zero_le _, .start _⟩, rfl⟩) ?_
   rintro ⟨j, fa⟩ s ⟨⟨hj, hL⟩, rfl⟩
   dsimp only at hj hL
   refine aSR (aU rfl (bw rfl rfl) (aNs ?_))
   refine al _ rfl (fun h3 => ?_) (fun h3 => ?_)
   ·skip
    have hj' : j < (cK st.mN n).l.length := by simp at h3; omega
    obtain ⟨kk, hkk⟩ : ∃ kk, (cK st.mN n).l[j]? = some kk := ⟨_, List.getElem?_eq_getElem hj'⟩
    obtain ⟨ee, hee⟩ : ∃ ee, cE x.kp.l L kk = some ee := by
      cases hc : cE x.kp.l L kk with
      | some ee => exact ⟨ee, rfl⟩
      | none => exact ((fJ.1 (by rw [← hF.inv.names]; exact List.mem_of_getElem? hkk)).1 (fg.1 hc)).elim
    refine aq (az (aH (aI (aSR ?_))))
    refine cJ true rfl rfl (fun _ => av Tryz.underlying159 tk157 rfl ((Ent.cK (cm.g_keys (.of (aF 2 rfl))) n)) rfl (aQ hkk) rfl rfl) (fun h => absurd h (by decide)) (fun ⟨b11_0, o11_0⟩ => ?_)
    refine aU rfl (aP (o := 0) tk157 rfl (aF 0 rfl) rfl rfl) ?_
    refine an (q := true) rfl (bc (zs := [.string .empty, .string .empty]) (by kernel_rfl) rfl (fun b11_2 => ?_))
    refine aHN ?_
    refine an rfl (aV 4 tk157 rfl rfl rfl rfl ?_)
    refine aHK ?_
    refine aNs ?_
    refine bp [] (by kernel_rfl) ?_
    show aB _ _ _ _ _ 9 #[false, false, false, false, false, false, false, false, false] _
    refine bV 0 rfl rfl (aD rfl) ?_
    refine bV 1 rfl rfl (aR rfl) ?_
    refine bV 2 rfl rfl (qFA (off := 4) rfl) ?_
    refine bV 3 rfl rfl (aN (o := 4) tk24 rfl (.of (aF 1 rfl)) rfl) ?_
    refine bV 4 rfl rfl (qFA (off := 1) rfl) ?_
    refine bV 5 rfl rfl (ah 4 tk9 rfl rfl rfl) ?_
    refine bV 6 rfl rfl (qFA (off := 1) rfl) ?_
    refine bV 7 rfl rfl (ah 0 tk9 rfl rfl rfl) ?_
    refine bV 8 rfl rfl (bC (by kernel_rfl) rfl (fun w S fp hst => (sr x kk.2 v SV hSV).quiet1 (aF 2 rfl) hst)) ?_
    refine bO (by kernel_rfl) ?_
    refine az ?_
    refine al _ rfl (fun h4 => ?_) (fun h4 => ?_)
    ·skip
     refine bp [6] (by kernel_rfl) ?_
     show aB _ _ _ _ _ 7 #[false, false, false, false, false, false, false] _
     refine bV 0 rfl rfl (aD rfl) ?_
     refine bV 1 rfl rfl (aR rfl) ?_
     refine bV 2 rfl rfl (qFA (off := 6) rfl) ?_
     refine bV 3 rfl rfl (aN (o := 6) tk103 rfl (.of (aF 1 rfl)) rfl) ?_
     refine bV 4 rfl rfl (ah 4 tk157 rfl rfl rfl) ?_
     refine bV 5 rfl rfl ((rS (k := kk) (v0 := (⟨0, 0⟩ : aK)) Tryz.underlying103 (kyK) (by kernel_rfl) rfl rfl ((cm.g_ch (.of (aF 3 rfl))))).castV (v' := aK.val ee.p) (congrArg aK.val (by unfold chP; rw [hee]; rfl))) ?_
     refine cg (q := false) 6 rfl (by kernel_rfl) rfl rfl (bH [] [2, 3] (by kernel_rfl) rfl rfl rfl rfl (jY b7_0 b8_0 fa ee.p) ?_)
     rintro _ _ _ ⟨rfl, rfl⟩
     refine bST rfl ?_
     refine bO (by kernel_rfl) ?_
     refine bB (az (aj ?_))
     refine aU rfl (bd rfl rfl (by omega)) ?_
     refine aM rfl (aNn ?_)
     refine ⟨[0, 3, 4, 10, 11, 46, 47, 48], [2, 1, 0], [0, 1, 2, 3], rfl, ?_⟩
     exact ⟨(j + 1, el fa ee.p), ⟨⟨by dsimp only; omega, by dsimp only; rw [List.take_add_one, hkk]; exact hL.hit hee h4⟩, rfl⟩, by dsimp only; omega⟩
    ·skip
     refine aq (bB (az (aj ?_)))
     refine aU rfl (bd rfl rfl (by omega)) ?_
     refine aM rfl (aNn ?_)
     refine ⟨[0, 3, 4, 10, 11, 46, 47, 48], [2, 1, 0], [0, 1, 2, 3], rfl, ?_⟩
     exact ⟨(j + 1, fa), ⟨⟨by dsimp only; omega, by dsimp only; rw [List.take_add_one, hkk]; exact hL.miss (by rw [h4]; decide)⟩, rfl⟩, by dsimp only; omega⟩
   ·skip
    have hfin : jn x.kp.l L SV v (eG x.kp.l L n) fa := by
      rw [List.take_of_length_le (by simp at h3; omega), hF.inv.names] at hL; exact hL
    have hlast := hfin.fin hF.asc
    have hfr : fP x.kp.l L SV n v = L.find? fun d => decide (d.s.name = n) && (jJ x.kp.l L d && SV d.s.version v) := by unfold fP; rw [if_neg c1, he]; rfl
    rw [← hfr] at hlast
    refine aX (aY (aY (bf (az (aH ?_)))))
    refine bp [2] (by kernel_rfl) ?_
    show aB _ _ _ _ _ 4 #[false, false, false, false] _
    refine bV 0 rfl rfl (ah 2 tk34 rfl rfl rfl) ?_
    refine acw (qi := true) (qj := false) 1 2 (by kernel_rfl) rfl rfl rfl rfl rfl rfl ?_ ?_
    ·skip
     refine Quiet.eff (ah 3 tk4 rfl rfl rfl) rfl ?_
     refine bST rfl ?_
     refine cg 2 rfl (by kernel_rfl) rfl rfl (aV 1 tk34 rfl rfl rfl rfl ?_)
     refine bST rfl ?_
     refine bV 3 rfl rfl (cz rfl) ?_
     refine bO (by kernel_rfl) ?_
     refine az (aJ ?_)
     refine fS [] [] rfl Tryz.results90 (cV 1 tk34 rfl rfl rfl) (dV rfl) ?_ (.inr rfl)
     refine ⟨rfl, rfl, fa.1, ?_, fun e2 he2 => ?_⟩
     · cases hc : fP x.kp.l L SV n v with
       | none => rw [hc] at hlast; dsimp only at hlast; show Value.tuple #[_, Value.bool fa.2] = _; rw [hlast]; rfl
       | some d => rw [hc] at hlast; dsimp only at hlast; show Value.tuple #[_, Value.bool fa.2] = _; rw [hlast.1]; rfl
     · rw [he2] at hlast; exact hlast.2
    ·skip
     refine id (aV 1 tk34 rfl rfl rfl rfl ?_)
     refine bST rfl ?_
     refine bV 1 rfl rfl (ah 3 tk4 rfl rfl rfl) ?_
     refine bV 3 rfl rfl (cz rfl) ?_
     refine bO (by kernel_rfl) ?_
     refine az (aJ ?_)
     refine fS [] [] rfl Tryz.results90 (cV 1 tk34 rfl rfl rfl) (dV rfl) ?_ (.inr rfl)
     refine ⟨rfl, rfl, fa.1, ?_, fun e2 he2 => ?_⟩
     · cases hc : fP x.kp.l L SV n v with
       | none => rw [hc] at hlast; dsimp only at hlast; show Value.tuple #[_, Value.bool fa.2] = _; rw [hlast]; rfl
       | some d => rw [hc] at hlast; dsimp only at hlast; show Value.tuple #[_, Value.bool fa.2] = _; rw [hlast.1]; rfl
     · rw [he2] at hlast; exact hlast.2
end Go.Proofs.YtgmiihmahaahiaaGreatDoor

