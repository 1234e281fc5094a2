/- Parts of the proof, in build order. No condition. -/
import Derived.Test.YtgmiihmahaahiaaGreatDoorQc07
import Derived.Test.YtgmiihmahaahiaaGreatDoorQc03
import Derived.Test.YtgmiihmahaahiaaGreatDoorQc04
import Derived.Laws.CopyRow
import Derived.Lib.BufferWrite
import Derived.Lib.ConvBytes
import Derived.Lib.SliceRun
import Derived.Deep.Upon
set_option linter.unusedSimpArgs false
set_option linter.unusedVariables false
set_option maxHeartbeats 1000000
set_option maxRecDepth 20000
namespace Go.Sy
open Go.RowKit Go.Lp
theorem ei {P : Program} {n : Fr} {env : Env} {ps : List Per} {hp : List Res} {c : Code} {Q : Exit → Sta → Prop} (p : Per) (hp' : Ent ps p) (h : awp P n c Q ⟨env, p :: ps, hp⟩) : awp P n c Q ⟨env, ps, hp⟩ := fun w S fp a hst he hn hd =>
 h w S fp a ⟨fun q hq => (List.mem_cons.1 hq).elim (fun e => e ▸ hp' w S hst.per) (fun h => hst.per q h), hst.res, hst.lt, hst.dj, hst.slt⟩ he hn hd
theorem xC {w : World} {S F : bz} {v : Value} {E : TypeId} {sz : Nat} {rows : List (List D)} (h : (bA v E sz rows).holds w S F) : ∃ ad cap, v = .slice ad rows.length cap := by
 rcases h with ⟨h1, h2, _⟩ | ⟨b, cap, h1, _⟩
 · subst h2; exact ⟨none, 0, h1⟩
 · exact ⟨_, cap, h1⟩
theorem fN {P : Program} {n : Fr} {env : Env} {ps : List Per} {hp : List Res} {c : Code} {Q : Exit → Sta → Prop} (i : Nat) {v : Value} {T : TypeId} {sz : Nat} {rows : List (List D)} (hi : hp[i]? = some (bA v T sz rows)) (h : ∀ ad cp, v = .slice ad rows.length cp → awp P n c Q ⟨env, ps, hp⟩) : awp P n c Q ⟨env, ps, hp⟩ := fun w S fp a hst he hn hd => by
 obtain ⟨ad, cp, e⟩ := xC (hst.res i _ hi)
 exact h ad cp e w S fp a hst he hn hd
end Go.Sy
namespace Go.Proofs.YtgmiihmahaahiaaGreatDoor
open Go.RowKit Go.Lp Go.Sy
open Go.Proofs.Tryz
attribute [local irreducible] aL aB awp aC fwp
def zQ (l : List Int) : Prop := ∀ (k : Nat) (a b : Int), l[k]? = some a → l[k + 1]? = some b → a < b
theorem tt {l : List Int} (h : zQ l) (h0 : ∀ z ∈ l, 0 ≤ z) : ∀ (k : Nat) (a : Int), l[k]? = some a → (k : Int) ≤ a
 | 0, a, ha => h0 a (List.mem_of_getElem? ha)
 | k + 1, b, hb => by
   have hl := (List.getElem?_eq_some_iff.1 hb).1
   have ha : l[k]? = some l[k] := List.getElem?_eq_getElem (by omega)
   have h1 := tt h h0 k _ ha
   have h2 := h k _ _ ha hb
   omega
theorem wV {l : List Int} {n : Nat} (h : zQ l) (h0 : ∀ z ∈ l, 0 ≤ z ∧ z < n) : l.length ≤ n := by
 cases hl : l.length with
 | zero => exact Nat.zero_le _
 | succ k =>
   have ha : l[k]? = some l[k] := List.getElem?_eq_getElem (by omega)
   have h1 := tt h (fun z hz => (h0 z hz).1) k _ ha
   have h2 := (h0 _ (List.mem_of_getElem? ha)).2
   omega
theorem wb (l : Sl Int) (F : FuncId) (caps : List Value) (p : Per) (hF : bE Tryz.prog F = true) (h : ∀ a b : Int, Con Tryz.prog F ((eI a) :: (eI b) :: caps) [p] [] (fun r _ _ => r = .bool (decide (a < b)))) : Con Tryz.prog 149 [l.val, .func (.func F) #[] caps.toArray] [ShF eN l, p] [] (YB (zQ l.l)) := by
 refine Con.enter Tryz.func149 rfl (by simp [Tryz.ntmps149]) ?_
 show awp _ _ _ _ ⟨[(0, true, _), (1, true, _)], _, _⟩
 refine bd (.of (an 0 rfl)) (fun hlen => ?_)
 refine aSR (aA rfl (aNs (aSR (aA rfl (aNn (aw ?_))))))
 refine aP [0, 1, 5] [1, 0] [] (fun (k : Nat) s => (k ≤ l.l.length ∧ ∀ (j : Nat) (a b : Int), j < k → l.l[j]? = some a → l.l[j + 1]? = some b → a < b) ∧ s = ⟨[(0, true, l.val), (1, true, .func (.func F) #[] caps.toArray), (5, true, .int .i64 ((k + 1 : Nat) : Int))], [ShF eN l, p], []⟩) (fun k => l.l.length - k) rfl (⟨0, ⟨Nat.zero_le _, fun j a b h => by omega⟩, rfl⟩) ?_
 rintro k s ⟨⟨hk, hA⟩, rfl⟩
 refine az (aSR (aM rfl (aM rfl (aU rfl (aZ Tryz.underlying90 rfl) (aU rfl (bt rfl rfl) (aNn ?_))))))
 refine ah _ rfl (fun h1 => ?_) (fun h1 => ?_)
 ·skip
  have hk' : k + 1 < l.l.length := by simp at h1; omega
  have ha := bN (l := l.l) (i := k) (by omega)
  have hb := bN (l := l.l) (i := k + 1) hk'
  refine au (av (az (aw (az ?_))))
  refine aX [] (by kernel_rfl) ?_
  show aB _ _ _ _ _ 12 #[false, false, false, false, false, false, false, false, false, false, false, false] _
  refine bV 0 rfl rfl (ar rfl) ?_
  refine bV 1 rfl rfl (ar rfl) ?_
  refine bV 2 rfl rfl (ar rfl) ?_
  refine bV 3 rfl rfl (dX rfl rfl (by omega)) ?_
  refine cD 4 rfl (by kernel_rfl) true rfl rfl (fun _ => ai Tryz.underlying90 tk3 rfl ((.of (an 0 rfl))) rfl (aJ ha) (by omega) rfl) (fun h => absurd h (by decide)) (fun ⟨b4_4, o4_4⟩ => ?_)
  refine bV 5 rfl rfl (aF (o := 0) tk3 rfl (an 0 rfl) rfl rfl) ?_
  refine bV 6 rfl rfl (ar rfl) ?_
  refine bV 7 rfl rfl (ar rfl) ?_
  refine cD 8 rfl (by kernel_rfl) true rfl rfl (fun _ => ai Tryz.underlying90 tk3 rfl ((.of (an 1 rfl))) rfl (aJ hb) rfl rfl) (fun h => absurd h (by decide)) (fun ⟨b4_8, o4_8⟩ => ?_)
  refine bV 9 rfl rfl (aF (o := 0) tk3 rfl (an 0 rfl) rfl rfl) ?_
  refine bV 10 rfl rfl (lk hF rfl rfl (fun w S fp hst => (h _ _).quiet1 (an 3 rfl) hst)) ?_
  refine bV 11 rfl rfl (bT rfl) ?_
  refine bD (by kernel_rfl) ?_
  refine av ?_
  refine ah _ rfl (fun h2 => ?_) (fun h2 => ?_)
  ·skip
   refine aSR (aA rfl (aNn (aq (bj (aK (aK (bj (aK ?_))))))))
   refine aV [] [] rfl Tryz.results149 rfl ?_ (.inr rfl)
   exact ⟨⟨rfl, rfl⟩, _, rfl, fun h => by cases h⟩
  ·skip
   refine au (bu (av (ae (aM rfl ?_))))
   refine aU rfl (bf rfl rfl (by omega)) ?_
   refine aA rfl (aNn ?_)
   refine ⟨[0, 1, 5], [1, 0], [], rfl, ?_⟩
   refine ⟨k + 1, ⟨⟨by omega, fun j a b hj h3 h4 => ?_⟩, rfl⟩, by omega⟩
   by_cases hjk : j = k
   · subst hjk
     rw [ha] at h3; rw [hb] at h4
     rw [← Option.some.inj h3, ← Option.some.inj h4]
     simpa using h2
   · exact hA j a b (by omega) h3 h4
 ·skip
  refine aR (aS (aS (aY (av (aSR (aA rfl (aNn (aq ?_))))))))
  refine aV [] [] rfl Tryz.results149 rfl ?_ (.inr rfl)
  refine ⟨⟨rfl, rfl⟩, _, rfl, fun _ j a b h3 h4 => hA j a b ?_ h3 h4⟩
  have := (List.getElem?_eq_some_iff.1 h4).1
  simp at h1; omega
theorem wz (b : Nat) (o : ax) (z : Int) : Con Tryz.prog 148 [eI z, .pointer (some ⟨b, 0, none⟩)] [At b 0 o.row, o.ok] [] (YB (0 ≤ z ∧ z < o.secs.l.length)) := by
 refine Con.enter Tryz.func148 rfl (by simp [Tryz.ntmps148]) ?_
 show awp _ _ _ _ ⟨[(0, true, _), (1, true, _)], _, _⟩
 refine bd (ax.f_secs (.of (an 1 rfl))) (fun hlen => ?_)
 refine aSR (aA rfl (aNn (aSR (aM rfl ?_))))
 refine aU rfl (qFA (off := 0) rfl) ?_
 refine aU rfl (qFA (off := 1) rfl) ?_
 refine aU rfl (aN (o := 1) tk50 rfl (.of (an 0 rfl)) rfl) (aU rfl (aZ Tryz.underlying50 rfl) ?_)
 refine aU rfl (bw (by kernel_rfl) rfl (fun w S fp hst => (cB _ _).quiet0 hst)) ?_
 refine aA rfl (aNn (aq ?_))
 refine aV [] [] rfl Tryz.results148 rfl ?_ (.inr rfl)
 refine ⟨⟨rfl, rfl⟩, _, rfl, fun hb => ?_⟩
 simp only [Bool.and_eq_true, decide_eq_true_eq] at hb; omega
theorem wB (x y : Int) (p : Per) : Con Tryz.prog 150 [eI x, eI y] [p] [] (fun r _ _ => r = .bool (decide (x < y))) := by
 refine Con.enter Tryz.func150 rfl (by simp [Tryz.ntmps150]) ?_
 show awp _ _ _ _ ⟨[(0, true, _), (1, true, _)], _, _⟩
 refine aSR (aA rfl (aNn (aSR (aM rfl (aM rfl (aU rfl (bt rfl rfl) (aA rfl (aNn (aq ?_)))))))))
 refine aV [] [] rfl Tryz.results150 rfl ?_ (.inr rfl)
 rfl
theorem wG (g : cS) (p : Per) : Con Tryz.prog 152 [g.val] [p] [] (YN dK fun _ => True) := by
 refine Con.enter Tryz.func152 rfl (by simp [Tryz.ntmps152]) ?_
 show awp _ _ _ _ ⟨[(0, true, _)], _, _⟩
 refine aSR ?_
 refine aj (q := true) rfl (bI rfl rfl rfl (fun b0_0 => ?_))
 refine aHN ?_
 refine aA rfl (aNn (aSR ?_))
 refine aU rfl (qFA (off := 0) rfl) ?_
 refine aU rfl (ab 0 tk9 rfl rfl rfl) (aA rfl (aNn (aq ?_)))
 refine aV [] [] rfl Tryz.results152 rfl ?_ (.inr rfl)
 exact ⟨⟨rfl, rfl⟩, _, rfl, trivial⟩
theorem v8 (x : Int) (p : Per) : Con Tryz.prog 154 [eI x] [p] [] (YN eI fun _ => True) := by
 refine Con.enter Tryz.func154 rfl (by simp [Tryz.ntmps154]) ?_
 show awp _ _ _ _ ⟨[(0, true, _)], _, _⟩
 refine aSR (aA rfl (aNn (aSR (aM rfl (aA rfl (aNn (aq ?_)))))))
 refine aV [] [] rfl Tryz.results154 rfl ?_ (.inr rfl)
 exact ⟨⟨rfl, rfl⟩, _, rfl, trivial⟩
theorem qt (o : ax) (hg : o.groups.l.length ≤ 1000) (hs : o.secs.l.length ≤ 1000) : Con Tryz.prog 70 [o.val] [o.ok] [] (YB (∀ g ∈ o.groups.l, g.secs.l.length ≤ o.secs.l.length ∧ ∀ z ∈ g.secs.l, 0 ≤ z ∧ z < o.secs.l.length)) := by
 refine Con.enter Tryz.func70 rfl (by simp [Tryz.ntmps70]) ?_
 show awp _ _ _ _ ⟨[(0, true, _)], _, _⟩
 refine bd (ax.f_groups (.of (an 0 rfl))) (fun hlen => ?_)
 refine aSR ?_
 refine aj (q := true) rfl (bI rfl rfl rfl (fun b0_0 => ?_))
 refine aHN ?_
 refine aA rfl (aNn (aSR (aA rfl (aNn ?_))))
 refine az (az (eb 3 1 ?_))
 show awp _ _ _ _ ⟨_, _, [_, _]⟩
 refine bL 0 rfl rfl ?_
 show awp _ _ _ _ ⟨_, At _ 0 _ :: _, _⟩
 refine ae ?_
 refine aU rfl (qFA (off := 0) rfl) ?_
 refine aU rfl (qFA (off := 4) rfl) ?_
 refine aU rfl (aN (o := 4) tk53 rfl (.of (an 0 rfl)) rfl) (aU rfl (aZ Tryz.underlying53 rfl) (aM rfl (aNn (aw ?_))))
 refine aP [1, 3, 8, 9, 10] [1, 0] [1] (fun (q : Nat × (Value × List Int)) s => (q.1 ≤ o.groups.l.length ∧ q.2.2.length ≤ 1000 * q.1 ∧ ∀ g ∈ o.groups.l.take q.1, g.secs.l.length ≤ o.secs.l.length ∧ ∀ z ∈ g.secs.l, 0 ≤ z ∧ z < o.secs.l.length) ∧ s = ⟨[(1, true, .pointer (some ⟨b0_0, 0, none⟩)), (3, true, q.2.1), (8, true, o.groups.val), (9, true, .int .i64 o.groups.l.length), (10, true, .int .i64 q.1)], [At b0_0 0 o.row, o.ok], [bA q.2.1 3 1 (q.2.2.map eN)]⟩) (fun q => o.groups.l.length - q.1) rfl (⟨(0, (_, [])), ⟨Nat.zero_le _, Nat.le_refl _, fun g hg => by cases hg⟩, rfl⟩) ?_
 rintro ⟨k, v, zs⟩ s ⟨⟨hk, hz, hG⟩, rfl⟩
 dsimp only at hk hz hG
 refine aSR (aU rfl (bt rfl rfl) (aNs ?_))
 refine ah _ rfl (fun h1 => ?_) (fun h1 => ?_)
 ·skip
  have hk' : k < o.groups.l.length := by simp at h1; omega
  obtain ⟨g, hgk⟩ : ∃ g, o.groups.l[k]? = some g := ⟨_, List.getElem?_eq_getElem hk'⟩
  refine au (av (az (aw (aSR ?_))))
  refine ck true rfl rfl (fun _ => ai Tryz.underlying53 tk92 rfl ((ax.f_groups (.of (an 1 rfl)))) rfl (aJ hgk) rfl rfl) (fun h => absurd h (by decide)) (fun ⟨b4_0, o4_0⟩ => ?_)
  refine aU rfl (aF (o := 0) tk92 rfl (an 0 rfl) rfl rfl) ?_
  refine aj (q := true) rfl (bp (zs := [.string .empty, .slice none 0 0]) (by kernel_rfl) rfl (fun b4_2 => ?_))
  refine aHN ?_
  refine aj rfl (aT 1 tk92 rfl rfl rfl rfl ?_)
  refine aHK ?_
  refine aNs (az ?_)
  refine eR (cS.f_name (Ent.all (ax.f_groupsA (.of (an 2 rfl))) hgk)) (fun hnl => ?_)
  refine bd (cS.f_secs (Ent.all (ax.f_groupsA (.of (an 2 rfl))) hgk)) (fun hlen2 => ?_)
  refine ae ?_
  refine aU rfl (qFA (off := 0) rfl) ?_
  refine aU rfl (ab 1 tk9 rfl rfl rfl) ?_
  refine aQ (caps := []) [] (false) (by kernel_rfl) true rfl rfl (fun _ => rfl) (fun hc => rfl) (fun hc => by rw [List.append_nil]; exact eY _ hnl) (fun c1 hc1 => ?_)
  refine aU rfl (bT rfl) (aM rfl ?_)
  refine aG rfl rfl (fun hc => qFA (off := 1) rfl) ?_
  refine aG rfl rfl (fun hc => ab 1 tk90 (aa rfl hc) rfl rfl) (aG rfl rfl (fun hc => aZ Tryz.underlying90 (aa rfl hc)) (aG rfl rfl (fun hc => bB (aa rfl hc) rfl) (aU rfl (ct rfl rfl (fun h => gf rfl h)) (aM rfl ?_))))
  refine aG rfl rfl (fun hc => qFA (off := 1) rfl) ?_
  refine aG rfl rfl (fun hc => ab 1 tk90 (aa rfl hc) rfl rfl) (aG rfl rfl (fun hc => dq (l := [.tmp 1]) rfl) ?_)
  refine aQ (caps := []) [1, 0] (false) (by kernel_rfl) _ rfl rfl (fun _ => rfl) (fun hc => (aI (aa rfl hc) (aI (aa rfl hc) rfl))) (fun hc => by rw [List.append_nil]; exact (mP g.secs 148 [.pointer (some ⟨b0_0, 0, none⟩)] (cx (At b0_0 0 o.row) o.ok) (fun z => 0 ≤ z ∧ z < o.secs.l.length) (by kernel_rfl) (fun z _ => (wz b0_0 o z).pre (eD fw.left fw.right))).pre (eD (cS.f_secs (Ent.all (ax.f_groupsA (.of (an 1 rfl))) hgk)) (.mk2 (.of (an 0 rfl)) (.of (an 1 rfl))))) (fun c2 hc2 => ?_)
  refine aG rfl rfl (fun hc => bT (aa rfl hc)) (aU rfl (ct rfl rfl (fun h => gf rfl h)) (aM rfl ?_))
  refine aG rfl rfl (fun hc => qFA (off := 1) rfl) ?_
  refine aG rfl rfl (fun hc => ab 1 tk90 (aa rfl hc) rfl rfl) ?_
  refine aQ (caps := []) [0] (false) (by kernel_rfl) _ rfl rfl (fun _ => rfl) (fun hc => (aI (aa rfl hc) (aI (aa rfl rfl) rfl))) (fun hc => by rw [List.append_nil]; exact (wb g.secs 150 [] o.ok (by kernel_rfl) (fun x y => wB x y _)).pre (eD (cS.f_secs (Ent.all (ax.f_groupsA (.of (an 0 rfl))) hgk)) (.of (an 0 rfl)))) (fun c3 hc3 => ?_)
  refine aG rfl rfl (fun hc => bT (aa rfl hc)) (aU rfl (ct rfl rfl (fun h => gf rfl h)) (aNn ?_))
  refine ah _ rfl (fun h2 => ?_) (fun h2 => ?_)
  ·skip
   refine aSR (aA rfl (aNn (aq (aK (bj (aK (aK (bj (aK ?_)))))))))
   refine aV [] [] rfl Tryz.results70 rfl ?_ (.inr rfl)
   exact ⟨⟨rfl, rfl⟩, _, rfl, fun h => by cases h⟩
  ·skip
   have hgl : g.secs.l.length ≤ o.secs.l.length ∧ ∀ z ∈ g.secs.l, 0 ≤ z ∧ z < o.secs.l.length := by
     simp only [Bool.or_eq_false_iff, Bool.not_eq_false'] at h2
     have hin := hc2 (by rw [h2.1.1.1, h2.1.1.2]; rfl) h2.1.2
     refine ⟨?_, hin⟩
     exact wV (hc3 (by rw [h2.1.1.1, h2.1.1.2, h2.1.2]; rfl) h2.2) hin
   refine au (av (ei (ShF eN g.secs) (cS.f_secs (Ent.all (ax.f_groupsA (.of (an 2 rfl))) hgk)) (ae (aM rfl ?_))))
   refine aU rfl (qFA (off := 1) rfl) ?_
   refine aU rfl (ab 1 tk90 rfl rfl rfl) ?_
   refine aj rfl (gS 0 el90 el90 rfl rfl rfl rfl (an 0 rfl) ((fun r hr => by obtain ⟨z, _, rfl⟩ := List.mem_map.1 hr; rfl)) (by simp; omega) ((zs ++ g.secs.l).length) (by simp; try omega) (fun v7_3 c7_3 => ?_))
   refine aHK ?_
   refine aA rfl (cr (bu (av (ae ?_))))
   refine aU rfl (bf rfl rfl (by omega)) ?_
   refine aM rfl (aNn ?_)
   refine ⟨[1, 3, 8, 9, 10], [1, 0], [0], rfl, ?_⟩
   refine ⟨(k + 1, (_, zs ++ g.secs.l)), ⟨⟨by dsimp only; omega, by have := hgl.1; dsimp only; rw [List.length_append]; omega, fun g2 hg2 => ?_⟩, by dsimp only; rw [List.map_append]; rfl⟩, by dsimp only; omega⟩
   dsimp only at hg2
   rw [List.take_add_one, hgk, List.mem_append] at hg2
   rcases hg2 with hg2 | hg2
   · exact hG g2 hg2
   · simp at hg2; subst hg2; exact hgl
 ·skip
  refine aR (aS (aS (aY (av (az ?_)))))
  refine fN 0 rfl (fun ad cp hv => ?_)
  rw [List.length_map] at hv
  dsimp only at hv h1 ⊢
  subst hv
  refine fE 0 (ShF eN ⟨ad, cp, zs⟩) rfl (fun _ _ _ h => eF h) ?_
  show awp _ _ _ _ ⟨_, [ShF eN _, _, _], _⟩
  refine ae ?_
  refine aU rfl (qFA (off := 0) rfl) ?_
  refine aU rfl (qFA (off := 4) rfl) ?_
  refine aU rfl (aN (o := 4) tk53 rfl (.of (an 1 rfl)) rfl) ?_
  refine aQ (caps := []) [0] (false) (by kernel_rfl) true rfl rfl (fun _ => rfl) (fun hc => rfl) (fun hc => by rw [List.append_nil]; exact (me o.groups 152 [] o.ok (by kernel_rfl) (fun g _ => wG g _)).pre (eD (ax.f_groups (.of (an 0 rfl))) (.of (an 0 rfl)))) (fun c4 hc4 => ?_)
  refine aM rfl (aG rfl rfl (fun hc => ar rfl) ?_)
  refine aQ (caps := []) [2, 0] (false) (by kernel_rfl) _ rfl rfl (fun _ => rfl) (fun hc => (aI (aa rfl hc) (aI (aa rfl rfl) rfl))) (fun hc => by rw [List.append_nil]; exact pf ⟨ad, cp, zs⟩ 154 [] o.ok (by kernel_rfl) (fun z _ => v8 z _)) (fun c5 hc5 => ?_)
  refine aU rfl (bn rfl rfl (fun h => gt rfl h)) (aA rfl (aNn (aq ?_)))
  refine aV [] [] rfl Tryz.results70 rfl ?_ (.inr rfl)
  refine ⟨⟨rfl, rfl⟩, _, rfl, fun _ => ?_⟩
  rw [List.take_of_length_le (by simp at h1; omega)] at hG; exact hG
end Go.Proofs.YtgmiihmahaahiaaGreatDoor

namespace Go.Sy
open Go.RowKit Go.Lp Go.Sort
section
variable {P : Program} {n : Fr} {env : Env} {ps : List Per} {hp : List Res} {s : Sta} {d : Option Tmp} {ty : TypeId} {pos : String} {af : Array Edge} {gd : Option (Nat × Bool)} {x y : Operand} {K : Sta → Prop}
theorem og {T E : TypeId} {sz m c B o : Nat} {kk : IntKind} {z : Int} (k : Nat) (hel : elB P T E sz = true) (hx : ev s.env x = some (true, .slice (some ⟨B, o, none⟩) m c))
   (hy : ev s.env y = some (true, .int kk z)) (hz : z = (k : Int)) (hk : k ≤ m) (hm : m ≤ c) :
   Quiet P n ⟨d, .slice T x none (some y) none, ty, pos, af, gd⟩ s (.slice (some ⟨B, o, none⟩) k c) := fun w S fp a hst he hn => by
 have h1 := he.val hx rfl
 subst hz
 have h2 := he.val hy rfl
 obtain ⟨hT, it, hi, _, hsz, _⟩ := dh hel
 have hE : P.elem T = E := by unfold Program.elem; rw [hT]
 have hrun : ∀ w1, (execOp a.eval ⟨d, .slice T x none (some y) none, ty, pos, af, gd⟩).run P w1 = .ok (.value (sliced (some ⟨B, o, none⟩) 0 k c sz)) w1 := fun w1 => by
   unfold execOp; dsimp only; simp only [Option.map_some, Option.map_none]; rw [h1, h2]
   show ((Instr.sliceAt T (.slice (some ⟨B, o, none⟩) m c) none (some (.int kk k)) none).bind fun r => Sem.pure (Next.value r)).run P w1 = _
   have hT' : P.underlying T = some (.slice (P.elem T)) := by rw [hT, hE]
   rw [Sem.run_bind', run_sliceAt_slice w1 T _ _ _ _ hT', run_slice_h w1 T _ m c hT' kk k (by omega) (by omega), hE, cJ hi, hsz]
   rfl
 have e : sliced (some ⟨B, o, none⟩) 0 k c sz = .slice (some ⟨B, o, none⟩) k c := by
   unfold sliced
   simp only [Nat.sub_zero]
   congr 1
   split
   · rfl
   · simp [jk]
 rw [hrun, e]; exact bY _ _
theorem iY {T E : TypeId} {sz m c B o : Nat} {kk : IntKind} {z : Int} (k m' o' : Nat) (hel : elB P T E sz = true) (hx : ev s.env x = some (true, .slice (some ⟨B, o, none⟩) m c))
   (hy : ev s.env y = some (true, .int kk z)) (hz : z = (k : Int)) (hk : k < m) (hm : m ≤ c) (hm' : m - k = m') (ho : o + k * sz = o') :
   Quiet P n ⟨d, .slice T x (some y) none none, ty, pos, af, gd⟩ s (.slice (some ⟨B, o', none⟩) m' (c - k)) := fun w S fp a hst he hn => by
 have h1 := he.val hx rfl
 subst hz
 have h2 := he.val hy rfl
 obtain ⟨hT, it, hi, _, hsz, _⟩ := dh hel
 have hE : P.elem T = E := by unfold Program.elem; rw [hT]
 have hrun : ∀ w1, (execOp a.eval ⟨d, .slice T x (some y) none none, ty, pos, af, gd⟩).run P w1 = .ok (.value (sliced (some ⟨B, o, none⟩) k m c sz)) w1 := fun w1 => by
   unfold execOp; dsimp only; simp only [Option.map_some, Option.map_none]; rw [h1, h2]
   show ((Instr.sliceAt T (.slice (some ⟨B, o, none⟩) m c) (some (.int kk k)) none none).bind fun r => Sem.pure (Next.value r)).run P w1 = _
   have hT' : P.underlying T = some (.slice (P.elem T)) := by rw [hT, hE]
   rw [Sem.run_bind', run_sliceAt_slice w1 T _ _ _ _ hT', run_slice_l w1 T _ m c hT' kk k (by omega) (by omega), hE, cJ hi, hsz]
   rfl
 have e : sliced (some ⟨B, o, none⟩) k m c sz = .slice (some ⟨B, o', none⟩) m' (c - k) := by
   unfold sliced
   rw [← hm', ← ho, if_neg (by omega)]
   simp [jk]
 rw [hrun, e]; exact bY _ _
end
section
variable {α : Type} [Inhabited α] {enc : α → Value}
variable {P : Program} {n : Fr} {env : Env} {ps : List Per} {hp : List Res} {ty : TypeId} {pos : String} {af : Array Edge} {gd : Option (Nat × Bool)} {K : Sta → Prop}
theorem yd {d : Option Tmp} {x y : Operand} {T T2 E : TypeId} {sz sl sc dc : Nat} {da sa : Option Addr} {s : Sta} (hel : elB P T E sz = true) (hx : ev s.env x = some (true, .slice da 0 dc)) (hy : ev s.env y = some (true, .slice sa sl sc)) :
   Quiet P n ⟨d, .call ⟨.builtin .copy, #[x, y], #[T, T2]⟩, ty, pos, af, gd⟩ s (.int .i64 0) := fun w S fp a hst he hn => by
 have h1 := he.val hx rfl
 have h2 := he.val hy rfl
 obtain ⟨hT, it, hi, _, hsz, _⟩ := dh hel
 have : (execOp a.eval ⟨d, .call ⟨.builtin .copy, #[x, y], #[T, T2]⟩, ty, pos, af, gd⟩).run P w = .ok (.value (.int .i64 0)) w := by
   show ((Builtin.copy_ #[T, T2] ty (#[x, y].map a.eval)).bind fun r => Sem.pure (Next.value r)).run P w = _
   have hargs : #[x, y].map a.eval = #[.slice da 0 dc, .slice sa sl sc] := by simp [h1, h2]
   rw [hargs, Sem.run_bind']
   have : (Builtin.copy_ #[T, T2] ty #[.slice da 0 dc, .slice sa sl sc]).run P w = .ok (goInt 0) w := by
     cases da <;> cases sa <;> simp [Builtin.copy_, run_underlying hT, Builtin.lenOf, Builtin.firstCells, sizeOf, typeInfo, hi, storeCells, loadCells, loadCellsFrom] <;> rfl
   rw [this]; rfl
 rw [this]; exact bY _ _
theorem w9 {t : Nat} {x y : Operand} {T T2 E : TypeId} {B N o dl dc cp sl sc : Nat} {sa : Option Addr} {zs cs : List α} (i : Nat) (hel : elB P T E 1 = true) (hone : ∀ x : α, (enc x).oneCell' = true)
   (hx : ev env x = some (true, .slice (some ⟨B, o, none⟩) dl dc)) (hy : ev env y = some (true, .slice sa sl sc)) (ht : fits n (some t) = true)
   (hi : hp[i]? = some (bA (.slice (some ⟨B, 0, none⟩) N cp) E 1 (eW enc zs))) (hN : zs.length = N) (hlen : cs.length = min sl dl) (hfit : o + cs.length ≤ zs.length)
   (hsrc : ∀ w S fp sp, St w S fp ps hp → w.heap[B]? = some (.cells (zs.map enc ++ sp).toArray E (0, 0)) → ∃ sb : Addr, sa = some sb ∧ ∀ j c, cs[j]? = some c → w.cell? (sb.add j) = some (enc c))
   (zs' : List α) (hz' : zs.take o ++ cs ++ zs.drop (o + cs.length) = zs') (m : Int) (hm : m = cs.length)
   (hK : K ⟨(t, true, .int .i64 m) :: env, ps, hp.set i (bA (.slice (some ⟨B, 0, none⟩) N cp) E 1 (eW enc zs'))⟩) :
   Eff P n ⟨some t, .call ⟨.builtin .copy, #[x, y], #[T, T2]⟩, ty, pos, af, gd⟩ ⟨env, ps, hp⟩ false K := .change i hi fun w S fp a hst he hn hR => by
 subst hN
 have h1 := he.val hx rfl
 have h2 := he.val hy rfl
 obtain ⟨hT, it, hit, _, hsz, _⟩ := dh hel
 rcases xN hR with ⟨hv, _⟩ | ⟨b, cap, sp, hv, hb, hcap, hcm, hF, hH⟩
 · simp at hv
 · obtain ⟨rfl, rfl⟩ : B = b ∧ cp = cap := by simpa using hv
   obtain ⟨sb, rfl, hcell⟩ := hsrc w S fp sp hst hb
   have hlz : zs'.length = zs.length := by rw [← hz']; simp; omega
   have hrun : (Builtin.copy_ #[T, T2] ty #[.slice (some ⟨B, o, none⟩) dl dc, .slice (some sb) sl sc]).run P w = .ok (goInt cs.length) (w.setRow B (zs'.map enc ++ sp).toArray) := by
     have := run_copy_row (P := P) w T T2 ty E B o dl dc sb sl sc _ E (cs.map enc) hT (by rw [hit]; exact congrArg some hsz) hb (by simpa using hlen)
       (fun j v hj => by
         rw [List.getElem?_map, Option.map_eq_some_iff] at hj
         obtain ⟨c, hc, rfl⟩ := hj
         exact hcell j c hc)
       (by simp; omega) (fun v hv => by obtain ⟨c, _, rfl⟩ := List.mem_map.1 hv; exact hone c)
     rw [this, List.length_map]
     congr 3
     rw [← hz']
     simp only [List.map_append, List.map_take, List.map_drop]
     rw [List.take_append_of_le_length (by simp; omega), List.drop_append_of_le_length (by simp; omega)]
     simp
   have : (execOp a.eval ⟨some t, .call ⟨.builtin .copy, #[x, y], #[T, T2]⟩, ty, pos, af, gd⟩).run P w = .ok (.value (.int .i64 m)) (w.setRow B (zs'.map enc ++ sp).toArray) := by
     show ((Builtin.copy_ #[T, T2] ty (#[x, y].map a.eval)).bind fun r => Sem.pure (Next.value r)).run P w = _
     have hargs : #[x, y].map a.eval = #[.slice (some ⟨B, o, none⟩) dl dc, .slice (some sb) sl sc] := by simp [h1, h2]
     rw [hargs, Sem.run_bind', hrun, hm]; rfl
   rw [this]
   have hbS : ¬ S B := (hst.lt i (List.getElem?_eq_some_iff.1 hi).1 B ((hF B).2 rfl)).2
   refine ⟨bA _ E 1 (eW enc zs'), _, hK, rfl, rfl, he.put (g := true) (by rw [hn]; simpa [fits] using ht) _, ?_, rfl, rfl, ⟨rfl, rfl⟩, by simp [World.setRow], fun b' hb' hne => setRow_other _ _ _ _ (fun h => hne ((hF b').2 h))⟩
   refine .inr ⟨B, cp, by rw [jU, hlz], ⟨zs'.map enc, sp, setRow_heap _ _ _ _ _ _ hb, ?_, by rw [Nat.mul_one, ← hcap, List.length_append, List.length_map, hlz], by rw [jU, hlz]; omega, hcm⟩, hF⟩
   refine ⟨by simp [eW], fun i r hi => ?_, fun u hu => ?_, fun i j r d h1 h2 => ?_⟩
   · simp only [eW, List.getElem?_map, Option.map_eq_some_iff] at hi
     obtain ⟨x, _, rfl⟩ := hi; rfl
   · obtain ⟨x, _, rfl⟩ := List.mem_map.1 hu; exact hone x
   · simp only [eW, List.getElem?_map, Option.map_eq_some_iff] at h1
     obtain ⟨x, hx, rfl⟩ := h1
     cases j with
     | zero =>
       simp only [List.getElem?_cons_zero, Option.some.injEq] at h2
       subst h2
       exact ⟨enc x, by simp [hx], .v _⟩
     | succ j => simp at h2
theorem yD {t : Nat} {x y : Operand} {T T2 E : TypeId} {B N o dl dc cp sl sc : Nat} {sa : Option Addr} {zs xs : List α} (i : Nat) (hel : elB P T E 1 = true) (hone : ∀ x : α, (enc x).oneCell' = true)
   (hx : ev env x = some (true, .slice (some ⟨B, o, none⟩) dl dc)) (hy : ev env y = some (true, .slice sa sl sc)) (ht : fits n (some t) = true)
   (hi : hp[i]? = some (bA (.slice (some ⟨B, 0, none⟩) N cp) E 1 (eW enc zs))) (hN : zs.length = N) (hs : Sh (.slice sa sl sc) (.sl (eW enc xs)) ∈ ps) (h0 : xs ≠ []) (hle : xs.length ≤ dl) (hfit : o + xs.length ≤ zs.length)
   (zs' : List α) (hz' : zs.take o ++ xs ++ zs.drop (o + xs.length) = zs') (hsl : sl = xs.length)
   (hK : K ⟨(t, true, .int .i64 xs.length) :: env, ps, hp.set i (bA (.slice (some ⟨B, 0, none⟩) N cp) E 1 (eW enc zs'))⟩) :
   Eff P n ⟨some t, .call ⟨.builtin .copy, #[x, y], #[T, T2]⟩, ty, pos, af, gd⟩ ⟨env, ps, hp⟩ false K := by
 refine w9 (cs := xs) i hel hone hx hy ht hi hN (by rw [hsl]; omega) hfit (fun w S fp sp hst _ => ?_) zs' hz' _ rfl hK
 have hrep := hst.per _ hs
 generalize hrows : eW enc xs = rows at hrep
 cases hrep with
 | e a c hc => simp [eW] at hrows; exact (h0 hrows).elim
 | sl b o c sz _ us hb hn' hc hrl hcell hd =>
     subst hrows
     have hg : ∀ (j : Nat) c, xs[j]? = some c → (eW enc xs)[j]? = some [D.v (enc c)] := fun j c hj => by simp [eW, hj]
     have hsz : sz = 1 := by
       obtain ⟨c0, hc0⟩ : ∃ c, xs[0]? = some c := ⟨_, List.getElem?_eq_getElem (List.length_pos_iff.2 h0)⟩
       have := hrl 0 _ (hg 0 c0 hc0); simpa using this.symm
     subst hsz
     refine ⟨_, rfl, fun j c hj => ?_⟩
     have h1 := (hcell j 0 _ _ (hg j c hj) rfl).1
     rw [bK (hd j 0 _ _ (hg j c hj) rfl), Nat.mul_one, Nat.add_zero] at h1
     rw [jk]; exact h1
theorem yj {t : Nat} {x y : Operand} {T T2 E : TypeId} {B N o dl dc cp sl sc : Nat} {zs : List α} (i : Nat) (hel : elB P T E 1 = true) (hone : ∀ x : α, (enc x).oneCell' = true)
   (hx : ev env x = some (true, .slice (some ⟨B, o, none⟩) dl dc)) (hy : ev env y = some (true, .slice (some ⟨B, 0, none⟩) sl sc)) (ht : fits n (some t) = true)
   (hi : hp[i]? = some (bA (.slice (some ⟨B, 0, none⟩) N cp) E 1 (eW enc zs))) (hN : zs.length = N) (k : Nat) (hk : k = min sl dl) (hfit : o + k ≤ zs.length)
   (zs' : List α) (hz' : zs.take o ++ zs.take k ++ zs.drop (o + k) = zs')
   (hK : K ⟨(t, true, .int .i64 k) :: env, ps, hp.set i (bA (.slice (some ⟨B, 0, none⟩) N cp) E 1 (eW enc zs'))⟩) :
   Eff P n ⟨some t, .call ⟨.builtin .copy, #[x, y], #[T, T2]⟩, ty, pos, af, gd⟩ ⟨env, ps, hp⟩ false K := by
 have hl : (zs.take k).length = k := by rw [List.length_take]; omega
 refine w9 (cs := zs.take k) i hel hone hx hy ht hi hN (by rw [hl, hk]) (by rw [hl]; exact hfit) (fun w S fp sp hst hb => ⟨_, rfl, fun j c hj => ?_⟩) zs' (by rw [hl]; exact hz') k (by rw [hl]) hK
 have hj' : j < zs.length := by
   have := (List.getElem?_eq_some_iff.1 hj).1
   rw [hl] at this; omega
 rw [jk, Nat.zero_add, dM hb, List.getElem?_append_left (by simpa using hj'), List.getElem?_map]
 rw [List.getElem?_take] at hj
 split at hj
 · rw [hj]; rfl
 · cases hj
end
end Go.Sy

namespace Go.Sy
open Go.RowKit Go.Lp
theorem qH {w : World} {S : bz} {sz : Nat} {cs : List Value} {rows : List (List D)} (h : dF w S sz cs rows) {k : Nat} (hk : k ≤ rows.length) : dF w S sz (cs.take (k * sz)) (rows.take k) where
 len := by
   have := h.len
   have h2 : k * sz ≤ rows.length * sz := Nat.mul_le_mul_right _ hk
   rw [List.length_take, List.length_take, Nat.min_eq_left hk, Nat.min_eq_left (by omega)]
 row i r hr := h.row i r (by
   have hl := (List.getElem?_eq_some_iff.1 hr).1
   rw [List.length_take] at hl
   rw [List.getElem?_take_of_lt (by omega)] at hr; exact hr)
 one v hv := h.one v (List.mem_of_mem_take hv)
 rep i j r d hr hd := by
   have hl := (List.getElem?_eq_some_iff.1 hr).1
   rw [List.length_take] at hl
   rw [List.getElem?_take_of_lt (by omega)] at hr
   obtain ⟨u, hu, hrep⟩ := h.rep i j r d hr hd
   refine ⟨u, ?_, hrep⟩
   have hj := (List.getElem?_eq_some_iff.1 hd).1
   rw [h.row i r hr] at hj
   have h3 : (i + 1) * sz ≤ k * sz := Nat.mul_le_mul_right _ (by omega)
   rw [Nat.add_mul] at h3
   rw [List.getElem?_take_of_lt (by omega)]; exact hu
theorem xA {w : World} {S F : bz} {b : Nat} {T : TypeId} {sz cap : Nat} {rows : List (List D)} {k : Nat} (hk : k ≤ rows.length) (h : (Own b T sz cap rows).holds w S F) : (Own b T sz cap (rows.take k)).holds w S F := by
 obtain ⟨⟨cs, sp, hb, hr, hl, hle, hc⟩, hF⟩ := h
 refine ⟨⟨cs.take (k * sz), cs.drop (k * sz) ++ sp, ?_, qH hr hk, ?_, by rw [List.length_take]; omega, hc⟩, hF⟩
 · rw [← List.append_assoc, List.take_append_drop]; exact hb
 · rw [← List.append_assoc, List.take_append_drop]; exact hl
theorem ve {w : World} {S F : bz} {B m cp : Nat} {T : TypeId} {sz : Nat} {rows : List (List D)} {k : Nat} (hk : k ≤ rows.length) (h : (bA (.slice (some ⟨B, 0, none⟩) m cp) T sz rows).holds w S F) : (bA (.slice (some ⟨B, 0, none⟩) k cp) T sz (rows.take k)).holds w S F := by
 rcases h with ⟨h1, _⟩ | ⟨b, cap, h1, ho⟩
 · cases h1
 · simp only [Value.slice.injEq, Option.some.injEq, Addr.mk.injEq] at h1
   obtain ⟨⟨rfl, _⟩, rfl, rfl⟩ := h1
   exact .inr ⟨B, cp, by rw [List.length_take, Nat.min_eq_left hk], xA hk ho⟩
theorem wu {P : Program} {n : Fr} {env : Env} {ps : List Per} {hp : List Res} {c : Code} {Q : Exit → Sta → Prop} (i k : Nat) {B m cp : Nat} {T : TypeId} {sz : Nat} {rows : List (List D)} (hi : hp[i]? = some (bA (.slice (some ⟨B, 0, none⟩) m cp) T sz rows)) (hk : k ≤ rows.length)
   (h : awp P n c Q ⟨env, ps, hp.set i (bA (.slice (some ⟨B, 0, none⟩) k cp) T sz (rows.take k))⟩) : awp P n c Q ⟨env, ps, hp⟩ := fi i _ hi (fun _ _ _ hh => ve hk hh) h
theorem iW {P : Program} {n : Fr} {env : Env} {ps : List Per} {hp : List Res} {c : Code} {Q : Exit → Sta → Prop} (i : Nat) {v : Value} {E : TypeId} {sz : Nat} {rows : List (List D)} (hi : hp[i]? = some (bA v E sz rows)) (h0 : rows ≠ []) (h : ∀ B cp, v = .slice (some ⟨B, 0, none⟩) rows.length cp → rows.length ≤ cp → awp P n c Q ⟨env, ps, hp⟩) : awp P n c Q ⟨env, ps, hp⟩ := fun w S fp a hst he hn hd => by
 rcases hst.res i _ hi with ⟨_, h1, _⟩ | ⟨B, cp, h1, ⟨⟨_, _, _, _, _, hle, _⟩, _⟩⟩
 · exact (h0 h1).elim
 · exact h B cp h1 hle w S fp a hst he hn hd
end Go.Sy

namespace Go.Sy
open Go.RowKit Go.Lp Go.Proofs.YtgmiihmahaahiaaGreatDoor
section
variable {P : Program} {n : Fr} {env : Env} {ps : List Per} {hp : List Res} {d : Option Tmp} {ty : TypeId} {pos : String} {af : Array Edge} {gd : Option (Nat × Bool)} {v : Value}
theorem nk (bs : List UInt8) : ∀ (r : ByteArray), (bs.map fun b => (b.toNat : Int)).foldl (fun r n => r.push (UInt8.ofNat n.toNat)) r = ⟨r.data ++ bs.toArray⟩ := by
 induction bs with
 | nil => intro r; simp
 | cons b bs ih =>
   intro r
   rw [List.map_cons, List.foldl_cons, ih]
   simp [ByteArray.push]
theorem ma {x : Operand} {T E T2 : TypeId} {m c : Nat} {ad : Option Addr} {rows : List (List D)} (i : Nat) (bs : List UInt8) (hT : P.underlying T = some (.slice E)) (hE : P.underlying E = some (.int .u8)) (hD : P.underlying T2 = some .string) (hx : ev env x = some (true, .slice ad m c))
   (hi : hp[i]? = some (bA (.slice ad m c) E 1 rows)) (hr : rows = bs.map fun b => [.v (.int .u8 b.toNat)]) (h0 : bs ≠ []) :
   Quiet P n ⟨d, .convert T T2 x, ty, pos, af, gd⟩ ⟨env, ps, hp⟩ (.string (ofBytes bs)) := fun w S fp a hst he hn => by
 have h1 := he.val hx rfl
 subst hr
 rcases hst.res i _ hi with ⟨_, h, _⟩ | ⟨b, cap, hv, ⟨cs, sp, hb, hrows, hcap, _, _⟩, _⟩
 · simp at h; exact absurd h h0
 · injection hv with hv1 hv2 hv3
   subst hv1; subst hv2; subst hv3
   have hl : cs.length = bs.length := by have := hrows.len; simpa using this
   have hcs : cs = bs.map fun b => (.int .u8 b.toNat : Value) := by
     apply List.ext_getElem?
     intro k
     cases hk : bs[k]? with
     | none => rw [List.getElem?_eq_none (by have := List.getElem?_eq_none_iff.1 hk; omega)]; simp [hk]
     | some u =>
       obtain ⟨y, hy, hrep⟩ := hrows.rep k 0 [.v (.int .u8 u.toNat)] (.v (.int .u8 u.toNat)) (by simp [hk]) rfl
       rw [Nat.mul_one, Nat.add_zero] at hy
       rw [hy, bK hrep]; simp [hk]
   have hload : (loadCells ⟨b, 0, none⟩ bs.length).run P w = .ok ((bs.map fun b => (b.toNat : Int)).map (Value.int .u8)).toArray w := by
     rw [run_loadCells w ⟨b, 0, none⟩ bs.length (fun k => cs.getD k undef) (fun k hk => by
       have : (Addr.mk b 0 none).add k = ⟨b, k, none⟩ := by
         unfold Addr.add; split
         · rename_i h; rw [h]
         · simp
       rw [this, dM hb, List.getElem?_append_left (by omega)]
       simp [List.getD, show k < cs.length by omega])]
     congr 2
     rw [hcs, List.map_map]
     apply List.ext_getElem
     · simp
     · intro k h1 h2
       simp at h1 h2 ⊢
       simp [List.getD, h2]
   have : (convert T T2 (.slice (some ⟨b, 0, none⟩) (bs.map fun b => [D.v (.int .u8 b.toNat)]).length c)).run P w = .ok (.string (ofBytes bs)) w := by
     rw [List.length_map, run_convert_bytes_string w T T2 E _ _ _ hT hE hD, run_bytesToString w ⟨b, 0, none⟩ bs.length c (bs.map fun b => (b.toNat : Int)) hload]
     congr 2
     rw [nk]; simp [ofBytes]
   have hx2 : (execOp a.eval ⟨d, .convert T T2 x, ty, pos, af, gd⟩).run P w = .ok (.value (.string (ofBytes bs))) w := by
     unfold execOp; dsimp only; rw [h1]
     show ((convert T T2 _).bind fun r => Sem.pure (Next.value r)).run P w = _
     rw [Sem.run_bind', this]; rfl
   rw [hx2]; exact bY _ _
theorem dF.bytes {w : World} {S : bz} {cs : List Value} {l : List UInt8} (h : dF w S 1 cs (l.map fu)) : cs = Lib.byteCells l := by
 have hl : cs.length = l.length := by have := h.len; simpa using this
 apply List.ext_getElem?
 intro k
 unfold Lib.byteCells
 cases hk : l[k]? with
 | none => rw [List.getElem?_eq_none (by have := List.getElem?_eq_none_iff.1 hk; omega)]; simp [hk]
 | some u =>
   obtain ⟨y, hy, hrep⟩ := h.rep k 0 [.v (.int .u8 u.toNat)] (.v (.int .u8 u.toNat)) (by simp [hk]) rfl
   rw [Nat.mul_one, Nat.add_zero] at hy
   rw [hy, bK hrep]; simp [hk]
theorem oP (w : World) (S : bz) (l : List UInt8) : dF w S 1 (Lib.byteCells l) (l.map fu) where
 len := by simp [Lib.byteCells]
 row i r hr := by
   rw [List.getElem?_map, Option.map_eq_some_iff] at hr
   obtain ⟨u, _, rfl⟩ := hr; rfl
 one := Lib.byteCells_one l
 rep i j r d hr hd := by
   rw [List.getElem?_map, Option.map_eq_some_iff] at hr
   obtain ⟨u, hu, rfl⟩ := hr
   cases j with
   | zero =>
     simp only [List.getElem?_cons_zero, Option.some.injEq] at hd
     subst hd
     exact ⟨.int .u8 u.toNat, by simp [Lib.byteCells, hu], .v _⟩
   | succ j => simp at hd
theorem uX {t : Nat} {x y : Operand} {T T2 E : TypeId} {B N cp : Nat} {l : List UInt8} {s : ByteArray} {K : Sta → Prop} (i : Nat) (hel : elB P T E 1 = true) (hx : ev env x = some (true, .slice (some ⟨B, 0, none⟩) N cp)) (hy : ev env y = some (true, .string s)) (ht : fits n.size (some t) = true)
   (hi : hp[i]? = some (bA (.slice (some ⟨B, 0, none⟩) N cp) E 1 (l.map fu))) (hN : l.length = N) (hs : s.size ≤ N) (hK : ∀ l' : List UInt8, l'.length = N → K ⟨(t, true, .int .i64 s.size) :: env, ps, hp.set i (bA (.slice (some ⟨B, 0, none⟩) N cp) E 1 (l'.map fu))⟩) :
   Eff P n ⟨some t, .call ⟨.builtin .copy, #[x, y], #[T, T2]⟩, ty, pos, af, gd⟩ ⟨env, ps, hp⟩ false K := .change i hi fun w S fp a hst he hn hR => by
 have h1 := he.val hx rfl
 have h2 := he.val hy rfl
 obtain ⟨hT, it, hit, _, hsz, _⟩ := dh hel
 rcases hR with ⟨h, _⟩ | ⟨b, cap, hv, ⟨cs, sp, hb, hrows, hcap, hrc, hcm⟩, hF⟩
 · cases h
 · simp only [Value.slice.injEq, Option.some.injEq, Addr.mk.injEq] at hv
   obtain ⟨⟨rfl, _⟩, hNN, rfl⟩ := hv
   have hcs := hrows.bytes
   subst hcs
   have hlb : (Lib.byteCells l).length = l.length := by simp [Lib.byteCells]
   have hss : s.data.toList.length = s.size := by simp
   have hr := Lib.run_copy_row_string (P := P) w T T2 ty E B 0 N cp s (Lib.byteCells l ++ sp).toArray E hT (by rw [hit]; simp [hsz]) hb hs (by simp [hlb]; omega)
   have hexec : execOp a.eval ⟨some t, .call ⟨.builtin .copy, #[x, y], #[T, T2]⟩, ty, pos, af, gd⟩ = (Builtin.copy_ #[T, T2] ty (#[x, y].map a.eval)).bind fun r => Sem.pure (Next.value r) := rfl
   rw [hexec, show #[x, y].map a.eval = #[a.eval x, a.eval y] by simp, h1, h2, Sem.run_bind', hr]
   have hl' : (s.data.toList ++ l.drop s.size).length = N := by rw [List.length_append, List.length_drop, hss]; omega
   refine ⟨_, _, hK (s.data.toList ++ l.drop s.size) hl', rfl, rfl, ?_, ?_, rfl, rfl, ⟨rfl, rfl⟩, by simp [World.setRow], fun b' hb' hne => setRow_other _ _ _ _ (fun h => hne ((hF b').2 h))⟩
   · exact he.put (g := true) (by rw [hn]; simpa [fits] using ht) _
   · refine .inr ⟨B, cp, by rw [List.length_map, hl'], ⟨Lib.byteCells (s.data.toList ++ l.drop s.size), sp, ?_, oP _ _ _, ?_, ?_, hcm⟩, hF⟩
     · rw [setRow_heap _ _ _ _ _ _ hb]
       congr 3
       simp only [List.take_zero, List.nil_append, Nat.zero_add]
       rw [Lib.byteCells_append, List.append_assoc]
       congr 1
       show (Lib.byteCells l ++ sp).drop s.size = _
       rw [List.drop_append_of_le_length (by rw [hlb]; omega)]
       congr 1
       simp [Lib.byteCells, List.map_drop]
     · rw [List.length_append]
       have : (Lib.byteCells (s.data.toList ++ l.drop s.size)).length = N := by simp [Lib.byteCells]; omega
       rw [this]
       rw [List.length_append, hlb] at hcap; omega
     · rw [List.length_map, hl']; rw [List.length_map] at hrc; omega
theorem rH {T E : TypeId} {x y : Operand} {m sz k : Nat} {z : Int} {kk : IntKind} {b : Nat} (hT : P.underlying T = some (.array m E)) (hE : ((P.info? E).map fun j => j.size) = some sz) (hx : ev env x = some (true, .pointer (some ⟨b, 0, none⟩))) (hy : ev env y = some (true, .int kk z)) (hz : z = (k : Int)) (hk : 0 < k) (hkm : k ≤ m) :
   Quiet P n ⟨d, .slice T x none (some y) none, ty, pos, af, gd⟩ ⟨env, ps, hp⟩ (.slice (some ⟨b, 0, none⟩) k m) := fun w S fp a hst he hn => by
 have h1 := he.val hx rfl
 subst hz
 have h2 := he.val hy rfl
 obtain ⟨j, hj, hjs⟩ := Option.map_eq_some_iff.1 hE
 have : (execOp a.eval ⟨d, .slice T x none (some y) none, ty, pos, af, gd⟩).run P w = .ok (.value (.slice (some ⟨b, 0, none⟩) k m)) w := by
   unfold execOp; dsimp only; simp only [Option.map_some, Option.map_none]; rw [h1, h2]
   show ((Instr.sliceAt T (.pointer (some ⟨b, 0, none⟩)) none (some (.int kk k)) none).bind fun r => Sem.pure (Next.value r)).run P w = _
   have hm0 : ¬ m = 0 := by omega
   have : (Instr.sliceAt T (.pointer (some ⟨b, 0, none⟩)) none (some (.int kk k)) none).run P w = .ok (.slice (some ⟨b, 0, none⟩) k m) w := by
     unfold Instr.sliceAt
     simp [run_underlying hT, Instr.sureAddr, asAddr, Instr.sliceBounds, Instr.sliceBound, sizeOf, typeInfo, hj, Addr.add, hm0, asIntOf, hkm]
   rw [Sem.run_bind', this]; rfl
 rw [this]; exact bY _ _
end
end Go.Sy
namespace Go.Proofs.YtgmiihmahaahiaaGreatDoor
open Go.RowKit Go.Lp Go.Sy
open Go.Proofs.Tryz
attribute [local irreducible] aL aB awp aC fwp
theorem wq8 {i : Nat} (h : i ≤ 1000) : IntKind.i64.wrap ((i : Int).tdiv 8) = ((i / 8 : Nat) : Int) := by
 rw [show ((i : Int)).tdiv 8 = ((i / 8 : Nat) : Int) from rfl, IntKind.wrap_i64]; omega
theorem lU (b : Nat) (z0 : List Int) (h0 : z0.length = 25) (s : ByteArray) (hs : s.size ≤ 200) : Con Tryz.prog 248 [.pointer (some ⟨b, 0, none⟩), .string s] [dn, dm] [Box b 312 (eh z0)] fun _ ps hp => ps = [] ∧ ∃ zs : List Int, zs.length = 25 ∧ hp = [Box b 312 (eh zs)] := by
 refine Con.enter Tryz.func248 rfl (by simp [Tryz.ntmps248]) ?_
 show awp _ _ _ _ ⟨[(0, true, _), (1, true, _)], _, _⟩
 refine az (aSR (aM rfl (aU rfl (dW Tryz.underlying9 rfl) (aM rfl (aNn ?_)))))
 refine aw (aP [0, 1, 5, 6, 7] [1, 0] [0] (fun (q : Nat × List Int) st => (q.1 ≤ s.size ∧ q.2.length = 25) ∧ st = ⟨[(0, true, .pointer (some ⟨b, 0, none⟩)), (1, true, .string s), (5, true, .string s), (6, true, .int .i64 s.size), (7, true, .int .i64 q.1)], [dn, dm], [Box b 312 (eh q.2)]⟩) (fun q => s.size - q.1) rfl (⟨(0, z0), ⟨Nat.zero_le _, h0⟩, rfl⟩) ?_)
 rintro ⟨i, zs⟩ st ⟨⟨hi, hz⟩, rfl⟩
 dsimp only at hi hz
 refine aSR (aU rfl (bt rfl rfl) (aNs ?_))
 refine ah _ rfl (fun h1 => ?_) (fun h1 => ?_)
 ·skip
  have hi' : i < s.size := by simp at h1; omega
  obtain ⟨u, hu⟩ : ∃ u, s.data.toList[i]? = some u := ⟨_, List.getElem?_eq_getElem (by show i < s.data.toList.length; simp; show i < s.size; omega)⟩
  have hi8 : i / 8 < 25 := by omega
  refine au (av (az (aw (aSR (aM rfl (aA rfl (aNn ?_)))))))
  refine aX [17] (by kernel_rfl) ?_
  show aB _ _ _ _ _ 18 #[false, false, false, false, false, false, false, false, false, false, false, false, false, false, false, false, false, false] _
  refine bV 0 rfl rfl (ar rfl) ?_
  refine bV 1 rfl rfl (ar rfl) ?_
  refine bV 2 rfl rfl (wI rfl rfl (by decide)) ?_
  refine bV 3 rfl rfl (bq rfl) ?_
  refine bV 4 rfl rfl (dx (i / 8) Tryz.underlying312 tk275 rfl rfl (wq8 (by omega)) (hi8)) ?_
  refine bV 5 rfl rfl (ab (v := .int .u64 (zs.getD (i / 8) 0)) 0 tk275 rfl rfl (gl (zs := zs) (k := i / 8) (by omega) (by omega))) ?_
  refine bV 6 rfl rfl (ar rfl) ?_
  refine bV 7 rfl rfl (ar rfl) ?_
  refine bV 8 rfl rfl (eo (i) Tryz.underlying9 rfl rfl (rfl) (hu)) ?_
  refine bV 9 rfl rfl (dG (by kernel_rfl) Tryz.underlying275 rfl) ?_
  refine bV 10 rfl rfl (ar rfl) ?_
  refine bV 11 rfl rfl (eO rfl rfl (by decide)) ?_
  refine bV 12 rfl rfl (jf rfl rfl (by show -9223372036854775808 ≤ 8 * ((i % 8 : Nat) : Int) ∧ 8 * ((i % 8 : Nat) : Int) ≤ 9223372036854775807; omega)) ?_
  refine bV 13 rfl rfl (sY rfl rfl (by show (0 : Int) ≤ 8 * ((i % 8 : Nat) : Int); omega)) ?_
  refine bV 14 rfl rfl (nT rfl rfl) ?_
  refine bV 15 rfl rfl (bq rfl) ?_
  refine bV 16 rfl rfl (dx (i / 8) Tryz.underlying312 tk275 rfl rfl (wq8 (by omega)) (hi8)) ?_
  refine bM 17 rfl (by kernel_rfl) rfl rfl (iG 0 ([_]) (eh (zs.set (i / 8) _)) tk275 rfl rfl rfl rfl rfl (fun v hv => by rw [List.mem_singleton.1 hv]; rfl) (by simp [hz]; omega) (jV (zs := zs) (k := i / 8) (by omega) (by omega)) ?_)
  refine bST rfl ?_
  refine bD (by kernel_rfl) ?_
  refine bu (av (ae ?_))
  refine aU rfl (bf rfl rfl (by omega)) ?_
  refine aM rfl (aNn ?_)
  refine ⟨[0, 1, 5, 6, 7], [1, 0], [0], rfl, ?_⟩
  exact ⟨(i + 1, _), ⟨⟨by dsimp only; omega, by dsimp only; rw [List.length_set]; exact hz⟩, rfl⟩, by dsimp only; omega⟩
 ·skip
  refine aR (aS (aS (aY (av (ae (aM rfl ?_))))))
  refine aj (q := false) rfl (bF [1, 0] [0] (by kernel_rfl) rfl rfl rfl rfl (pN b zs hz) ?_)
  rintro _ _ _ ⟨rfl, ys, hy, rfl⟩
  refine aST ?_
  refine cr ?_
  refine iL [] [0] rfl Tryz.results248 ?_ (.inl rfl)
  exact ⟨rfl, ys, hy, rfl⟩
end Go.Proofs.YtgmiihmahaahiaaGreatDoor

namespace Go.Sy
open Go.RowKit Go.Lp
theorem xS {P : Program} {n : Fr} {env : Env} {ps : List Per} {hp : List Res} {d : Option Tmp} {ty : TypeId} {pos : String} {af : Array Edge} {gd : Option (Nat × Bool)} {x y : Operand} {T E : TypeId} {sz : Nat} {B m cp : Nat} (k : Nat) (hel : elB P T E sz = true) (hx : ev env x = some (true, .slice (some ⟨B, 0, none⟩) m cp)) {z : Int} (hy : ev env y = some (true, .int .i64 z)) (hz : z = (k : Int)) (hk : k < m) :
   Quiet P n ⟨d, .indexAddr T x y, ty, pos, af, gd⟩ ⟨env, ps, hp⟩ (.pointer (some ⟨B, k * sz, none⟩)) := fun w S fp a hst he hn => by
 subst hz
 obtain ⟨hT, it, hit, _, hsz, _⟩ := dh hel
 have h1 := he.val hx rfl
 have h2 := he.val hy rfl
 have : (execOp a.eval ⟨d, .indexAddr T x y, ty, pos, af, gd⟩).run P w = .ok (.value (.pointer (some ⟨B, k * sz, none⟩))) w := by
   unfold execOp; dsimp only; rw [h1, h2]
   show ((Instr.indexAt T (.slice (some ⟨B, 0, none⟩) m cp) (.int .i64 k)).bind fun r => Sem.pure (Next.value r)).run P w = _
   have hE : P.elem T = E := by unfold Program.elem; rw [hT]
   rw [Sem.run_bind', run_indexAt_slice _ _ _ _ _ _ _ (by rw [hE]; exact hT), if_pos (by omega), hE, cJ hit, hsz]
   simp only [Result.andThen, Int.toNat_natCast]
   unfold Addr.add
   split
   · rename_i h0; rw [h0]; rfl
   · simp only [Nat.zero_add]; rfl
 rw [this]; exact bY _ _
section
variable {P : Program} {n : Fr} {s : Sta} {d : Option Tmp} {ty : TypeId} {pos : String} {af : Array Edge} {gd : Option (Nat × Bool)}
theorem yo {x y : Operand} {T : TypeId} {kk : IntKind} {z : Int} {b : ByteArray} (hT : P.underlying T = some .string) (hx : ev s.env x = some (true, .string b)) (hy : ev s.env y = some (true, .int kk z)) (h0 : 0 ≤ z) (h1 : z ≤ b.size) :
   Quiet P n ⟨d, .slice T x (some y) none none, ty, pos, af, gd⟩ s (.string (b.extract z.toNat b.size)) := .run2 hx hy fun ρ w e1 e2 => by
 unfold execOp; dsimp only; simp only [Option.map_some, Option.map_none]; rw [e1, e2]
 show ((Instr.sliceAt T (.string b) (some (.int kk z)) none none).bind fun r => Sem.pure (Next.value r)).run P w = _
 have : (Instr.sliceAt T (.string b) (some (.int kk z)) none none).run P w = .ok (.string (b.extract z.toNat b.size)) w := by
   rw [run_sliceAt_string w T _ _ _ _ hT]
   exact run_slice_string_l w T b hT kk z h0 h1
 rw [Sem.run_bind', this]; rfl
end
end Go.Sy
namespace Go.Proofs.YtgmiihmahaahiaaGreatDoor
open Go.RowKit Go.Lp Go.Sy
open Go.Proofs.Tryz
attribute [local irreducible] aL aB awp aC fwp
theorem ll (z : Int) : ∃ u : UInt8, IntKind.u8.wrap z = u.toNat := by
 have h : 0 ≤ IntKind.u8.wrap z ∧ IntKind.u8.wrap z < 256 := by
   have : IntKind.u8.wrap z = z % 256 := rfl
   rw [this]; omega
 obtain ⟨k, hk⟩ := Int.eq_ofNat_of_zero_le h.1
 refine ⟨UInt8.ofNat k, ?_⟩
 have h2 : (UInt8.ofNat k).toNat = k % 256 := by simp
 rw [hk, h2]
 omega
theorem re (b : Nat) (p : Value) (hp : p = .pointer none ∨ p = .pointer (some ⟨b, 0, none⟩)) (v : Value) (l : List UInt8) (hl : l.length ≤ 1000000) (z : Int) : Con Tryz.prog 249 [.pointer (some ⟨b, 0, none⟩), .int .u8 (IntKind.u8.wrap z)] [] [j1 b p v, bA v 5 1 (l.map fu)]
   fun _ ps hp => ps = [] ∧ ∃ (ad : Option Addr) (c : Nat) (u : UInt8), hp = [j1 b (.pointer (some ⟨b, 0, none⟩)) (.slice ad (l ++ [u]).length c), bA (.slice ad (l ++ [u]).length c) 5 1 ((l ++ [u]).map fu)] := by
 obtain ⟨u, hu⟩ := ll z
 rw [hu]
 exact (sg b p hp v l hl u).post fun _ _ _ ⟨h1, ad, c, h2⟩ => ⟨h1, ad, c, u, h2⟩
theorem yG (s : ByteArray) (hs : s.size ≤ maxLen) : Con Tryz.prog 188 [.string s] [dn, dm] [] fun r ps hp => ps = [] ∧ hp = [] ∧ ∃ t : ByteArray, r = .string t := by
 have hs' : s.size ≤ 9223372036854775807 := hs
 refine Con.enter Tryz.func188 rfl (by simp [Tryz.ntmps188]) ?_
 show awp _ _ _ _ ⟨[(0, true, _)], _, _⟩
 refine aSR (aA rfl (aNn (aSR ?_)))
 refine aj (q := true) rfl (bp (zs := [.int .u64 0, .int .u64 0, .int .u64 0, .int .u64 0, .int .u64 0, .int .u64 0, .int .u64 0, .int .u64 0, .int .u64 0, .int .u64 0, .int .u64 0, .int .u64 0, .int .u64 0, .int .u64 0, .int .u64 0, .int .u64 0, .int .u64 0, .int .u64 0, .int .u64 0, .int .u64 0, .int .u64 0, .int .u64 0, .int .u64 0, .int .u64 0, .int .u64 0]) (by kernel_rfl) rfl (fun b1_0 => ?_))
 refine aHN ?_
 refine aNs (aw (aP [0, 3] [1, 0] [0] (fun (q : ByteArray × List Int) st => (q.1.size ≤ s.size ∧ q.2.length = 25) ∧ st = ⟨[(0, true, .string q.1), (3, true, .pointer (some ⟨b1_0, 0, none⟩))], [dn, dm], [Box b1_0 312 (eh q.2)]⟩) (fun q => q.1.size) rfl (⟨(s, List.replicate 25 0), ⟨Nat.le_refl _, rfl⟩, rfl⟩) ?_))
 rintro ⟨x, zs⟩ st ⟨⟨hx, hz⟩, rfl⟩
 dsimp only at hx hz ⊢
 refine az (aSR (aM rfl (aU rfl (dW Tryz.underlying9 rfl) (aU rfl (cL rfl rfl) (aNn ?_)))))
 refine ah _ rfl (fun h1 => ?_) (fun h1 => ?_)
 ·skip
  have h136 : 136 ≤ x.size := by simp at h1; omega
  refine au (av (az (aw (ae (aM rfl ?_)))))
  refine aU rfl (yE Tryz.underlying9 rfl rfl (by omega) (by omega)) ?_
  refine aj (q := false) rfl (bF [1, 0] [0] (by kernel_rfl) rfl rfl rfl rfl (lU b1_0 zs hz _ (by simp; omega)) ?_)
  rintro _ _ _ ⟨rfl, ys, hy, rfl⟩
  refine aST ?_
  refine cr (bu (av (ae (aM rfl ?_))))
  refine aU rfl (yo Tryz.underlying9 rfl rfl (by omega) (by omega)) ?_
  refine aA rfl (aNn ?_)
  refine ⟨[0, 3], [1, 0], [0], rfl, ?_⟩
  have hxs : (x.extract (136 : Int).toNat x.size).size = x.size - 136 := by rw [ByteArray.size_extract]; show min x.size x.size - 136 = _; omega
  exact ⟨(x.extract (136 : Int).toNat x.size, ys), ⟨⟨(show (x.extract (136 : Int).toNat x.size).size ≤ s.size by rw [hxs]; omega), hy⟩, rfl⟩, (show (x.extract (136 : Int).toNat x.size).size < x.size by rw [hxs]; omega)⟩
 ·skip
  have h136 : x.size < 136 := by simp at h1; omega
  refine aR (aS (aS (aY (av (aSR ?_)))))
  refine aj (q := true) rfl (oH (m := 136) (zs := [.int .u8 0]) el280 (by kernel_rfl) rfl (by decide) (iz rfl (rfl)) (iz rfl (rfl)) (by omega) rfl (fun v5_0 => ?_))
  refine aHN ?_
  refine aA rfl (aNs ?_)
  refine fi 1 (bA _ _ 1 ((List.replicate 136 (0 : UInt8)).map fu)) rfl (fun _ _ _ h => by rw [List.map_replicate]; exact h) ?_
  refine iW 1 rfl (by simp) (fun B cp hv hcp => ?_)
  obtain ⟨rfl, _, rfl⟩ : v5_0 = some ⟨B, 0, none⟩ ∧ True ∧ 136 = cp := by simp at hv; exact ⟨hv.1, trivial, hv.2⟩
  refine ae (aM rfl (aM rfl ?_))
  refine aj (q := false) rfl (uX 1 el280 rfl rfl rfl rfl (by simp) (by omega) (fun l hl => ?_))
  refine aNs ?_
  obtain ⟨u0, hu0⟩ : ∃ u, l[x.size]? = some u := ⟨_, List.getElem?_eq_getElem (by omega)⟩
  refine ae (aM rfl (aM rfl (aU rfl (dW Tryz.underlying9 rfl) ?_)))
  refine aU rfl (dV 1 x.size el280 rfl rfl rfl rfl (by rw [List.length_map, hl]; exact h136)) ?_
  refine aj (q := false) rfl (gT 1 x.size 0 tk5 rfl rfl rfl (aJ hu0) rfl (.v rfl .nil) rfl (by decide) ?_)
  refine aNs ?_
  refine fi 1 (bA _ _ 1 ((l.set x.size 6).map fu)) rfl (fun _ _ _ h => by rw [List.map_set]; exact h) ?_
  obtain ⟨l2, hl2⟩ : ∃ l2, l.set x.size 6 = l2 := ⟨_, rfl⟩
  have hl2n : l2.length = 136 := by rw [← hl2, List.length_set]; exact hl
  rw [hl2]
  obtain ⟨u1, hu1⟩ : ∃ u, l2[135]? = some u := ⟨_, List.getElem?_eq_getElem (by omega)⟩
  refine ae (aM rfl ?_)
  refine aU rfl (dV 1 135 el280 rfl rfl rfl rfl (by rw [List.length_map, hl2n]; decide)) ?_
  refine aU rfl (ez 1 135 0 tk5 rfl rfl (aJ hu1) rfl rfl) (aU rfl (tq rfl rfl) ?_)
  refine aU rfl (dV 1 135 el280 rfl rfl rfl rfl (by rw [List.length_map, hl2n]; decide)) ?_
  refine aj (q := false) rfl (gT 1 135 0 tk5 rfl rfl rfl (aJ hu1) rfl (.v rfl .nil) rfl (by decide) ?_)
  refine aNs ?_
  obtain ⟨u2, hu2⟩ := ll (BitVec.ofInt 8 (u1.toNat : Int) ||| BitVec.ofInt 8 128).toNat
  refine fi 1 (bA _ _ 1 ((l2.set 135 u2).map fu)) rfl (fun _ _ _ h => by rw [List.map_set]; show (bA _ _ 1 ((l2.map fu).set 135 [.v (.int .u8 u2.toNat)])).holds _ _ _; rw [← hu2]; exact h) ?_
  obtain ⟨l3, hl3⟩ : ∃ l3, l2.set 135 u2 = l3 := ⟨_, rfl⟩
  have hl3n : l3.length = 136 := by rw [← hl3, List.length_set]; exact hl2n
  rw [hl3]
  refine ae (aM rfl ?_)
  refine aU rfl (ma 1 l3 Tryz.underlying280 Tryz.underlying5 Tryz.underlying9 rfl rfl rfl (by intro h; rw [h] at hl3n; cases hl3n)) ?_
  refine aj (q := false) rfl (bF [1, 0] [0] (by kernel_rfl) rfl rfl rfl rfl (lU b1_0 zs hz (ofBytes l3) (by show l3.toArray.size ≤ 200; simp [hl3n])) ?_)
  rintro _ _ _ ⟨rfl, ys, hy, rfl⟩
  refine aST ?_
  refine aNn (aSR ?_)
  refine aj (q := true) rfl (bp (zs := [.pointer none, .slice none 0 0]) (by kernel_rfl) rfl (fun b10_0 => ?_))
  refine aHN ?_
  refine aNs (az (eb 5 1 ?_))
  show awp _ _ _ _ ⟨_, _, [_, _, _, _]⟩
  refine ae ?_
  refine aU rfl (rH (m := 25) (sz := 1) Tryz.underlying312 (by kernel_rfl) rfl rfl rfl (by decide) (by decide)) ?_
  refine aU rfl (aZ Tryz.underlying316 rfl) (aM rfl (aNn (aw (aP [3, 5, 33, 34, 35] [1, 0] [0, 2, 3] (fun (q : Nat × (Value × (Value × List UInt8))) st => (q.1 ≤ 4 ∧ (q.2.1 = .pointer none ∨ q.2.1 = .pointer (some ⟨b10_0, 0, none⟩)) ∧ q.2.2.2.length = 8 * q.1) ∧ st = ⟨[(3, true, .pointer (some ⟨b1_0, 0, none⟩)), (5, true, .pointer (some ⟨b10_0, 0, none⟩)), (33, true, .slice (some ⟨b1_0, 0, none⟩) 4 25), (34, true, .int .i64 (4 : Nat)), (35, true, .int .i64 q.1)], [dn, dm], [Box b1_0 312 (eh ys), j1 b10_0 q.2.1 q.2.2.1, bA q.2.2.1 5 1 (q.2.2.2.map fu)]⟩) (fun q => 4 - q.1) rfl (⟨(0, (.pointer none, (.slice none 0 0, []))), ⟨Nat.zero_le _, .inl rfl, rfl⟩, rfl⟩) ?_))))
  rintro ⟨i, p, v, l4⟩ st ⟨⟨hi, hp, hl4⟩, rfl⟩
  dsimp only at hi hp hl4 ⊢
  refine aSR (aU rfl (bt rfl rfl) (aNs ?_))
  refine ah _ rfl (fun h2 => ?_) (fun h2 => ?_)
  ·skip
   have hi' : i < 4 := by simp at h2; omega
   refine au (av (az (aw (aSR (aU rfl (xS i el316 rfl rfl rfl hi') ?_)))))
   refine aU rfl (ab (v := .int .u64 (ys.getD i 0)) 0 tk275 rfl rfl (gl (zs := ys) (k := i) (by omega) (by omega))) ?_
   refine aA rfl (aNn (aSR (aM rfl (aNn ?_))))
   refine aw (aP [3, 5, 7, 33, 34, 35, 39] [1, 0] [0, 1, 2] (fun (q : Nat × (Value × (Value × List UInt8))) st => (q.1 ≤ 8 ∧ (q.2.1 = .pointer none ∨ q.2.1 = .pointer (some ⟨b10_0, 0, none⟩)) ∧ q.2.2.2.length = 8 * i + q.1) ∧ st = ⟨[(3, true, .pointer (some ⟨b1_0, 0, none⟩)), (5, true, .pointer (some ⟨b10_0, 0, none⟩)), (7, true, .int .u64 (ys.getD i 0)), (33, true, .slice (some ⟨b1_0, 0, none⟩) 4 25), (34, true, .int .i64 (4 : Nat)), (35, true, .int .i64 i), (39, true, .int .i64 q.1)], [dn, dm], [Box b1_0 312 (eh ys), j1 b10_0 q.2.1 q.2.2.1, bA q.2.2.1 5 1 (q.2.2.2.map fu)]⟩) (fun q => 8 - q.1) rfl (⟨(0, (p, (v, l4))), ⟨Nat.zero_le _, hp, hl4⟩, rfl⟩) ?_)
   rintro ⟨j, p2, v2, l5⟩ st ⟨⟨hj, hp2, hl5⟩, rfl⟩
   dsimp only at hj hp2 hl5 ⊢
   refine aSR (aU rfl (bt rfl rfl) (aNs ?_))
   refine ah _ rfl (fun h3 => ?_) (fun h3 => ?_)
   ·skip
    have hj' : j < 8 := by simp at h3; omega
    refine au (av (az (aw (aSR (aM rfl (aA rfl (aNn (ae (aM rfl (aM rfl ?_))))))))))
    refine aU rfl (jf rfl rfl (by omega)) ?_
    refine aU rfl (nX rfl rfl (by omega)) ?_
    refine aU rfl (dG (by kernel_rfl) Tryz.underlying5 rfl) ?_
    refine aj (q := false) rfl (bF [] [1, 2] (by kernel_rfl) rfl rfl rfl rfl (re b10_0 p2 hp2 v2 l5 (by omega) _) ?_)
    rintro _ _ _ ⟨rfl, ad, cc, u, rfl⟩
    refine aST ?_
    refine cr (bu (av (ae ?_)))
    refine aU rfl (bf rfl rfl (by omega)) ?_
    refine aM rfl (aNn ?_)
    refine ⟨[3, 5, 7, 33, 34, 35, 39], [1, 0], [0, 1, 2], rfl, ?_⟩
    exact ⟨(j + 1, (_, (_, l5 ++ [u]))), ⟨⟨by dsimp only; omega, .inr rfl, by dsimp only; rw [List.length_append]; simp; omega⟩, rfl⟩, by dsimp only; omega⟩
   ·skip
    refine aR (aS (aS (aY (bu (av (ae ?_))))))
    refine aU rfl (bf rfl rfl (by omega)) ?_
    refine aM rfl (aNn ?_)
    refine ⟨[3, 5, 33, 34, 35], [1, 0], [0, 1, 2], rfl, ?_⟩
    have hj8 : j = 8 := by simp at h3; omega
    subst hj8
    exact ⟨(i + 1, (p2, (v2, l5))), ⟨⟨by dsimp only; omega, hp2, by dsimp only; omega⟩, rfl⟩, by dsimp only; omega⟩
  ·skip
   refine aR (aS (aS (aY (av (az ?_)))))
   have hi4 : i = 4 := by simp at h2; omega
   subst hi4
   have hne : l4 ≠ [] := by intro h; rw [h] at hl4; cases hl4
   refine iW 2 rfl (by simpa using hne) (fun B cp hv hcp => ?_)
   rw [List.length_map] at hv hcp
   subst hv
   refine ae ?_
   refine aj (q := false) rfl (bF [] [1, 2] (by kernel_rfl) rfl rfl rfl rfl (qc b10_0 p B cp (by omega) l4 hne) ?_)
   rintro _ _ _ ⟨rfl, rfl, rfl⟩
   refine aST ?_
   refine aA rfl (aNn (aq ?_))
   refine aV [] [] rfl Tryz.results188 rfl ?_ (.inr rfl)
   exact ⟨rfl, rfl, _, rfl⟩
end Go.Proofs.YtgmiihmahaahiaaGreatDoor

namespace Go.Sy
open Go.RowKit Go.Lp Go.Proofs.YtgmiihmahaahiaaGreatDoor
theorem yY {P : Program} {n : Fr} {env : Env} {ps : List Per} {hp : List Res} {c : Code} {Q : Exit → Sta → Prop} (i : Nat) {v : Value} {E : TypeId} {l : List UInt8} {z : Int} (hi : hp[i]? = some (bA v E 1 (l.map fu ++ [[.v (.int .u8 (IntKind.u8.wrap z))]]))) (h : ∀ u, awp P n c Q ⟨env, ps, hp.set i (bA v E 1 ((l ++ [u]).map fu))⟩) : awp P n c Q ⟨env, ps, hp⟩ := by
 obtain ⟨u, hu⟩ := ll z
 refine fi i _ hi (fun _ _ _ hh => ?_) (h u)
 rw [List.map_append]
 rw [hu] at hh
 exact hh
end Go.Sy
namespace Go.Proofs.YtgmiihmahaahiaaGreatDoor
open Go.RowKit Go.Lp Go.Sy
open Go.Proofs.Tryz
attribute [local irreducible] aL aB awp aC fwp
theorem aav {k m : Nat} (hk : k ≤ 9) (h : m < 128 ^ (10 - k)) (h1 : 128 ≤ m) : k < 9 ∧ m / 128 < 128 ^ (10 - (k + 1)) := by
 have h9 : k ≠ 9 := by intro e; subst e; omega
 obtain ⟨j, hj⟩ : ∃ j, 10 - k = j + 1 := ⟨9 - k, by omega⟩
 have hj2 : 10 - (k + 1) = j := by omega
 rw [hj, Nat.pow_succ] at h
 rw [hj2]
 exact ⟨by omega, Nat.div_lt_of_lt_mul (by rw [Nat.mul_comm]; exact h)⟩
theorem aar {m : Nat} (h : m < 18446744073709551616) : IntKind.u64.wrap ((m : Int).tdiv 128) = ((m / 128 : Nat) : Int) := by
 rw [show ((m : Int)).tdiv 128 = ((m / 128 : Nat) : Int) from rfl, IntKind.wrap_u64]; omega
theorem yi (m0 : Nat) (h0 : m0 < 18446744073709551616) : Con Tryz.prog 251 [.slice none 0 0, .int .u64 m0] [] [] fun r ps hp => ps = [] ∧ ∃ (ad : Option Addr) (c : Nat) (l : List UInt8), l ≠ [] ∧ l.length ≤ 10 ∧ r = .slice ad l.length c ∧ hp = [bA (.slice ad l.length c) 5 1 (l.map fu)] := by
 refine Con.enter Tryz.func251 rfl (by simp [Tryz.ntmps251]) ?_
 show awp _ _ _ _ ⟨[(0, true, _), (1, true, _)], _, _⟩
 refine az (eb 5 1 ?_)
 show awp _ _ _ _ ⟨_, _, [_]⟩
 refine ae (aA rfl (aNs (aw ?_)))
 refine aP [0, 1, 4] [] [0] (fun (q : Nat × (Value × List UInt8)) st => (q.1 < 18446744073709551616 ∧ q.2.2.length ≤ 9 ∧ q.1 < 128 ^ (10 - q.2.2.length)) ∧ st = ⟨[(0, true, q.2.1), (1, true, .int .u64 q.1), (4, true, .slice none 0 0)], [], [bA q.2.1 5 1 (q.2.2.map fu)]⟩) (fun q => q.1) rfl (⟨(m0, (.slice none 0 0, [])), ⟨h0, (show (0 : Nat) ≤ 9 by omega), Nat.lt_of_lt_of_le h0 (show 18446744073709551616 ≤ 128 ^ 10 by decide)⟩, rfl⟩) ?_
 rintro ⟨m, v, l⟩ st ⟨⟨hm, hl, hb⟩, rfl⟩
 dsimp only at hm hl hb ⊢
 refine az (aSR (aM rfl (aU rfl (cL rfl rfl) (aNn ?_))))
 refine ah _ rfl (fun h1 => ?_) (fun h1 => ?_)
 ·skip
  have h128 : 128 ≤ m := by simp at h1; omega
  obtain ⟨hk, hb2⟩ := aav hl hb h128
  refine au (av (aw (aSR (aM rfl (aM rfl ?_)))))
  refine aU rfl (eO rfl rfl (by decide)) ?_
  refine aU rfl (dG (by kernel_rfl) Tryz.underlying5 rfl) ?_
  refine aU rfl (tq rfl rfl) ?_
  refine aj (q := true) rfl (cG (zs := [.int .u8 0]) (l := [(0, .tmp 11)]) el280 (by kernel_rfl) (by decide) (by decide) (by decide) rfl rfl rfl (.more rfl (.v rfl .nil) .nil) rfl rfl (fun v2_5 => ?_))
  refine aHN ?_
  refine aj rfl (cE 0 el280 rfl rfl rfl rfl (dH 1 el280 rfl (by simp)) (by first | assumption | simp) (by show (l.map fu).length + 1 ≤ _; rw [List.length_map]; exact Nat.le_trans (show l.length + 1 ≤ 10 by omega) (by decide)) ((l.length + 1)) (by show (l.map fu).length + 1 = _; rw [List.length_map]) (fun v2_6 c2_6 => ?_))
  refine aHK ?_
  refine aA rfl (aNn ?_)
  refine yY 0 rfl (fun u => ?_)
  refine ae (aM rfl ?_)
  refine aU rfl (wI rfl rfl (by decide)) ?_
  refine aA rfl (cr (bu (av ?_)))
  refine ⟨[0, 1, 4], [], [0], rfl, ?_⟩
  exact ⟨(m / 128, (_, l ++ [u])), ⟨⟨by dsimp only; omega, by dsimp only; rw [List.length_append]; simp; omega, by dsimp only; rw [List.length_append]; exact hb2⟩, by dsimp only; rw [← aar hm]; rfl⟩, by dsimp only; omega⟩
 ·skip
  refine aR (aS (aS (aY (av (aSR (aM rfl (aM rfl ?_)))))))
  refine aU rfl (dG (by kernel_rfl) Tryz.underlying5 rfl) ?_
  refine aj (q := true) rfl (cG (zs := [.int .u8 0]) (l := [(0, .tmp 18)]) el280 (by kernel_rfl) (by decide) (by decide) (by decide) rfl rfl rfl (.more rfl (.v rfl .nil) .nil) rfl rfl (fun v4_3 => ?_))
  refine aHN ?_
  refine aj rfl (cE 0 el280 rfl rfl rfl rfl (dH 1 el280 rfl (by simp)) (by first | assumption | simp) (by show (l.map fu).length + 1 ≤ _; rw [List.length_map]; exact Nat.le_trans (show l.length + 1 ≤ 10 by omega) (by decide)) ((l.length + 1)) (by show (l.map fu).length + 1 = _; rw [List.length_map]) (fun v4_4 c4_4 => ?_))
  refine aHK ?_
  refine aA rfl (aNn (aq ?_))
  refine aV [] [0] rfl Tryz.results251 rfl ?_ (.inr rfl)
  obtain ⟨u, hu⟩ := ll (m : Int)
  refine ⟨rfl, v4_4, c4_4, l ++ [u], by simp, by rw [List.length_append]; simp; omega, by rw [List.length_append]; rfl, ?_⟩
  show [bA (.slice v4_4 (l.length + 1) c4_4) 5 1 (l.map fu ++ [[D.v (.int .u8 (IntKind.u8.wrap m))]])] = _
  rw [hu, List.map_append, List.length_append]; rfl
theorem jT (z : Int) : Con Tryz.prog 189 [.int .i64 z] [] [] fun r ps hp => ps = [] ∧ hp = [] ∧ ∃ t : ByteArray, t.size ≤ 10 ∧ r = .string t := by
 obtain ⟨m, hm⟩ := Int.eq_ofNat_of_zero_le (sF z)
 have hlt : m < 18446744073709551616 := by
   have : IntKind.u64.wrap z < 18446744073709551616 := by rw [IntKind.wrap_u64]; omega
   omega
 refine Con.enter Tryz.func189 rfl (by simp [Tryz.ntmps189]) ?_
 show awp _ _ _ _ ⟨[(0, true, _)], _, _⟩
 refine aSR (aA rfl (aNs (aSR (aM rfl (aU rfl (bt rfl rfl) (aNn ?_))))))
 refine ah _ rfl (fun h1 => ?_) (fun h1 => ?_)
 ·skip
  refine aSR (aA rfl (aNn (aq (aK ?_))))
  refine aV [] [] rfl Tryz.results189 rfl ?_ (.inr rfl)
  exact ⟨rfl, rfl, .empty, by decide, rfl⟩
 ·skip
  refine au (av (aSR (aM rfl ?_)))
  refine aU rfl (dG (by kernel_rfl) Tryz.underlying275 rfl) ?_
  refine aj (q := true) rfl (bF [] [] (by kernel_rfl) rfl rfl rfl rfl ((by show Con _ _ [.slice none 0 0, .int .u64 (IntKind.u64.wrap z)] [] [] _; rw [hm]; exact yi m hlt)) ?_)
  rintro _ _ _ ⟨rfl, ad, c, l, hne, hl, rfl, rfl⟩
  refine aST ?_
  refine aU rfl (ma 0 l Tryz.underlying280 Tryz.underlying5 Tryz.underlying9 rfl rfl rfl hne) (aA rfl (aNn (aq ?_)))
  refine aV [] [] rfl Tryz.results189 rfl ?_ (.inr rfl)
  exact ⟨rfl, rfl, ofBytes l, hl, rfl⟩
theorem uW (s : ByteArray) (hs : s.size ≤ 4611686018427387904) : Con Tryz.prog 190 [.string s] [] [] fun r ps hp => ps = [] ∧ hp = [] ∧ ∃ t : ByteArray, t.size ≤ s.size + 10 ∧ r = .string t := by
 refine Con.enter Tryz.func190 rfl (by simp [Tryz.ntmps190]) ?_
 show awp _ _ _ _ ⟨[(0, true, _)], _, _⟩
 refine aSR (aA rfl (aNn (aSR (aM rfl (aU rfl (dW Tryz.underlying9 rfl) ?_)))))
 refine aj (q := true) rfl (bF [] [] (by kernel_rfl) rfl rfl rfl rfl (jT _) ?_)
 rintro _ _ _ ⟨rfl, rfl, t, ht, rfl⟩
 refine aST ?_
 refine aM rfl ?_
 refine aU rfl (pb rfl rfl (by omega)) ?_
 refine aA rfl (aNn (aq ?_))
 refine aV [] [] rfl Tryz.results190 rfl ?_ (.inr rfl)
 exact ⟨rfl, rfl, t ++ s, by rw [ByteArray.size_append]; omega, rfl⟩
end Go.Proofs.YtgmiihmahaahiaaGreatDoor

namespace Go.Sy
open Go.RowKit Go.Lp Go.Proofs.YtgmiihmahaahiaaGreatDoor
def ByB (g cap : Nat) : Res :=
 ⟨fun w _ F => (∀ j, j < cap → (∃ u : UInt8, w.cell? ⟨g, j, none⟩ = some (.int .u8 u.toNat)) ∧ w.frozen? ⟨g, j, none⟩ = false) ∧ ∀ k, F k ↔ k = g,
  fun ⟨h, hF⟩ h1 _ _ => ⟨fun j hj => by
    have e := h1 g ((hF g).2 rfl)
    obtain ⟨⟨u, hu⟩, hz⟩ := h j hj
    refine ⟨⟨u, ?_⟩, ?_⟩
    · unfold World.cell? at hu ⊢; dsimp only at hu ⊢; rw [e]; exact hu
    · unfold World.frozen? at hz ⊢; dsimp only at hz ⊢; rw [e]; exact hz, hF⟩⟩
section
variable {P : Program} {n : Fr} {env : Env} {ps : List Per} {hp : List Res} {d : Option Tmp} {ty : TypeId} {pos : String} {af : Array Edge} {gd : Option (Nat × Bool)} {K : Sta → Prop} {q : Bool}
theorem qq {t : Nat} {S T E : TypeId} {u : TypeDesc} {x : Operand} {b : ByteArray} (hS : P.underlying S = some u) (hT : P.underlying T = some (.slice E)) (hE : P.underlying E = some (.int .u8)) (hx : ev env x = some (true, .string b)) (ht : fits n.size (some t) = true)
   (hK : ∀ g c, b.size ≤ c → K ⟨(t, true, .slice (some ⟨g, 0, none⟩) b.size c) :: env, ps, hp ++ [ByB g c]⟩) : Eff P n ⟨some t, .convert S T x, ty, pos, af, gd⟩ ⟨env, ps, hp⟩ q K := .push fun w S' fp a hst he hn => by
 have e1 := he.val hx rfl
 have hrun := Lib.run_convert_string_bytes (P := P) w S T E b hS hT hE
 have hexec : (execOp a.eval ⟨some t, .convert S T x, ty, pos, af, gd⟩).run P w = .ok (.value (.slice (some ⟨w.heap.size, 0, none⟩) b.size (grownCap w b.size 0 E))) (Lib.bytesWorld w E b) := by
   unfold execOp; dsimp only; rw [e1]
   show ((convert S T (.string b)).bind fun r => Sem.pure (Next.value r)).run P w = _
   rw [Sem.run_bind', hrun]; rfl
 rw [hexec]
 have hsz := Lib.bytesWorld_size w E b
 have hcap : b.size ≤ grownCap w b.size 0 E := grownCap_ge w b.size 0 E
 have hcs : (Lib.bytesCells w E b).size = grownCap w b.size 0 E := by
   unfold Lib.bytesCells
   simp
   show b.size + _ = _
   omega
 have hnew := Lib.bytesWorld_at_new w E b
 refine ⟨ByB w.heap.size (grownCap w b.size 0 E), (fun k => k = w.heap.size), _, hK _ _ hcap, rfl, rfl, he.put (g := true) (by rw [hn]; simpa [fits] using ht) _, ?_, ⟨fun j hj => ⟨?_, ?_⟩, fun _ => Iff.rfl⟩, fun k hk => by subst hk; rw [hsz]; omega⟩
 · exact ⟨by unfold Lib.bytesWorld World.freeze; split <;> rfl, by unfold Lib.bytesWorld World.freeze; split <;> rfl, by unfold Lib.bytesWorld World.freeze; split <;> rfl, by omega, by
     have : (Lib.bytesWorld w E b).drawn = w.drawn + 1 := by unfold Lib.bytesWorld World.freeze; split <;> rfl
     omega, fun k hk => Lib.bytesWorld_at_old w E b k hk⟩
 · unfold World.cell?
   rw [hnew]
   dsimp only
   unfold Lib.bytesCells
   rw [Array.getElem?_append]
   by_cases h : j < b.size
   · refine ⟨b.data.toList.getD j 0, ?_⟩
     have hb : j < b.data.size := h
     simp [h, hb, List.getD]
   · refine ⟨0, ?_⟩
     have hb : ¬ j < b.data.size := h
     have hb2 : b.data.size = b.size := rfl
     simp [h, hb, Array.getElem?_replicate]
     omega
 · unfold World.frozen?
   rw [hnew]
   dsimp only
   rw [hcs]
   simp
   omega
theorem fk (b : Nat) : ∀ (vs : List Value) (o : Nat) (w : World), (w.setCells b o vs).drawn = w.drawn ∧ (w.setCells b o vs).tape = w.tape ∧ (w.setCells b o vs).heap.size = w.heap.size
 | [], _, _ => ⟨rfl, rfl, rfl⟩
 | v :: vs, o, w => by
   obtain ⟨h1, h2, h3⟩ := fk b vs (o + 1) (w.setCell ⟨b, o, none⟩ v)
   exact ⟨h1, h2, h3.trans (by simp [World.setCell])⟩
theorem xc {α : Type} {l : List α} {i : Nat} {x : α} (h : l[i]? = some x) : l = l.set i x := by
 apply List.ext_getElem?
 intro k
 rw [List.getElem?_set]
 by_cases hk : i = k
 · subst hk; rw [if_pos rfl, if_pos (List.getElem?_eq_some_iff.1 h).1]; exact h
 · rw [if_neg hk]
theorem pQ {x : Operand} {T E : TypeId} {g o m c cap : Nat} (i : Nat) (hT : P.underlying T = some (.slice E)) (hz : ∀ w, (zeroValue E).run P w = .ok (.int .u8 0) w) (hx : ev env x = some (true, .slice (some ⟨g, o, none⟩) m c)) (hi : hp[i]? = some (ByB g cap)) (hm : 0 < m) (hom : o + m ≤ cap)
   (hK : K ⟨env, ps, hp⟩) : Eff P n ⟨none, .call ⟨.builtin .clear, #[x], #[T]⟩, ty, pos, af, gd⟩ ⟨env, ps, hp⟩ false K := .change i hi fun w S fp a hst he hn hR => by
 have h1 := he.val hx rfl
 obtain ⟨hB, hF⟩ := hR
 have hr := Lib.run_clear_slice (P := P) w T E ty (.int .u8 0) hT hz rfl rfl g o m c hm (fun j hj => by obtain ⟨⟨u, hu⟩, _⟩ := hB (o + j) (by omega); rw [hu]; rfl) (fun j hj => (hB (o + j) (by omega)).2)
 have hexec : execOp a.eval ⟨none, .call ⟨.builtin .clear, #[x], #[T]⟩, ty, pos, af, gd⟩ = (Builtin.clear_ #[T] ty (#[x].map a.eval)).bind fun r => Sem.pure (Next.value r) := rfl
 rw [hexec, show #[x].map a.eval = #[a.eval x] by simp, h1, Sem.run_bind', hr]
 refine ⟨ByB g cap, ⟨env, ps, hp⟩, hK, rfl, xc hi, he, ⟨fun j hj => ?_, hF⟩, ?_, ?_, ?_, ?_, ?_⟩
 · obtain ⟨⟨u, hu⟩, hz2⟩ := hB j hj
   refine ⟨?_, by rw [World.frozen?_setCells]; exact hz2⟩
   by_cases hin : o ≤ j ∧ j < o + m
   · have := World.cell?_setCells_in g (List.replicate m (.int .u8 0)) o w (fun k hk => by
       rw [List.length_replicate] at hk
       obtain ⟨⟨u, hu⟩, _⟩ := hB (o + k) (by omega)
       rw [hu]; rfl) (j - o) (by rw [List.length_replicate]; omega)
     rw [show o + (j - o) = j by omega] at this
     exact ⟨0, by rw [this]; simp⟩
   · refine ⟨u, ?_⟩
     rw [World.cell?_setCells_out g _ o w _ (fun _ _ => by rw [List.length_replicate]; dsimp only; omega)]
     exact hu
 · exact World.os_setCells _ _ _ _
 · exact (fk _ _ _ _).2.1
 · exact ⟨World.output_setCells _ _ _ _, (fk _ _ _ _).1⟩
 · exact Nat.le_of_eq (fk _ _ _ _).2.2.symm
 · exact fun b hb hne => World.heap_setCells_other _ _ _ _ hb (fun h => hne ((hF b).2 h))
theorem pO {x : Operand} {T E T2 : TypeId} {m c g cap : Nat} (i : Nat) (hT : P.underlying T = some (.slice E)) (hE : P.underlying E = some (.int .u8)) (hD : P.underlying T2 = some .string) (hx : ev env x = some (true, .slice (some ⟨g, 0, none⟩) m c))
   (hi : hp[i]? = some (ByB g cap)) (hm : m ≤ cap) :
   gZ P n ⟨d, .convert T T2 x, ty, pos, af, gd⟩ ⟨env, ps, hp⟩ (fun t : {t : ByteArray // t.size = m} => .string t.1) (fun _ => [Fa True]) := fun w S fp a hst he hn => by
 have h1 := he.val hx rfl
 obtain ⟨hB, hF⟩ := hst.res i _ hi
 have hg : g < w.heap.size := (hst.lt i (List.getElem?_eq_some_iff.1 hi).1 g ((hF g).2 rfl)).1
 obtain ⟨f, hf⟩ := Classical.skolem.1 (fun j : Nat => show ∃ u : UInt8, j < cap → w.cell? ⟨g, j, none⟩ = some (.int .u8 u.toNat) from by
   by_cases h : j < cap
   · obtain ⟨⟨u, hu⟩, _⟩ := hB j h; exact ⟨u, fun _ => hu⟩
   · exact ⟨0, fun h2 => absurd h2 h⟩)
 have hbl : ((List.range m).map f).length = m := by simp
 refine ⟨⟨ofBytes ((List.range m).map f), by show ((List.range m).map f).toArray.size = m; simp⟩, fun w1 hw1 => ?_, fun p hp => by rw [List.mem_singleton.1 hp]; trivial⟩
 have hc1 : ∀ j, j < cap → w1.cell? ⟨g, j, none⟩ = some (.int .u8 (f j).toNat) := fun j hj => by
   have := hf j hj
   unfold World.cell? at this ⊢
   dsimp only at this ⊢
   rw [hw1.block g hg]; exact this
 have hload : (loadCells ⟨g, 0, none⟩ m).run P w1 = .ok ((((List.range m).map f).map fun b => (b.toNat : Int)).map (Value.int .u8)).toArray w1 := by
   rw [run_loadCells w1 ⟨g, 0, none⟩ m (fun k => .int .u8 (f k).toNat) (fun k hk => by
     have : (Addr.mk g 0 none).add k = ⟨g, k, none⟩ := by
       unfold Addr.add; split
       · rename_i h; rw [h]
       · simp
     rw [this]; exact hc1 k (by omega))]
   congr 2
   rw [List.map_map, List.map_map]; rfl
 have hcv : (convert T T2 (.slice (some ⟨g, 0, none⟩) m c)).run P w1 = .ok (.string (ofBytes ((List.range m).map f))) w1 := by
   rw [run_convert_bytes_string w1 T T2 E _ _ _ hT hE hD, run_bytesToString w1 ⟨g, 0, none⟩ m c (((List.range m).map f).map fun b => (b.toNat : Int)) hload]
   congr 2
   rw [nk]; simp [ofBytes]
 have : (execOp a.eval ⟨d, .convert T T2 x, ty, pos, af, gd⟩).run P w1 = .ok (.value (.string (ofBytes ((List.range m).map f)))) w1 := by
   unfold execOp; dsimp only; rw [h1]
   show ((convert T T2 (.slice (some ⟨g, 0, none⟩) m c)).bind fun r => Sem.pure (Next.value r)).run P w1 = _
   rw [Sem.run_bind', hcv]; rfl
 rw [this]; exact bY _ _
theorem gr {s : Sta} {T E : TypeId} {x y z : Operand} {sz m c B o : Nat} {kk k2 : IntKind} {zl zh : Int} (l h : Nat) (hel : elB P T E sz = true) (hx : ev s.env x = some (true, .slice (some ⟨B, o, none⟩) m c))
   (hy : ev s.env y = some (true, .int kk zl)) (hz : ev s.env z = some (true, .int k2 zh)) (hl : zl = (l : Int)) (hh : zh = (h : Int)) (hlh : l < h) (hm : h ≤ m) (hmc : m ≤ c) :
   Quiet P n ⟨d, .slice T x (some y) (some z) none, ty, pos, af, gd⟩ s (.slice (some ⟨B, o + l * sz, none⟩) (h - l) (c - l)) := fun w S fp a hst he hn => by
 have h1 := he.val hx rfl
 subst hl hh
 have h2 := he.val hy rfl
 have h3 := he.val hz rfl
 obtain ⟨hT, it, hi, _, hsz, _⟩ := dh hel
 have hE : P.elem T = E := by unfold Program.elem; rw [hT]
 have hrun : ∀ w1, (execOp a.eval ⟨d, .slice T x (some y) (some z) none, ty, pos, af, gd⟩).run P w1 = .ok (.value (sliced (some ⟨B, o, none⟩) l h c sz)) w1 := fun w1 => by
   unfold execOp; dsimp only; simp only [Option.map_some, Option.map_none]; rw [h1, h2, h3]
   show ((Instr.sliceAt T (.slice (some ⟨B, o, none⟩) m c) (some (.int kk l)) (some (.int k2 h)) none).bind fun r => Sem.pure (Next.value r)).run P w1 = _
   have hT' : P.underlying T = some (.slice (P.elem T)) := by rw [hT, hE]
   rw [Sem.run_bind', run_sliceAt_slice w1 T _ _ _ _ hT', run_slice_lh w1 T _ m c hT' kk k2 l h (by omega) (by omega) (by omega), hE, cJ hi, hsz]
   rfl
 have e : sliced (some ⟨B, o, none⟩) l h c sz = .slice (some ⟨B, o + l * sz, none⟩) (h - l) (c - l) := by
   unfold sliced
   rw [if_neg (by omega)]
   simp [jk]
 rw [hrun, e]; exact bY _ _
end
end Go.Sy

namespace Go.Proofs.YtgmiihmahaahiaaGreatDoor
open Go.RowKit Go.Lp Go.Sy
deriving instance DecidableEq for aD
deriving instance DecidableEq for aO
abbrev cW := ByteArray × ByteArray
structure Dfn where
 p : aD
 s : bg
 deriving Inhabited
abbrev Dfn.key (d : Dfn) : cW := (d.s.name, d.s.version)
def cu (i : Int) (l : List bg) : List Dfn := l.zipIdx.map fun x => ⟨⟨i, (x.2 : Int)⟩, x.1⟩
def bQ (os : List ax) (n : Nat) : List Dfn := (List.range n).flatMap fun i : Nat => cu (i : Int) (elt os (i : Int)).syms.l
def aW (os : List ax) : List Dfn := bQ os os.length
theorem nj (i : Int) (l : List bg) (s : bg) : cu i (l ++ [s]) = cu i l ++ [⟨⟨i, (l.length : Int)⟩, s⟩] := by
 unfold cu; rw [List.zipIdx_append]; simp
theorem cq (os : List ax) (n : Nat) : bQ os (n + 1) = bQ os n ++ cu (n : Int) (elt os (n : Int)).syms.l := by unfold bQ; rw [List.range_succ, List.flatMap_append]; simp
theorem dz {i : Int} {l : List bg} {k : Nat} {s : bg} (h : l[k]? = some s) : cu i (l.take (k + 1)) = cu i (l.take k) ++ [⟨⟨i, (k : Int)⟩, s⟩] := by
 have hk := (List.getElem?_eq_some_iff.1 h).1
 rw [List.take_add_one, h, Option.toList_some, nj, List.length_take, Nat.min_eq_left (by omega)]
section
variable (kp : List (Sl Bool))
def lF (i s : Int) : Bool := elt (elt kp i).l s
def dN (d : Dfn) : Bool := decide (d.s.bind = 3) || (decide (d.s.bind ≠ 0) && (decide (d.s.sec ≥ 0) && lF kp d.p.obj d.s.sec))
def dB (d : Dfn) : Int := if d.s.bind = 1 then 0 else if d.s.bind = 3 then 1 else 2
def db (L : List Dfn) (k : cW) : List Dfn := L.filter fun d => dN kp d && decide (d.key = k)
def better (o : Option Dfn) (d : Dfn) : Option Dfn := match o with
 | none => some d
 | some e => if dB d < dB e then some d else some e
def cd (L : List Dfn) (k : cW) : Option Dfn := (db kp L k).foldl better none
def dU (L : List Dfn) (n : ByteArray) : List cW := (L.foldl (fun (x : List Dfn × List cW) d => (x.1 ++ [d], if dN kp d = true ∧ d.s.name = n ∧ db kp x.1 d.key = [] then x.2 ++ [d.key] else x.2)) ([], [])).2
def ea (L : List Dfn) : Option aD := (L.foldl (fun (x : List Dfn × Option aD) d => (x.1 ++ [d], x.2.or (if dN kp d = true ∧ d.s.bind = 1 ∧ (∃ e ∈ db kp x.1 d.key, e.s.bind = 1) then some d.p else none))) ([], none)).2
variable {kp}
theorem gh (L : List Dfn) (d : Dfn) (k : cW) : db kp (L ++ [d]) k = db kp L k ++ if dN kp d = true ∧ d.key = k then [d] else [] := by
 unfold db; rw [List.filter_append]
 by_cases h : dN kp d = true ∧ d.key = k
 · rw [if_pos h]; simp [h.1, h.2]
 · rw [if_neg h]
   have : (dN kp d && decide (d.key = k)) = false := by
     rw [Bool.eq_false_iff]; intro hh; simp only [Bool.and_eq_true, decide_eq_true_eq] at hh; exact h hh
   simp [this]
theorem jW (L : List Dfn) (d : Dfn) (k : cW) : cd kp (L ++ [d]) k = if dN kp d = true ∧ d.key = k then better (cd kp L k) d else cd kp L k := by
 unfold cd; rw [gh]
 by_cases h : dN kp d = true ∧ d.key = k
 · rw [if_pos h, if_pos h, List.foldl_append]; rfl
 · rw [if_neg h, if_neg h, List.append_nil]
theorem vk {β : Type} (f : List Dfn → Dfn → β → β) (b : β) : ∀ (L P : List Dfn), L.foldl (fun (x : List Dfn × β) d => (x.1 ++ [d], f x.1 d x.2)) (P, b) = (P ++ L, (L.foldl (fun (x : List Dfn × β) d => (x.1 ++ [d], f x.1 d x.2)) (P, b)).2) := by
 intro L
 induction L generalizing b with
 | nil => intro P; simp
 | cons d L ih => intro P; rw [List.foldl_cons, ih]; simp
theorem lS {β : Type} (f : List Dfn → Dfn → β → β) (b : β) (L : List Dfn) (d : Dfn) : ((L ++ [d]).foldl (fun (x : List Dfn × β) d => (x.1 ++ [d], f x.1 d x.2)) ([], b)).2 = f L d (L.foldl (fun (x : List Dfn × β) d => (x.1 ++ [d], f x.1 d x.2)) ([], b)).2 := by
 rw [List.foldl_append, List.foldl_cons, List.foldl_nil]
 show f (L.foldl _ ([], b)).1 d _ = _
 rw [vk f b L []]; rfl
theorem fQ (L : List Dfn) (d : Dfn) (n : ByteArray) : dU kp (L ++ [d]) n = if dN kp d = true ∧ d.s.name = n ∧ db kp L d.key = [] then dU kp L n ++ [d.key] else dU kp L n :=
 lS (fun P d (x : List cW) => if dN kp d = true ∧ d.s.name = n ∧ db kp P d.key = [] then x ++ [d.key] else x) [] L d
theorem gC (L : List Dfn) (d : Dfn) : ea kp (L ++ [d]) = (ea kp L).or (if dN kp d = true ∧ d.s.bind = 1 ∧ (∃ e ∈ db kp L d.key, e.s.bind = 1) then some d.p else none) :=
 lS (fun P d (x : Option aD) => x.or (if dN kp d = true ∧ d.s.bind = 1 ∧ (∃ e ∈ db kp P d.key, e.s.bind = 1) then some d.p else none)) none L d
theorem iI {L : List Dfn} {k : cW} {d : Dfn} : d ∈ db kp L k ↔ d ∈ L ∧ dN kp d = true ∧ d.key = k := by unfold db; simp [List.mem_filter]
theorem fq {α : Type} {motive : List α → Prop} (nil : motive []) (snoc : ∀ L d, motive L → motive (L ++ [d])) (L : List α) : motive L := by
 have : ∀ n (L : List α), L.length = n → motive L := by
   intro n
   induction n with
   | zero => intro L h; rw [List.eq_nil_of_length_eq_zero h]; exact nil
   | succ n ih =>
     intro L h
     have hne : L ≠ [] := by rintro rfl; cases h
     rw [← List.dropLast_concat_getLast hne]
     exact snoc _ _ (ih _ (by rw [List.length_dropLast, h]; rfl))
 exact this _ L rfl
theorem eG {L : List Dfn} {k : cW} : cd kp L k = none ↔ db kp L k = [] := by
 unfold cd
 generalize db kp L k = l
 induction l using fq with
 | nil => simp
 | snoc L d ih =>
   rw [List.foldl_append, List.foldl_cons, List.foldl_nil]
   constructor
   · intro h; unfold better at h; split at h
     · cases h
     · split at h <;> cases h
   · intro h; simp at h
theorem gR : ∀ (l : List Dfn) (o : Option Dfn) (e : Dfn), l.foldl better o = some e → e ∈ l ∨ o = some e
 | [], o, e, h => .inr h
 | d :: l, o, e, h => by
   rcases gR l _ e h with h | h
   · exact .inl (List.mem_cons_of_mem _ h)
   · unfold better at h
     split at h
     · exact .inl (by rw [← Option.some.inj h]; exact List.mem_cons_self)
     · split at h
       · exact .inl (by rw [← Option.some.inj h]; exact List.mem_cons_self)
       · exact .inr h
theorem dw {L : List Dfn} {k : cW} {e : Dfn} (h : cd kp L k = some e) : e ∈ L ∧ dN kp e = true ∧ e.key = k := by
 rcases gR _ _ _ h with h | h
 · exact iI.1 h
 · cases h
theorem pe {L : List Dfn} {k : cW} {e : Dfn} (h : cd kp L k = some e) : ∀ d ∈ db kp L k, dB e ≤ dB d := by
 unfold cd at h
 generalize db kp L k = l at h
 induction l using fq generalizing e with
 | nil => cases h
 | snoc L d ih =>
   rw [List.foldl_append, List.foldl_cons, List.foldl_nil] at h
   intro x hx
   unfold better at h
   split at h
   · rename_i hn
     have : L = [] := by
       cases hL : L with
       | nil => rfl
       | cons a l => rw [hL] at hn; exact absurd hn (by
           have : ∀ (l : List Dfn) (a : Dfn), l.foldl better (some a) ≠ none := fun l => by
             induction l with
             | nil => intro a h; cases h
             | cons b l ih => intro a; rw [List.foldl_cons]; unfold better; split
                              · rename_i h; cases h
                              · split
                                · exact ih _
                                · exact ih _
           exact this l a)
     subst this
     simp at hx h; subst hx; subst h; exact Int.le_refl _
   · rename_i e0 he0
     split at h
     · rename_i hlt
       obtain rfl := Option.some.inj h
       rcases List.mem_append.1 hx with hx | hx
       · have := ih he0 x hx; omega
       · rw [List.mem_singleton.1 hx]; exact Int.le_refl _
     · rename_i hlt
       obtain rfl := Option.some.inj h
       rcases List.mem_append.1 hx with hx | hx
       · exact ih he0 x hx
       · rw [List.mem_singleton.1 hx]; omega
end
end Go.Proofs.YtgmiihmahaahiaaGreatDoor

namespace Go.Proofs.YtgmiihmahaahiaaGreatDoor
open Go.RowKit Go.Lp Go.Sy
def ltC (p q : aD) : Prop := p.obj < q.obj ∨ p.obj = q.obj ∧ p.sym < q.sym
instance (p q : aD) : Decidable (ltC p q) := by unfold ltC; infer_instance
theorem dR (p : aD) : ¬ ltC p p := by unfold ltC; omega
theorem er {p q r : aD} (h1 : ltC p q) (h2 : ltC q r) : ltC p r := by unfold ltC at *; omega
theorem pr (p q : aD) : ltC p q ∨ p = q ∨ ltC q p := by
 have : p.obj = q.obj → p.sym = q.sym → p = q := fun h1 h2 => by cases p; cases q; simp_all
 unfold ltC
 by_cases h1 : p.obj = q.obj
 · by_cases h2 : p.sym = q.sym
   · exact .inr (.inl (this h1 h2))
   · omega
 · omega
def Asc (L : List Dfn) : Prop := L.Pairwise fun d e => ltC d.p e.p
theorem iK {i : Int} {l : List bg} {d : Dfn} (h : d ∈ cu i l) : ∃ k : Nat, l[k]? = some d.s ∧ d.p = ⟨i, (k : Int)⟩ := by
 unfold cu at h
 obtain ⟨⟨s, k⟩, hx, rfl⟩ := List.mem_map.1 h
 exact ⟨k, List.mem_zipIdx_iff_getElem?.1 hx, rfl⟩
theorem qR {i : Int} {l : List bg} {k : Nat} {s : bg} (h : l[k]? = some s) : (⟨⟨i, (k : Int)⟩, s⟩ : Dfn) ∈ cu i l := by
 unfold cu
 exact List.mem_map.2 ⟨(s, k), List.mem_zipIdx_iff_getElem?.2 h, rfl⟩
theorem wF (i : Int) (l : List bg) : Asc (cu i l) := by
 induction l using fq with
 | nil => exact .nil
 | snoc l s ih =>
   rw [nj]
   refine List.pairwise_append.2 ⟨ih, List.pairwise_singleton _ _, fun d hd e he => ?_⟩
   obtain ⟨k, hk, hp⟩ := iK hd
   rw [List.mem_singleton.1 he, hp]
   have := (List.getElem?_eq_some_iff.1 hk).1
   exact .inr ⟨rfl, by dsimp only; omega⟩
theorem eX {os : List ax} {n : Nat} {d : Dfn} : d ∈ bQ os n ↔ ∃ i k : Nat, i < n ∧ (elt os (i : Int)).syms.l[k]? = some d.s ∧ d.p = ⟨(i : Int), (k : Int)⟩ := by
 unfold bQ
 rw [List.mem_flatMap]
 constructor
 · rintro ⟨i, hi, hd⟩
   obtain ⟨k, h1, h2⟩ := iK hd
   exact ⟨i, k, List.mem_range.1 hi, h1, h2⟩
 · rintro ⟨i, k, hi, h1, h2⟩
   obtain ⟨p, s⟩ := d
   dsimp only at h1 h2; subst h2
   exact ⟨i, List.mem_range.2 hi, qR h1⟩
theorem ed (os : List ax) : ∀ n, Asc (bQ os n)
 | 0 => .nil
 | n + 1 => by
   rw [cq]
   refine List.pairwise_append.2 ⟨ed os n, wF _ _, fun d hd e he => ?_⟩
   obtain ⟨i, k, h1, _, h2⟩ := eX.1 hd
   obtain ⟨k2, _, h3⟩ := iK he
   rw [h2, h3]
   exact .inl (by dsimp only; omega)
theorem lj {L : List Dfn} (h : Asc L) {d e : Dfn} (hd : d ∈ L) (he : e ∈ L) (hp : d.p = e.p) : d = e := by
 unfold Asc at h
 induction L with
 | nil => cases hd
 | cons a L ih =>
   rw [List.pairwise_cons] at h
   rcases List.mem_cons.1 hd with e1 | hd2 <;> rcases List.mem_cons.1 he with e2 | he2
   · rw [e1, e2]
   · have := h.1 e he2; rw [← e1, hp] at this; exact absurd this (dR _)
   · have := h.1 d hd2; rw [← e2, hp] at this; exact absurd this (dR _)
   · exact ih h.2 hd2 he2
section
variable (kp : List (Sl Bool)) (L : List Dfn)
def fD (d : Dfn) : Bool := decide ((cd kp L d.key).map (·.p) = some d.p)
def cH (d : Dfn) : Bool := fD kp L d && (decide (d.s.version = .empty) || d.s.main)
def cF (n : ByteArray) : List Dfn := L.filter fun d => decide (d.s.name = n) && cH kp L d
def dQ : Option aD := (L.find? fun d => cH kp L d && L.any fun e => cH kp L e && (decide (e.s.name = d.s.name) && decide (ltC e.p d.p))).map (·.p)
def dI (sv : ByteArray → ByteArray → Bool) (n v : ByteArray) : Option Dfn :=
 if v = .empty then (cF kp L n).head? else (cd kp L (n, v)).or (L.find? fun d => decide (d.s.name = n) && (fD kp L d && sv d.s.version v))
def gQ (s : bg) (d : Dfn) : Int := if d.s.bind = 3 then 4 else if d.s.version ≠ s.version then 5 else if (db kp L d.key).length = 1 then 1 else if d.s.bind = 1 then 2 else 3
def fB (n : ByteArray) : Int := L.foldl (fun v d => if d.s.name = n ∧ d.s.bind ≠ 0 then max v d.s.vis else v) 0
def ff : aO := ⟨0, 0, 0, 0, 0, false⟩
def bS (sv : ByteArray → ByteArray → Bool) (lf : ByteArray → ByteArray → Int) (lib : Bool) (d : Dfn) : Option aO :=
 if d.s.bind = 0 then some (if lF kp d.p.obj d.s.sec = true then ⟨1, d.p.obj, d.p.sym, 0, 0, false⟩ else ff)
 else match dI kp L sv d.s.name d.s.version with
   | some e => some ⟨if e.s.bind = 3 then 3 else 2, e.p.obj, e.p.sym, 0, gQ kp L d.s e, lib && decide (fB L d.s.name = 0)⟩
   | none => if lf d.s.name d.s.version ≥ 0 then some ⟨4, 0, 0, lf d.s.name d.s.version, 6, false⟩ else if d.s.sec ≠ -1 then some ff else if d.s.bind = 2 then some ⟨5, 0, 0, 0, 7, false⟩ else none
def jw (sv : ByteArray → ByteArray → Bool) (lf : ByteArray → ByteArray → Int) (lib : Bool) : Option aD := (L.find? fun d => decide (bS kp L sv lf lib d = none)).map (·.p)
end
def cI (kp : List (Sl Bool)) (L : List Dfn) (sv : ByteArray → ByteArray → Bool) (lf : ByteArray → ByteArray → Int) (lib : Bool) : Option (Int × aD) :=
 match ea kp L with
 | some p => some (4, p)
 | none => match dQ kp L with
   | some p => some (4, p)
   | none => (jw kp L sv lf lib).map fun p => (3, p)
def iy (kp : List (Sl Bool)) (L : List Dfn) (sv : ByteArray → ByteArray → Bool) (lf : ByteArray → ByteArray → Int) (lib : Bool) (l : List Dfn) : List aO := l.map fun d => (bS kp L sv lf lib d).getD ff
def iE (os : List ax) (kp : List (Sl Bool)) (sv : ByteArray → ByteArray → Bool) (lf : ByteArray → ByteArray → Int) (lib : Bool) : List (List aO) :=
 (List.range os.length).map fun i : Nat => iy kp (aW os) sv lf lib (cu (i : Int) (elt os (i : Int)).syms.l)
section
variable {kp : List (Sl Bool)} {L : List Dfn} (hA : Asc L)
include hA
theorem gp {d : Dfn} (hd : d ∈ L) : fD kp L d = true ↔ cd kp L d.key = some d := by
 unfold fD
 rw [decide_eq_true_eq, Option.map_eq_some_iff]
 constructor
 · rintro ⟨e, he, hp⟩
   obtain ⟨h1, _, _⟩ := dw he
   rw [he, lj hA h1 hd hp]
 · exact fun h => ⟨d, h, rfl⟩
theorem l0 {d : Dfn} (hd : d ∈ L) (h : fD kp L d = true) : dN kp d = true := (dw ((gp hA hd).1 h)).2.1
theorem kh {k : cW} {e : Dfn} (h : cd kp L k = some e) : fD kp L e = true := by
 obtain ⟨h1, _, h3⟩ := dw h
 rw [gp hA h1, h3]; exact h
theorem vf (ht : dQ kp L = none) {n : ByteArray} {d e : Dfn} (hd : d ∈ cF kp L n) (he : e ∈ cF kp L n) : d = e := by
 unfold cF at hd he
 simp only [List.mem_filter, Bool.and_eq_true, decide_eq_true_eq] at hd he
 have hn := ht
 unfold dQ at hn
 rw [Option.map_eq_none_iff, List.find?_eq_none] at hn
 have key : ∀ d e : Dfn, d ∈ L → e ∈ L → cH kp L d = true → cH kp L e = true → e.s.name = d.s.name → ¬ ltC e.p d.p := fun d e h1 h2 h3 h4 h5 h6 => by
   refine hn d h1 ?_
   rw [Bool.and_eq_true, List.any_eq_true]
   exact ⟨h3, e, h2, by simp [h4, h5, h6]⟩
 rcases pr d.p e.p with h | h | h
 · exact (key e d he.1 hd.1 he.2.2 hd.2.2 (by rw [hd.2.1, he.2.1]) h).elim
 · exact lj hA hd.1 he.1 h
 · exact (key d e hd.1 he.1 hd.2.2 he.2.2 (by rw [hd.2.1, he.2.1]) h).elim
theorem jm {sv : ByteArray → ByteArray → Bool} {n v : ByteArray} {e : Dfn} (h : dI kp L sv n v = some e) : e ∈ L ∧ fD kp L e = true ∧ e.s.name = n ∧ (e.s.version = v ∨ v = .empty ∧ e.s.main = true ∨ v ≠ .empty ∧ sv e.s.version v = true) := by
 unfold dI at h
 split at h
 · rename_i hv
   have hm := List.mem_of_mem_head? (Option.mem_def.2 h)
   unfold cF cH at hm
   simp only [List.mem_filter, Bool.and_eq_true, decide_eq_true_eq, Bool.or_eq_true] at hm
   refine ⟨hm.1, hm.2.2.1, hm.2.1, ?_⟩
   rcases hm.2.2.2 with h | h
   · exact .inl (h.trans hv.symm)
   · exact .inr (.inl ⟨hv, h⟩)
 · rename_i hv
   rw [Option.or_eq_some_iff] at h
   rcases h with h | ⟨h0, h⟩
   · obtain ⟨h1, _, h3⟩ := dw h
     exact ⟨h1, kh hA h, congrArg Prod.fst h3, .inl (congrArg Prod.snd h3)⟩
   · have h1 := List.find?_some h
     have h2 := List.mem_of_find?_eq_some h
     simp only [Bool.and_eq_true, decide_eq_true_eq] at h1
     exact ⟨h2, h1.2.1, h1.1, .inr (.inr ⟨hv, h1.2.2⟩)⟩
theorem sJ {sv : ByteArray → ByteArray → Bool} (ht : dQ kp L = none) {e : Dfn} (he : e ∈ L) (h : fD kp L e = true) : dI kp L sv e.s.name e.s.version = some e := by
 unfold dI
 split
 · rename_i hv
   have hm : e ∈ cF kp L e.s.name := by unfold cF cH; simp [List.mem_filter, he, h, hv]
   cases hl : cF kp L e.s.name with
   | nil => rw [hl] at hm; cases hm
   | cons a l => rw [vf hA ht hm (hl ▸ List.mem_cons_self : a ∈ cF kp L e.s.name)]; rfl
 · rw [(gp hA he).1 h]; rfl
end
end Go.Proofs.YtgmiihmahaahiaaGreatDoor

namespace Go.Proofs.YtgmiihmahaahiaaGreatDoor
open Go.RowKit Go.Lp Go.Sy
section
variable {kp : List (Sl Bool)}
theorem eV {L : List Dfn} {n : ByteArray} {k : cW} : k ∈ dU kp L n ↔ db kp L k ≠ [] ∧ k.1 = n := by
 induction L using fq with
 | nil => simp [dU, db]
 | snoc L d ih =>
   rw [fQ, gh]
   by_cases h : dN kp d = true ∧ d.s.name = n ∧ db kp L d.key = []
   · rw [if_pos h, List.mem_append, ih, List.mem_singleton]
     constructor
     · rintro (⟨h1, h2⟩ | rfl)
       · exact ⟨by simp [h1], h2⟩
       · exact ⟨by simp [h.1], h.2.1⟩
     · rintro ⟨h1, h2⟩
       by_cases hk : d.key = k
       · exact .inr hk.symm
       · exact .inl ⟨by simpa [hk] using h1, h2⟩
   · rw [if_neg h, ih]
     constructor
     · rintro ⟨h1, h2⟩; exact ⟨by simp [h1], h2⟩
     · rintro ⟨h1, h2⟩
       refine ⟨fun h0 => ?_, h2⟩
       by_cases hk : dN kp d = true ∧ d.key = k
       · exact h ⟨hk.1, by rw [← h2, ← hk.2], by rw [hk.2]; exact h0⟩
       · rw [if_neg hk, List.append_nil] at h1; exact h1 h0
theorem pk (L : List Dfn) (n : ByteArray) : (dU kp L n).Nodup := by
 induction L using fq with
 | nil => simp [dU]
 | snoc L d ih =>
   rw [fQ]
   split
   · rename_i h
     rw [List.nodup_append]
     refine ⟨ih, by simp, fun a ha b hb => ?_⟩
     rw [List.mem_singleton.1 hb]
     rintro rfl
     exact (eV.1 ha).1 h.2.2
   · exact ih
theorem kf (L : List Dfn) (n : ByteArray) : (dU kp L n).length ≤ L.length := by
 induction L using fq with
 | nil => simp [dU]
 | snoc L d ih => rw [fQ]; split <;> simp <;> omega
theorem oT (L : List Dfn) (k : cW) : (db kp L k).length ≤ L.length := List.length_filter_le _ _
def fy (kp : List (Sl Bool)) (L : List Dfn) (l : List cW) : List aD := l.filterMap fun k => (cd kp L k).bind fun e => if k.2 = .empty ∨ e.s.main = true then some e.p else none
theorem l6 (L : List Dfn) (l : List cW) (k : cW) {e : Dfn} (h : cd kp L k = some e) : fy kp L (l ++ [k]) = fy kp L l ++ if k.2 = .empty ∨ e.s.main = true then [e.p] else [] := by
 unfold fy; rw [List.filterMap_append]
 congr 1
 by_cases hc : k.2 = .empty ∨ e.s.main = true <;> simp [h, hc]
theorem rf (L : List Dfn) (l : List cW) : (fy kp L l).length ≤ l.length := List.length_filterMap_le _ _
theorem fT {α β : Type} {f : α → Option β} (hf : ∀ a b c, f a = some c → f b = some c → a = b) : ∀ {l : List α}, l.Nodup → (l.filterMap f).Nodup
 | [], _ => by simp
 | a :: l, h => by
   rw [List.nodup_cons] at h
   rw [List.filterMap_cons]
   cases ha : f a with
   | none => exact fT hf h.2
   | some c =>
     rw [List.nodup_cons]
     refine ⟨fun hm => ?_, fT hf h.2⟩
     obtain ⟨b, hb, hc⟩ := List.mem_filterMap.1 hm
     exact h.1 (hf a b c ha hc ▸ hb)
end
theorem sW : ∀ {a b : List aD}, a.Pairwise ltC → b.Pairwise ltC → (∀ x, x ∈ a ↔ x ∈ b) → a = b
 | [], [], _, _, _ => rfl
 | [], y :: b, _, _, h => by have := (h y).2 List.mem_cons_self; cases this
 | x :: a, [], _, _, h => by have := (h x).1 List.mem_cons_self; cases this
 | x :: a, y :: b, ha, hb, h => by
   rw [List.pairwise_cons] at ha hb
   have hxy : x = y := by
     rcases List.mem_cons.1 ((h x).1 List.mem_cons_self) with h1 | h1
     · exact h1
     · rcases List.mem_cons.1 ((h y).2 List.mem_cons_self) with h2 | h2
       · exact h2.symm
       · exact (dR _ (er (hb.1 x h1) (ha.1 y h2))).elim
   subst hxy
   rw [sW ha.2 hb.2 fun z => ?_]
   constructor
   · intro hz
     rcases List.mem_cons.1 ((h z).1 (List.mem_cons_of_mem _ hz)) with rfl | h1
     · exact (dR _ (ha.1 z hz)).elim
     · exact h1
   · intro hz
     rcases List.mem_cons.1 ((h z).2 (List.mem_cons_of_mem _ hz)) with rfl | h1
     · exact (dR _ (hb.1 z hz)).elim
     · exact h1
section
variable {kp : List (Sl Bool)} {L : List Dfn}
theorem gi {n : ByteArray} {d : Dfn} : d ∈ cF kp L n ↔ d ∈ L ∧ d.s.name = n ∧ cH kp L d = true := by unfold cF; simp [List.mem_filter]
variable (hA : Asc L)
include hA
theorem vj (n : ByteArray) : ((cF kp L n).map (·.p)).Pairwise ltC := by
 rw [List.pairwise_map]; exact List.Pairwise.filter _ hA
theorem oD {n : ByteArray} {p : aD} : p ∈ fy kp L (dU kp L n) ↔ p ∈ (cF kp L n).map (·.p) := by
 unfold fy cF cH
 rw [List.mem_filterMap, List.mem_map]
 constructor
 · rintro ⟨k, hk, h⟩
   obtain ⟨e, he, h⟩ := Option.bind_eq_some_iff.1 h
   split at h
   · rename_i hc
     obtain ⟨h1, h2, h3⟩ := dw he
     refine ⟨e, ?_, Option.some.inj h⟩
     simp only [List.mem_filter, Bool.and_eq_true, decide_eq_true_eq, Bool.or_eq_true]
     refine ⟨h1, ?_, kh hA he, ?_⟩
     · rw [← (eV.1 hk).2, ← h3]
     · rw [← h3] at hc; exact hc
   · cases h
 · rintro ⟨e, he, rfl⟩
   simp only [List.mem_filter, Bool.and_eq_true, decide_eq_true_eq, Bool.or_eq_true] at he
   obtain ⟨h1, h2, h3, h4⟩ := he
   have hc := (gp hA h1).1 h3
   refine ⟨e.key, eV.2 ⟨fun h0 => ?_, h2⟩, ?_⟩
   · rw [← eG (kp := kp)] at h0; rw [h0] at hc; cases hc
   · rw [hc, Option.bind_some, if_pos h4]
theorem qu (n : ByteArray) : (fy kp L (dU kp L n)).Nodup := by
 refine fT (fun a b c h1 h2 => ?_) (pk L n)
 obtain ⟨e, he, h1⟩ := Option.bind_eq_some_iff.1 h1
 obtain ⟨e2, he2, h2⟩ := Option.bind_eq_some_iff.1 h2
 split at h1
 · split at h2
   · have e3 : e.p = e2.p := (Option.some.inj h1).trans (Option.some.inj h2).symm
     obtain ⟨m1, _, m3⟩ := dw he
     obtain ⟨m4, _, m6⟩ := dw he2
     rw [← m3, ← m6, lj hA m1 m4 e3]
   · cases h2
 · cases h1
theorem pc {n : ByteArray} {q : List aD} (hp : q.Perm (fy kp L (dU kp L n))) (hs : q.Pairwise fun a b => ¬ ltC b a) : q = (cF kp L n).map (·.p) := by
 refine sW ?_ (vj hA n) fun x => by rw [hp.mem_iff, oD hA]
 have hn : q.Nodup := hp.nodup_iff.2 (qu hA n)
 have := List.Pairwise.and hs hn
 refine this.imp fun {a b} h => ?_
 rcases pr a b with h1 | h1 | h1
 · exact h1
 · exact (h.2 h1).elim
 · exact (h.1 h1).elim
theorem wR {n : ByteArray} {d : Dfn} (h : (cF kp L n)[1]? = some d) : ∃ e, (cF kp L n)[0]? = some e ∧ ltC e.p d.p := by
 have hl := (List.getElem?_eq_some_iff.1 h).1
 have := List.Pairwise.filter (fun d : Dfn => decide (d.s.name = n) && cH kp L d) hA
 refine ⟨_, List.getElem?_eq_getElem (by omega), ?_⟩
 have h2 := List.pairwise_iff_getElem.1 this 0 1 (show 0 < (cF kp L n).length by omega) hl (by omega)
 rw [List.getElem?_eq_getElem hl] at h
 rw [← Option.some.inj h]; exact h2
theorem sV {n : ByteArray} {d e : Dfn} (hd : d ∈ cF kp L n) (he : e ∈ cF kp L n) (h : ltC e.p d.p) : ∃ d2, (cF kp L n)[1]? = some d2 ∧ ¬ ltC d.p d2.p := by
 have hp : (cF kp L n).Pairwise fun d e => ltC d.p e.p := List.Pairwise.filter _ hA
 cases hl : cF kp L n with
 | nil => rw [hl] at hd; cases hd
 | cons a l =>
   rw [hl] at hd he hp
   rw [List.pairwise_cons] at hp
   have hda : d ∈ l := by
     rcases List.mem_cons.1 hd with rfl | hd
     · rcases List.mem_cons.1 he with rfl | he
       · exact (dR _ h).elim
       · exact (dR _ (er h (hp.1 e he))).elim
     · exact hd
   cases l with
   | nil => cases hda
   | cons b l =>
     refine ⟨b, rfl, fun hlt => ?_⟩
     rcases List.mem_cons.1 hda with rfl | hda
     · exact dR _ hlt
     · exact dR _ (er hlt ((List.pairwise_cons.1 hp.2).1 d hda))
theorem qz (h : ∀ n, (cF kp L n)[1]? = none) : dQ kp L = none := by
 unfold dQ
 rw [Option.map_eq_none_iff, List.find?_eq_none]
 intro d hd hh
 rw [Bool.and_eq_true, List.any_eq_true] at hh
 obtain ⟨h1, e, he, h2⟩ := hh
 simp only [Bool.and_eq_true, decide_eq_true_eq] at h2
 obtain ⟨d2, h3, _⟩ := sV hA ((gi).2 ⟨hd, rfl, h1⟩) ((gi).2 ⟨he, h2.2.1, h2.1⟩) h2.2.2
 rw [h d.s.name] at h3; cases h3
theorem find?_asc {f : Dfn → Bool} {d d1 : Dfn} (hd : d ∈ L) (hf : f d = true) (h : L.find? f = some d1) : d1 = d ∨ ltC d1.p d.p := by
 unfold Asc at hA
 induction L with
 | nil => cases h
 | cons a L ih =>
   rw [List.pairwise_cons] at hA
   by_cases ha : f a = true
   · rw [List.find?_cons_of_pos ha] at h
     obtain rfl := Option.some.inj h
     rcases List.mem_cons.1 hd with rfl | hd
     · exact .inl rfl
     · exact .inr (hA.1 d hd)
   · rw [List.find?_cons_of_neg ha] at h
     rcases List.mem_cons.1 hd with rfl | hd
     · exact (ha hf).elim
     · exact ih hA.2 hd h
theorem qF {n : ByteArray} {d : Dfn} (h1 : (cF kp L n)[1]? = some d) (h2 : ∀ n d2, (cF kp L n)[1]? = some d2 → ¬ ltC d2.p d.p) : dQ kp L = some d.p := by
 obtain ⟨e, he, hlt⟩ := wR hA h1
 obtain ⟨m1, m2, m3⟩ := (gi).1 (List.mem_of_getElem? h1)
 obtain ⟨k1, k2, k3⟩ := (gi).1 (List.mem_of_getElem? he)
 have hf : (fun d : Dfn => cH kp L d && L.any fun e => cH kp L e && (decide (e.s.name = d.s.name) && decide (ltC e.p d.p))) d = true := by
   simp only [Bool.and_eq_true, List.any_eq_true, decide_eq_true_eq]
   exact ⟨m3, e, k1, k3, by rw [k2, m2], hlt⟩
 unfold dQ
 cases hx : L.find? fun d : Dfn => cH kp L d && L.any fun e => cH kp L e && (decide (e.s.name = d.s.name) && decide (ltC e.p d.p)) with
 | none => rw [List.find?_eq_none] at hx; exact (hx d m1 hf).elim
 | some d1 =>
   have hd1 := List.find?_some hx
   have hm1 := List.mem_of_find?_eq_some hx
   simp only [Bool.and_eq_true, List.any_eq_true, decide_eq_true_eq] at hd1
   obtain ⟨g1, e1, g2, g3, g4, g5⟩ := hd1
   obtain ⟨d2, g6, g7⟩ := sV hA ((gi).2 ⟨hm1, rfl, g1⟩) ((gi).2 ⟨g2, g4, g3⟩) g5
   rcases find?_asc hA m1 hf hx with h | h
   · rw [h]; rfl
   · exfalso
     have q1 := h2 _ _ g6
     rcases pr d2.p d1.p with r | r | r
     · exact q1 (er r h)
     · exact q1 (r ▸ h)
     · exact g7 r
end
end Go.Proofs.YtgmiihmahaahiaaGreatDoor

