/- Parts of the proof, in build order. No condition. -/
import Derived.Test.YtgmiihmahaahiaaGreatDoorQc06
import Derived.Test.YtgmiihmahaahiaaGreatDoorQc03
import Derived.Test.YtgmiihmahaahiaaGreatDoorQc04
import Derived.Lib.Bytealg
set_option linter.unusedSimpArgs false
set_option linter.unusedVariables false
set_option maxHeartbeats 1000000
set_option maxRecDepth 20000
namespace Go.Sy
open Go.RowKit Go.Lp
theorem StE.ents {ps ps' : List Per} {hp : List Res} (h : ∀ p ∈ ps', Ent ps p) : StE ps hp ps' hp := fun w S fp hst =>
 ⟨S, fp, ⟨fun p hp => h p hp w S hst.per, hst.res, hst.lt, hst.dj, hst.slt⟩, fun _ h => h, fun _ h => .inl h, fun _ h => h⟩
end Go.Sy
namespace Go.Proofs.YtgmiihmahaahiaaGreatDoor
open Go.RowKit Go.Lp Go.Sy
open Go.Proofs.Tryz
attribute [local irreducible] aL aB awp aC fwp
abbrev eN : Int → List D := fun z => [D.v (eI z)]
theorem eD {ps : List Per} {p q : Per} (h1 : Ent ps p) (h2 : Ent ps q) : ∀ r ∈ [p, q], Ent ps r := fun r hr => by
 simp only [List.mem_cons, List.not_mem_nil, or_false] at hr
 rcases hr with rfl | rfl
 · exact h1
 · exact h2
theorem rY {ps : List Per} {p q t : Per} (h1 : Ent ps p) (h2 : Ent ps q) (h3 : Ent ps t) : ∀ r ∈ [p, q, t], Ent ps r := fun r hr => by
 simp only [List.mem_cons, List.not_mem_nil, or_false] at hr
 rcases hr with rfl | rfl | rfl
 · exact h1
 · exact h2
 · exact h3
theorem fw {p : Per} : Ent [p] p := .of (an 0 rfl)
theorem vq (s : bH) (p : Per) : Con Tryz.prog 132 [s.val] [p] [] (YN dK fun _ => True) := by
 refine Con.enter Tryz.func132 rfl (by simp [Tryz.ntmps132]) ?_
 show awp _ _ _ _ ⟨[(0, true, _)], _, _⟩
 refine aSR ?_
 refine aj (q := true) rfl (bI rfl rfl rfl (fun b0_0 => ?_))
 refine aHN ?_
 refine aA rfl (aNn (aSR ?_))
 refine aU rfl (qFA (off := 0) rfl) ?_
 refine aU rfl (ab 0 tk9 rfl rfl rfl) (aA rfl (aNn (aq ?_)))
 refine aV [] [] rfl Tryz.results132 rfl ?_ (.inr rfl)
 exact ⟨⟨rfl, rfl⟩, _, rfl, trivial⟩
theorem uB (s : bH) : Con Tryz.prog 127 [s.val] [s.ok] [] (YB (s.bytes.size ≤ 1048576)) := by
 refine Con.enter Tryz.func127 rfl (by simp [Tryz.ntmps127]) ?_
 show awp _ _ _ _ ⟨[(0, true, _)], _, _⟩
 refine eR (bH.f_name (.of (an 0 rfl))) (fun hnl => ?_)
 refine aSR ?_
 refine aj (q := true) rfl (bI rfl rfl rfl (fun b0_0 => ?_))
 refine aHN ?_
 refine aA rfl (aNn (aSR ?_))
 refine aU rfl (qFA (off := 3) rfl) ?_
 refine aU rfl (ab 0 tk3 rfl rfl rfl) (aA rfl (aNs (aSR ?_)))
 refine aU rfl (qFA (off := 1) rfl) ?_
 refine aU rfl (ab 0 tk3 rfl rfl rfl) (aU rfl (bB rfl rfl) (aM rfl ?_))
 refine aG rfl rfl (fun hc => qFA (off := 1) rfl) ?_
 refine aG rfl rfl (fun hc => ab 0 tk3 (aa rfl hc) rfl rfl) (aG rfl rfl (fun hc => bB (aa rfl hc) rfl) (aU rfl (ct rfl rfl (fun h => gf rfl h)) (aNn ?_)))
 refine ah _ rfl (fun h1 => ?_) (fun h1 => ?_)
 ·skip
  refine ae (aA rfl (aNn (aSR ?_)))
  refine aU rfl (qFA (off := 1) rfl) ?_
  refine aU rfl (ab 0 tk3 rfl rfl rfl) (aU rfl (cN rfl rfl) (aM rfl ?_))
  refine aG rfl rfl (fun hc => qFA (off := 2) rfl) ?_
  refine aG rfl rfl (fun hc => ab 0 tk3 (aa rfl hc) rfl rfl) (aG rfl rfl (fun hc => cL (aa rfl hc) rfl) (aG rfl rfl (fun hc => ar (aa rfl hc)) ?_))
  refine aG rfl rfl (fun hc => qFA (off := 3) rfl) ?_
  refine aG rfl rfl (fun hc => ab 0 tk3 (aa rfl hc) rfl rfl) ?_
  refine aG rfl rfl (fun hc => eO (aa rfl hc) rfl (by decide)) ?_
  refine aG rfl rfl (fun hc => bB (aa rfl hc) rfl) (aG rfl rfl (fun hc => bn (aa rfl hc) rfl (fun h => gt hc h)) (aU rfl (ct rfl rfl (fun h => gf rfl h)) (aA rfl (aNn (aSR ?_)))))
  refine aU rfl (qFA (off := 0) rfl) ?_
  refine aU rfl (ab 0 tk9 rfl rfl rfl) ?_
  refine aQ (caps := []) [] (false) (by kernel_rfl) true rfl rfl (fun _ => rfl) (fun hc => rfl) (fun hc => by rw [List.append_nil]; exact eY _ hnl) (fun c1 hc1 => ?_)
  refine aM rfl ?_
  refine aG rfl rfl (fun hc => qFA (off := 1) rfl) ?_
  refine aG rfl rfl (fun hc => ab 0 tk3 (aa rfl hc) rfl rfl) ?_
  refine aG rfl rfl (fun hc => bw (by kernel_rfl) (aI (aa rfl hc) (aI (aa rfl rfl) rfl)) (fun w S fp hst => (cB _ _).quiet0 hst)) ?_
  refine aU rfl (bn rfl rfl (fun h => gt rfl h)) (aM rfl ?_)
  refine aG rfl rfl (fun hc => qFA (off := 2) rfl) ?_
  refine aG rfl rfl (fun hc => ab 0 tk3 (aa rfl hc) rfl rfl) ?_
  refine aQ (caps := []) [] (false) (by kernel_rfl) _ rfl rfl (fun _ => rfl) (fun hc => (aI (aa rfl hc) rfl)) (fun hc => by rw [List.append_nil]; exact jZ _) (fun c2 hc2 => ?_)
  refine aU rfl (bn rfl rfl (fun h => gt rfl h)) (aM rfl ?_)
  refine aG rfl rfl (fun hc => qFA (off := 3) rfl) ?_
  refine aG rfl rfl (fun hc => ab 0 tk3 (aa rfl hc) rfl rfl) ?_
  refine aG rfl rfl (fun hc => bw (by kernel_rfl) (aI (aa rfl hc) (aI (aa rfl rfl) rfl)) (fun w S fp hst => (cB _ _).quiet0 hst)) ?_
  refine aU rfl (bn rfl rfl (fun h => gt rfl h)) (aM rfl ?_)
  refine aG rfl rfl (fun hc => qFA (off := 4) rfl) ?_
  refine aG rfl rfl (fun hc => ab 0 tk9 (aa rfl hc) rfl rfl) (aG rfl rfl (fun hc => dW Tryz.underlying9 (aa rfl hc)) (aG rfl rfl (fun hc => ar rfl) (aG rfl rfl (fun hc => bB (aa rfl hc) (aa rfl hc)) (aU rfl (bn rfl rfl (fun h => gt rfl h)) (aM rfl (aG rfl rfl (fun hc => ar rfl) (aU rfl (bn rfl rfl (fun h => gt rfl h)) (aA rfl (aNn (aq ?_))))))))))
  refine aV [] [] rfl Tryz.results127 rfl ?_ (.inr rfl)
  refine ⟨⟨rfl, rfl⟩, _, rfl, fun hb => ?_⟩
  simp only [Bool.and_eq_true, decide_eq_true_eq] at hb; omega
 ·skip
  refine au (av (aSR ?_))
  refine aU rfl (qFA (off := 1) rfl) ?_
  refine aU rfl (ab 0 tk3 rfl rfl rfl) (aU rfl (cN rfl rfl) (aM rfl ?_))
  refine aG rfl rfl (fun hc => qFA (off := 2) rfl) ?_
  refine aG rfl rfl (fun hc => ab 0 tk3 (aa rfl hc) rfl rfl) (aG rfl rfl (fun hc => cL (aa rfl hc) rfl) (aG rfl rfl (fun hc => ar (aa rfl hc)) ?_))
  refine aG rfl rfl (fun hc => qFA (off := 3) rfl) ?_
  refine aG rfl rfl (fun hc => ab 0 tk3 (aa rfl hc) rfl rfl) ?_
  refine aG rfl rfl (fun hc => eO (aa rfl hc) rfl (by decide)) ?_
  refine aG rfl rfl (fun hc => bB (aa rfl hc) rfl) (aG rfl rfl (fun hc => bn (aa rfl hc) rfl (fun h => gt hc h)) (aU rfl (ct rfl rfl (fun h => gf rfl h)) (aA rfl (aNn (aSR ?_)))))
  refine aU rfl (qFA (off := 0) rfl) ?_
  refine aU rfl (ab 0 tk9 rfl rfl rfl) ?_
  refine aQ (caps := []) [] (false) (by kernel_rfl) true rfl rfl (fun _ => rfl) (fun hc => rfl) (fun hc => by rw [List.append_nil]; exact eY _ hnl) (fun c1 hc1 => ?_)
  refine aM rfl ?_
  refine aG rfl rfl (fun hc => qFA (off := 1) rfl) ?_
  refine aG rfl rfl (fun hc => ab 0 tk3 (aa rfl hc) rfl rfl) ?_
  refine aG rfl rfl (fun hc => bw (by kernel_rfl) (aI (aa rfl hc) (aI (aa rfl rfl) rfl)) (fun w S fp hst => (cB _ _).quiet0 hst)) ?_
  refine aU rfl (bn rfl rfl (fun h => gt rfl h)) (aM rfl ?_)
  refine aG rfl rfl (fun hc => qFA (off := 2) rfl) ?_
  refine aG rfl rfl (fun hc => ab 0 tk3 (aa rfl hc) rfl rfl) ?_
  refine aQ (caps := []) [] (false) (by kernel_rfl) _ rfl rfl (fun _ => rfl) (fun hc => (aI (aa rfl hc) rfl)) (fun hc => by rw [List.append_nil]; exact jZ _) (fun c2 hc2 => ?_)
  refine aU rfl (bn rfl rfl (fun h => gt rfl h)) (aM rfl ?_)
  refine aG rfl rfl (fun hc => qFA (off := 3) rfl) ?_
  refine aG rfl rfl (fun hc => ab 0 tk3 (aa rfl hc) rfl rfl) ?_
  refine aG rfl rfl (fun hc => bw (by kernel_rfl) (aI (aa rfl hc) (aI (aa rfl rfl) rfl)) (fun w S fp hst => (cB _ _).quiet0 hst)) ?_
  refine aU rfl (bn rfl rfl (fun h => gt rfl h)) (aM rfl ?_)
  refine aG rfl rfl (fun hc => qFA (off := 4) rfl) ?_
  refine aG rfl rfl (fun hc => ab 0 tk9 (aa rfl hc) rfl rfl) (aG rfl rfl (fun hc => dW Tryz.underlying9 (aa rfl hc)) (aG rfl rfl (fun hc => ar rfl) (aG rfl rfl (fun hc => bB (aa rfl hc) (aa rfl hc)) (aU rfl (bn rfl rfl (fun h => gt rfl h)) (aM rfl (aG rfl rfl (fun hc => ar rfl) (aU rfl (bn rfl rfl (fun h => gt rfl h)) (aA rfl (aNn (aq ?_))))))))))
  refine aV [] [] rfl Tryz.results127 rfl ?_ (.inr rfl)
  refine ⟨⟨rfl, rfl⟩, _, rfl, fun hb => ?_⟩
  simp only [Bool.and_eq_true, decide_eq_true_eq] at hb; omega
theorem uA (o : ax) : Con Tryz.prog 67 [o.val] [o.ok] [] (YB (∀ s ∈ o.secs.l, s.bytes.size ≤ 1048576)) := by
 refine Con.enter Tryz.func67 rfl (by simp [Tryz.ntmps67]) ?_
 show awp _ _ _ _ ⟨[(0, true, _)], _, _⟩
 refine bd (ax.f_secs (.of (an 0 rfl))) (fun hlen => ?_)
 refine aSR ?_
 refine aj (q := true) rfl (bI rfl rfl rfl (fun b0_0 => ?_))
 refine aHN ?_
 refine aA rfl (aNn (aSR (aA rfl (aNn (aSR ?_)))))
 refine aU rfl (qFA (off := 0) rfl) ?_
 refine aU rfl (qFA (off := 1) rfl) ?_
 refine aU rfl (ab 0 tk50 rfl rfl rfl) (aU rfl (aZ Tryz.underlying50 rfl) (aU rfl (eE rfl rfl) (aM rfl ?_)))
 refine aG rfl rfl (fun hc => qFA (off := 0) rfl) ?_
 refine aG rfl rfl (fun hc => qFA (off := 1) (aa rfl hc)) ?_
 refine aG rfl rfl (fun hc => ab 0 tk50 (aa rfl hc) rfl rfl) (aG rfl rfl (fun hc => ar rfl) ?_)
 refine aQ (caps := []) [0] (false) (by kernel_rfl) _ rfl rfl (fun _ => rfl) (fun hc => (aI (aa rfl hc) (aI (aa rfl hc) rfl))) (fun hc => by rw [List.append_nil]; exact (jC o.secs 127 [] o.ok (fun s => s.bytes.size ≤ 1048576) (by kernel_rfl) (fun s hs => (uB s).pre fun p hp => (List.mem_singleton.1 hp) ▸ Ent.allm (ax.f_secsA (.of (an 0 rfl))) hs)).pre (eD (ax.f_secs (.of (an 0 rfl))) (.of (an 0 rfl)))) (fun c1 hc1 => ?_)
 refine aU rfl (bn rfl rfl (fun h => gt rfl h)) (aM rfl ?_)
 refine aG rfl rfl (fun hc => qFA (off := 0) rfl) ?_
 refine aG rfl rfl (fun hc => qFA (off := 1) (aa rfl hc)) ?_
 refine aG rfl rfl (fun hc => ab 0 tk50 (aa rfl hc) rfl rfl) ?_
 refine aQ (caps := []) [0] (false) (by kernel_rfl) _ rfl rfl (fun _ => rfl) (fun hc => (aI (aa rfl hc) (aI (aa rfl rfl) rfl))) (fun hc => by rw [List.append_nil]; exact (kC o.secs 132 [] o.ok (by kernel_rfl) (fun s hs => vq s _)).pre (eD (ax.f_secs (.of (an 0 rfl))) (.of (an 0 rfl)))) (fun c2 hc2 => ?_)
 refine aU rfl (bn rfl rfl (fun h => gt rfl h)) (aA rfl (aNn (aq ?_)))
 refine aV [] [] rfl Tryz.results67 rfl ?_ (.inr rfl)
 refine ⟨⟨rfl, rfl⟩, _, rfl, fun hb => ?_⟩
 simp at hb
 exact hc1 (by simp; omega) hb.1.2
theorem uo (k : Int) : Con Tryz.prog 135 [.int .i64 k] [] [] fun r ps hp => hp = [] ∧ ∃ l : Sl Int, r = l.val ∧ ps = [ShF eN l] := by
 refine Con.conv (R := fun r ps hp => ps = [] ∧ ∃ (ad : Option Addr) (zs : List Int), r = .slice ad zs.length zs.length ∧ hp = [bA (.slice ad zs.length zs.length) 3 1 (zs.map eN)]) ?_ fun _ _ _ ⟨h1, ad, zs, h2, h3⟩ => ?_
 rotate_left
 · subst h1 h2 h3
   exact ⟨_, _, (StE.share 0 (ShF eN ⟨ad, zs.length, zs⟩) rfl fun _ _ _ h => eF h).trans (StE.keep [0] [] rfl), rfl, ⟨ad, zs.length, zs⟩, rfl, rfl⟩
 refine Con.enter Tryz.func135 rfl (by simp [Tryz.ntmps135]) ?_
 show awp _ _ _ _ ⟨[(0, true, _)], _, _⟩
 refine aSR (aA rfl (aNs (aSR (aM rfl (aNn (aw (aSR (aU rfl (bB rfl rfl) (aA rfl (aNn ?_))))))))))
 refine ah _ rfl (fun h1 => ?_) (fun h1 => ?_)
 ·skip
  refine aSR ?_
  refine aj (q := true) rfl (cG (zs := [.int .i64 0]) (l := [(0, .const (.int .i64 0))]) el90 (by kernel_rfl) (by decide) (by decide) (by decide) rfl rfl rfl (.more rfl (.v rfl .nil) .nil) rfl rfl (fun v3_0 => ?_))
  refine aHN ?_
  refine aA rfl (aNn (aq (bj (aK ?_))))
  refine aV [] [0] rfl Tryz.results135 rfl ?_ (.inr rfl)
  exact ⟨rfl, v3_0, [0], rfl, rfl⟩
 ·skip
  refine aSR (aU rfl (bB rfl rfl) (aA rfl (aNn ?_)))
  refine ah _ rfl (fun h2 => ?_) (fun h2 => ?_)
  ·skip
   refine aSR ?_
   refine aj (q := true) rfl (cG (zs := [.int .i64 0]) (l := [(0, .const (.int .i64 1)), (1, .const (.int .i64 2))]) el90 (by kernel_rfl) (by decide) (by decide) (by decide) rfl rfl rfl (.more rfl (.v rfl .nil) (.more rfl (.v rfl .nil) .nil)) rfl rfl (fun v5_0 => ?_))
   refine aHN ?_
   refine aA rfl (aNn (aq (bj (aK ?_))))
   refine aV [] [0] rfl Tryz.results135 rfl ?_ (.inr rfl)
   exact ⟨rfl, v5_0, [1, 2], rfl, rfl⟩
  ·skip
   refine au (bu (av (aSR ?_)))
   refine aj (q := true) rfl (cG (zs := [.int .i64 0]) (l := [(0, .const (.int .i64 3)), (1, .const (.int .i64 4))]) el90 (by kernel_rfl) (by decide) (by decide) (by decide) rfl rfl rfl (.more rfl (.v rfl .nil) (.more rfl (.v rfl .nil) .nil)) rfl rfl (fun v6_0 => ?_))
   refine aHN ?_
   refine aA rfl (aNn (aq ?_))
   refine aV [] [0] rfl Tryz.results135 rfl ?_ (.inr rfl)
   exact ⟨rfl, v6_0, [3, 4], rfl, rfl⟩
theorem ub (b : Nat) (o : ax) (s : bg) : Con Tryz.prog 133 [s.val, .pointer (some ⟨b, 0, none⟩)] [At b 0 o.row, o.ok, s.ok] [] (YB ((s.sec = -1 ∧ s.bind ≠ 0) ∨ (0 ≤ s.sec ∧ s.sec < o.secs.l.length))) := by
 refine Con.enter Tryz.func133 rfl (by simp [Tryz.ntmps133]) ?_
 show awp _ _ _ _ ⟨[(0, true, _), (1, true, _)], _, _⟩
 refine eR (bg.f_name (.of (an 2 rfl))) (fun hnl => ?_)
 refine eR (bg.f_version (.of (an 2 rfl))) (fun hvl => ?_)
 refine bd (ax.f_secs (.of (an 1 rfl))) (fun hlen => ?_)
 refine aSR ?_
 refine aj (q := true) rfl (bI rfl rfl rfl (fun b0_0 => ?_))
 refine aHN ?_
 refine aA rfl (aNn (aSR ?_))
 refine aU rfl (qFA (off := 0) rfl) ?_
 refine aU rfl (ab 0 tk9 rfl rfl rfl) ?_
 refine aQ (caps := []) [] (false) (by kernel_rfl) true rfl rfl (fun _ => rfl) (fun hc => rfl) (fun hc => by rw [List.append_nil]; exact eY _ hnl) (fun c1 hc1 => ?_)
 refine aM rfl ?_
 refine aG rfl rfl (fun hc => qFA (off := 1) rfl) ?_
 refine aG rfl rfl (fun hc => ab 0 tk9 (aa rfl hc) rfl rfl) (aG rfl rfl (fun hc => cZ (aa rfl hc) rfl) (aG rfl rfl (fun hc => ar (aa rfl hc)) ?_))
 refine aG rfl rfl (fun hc => qFA (off := 1) rfl) ?_
 refine aG rfl rfl (fun hc => ab 0 tk9 (aa rfl hc) rfl rfl) ?_
 refine aQ (caps := []) [] (false) (by kernel_rfl) _ rfl rfl (fun _ => rfl) (fun hc => (aI (aa rfl hc) rfl)) (fun hc => by rw [List.append_nil]; exact eY _ hvl) (fun c2 hc2 => ?_)
 refine aG rfl rfl (fun hc => ct (aa rfl hc) rfl (fun h => gf hc h)) (aU rfl (bn rfl rfl (fun h => gt rfl h)) (aM rfl ?_))
 refine aG rfl rfl (fun hc => qFA (off := 3) rfl) ?_
 refine aG rfl rfl (fun hc => ab 0 tk3 (aa rfl hc) rfl rfl) ?_
 refine aG rfl rfl (fun hc => bw (by kernel_rfl) (aI (aa rfl hc) (aI (aa rfl rfl) rfl)) (fun w S fp hst => (cB _ _).quiet0 hst)) ?_
 refine aU rfl (bn rfl rfl (fun h => gt rfl h)) (aM rfl ?_)
 refine aG rfl rfl (fun hc => qFA (off := 4) rfl) ?_
 refine aG rfl rfl (fun hc => ab 0 tk3 (aa rfl hc) rfl rfl) ?_
 refine aG rfl rfl (fun hc => bw (by kernel_rfl) (aI (aa rfl hc) (aI (aa rfl rfl) rfl)) (fun w S fp hst => (cB _ _).quiet0 hst)) ?_
 refine aU rfl (bn rfl rfl (fun h => gt rfl h)) (aM rfl ?_)
 refine aG rfl rfl (fun hc => qFA (off := 5) rfl) ?_
 refine aG rfl rfl (fun hc => ab 0 tk3 (aa rfl hc) rfl rfl) ?_
 refine aG rfl rfl (fun hc => bw (by kernel_rfl) (aI (aa rfl hc) (aI (aa rfl rfl) rfl)) (fun w S fp hst => (cB _ _).quiet0 hst)) ?_
 refine aU rfl (bn rfl rfl (fun h => gt rfl h)) (aM rfl ?_)
 refine aG rfl rfl (fun hc => qFA (off := 7) rfl) ?_
 refine aG rfl rfl (fun hc => ab 0 tk3 (aa rfl hc) rfl rfl) (aG rfl rfl (fun hc => cL (aa rfl hc) rfl) (aU rfl (bn rfl rfl (fun h => gt rfl h)) (aM rfl ?_)))
 refine aG rfl rfl (fun hc => qFA (off := 8) rfl) ?_
 refine aG rfl rfl (fun hc => ab 0 tk3 (aa rfl hc) rfl rfl) (aG rfl rfl (fun hc => cL (aa rfl hc) rfl) (aU rfl (bn rfl rfl (fun h => gt rfl h)) (aA rfl (aNs (aw (aSR (aM rfl (aU rfl (bT rfl) (aA rfl (aNn ?_))))))))))
 refine ah _ rfl (fun h1 => ?_) (fun h1 => ?_)
 ·skip
  refine aSR (aA rfl (aNn (aq (bj (aK ?_)))))
  refine aV [] [] rfl Tryz.results133 rfl ?_ (.inr rfl)
  exact ⟨⟨rfl, rfl⟩, _, rfl, fun hb => by cases hb⟩
 ·skip
  refine aSR ?_
  refine aU rfl (qFA (off := 3) rfl) ?_
  refine aU rfl (ab 0 tk3 rfl rfl rfl) (aU rfl (bB rfl rfl) (aA rfl (aNn ?_)))
  refine ah _ rfl (fun h2 => ?_) (fun h2 => ?_)
  ·skip
   refine aSR ?_
   refine aU rfl (qFA (off := 6) rfl) ?_
   refine aU rfl (ab 0 tk3 rfl rfl rfl) (aU rfl (bB rfl rfl) (aM rfl ?_))
   refine aG rfl rfl (fun hc => qFA (off := 5) rfl) ?_
   refine aG rfl rfl (fun hc => ab 0 tk3 (aa rfl hc) rfl rfl) (aG rfl rfl (fun hc => bB (aa rfl hc) rfl) (aU rfl (bn rfl rfl (fun h => gt rfl h)) (aM rfl ?_)))
   refine aG rfl rfl (fun hc => qFA (off := 1) rfl) ?_
   refine aG rfl rfl (fun hc => ab 0 tk9 (aa rfl hc) rfl rfl) (aG rfl rfl (fun hc => cZ (aa rfl hc) rfl) (aU rfl (bn rfl rfl (fun h => gt rfl h)) (aM rfl ?_)))
   refine aG rfl rfl (fun hc => qFA (off := 2) rfl) ?_
   refine aG rfl rfl (fun hc => ab 0 tk4 (aa rfl hc) rfl rfl) (aG rfl rfl (fun hc => bT (aa rfl hc)) (aU rfl (bn rfl rfl (fun h => gt rfl h)) (aM rfl ?_)))
   refine aG rfl rfl (fun hc => qFA (off := 7) rfl) ?_
   refine aG rfl rfl (fun hc => ab 0 tk3 (aa rfl hc) rfl rfl) (aG rfl rfl (fun hc => bB (aa rfl hc) rfl) (aU rfl (bn rfl rfl (fun h => gt rfl h)) (aM rfl ?_)))
   refine aG rfl rfl (fun hc => qFA (off := 8) rfl) ?_
   refine aG rfl rfl (fun hc => ab 0 tk3 (aa rfl hc) rfl rfl) (aG rfl rfl (fun hc => cL (aa rfl hc) rfl) (aU rfl (bn rfl rfl (fun h => gt rfl h)) (aM rfl ?_)))
   refine aG rfl rfl (fun hc => qFA (off := 8) rfl) ?_
   refine aG rfl rfl (fun hc => ab 0 tk3 (aa rfl hc) rfl rfl) (aG rfl rfl (fun hc => eE (aa rfl hc) rfl) (aU rfl (bn rfl rfl (fun h => gt rfl h)) (aM rfl ?_)))
   refine aG rfl rfl (fun hc => qFA (off := 9) rfl) ?_
   refine aG rfl rfl (fun hc => ab 0 tk3 (aa rfl hc) rfl rfl) ?_
   refine aQ (caps := []) [] (false) (by kernel_rfl) _ rfl rfl (fun _ => rfl) (fun hc => (aI (aa rfl hc) rfl)) (fun hc => by rw [List.append_nil]; exact jZ _) (fun c3 hc3 => ?_)
   refine aU rfl (bn rfl rfl (fun h => gt rfl h)) (aA rfl (aNn (aq (bj (aK ?_)))))
   refine aV [] [] rfl Tryz.results133 rfl ?_ (.inr rfl)
   refine ⟨⟨rfl, rfl⟩, _, rfl, fun hb => .inl ?_⟩
   simp only [Bool.and_eq_true, decide_eq_true_eq] at hb h2; omega
  ·skip
   refine aSR ?_
   refine aU rfl (qFA (off := 6) rfl) ?_
   refine aU rfl (ab 0 tk3 rfl rfl rfl) (aU rfl (bB rfl rfl) (aA rfl (aNn ?_)))
   refine ah _ rfl (fun h3 => ?_) (fun h3 => ?_)
   ·skip
    refine aSR ?_
    refine aU rfl (qFA (off := 3) rfl) ?_
    refine aU rfl (ab 0 tk3 rfl rfl rfl) (aU rfl (cN rfl rfl) (aM rfl ?_))
    refine aG rfl rfl (fun hc => qFA (off := 2) rfl) ?_
    refine aG rfl rfl (fun hc => ab 0 tk4 (aa rfl hc) rfl rfl) (aG rfl rfl (fun hc => bT (aa rfl hc)) (aU rfl (bn rfl rfl (fun h => gt rfl h)) (aM rfl ?_)))
    refine aG rfl rfl (fun hc => qFA (off := 7) rfl) ?_
    refine aG rfl rfl (fun hc => ab 0 tk3 (aa rfl hc) rfl rfl) (aG rfl rfl (fun hc => bB (aa rfl hc) rfl) (aU rfl (bn rfl rfl (fun h => gt rfl h)) (aM rfl ?_)))
    refine aG rfl rfl (fun hc => qFA (off := 8) rfl) ?_
    refine aG rfl rfl (fun hc => ab 0 tk3 (aa rfl hc) rfl rfl) (aG rfl rfl (fun hc => bB (aa rfl hc) rfl) (aU rfl (bn rfl rfl (fun h => gt rfl h)) (aM rfl ?_)))
    refine aG rfl rfl (fun hc => qFA (off := 9) rfl) ?_
    refine aG rfl rfl (fun hc => ab 0 tk3 (aa rfl hc) rfl rfl) (aG rfl rfl (fun hc => bB (aa rfl hc) rfl) (aU rfl (bn rfl rfl (fun h => gt rfl h)) (aA rfl (aNn (aq (bj (aK ?_)))))))
    refine aV [] [] rfl Tryz.results133 rfl ?_ (.inr rfl)
    refine ⟨⟨rfl, rfl⟩, _, rfl, fun hb => .inl ?_⟩
    simp only [Bool.and_eq_true, Bool.not_eq_true', decide_eq_true_eq, decide_eq_false_iff_not] at hb h3; omega
   ·skip
    refine az ?_
    refine aX [] (by kernel_rfl) ?_
    show aB _ _ _ _ _ 23 #[false, false, false, false, false, false, false, false, false, false, false, false, false, false, false, false, false, false, false, false, false, false, false] _
    refine bV 0 rfl rfl (aN (o := 0) tk145 rfl (.of (an 0 rfl)) rfl) ?_
    refine bV 1 rfl rfl (qFA (off := 6) rfl) ?_
    refine bV 2 rfl rfl (ab 0 tk3 rfl rfl rfl) ?_
    refine bV 3 rfl rfl (qFA (off := 5) rfl) ?_
    refine bV 4 rfl rfl (ab 0 tk3 rfl rfl rfl) ?_
    refine bM (q := true) 5 rfl (by kernel_rfl) rfl rfl (bF [] [] (by kernel_rfl) rfl rfl rfl rfl (uo _) ?_)
    rintro _ _ _ ⟨rfl, kl, rfl, rfl⟩
    refine bST rfl ?_
    refine el (caps := []) 6 rfl (by kernel_rfl) [3, 1] (false) (by kernel_rfl) true rfl rfl (fun _ => rfl) (fun hc => rfl) (fun hc => by rw [List.append_nil]; exact jz o kl _) (fun c4 hc4 => ?_)
    refine bV 7 rfl rfl (bT rfl) ?_
    refine bV 8 rfl rfl (ar rfl) ?_
    refine bW 9 rfl rfl rfl (fun hc => qFA (off := 9) rfl) ?_
    refine bW 10 rfl rfl rfl (fun hc => ab 0 tk3 (aa rfl hc) rfl rfl) ?_
    refine bW 11 rfl rfl rfl (fun hc => cN (aa rfl hc) rfl) ?_
    refine bV 12 rfl rfl (ct rfl rfl (fun h => gf rfl h)) ?_
    refine bV 13 rfl rfl (ar rfl) ?_
    refine bW 14 rfl rfl rfl (fun hc => qFA (off := 2) rfl) ?_
    refine bW 15 rfl rfl rfl (fun hc => ab 0 tk4 (aa rfl hc) rfl rfl) ?_
    refine bW 16 rfl rfl rfl (fun hc => ar (aa rfl hc)) ?_
    refine bW 17 rfl rfl rfl (fun hc => qFA (off := 1) rfl) ?_
    refine bW 18 rfl rfl rfl (fun hc => ab 0 tk9 (aa rfl hc) rfl rfl) ?_
    refine bW 19 rfl rfl rfl (fun hc => cZ (aa rfl hc) rfl) ?_
    refine bW 20 rfl rfl rfl (fun hc => bn (aa rfl hc) rfl (fun h => gt hc h)) ?_
    refine bV 21 rfl rfl (ct rfl rfl (fun h => gf rfl h)) ?_
    refine bV 22 rfl rfl (bJ rfl) ?_
    refine bD (by kernel_rfl) ?_
    refine av ?_
    refine ah _ rfl (fun h4 => ?_) (fun h4 => ?_)
    ·skip
     refine aSR (aA rfl (aNn (aq (bj (aK ?_)))))
     refine aV [] [] rfl Tryz.results133 rfl ?_ (.inr rfl)
     exact ⟨⟨rfl, rfl⟩, _, rfl, fun hb => by cases hb⟩
    ·skip
     have c4 : 0 ≤ s.sec ∧ s.sec < o.secs.l.length := hc4 rfl (by simp at h4; exact h4.1.1)
     refine au (bu (av (aSR ?_)))
     refine aU rfl (qFA (off := 0) rfl) ?_
     refine aU rfl (qFA (off := 1) rfl) ?_
     refine aU rfl (aN (o := 1) tk50 rfl (.of (an 1 rfl)) rfl) ?_
     refine aU rfl (qFA (off := 6) rfl) ?_
     refine aU rfl (ab 0 tk3 rfl rfl rfl) ?_
     refine ck true rfl rfl (fun _ => ai Tryz.underlying50 tk85 rfl ((ax.f_secs (.of (an 2 rfl)))) rfl (cR (i := s.sec) (by omega) (by omega)) (by omega) rfl) (fun h => absurd h (by decide)) (fun ⟨b10_5, o10_5⟩ => ?_)
     refine aU rfl (qFA (off := 3) rfl) ?_
     refine aU rfl (aF (o := 3) tk3 rfl (an 0 rfl) rfl rfl) (aA rfl (aNn (aSR ?_)))
     refine aU rfl (qFA (off := 3) rfl) ?_
     refine aU rfl (ab 0 tk3 rfl rfl rfl) (aU rfl (cN rfl rfl) (aM rfl ?_))
     refine aG rfl rfl (fun hc => qFA (off := 1) rfl) ?_
     refine aG rfl rfl (fun hc => ab 0 tk9 (aa rfl hc) rfl rfl) (aG rfl rfl (fun hc => cZ (aa rfl hc) rfl) (aG rfl rfl (fun hc => ar (aa rfl hc)) ?_))
     refine aG rfl rfl (fun hc => qFA (off := 4) rfl) ?_
     refine aG rfl rfl (fun hc => ab 0 tk3 (aa rfl hc) rfl rfl) (aG rfl rfl (fun hc => bB (aa rfl hc) rfl) (aG rfl rfl (fun hc => bn (aa rfl hc) rfl (fun h => gt hc h)) (aU rfl (ct rfl rfl (fun h => gf rfl h)) (aA rfl (aNn (aSR (aM rfl (aM rfl ?_))))))))
     refine aG rfl rfl (fun hc => qFA (off := 7) rfl) ?_
     refine aG rfl rfl (fun hc => ab 0 tk3 (aa rfl hc) rfl rfl) (aG rfl rfl (fun hc => ar rfl) (aG rfl rfl (fun hc => eE (aa rfl hc) (aa rfl hc)) (aU rfl (bn rfl rfl (fun h => gt rfl h)) (aM rfl ?_))))
     refine aG rfl rfl (fun hc => qFA (off := 8) rfl) ?_
     refine aG rfl rfl (fun hc => ab 0 tk3 (aa rfl hc) rfl rfl) (aG rfl rfl (fun hc => ar rfl) ?_)
     refine aG rfl rfl (fun hc => qFA (off := 7) rfl) ?_
     refine aG rfl rfl (fun hc => ab 0 tk3 (aa rfl hc) rfl rfl) (aG rfl rfl (fun hc => qk (aa rfl hc) (aa rfl hc)) (aG rfl rfl (fun hc => eE (aa rfl hc) (aa rfl hc)) (aU rfl (bn rfl rfl (fun h => gt rfl h)) (aM rfl ?_))))
     refine aG rfl rfl (fun hc => qFA (off := 5) rfl) ?_
     refine aG rfl rfl (fun hc => ab 0 tk3 (aa rfl hc) rfl rfl) (aG rfl rfl (fun hc => cN (aa rfl hc) rfl) (aG rfl rfl (fun hc => ar (aa rfl hc)) ?_))
     refine aG rfl rfl (fun hc => qFA (off := 7) rfl) ?_
     refine aG rfl rfl (fun hc => ab 0 tk3 (aa rfl hc) rfl rfl) ?_
     refine aG rfl rfl (fun hc => eO (aa rfl hc) rfl (by decide)) ?_
     refine aG rfl rfl (fun hc => bB (aa rfl hc) rfl) (aG rfl rfl (fun hc => ct (aa rfl hc) rfl (fun h => gf hc h)) (aU rfl (bn rfl rfl (fun h => gt rfl h)) (aA rfl (aNn (aq ?_)))))
     refine aV [] [] rfl Tryz.results133 rfl ?_ (.inr rfl)
     exact ⟨⟨rfl, rfl⟩, _, rfl, fun _ => .inr c4⟩
theorem vd (s : bg) (p : Per) : Con Tryz.prog 138 [s.val] [p] [] (YN cj fun _ => True) := by
 refine Con.enter Tryz.func138 rfl (by simp [Tryz.ntmps138]) ?_
 show awp _ _ _ _ ⟨[(0, true, _)], _, _⟩
 refine aSR ?_
 refine aj (q := true) rfl (bI rfl rfl rfl (fun b0_0 => ?_))
 refine aHN ?_
 refine aj (q := true) rfl (bp (zs := [.string .empty, .string .empty]) (by kernel_rfl) rfl (fun b0_1 => ?_))
 refine aHN ?_
 refine aNn (aSR ?_)
 refine aU rfl (qFA (off := 0) rfl) ?_
 refine aU rfl (ab 0 tk9 rfl rfl rfl) ?_
 refine aU rfl (qFA (off := 1) rfl) ?_
 refine aU rfl (ab 0 tk9 rfl rfl rfl) ?_
 refine aU rfl (zG (l := [(0, .tmp 4), (1, .tmp 6)]) (zs := [.string .empty, .string .empty]) (sz := 1) (m := 2) (by kernel_rfl) (by kernel_rfl) rfl rfl rfl) ?_
 refine aj rfl (aT 1 tk230 rfl rfl rfl rfl ?_)
 refine aHK ?_
 refine aNn (aq ?_)
 refine ti [] [] rfl Tryz.results138 (cv 1 tk230 rfl rfl rfl) ?_ (.inr rfl)
 exact ⟨⟨rfl, rfl⟩, (s.name, s.version), rfl, trivial⟩
theorem tX (o : ax) : Con Tryz.prog 68 [o.val] [o.ok] [] (YB (∀ s ∈ o.syms.l, (s.sec = -1 ∧ s.bind ≠ 0) ∨ (0 ≤ s.sec ∧ s.sec < o.secs.l.length))) := by
 refine Con.enter Tryz.func68 rfl (by simp [Tryz.ntmps68]) ?_
 show awp _ _ _ _ ⟨[(0, true, _)], _, _⟩
 refine bd (ax.f_syms (.of (an 0 rfl))) (fun hlen => ?_)
 refine aSR ?_
 refine aj (q := true) rfl (bI rfl rfl rfl (fun b0_0 => ?_))
 refine aHN ?_
 refine aA rfl (aNn (aSR (aU rfl (dq (l := [.tmp 1]) rfl) (aA rfl (cr ?_)))))
 refine av (az (bL 0 rfl rfl ?_))
 show awp _ _ _ _ ⟨_, At _ 0 _ :: _, _⟩
 refine ae ?_
 refine aU rfl (qFA (off := 0) rfl) ?_
 refine aU rfl (qFA (off := 2) rfl) ?_
 refine aU rfl (aN (o := 2) tk51 rfl (.of (an 0 rfl)) rfl) (aU rfl (aZ Tryz.underlying51 rfl) (aU rfl (eE rfl rfl) (aM rfl ?_)))
 refine aG rfl rfl (fun hc => qFA (off := 0) rfl) ?_
 refine aG rfl rfl (fun hc => qFA (off := 2) (aa rfl hc)) ?_
 refine aG rfl rfl (fun hc => aN (o := 2) tk51 (aa rfl hc) (.of (an 0 rfl)) rfl) (aG rfl rfl (fun hc => ar rfl) ?_)
 refine aQ (caps := []) [1, 0] (false) (by kernel_rfl) _ rfl rfl (fun _ => rfl) (fun hc => (aI (aa rfl hc) (aI (aa rfl hc) rfl))) (fun hc => by rw [List.append_nil]; exact (j5 o.syms 133 [.pointer (some ⟨b0_0, 0, none⟩)] (cx (At b0_0 0 o.row) o.ok) _ (by kernel_rfl) (fun s hs => (ub b0_0 o s).pre (rY fw.left fw.right (.allm (ax.f_symsA fw.right) hs)))).pre (eD (ax.f_syms (.of (an 1 rfl))) (.mk2 (.of (an 0 rfl)) (.of (an 1 rfl))))) (fun c1 hc1 => ?_)
 refine aU rfl (bn rfl rfl (fun h => gt rfl h)) (aM rfl ?_)
 refine aG rfl rfl (fun hc => qFA (off := 0) rfl) ?_
 refine aG rfl rfl (fun hc => qFA (off := 2) (aa rfl hc)) ?_
 refine aG rfl rfl (fun hc => aN (o := 2) tk51 (aa rfl hc) (.of (an 0 rfl)) rfl) ?_
 refine aQ (caps := []) [0] (false) (by kernel_rfl) _ rfl rfl (fun _ => rfl) (fun hc => (aI (aa rfl hc) (aI (aa rfl rfl) rfl))) (fun hc => by rw [List.append_nil]; exact (k5 o.syms 138 [] o.ok (by kernel_rfl) (fun s hs => vd s _)).pre (eD (ax.f_syms (.of (an 0 rfl))) (.of (an 0 rfl)))) (fun c2 hc2 => ?_)
 refine aU rfl (bn rfl rfl (fun h => gt rfl h)) (aA rfl (aNn (aq ?_)))
 refine aV [] [] rfl Tryz.results68 rfl ?_ (.inr rfl)
 refine ⟨⟨rfl, rfl⟩, _, rfl, fun hb => ?_⟩
 simp at hb
 exact hc1 (by simp; omega) hb.1.2
end Go.Proofs.YtgmiihmahaahiaaGreatDoor

namespace Go.Sy
open Go.RowKit Go.Lp
section
variable {P : Program} {n : Fr} {s : Sta} {d : Option Tmp} {ty : TypeId} {pos : String} {af : Array Edge} {gd : Option (Nat × Bool)} {v : Value}
theorem oK {x : Operand} {U : TypeId} {ag : Bool} {k b p q : Nat} {row : List D} (o : Nat) (hk : tyk P U = some (ag, k)) (hx : ev s.env x = some (true, .pointer (some ⟨b, q, none⟩))) (hi : At b p row ∈ s.ps) (ho : q = p + o) (hv : rdD ag k row o = some v) :
   Quiet P n ⟨d, .load U x, ty, pos, af, gd⟩ s v := fun w S fp a hst he hn => by
 subst ho
 have h1 := he.val hx rfl
 have : (execOp a.eval ⟨d, .load U x, ty, pos, af, gd⟩).run P w = .ok (.value v) w := by
   unfold execOp; dsimp only; rw [h1]
   have := lu (P := P) hk hv (hst.per _ hi)
   show ((loadVar U ⟨b, p + o, none⟩).bind fun r => Sem.pure (Next.value r)).run P w = _
   rw [Sem.run_bind', this]; rfl
 rw [this]; exact bY _ _
theorem qG {cs : List Value} {o : Nat} {k : Nat} (h : cs[o]? = some v) : rdD false k (cs.map D.v) o = some v := by
 unfold rdD; simp [h]
end
end Go.Sy
namespace Go.Proofs.YtgmiihmahaahiaaGreatDoor
open Go.RowKit Go.Lp Go.Sy
open Go.Proofs.Tryz
attribute [local irreducible] aL aB awp aC fwp
theorem gV (n : Int) : Con Tryz.prog 302 [.int .i64 n, .int .i64 32, .bool true] [] [] (YB True) := by
 refine Con.enter Tryz.func302 rfl (by simp [Tryz.ntmps302]) ?_
 show awp _ _ _ _ ⟨[(0, true, _), (1, true, _), (2, true, _)], _, _⟩
 refine aSR (aA rfl (aNs (aw (aSR (aM rfl (aU rfl (bt rfl rfl) (aM rfl (aG rfl rfl (fun hc => ar rfl) (aG rfl rfl (fun hc => du (aa rfl hc) rfl) (aU rfl (ct rfl rfl (fun h => gf rfl h)) (aA rfl (aNn ?_))))))))))))
 refine ah _ rfl (fun h1 => ?_) (fun h1 => ?_)
 ·skip
  refine aSR (aA rfl (aNn (aq (bj (aK ?_)))))
  refine aV [] [] rfl Tryz.results302 rfl ?_ (.inr rfl)
  exact ⟨⟨rfl, rfl⟩, _, rfl, fun _ => trivial⟩
 ·skip
  refine aSR (aM rfl (aA rfl (aNn ?_)))
  refine ah _ rfl (fun h2 => ?_) (fun h2 => ?_)
  ·skip
   refine aSR (aM rfl (aM rfl ?_))
   refine aU rfl (dX rfl rfl (by omega)) ?_
   refine aU rfl (nX rfl rfl (by decide)) ?_
   refine aU rfl (bB rfl rfl) (aM rfl (aG rfl rfl (fun hc => ar rfl) (aG rfl rfl (fun hc => ar rfl) ?_)))
   refine aG rfl rfl (fun hc => dX (aa rfl hc) rfl (by (first | omega | (simp at hc; omega)))) ?_
   refine aG rfl rfl (fun hc => nX (aa rfl hc) (aa rfl hc) (by decide)) ?_
   refine aG rfl rfl (fun hc => bB (aa rfl hc) rfl) (aU rfl (ct rfl rfl (fun h => gf rfl h)) (aA rfl (aNn (aq (bj (aK ?_))))))
   refine aV [] [] rfl Tryz.results302 rfl ?_ (.inr rfl)
   exact ⟨⟨rfl, rfl⟩, _, rfl, fun _ => trivial⟩
  ·skip
   refine au (bu (av (aSR (aM rfl (aU rfl (cL rfl rfl) (aM rfl (aG rfl rfl (fun hc => ar rfl) (aG rfl rfl (fun hc => cL (aa rfl hc) rfl) (aG rfl rfl (fun hc => ar (aa rfl hc)) (aG rfl rfl (fun hc => ar rfl) (aG rfl rfl (fun hc => ar rfl) ?_)))))))))))
   refine aG rfl rfl (fun hc => nX (aa rfl hc) (aa rfl hc) (by decide)) ?_
   refine aG rfl rfl (fun hc => bB (aa rfl hc) rfl) (aG rfl rfl (fun hc => ct (aa rfl hc) rfl (fun h => gf hc h)) (aU rfl (bn rfl rfl (fun h => gt rfl h)) (aA rfl (aNn (aq ?_)))))
   refine aV [] [] rfl Tryz.results302 rfl ?_ (.inr rfl)
   exact ⟨⟨rfl, rfl⟩, _, rfl, fun _ => trivial⟩
abbrev vH (op a b c m : Int) : List Value := [.int .i64 op, .int .i64 a, .int .i64 b, .int .i64 c, .int .i64 m]
theorem xX (op a b c m : Int) : Con Tryz.prog 273 [.agg (vH op a b c m).toArray] [] [] (YB True) := by
 refine Con.enter Tryz.func273 rfl (by simp [Tryz.ntmps273]) ?_
 show awp _ _ _ _ ⟨[(0, true, _)], _, _⟩
 refine aSR ?_
 refine aj (q := true) rfl (bI rfl rfl rfl (fun b0_0 => ?_))
 refine aHN ?_
 refine aA rfl (aNn (aSR ?_))
 refine aU rfl (qFA (off := 4) rfl) ?_
 refine aU rfl (ab 0 tk3 rfl rfl rfl) ?_
 refine aU rfl (eO rfl rfl (by decide)) ?_
 refine aU rfl (bB rfl rfl) (aA rfl (aNs (aSR ?_)))
 refine aU rfl (qFA (off := 0) rfl) ?_
 refine aU rfl (ab 0 tk3 rfl rfl rfl) (aNn (aw (az (aSR (aU rfl (bB rfl rfl) (aA rfl (aNn ?_)))))))
 refine ah _ rfl (fun h1 => ?_) (fun h1 => ?_)
 ·skip
  refine au (av ?_)
  refine ah _ rfl (fun _ => ?_) (fun h => absurd (h1.symm.trans h) (by decide))
  refine aSR (aM rfl (aM rfl ?_))
  refine aG rfl rfl (fun hc => qFA (off := 4) rfl) ?_
  refine aG rfl rfl (fun hc => ab 0 tk3 (aa rfl hc) rfl rfl) ?_
  refine aQ (caps := []) [] (false) (by kernel_rfl) _ rfl rfl (fun _ => rfl) (fun hc => (aI (aa rfl hc) (aI (aa rfl rfl) (aI (aa rfl rfl) rfl)))) (fun hc => by rw [List.append_nil]; exact gV _) (fun c1 hc1 => ?_)
  refine aU rfl (bn rfl rfl (fun h => gt rfl h)) (aA rfl (aNn (aq (bj (aK ?_)))))
  refine aV [] [] rfl Tryz.results273 rfl ?_ (.inr rfl)
  exact ⟨⟨rfl, rfl⟩, _, rfl, fun _ => trivial⟩
 ·skip
  refine aSR (aU rfl (bB rfl rfl) (aA rfl (aNn ?_)))
  refine ah _ rfl (fun h2 => ?_) (fun h2 => ?_)
  ·skip
   refine au (av ?_)
   refine ah _ rfl (fun _ => ?_) (fun h => absurd (h2.symm.trans h) (by decide))
   refine aSR (aM rfl (aM rfl ?_))
   refine aG rfl rfl (fun hc => qFA (off := 4) rfl) ?_
   refine aG rfl rfl (fun hc => ab 0 tk3 (aa rfl hc) rfl rfl) ?_
   refine aQ (caps := []) [] (false) (by kernel_rfl) _ rfl rfl (fun _ => rfl) (fun hc => (aI (aa rfl hc) (aI (aa rfl rfl) (aI (aa rfl rfl) rfl)))) (fun hc => by rw [List.append_nil]; exact gV _) (fun c1 hc1 => ?_)
   refine aU rfl (bn rfl rfl (fun h => gt rfl h)) (aA rfl (aNn (aq (bj (aK ?_)))))
   refine aV [] [] rfl Tryz.results273 rfl ?_ (.inr rfl)
   exact ⟨⟨rfl, rfl⟩, _, rfl, fun _ => trivial⟩
  ·skip
   refine aSR (aU rfl (bB rfl rfl) (aA rfl (aNn ?_)))
   refine ah _ rfl (fun h3 => ?_) (fun h3 => ?_)
   ·skip
    refine au (av ?_)
    refine ah _ rfl (fun _ => ?_) (fun h => absurd (h3.symm.trans h) (by decide))
    refine aSR (aM rfl (aM rfl ?_))
    refine aG rfl rfl (fun hc => qFA (off := 4) rfl) ?_
    refine aG rfl rfl (fun hc => ab 0 tk3 (aa rfl hc) rfl rfl) ?_
    refine aQ (caps := []) [] (false) (by kernel_rfl) _ rfl rfl (fun _ => rfl) (fun hc => (aI (aa rfl hc) (aI (aa rfl rfl) (aI (aa rfl rfl) rfl)))) (fun hc => by rw [List.append_nil]; exact gV _) (fun c1 hc1 => ?_)
    refine aU rfl (bn rfl rfl (fun h => gt rfl h)) (aA rfl (aNn (aq (bj (aK ?_)))))
    refine aV [] [] rfl Tryz.results273 rfl ?_ (.inr rfl)
    exact ⟨⟨rfl, rfl⟩, _, rfl, fun _ => trivial⟩
   ·skip
    refine aSR (aU rfl (bB rfl rfl) (aA rfl (aNn ?_)))
    refine ah _ rfl (fun h4 => ?_) (fun h4 => ?_)
    ·skip
     refine au (av ?_)
     refine ah _ rfl (fun _ => ?_) (fun h => absurd (h4.symm.trans h) (by decide))
     refine aSR (aM rfl (aM rfl ?_))
     refine aG rfl rfl (fun hc => qFA (off := 4) rfl) ?_
     refine aG rfl rfl (fun hc => ab 0 tk3 (aa rfl hc) rfl rfl) ?_
     refine aQ (caps := []) [] (false) (by kernel_rfl) _ rfl rfl (fun _ => rfl) (fun hc => (aI (aa rfl hc) (aI (aa rfl rfl) (aI (aa rfl rfl) rfl)))) (fun hc => by rw [List.append_nil]; exact gV _) (fun c1 hc1 => ?_)
     refine aU rfl (bn rfl rfl (fun h => gt rfl h)) (aA rfl (aNn (aq (bj (aK ?_)))))
     refine aV [] [] rfl Tryz.results273 rfl ?_ (.inr rfl)
     exact ⟨⟨rfl, rfl⟩, _, rfl, fun _ => trivial⟩
    ·skip
     refine ae (aU rfl (bB rfl rfl) (aA rfl (aNn ?_)))
     refine ah _ rfl (fun h5 => ?_) (fun h5 => ?_)
     ·skip
      refine aSR (aM rfl (aM rfl ?_))
      refine aG rfl rfl (fun hc => qFA (off := 4) rfl) ?_
      refine aG rfl rfl (fun hc => ab 0 tk3 (aa rfl hc) rfl rfl) ?_
      refine aQ (caps := []) [] (false) (by kernel_rfl) _ rfl rfl (fun _ => rfl) (fun hc => (aI (aa rfl hc) (aI (aa rfl rfl) (aI (aa rfl rfl) rfl)))) (fun hc => by rw [List.append_nil]; exact gV _) (fun c1 hc1 => ?_)
      refine aU rfl (bn rfl rfl (fun h => gt rfl h)) (aA rfl (aNn (aq (bj (aK ?_)))))
      refine aV [] [] rfl Tryz.results273 rfl ?_ (.inr rfl)
      exact ⟨⟨rfl, rfl⟩, _, rfl, fun _ => trivial⟩
     ·skip
      refine aSR (aU rfl (bB rfl rfl) (aA rfl (aNn ?_)))
      refine ah _ rfl (fun h6 => ?_) (fun h6 => ?_)
      ·skip
       refine aSR (aM rfl (aM rfl ?_))
       refine aG rfl rfl (fun hc => qFA (off := 4) rfl) ?_
       refine aG rfl rfl (fun hc => ab 0 tk3 (aa rfl hc) rfl rfl) (aG rfl rfl (fun hc => cL (aa rfl hc) rfl) (aU rfl (bn rfl rfl (fun h => gt rfl h)) (aM rfl ?_)))
       refine aG rfl rfl (fun hc => qFA (off := 4) rfl) ?_
       refine aG rfl rfl (fun hc => ab 0 tk3 (aa rfl hc) rfl rfl) (aG rfl rfl (fun hc => eE (aa rfl hc) rfl) (aU rfl (bn rfl rfl (fun h => gt rfl h)) (aA rfl (aNn (aq (bj (aK ?_)))))))
       refine aV [] [] rfl Tryz.results273 rfl ?_ (.inr rfl)
       exact ⟨⟨rfl, rfl⟩, _, rfl, fun _ => trivial⟩
      ·skip
       refine aSR (aU rfl (bB rfl rfl) (aA rfl (aNn ?_)))
       refine ah _ rfl (fun h7 => ?_) (fun h7 => ?_)
       ·skip
        refine aSR ?_
        refine aU rfl (qFA (off := 4) rfl) ?_
        refine aU rfl (ab 0 tk3 rfl rfl rfl) (aU rfl (cL rfl rfl) (aM rfl ?_))
        refine aG rfl rfl (fun hc => qFA (off := 4) rfl) ?_
        refine aG rfl rfl (fun hc => ab 0 tk3 (aa rfl hc) rfl rfl) (aG rfl rfl (fun hc => bt (aa rfl hc) rfl) (aU rfl (bn rfl rfl (fun h => gt rfl h)) (aA rfl (aNn (aq (bj (aK ?_)))))))
        refine aV [] [] rfl Tryz.results273 rfl ?_ (.inr rfl)
        exact ⟨⟨rfl, rfl⟩, _, rfl, fun _ => trivial⟩
       ·skip
        refine au (bu (av (aSR ?_)))
        refine aU rfl (qFA (off := 4) rfl) ?_
        refine aU rfl (ab 0 tk3 rfl rfl rfl) ?_
        refine aQ (caps := []) [] (false) (by kernel_rfl) true rfl rfl (fun _ => rfl) (fun hc => rfl) (fun hc => by rw [List.append_nil]; exact gV _) (fun c2 hc2 => ?_)
        refine aA rfl (aNn (aq ?_))
        refine aV [] [] rfl Tryz.results273 rfl ?_ (.inr rfl)
        exact ⟨⟨rfl, rfl⟩, _, rfl, fun _ => trivial⟩
def sD (ch : UInt8) : Nat := if ch = 65 then 1 else if ch = 66 then 2 else if ch = 67 then 3 else 4
theorem w5 (a b : UInt8) : ((a.toNat : Int) = b.toNat) ↔ a = b := by
 rw [← UInt8.toNat_inj]; omega
theorem ud (b : Nat) (ch : UInt8) : Con Tryz.prog 274 [.pointer (some ⟨b, 0, none⟩), .int .u8 ch.toNat] [] [] fun r _ _ => r = .pointer (some ⟨b, sD ch, none⟩) := by
 have e1 := w5 ch 65
 have e2 := w5 ch 66
 have e3 := w5 ch 67
 refine Con.enter Tryz.func274 rfl (by simp [Tryz.ntmps274]) ?_
 show awp _ _ _ _ ⟨[(0, true, _), (1, true, _)], _, _⟩
 refine aSR (aA rfl (aNs (aSR (aM rfl (aNn (aw (aSR (aU rfl (bB rfl rfl) (aA rfl (aNn ?_))))))))))
 refine ah _ rfl (fun h1 => ?_) (fun h1 => ?_)
 ·skip
  refine aSR (aM rfl (aU rfl (bq rfl) ?_))
  refine aU rfl (qFA (off := 1) rfl) ?_
  refine aA rfl (aNn (aq (bj (aK ?_))))
  refine aV [] [] rfl Tryz.results274 rfl ?_ (.inr rfl)
  have g1 := e1.symm.trans (show ((ch.toNat : Int) = (65 : UInt8).toNat ↔ (ch.toNat : Int) = 65) from Iff.rfl)
  have g2 := e2.symm.trans (show ((ch.toNat : Int) = (66 : UInt8).toNat ↔ (ch.toNat : Int) = 66) from Iff.rfl)
  have g3 := e3.symm.trans (show ((ch.toNat : Int) = (67 : UInt8).toNat ↔ (ch.toNat : Int) = 67) from Iff.rfl)
  simp only [decide_eq_true_eq, decide_eq_false_iff_not] at *
  unfold sD
  simp_all
 ·skip
  refine aSR (aU rfl (bB rfl rfl) (aA rfl (aNn ?_)))
  refine ah _ rfl (fun h2 => ?_) (fun h2 => ?_)
  ·skip
   refine aSR (aM rfl (aU rfl (bq rfl) ?_))
   refine aU rfl (qFA (off := 2) rfl) ?_
   refine aA rfl (aNn (aq (bj (aK ?_))))
   refine aV [] [] rfl Tryz.results274 rfl ?_ (.inr rfl)
   have g1 := e1.symm.trans (show ((ch.toNat : Int) = (65 : UInt8).toNat ↔ (ch.toNat : Int) = 65) from Iff.rfl)
   have g2 := e2.symm.trans (show ((ch.toNat : Int) = (66 : UInt8).toNat ↔ (ch.toNat : Int) = 66) from Iff.rfl)
   have g3 := e3.symm.trans (show ((ch.toNat : Int) = (67 : UInt8).toNat ↔ (ch.toNat : Int) = 67) from Iff.rfl)
   simp only [decide_eq_true_eq, decide_eq_false_iff_not] at *
   unfold sD
   simp_all
  ·skip
   refine aSR (aU rfl (bB rfl rfl) (aA rfl (aNn ?_)))
   refine ah _ rfl (fun h3 => ?_) (fun h3 => ?_)
   ·skip
    refine aSR (aM rfl (aU rfl (bq rfl) ?_))
    refine aU rfl (qFA (off := 3) rfl) ?_
    refine aA rfl (aNn (aq (bj (aK ?_))))
    refine aV [] [] rfl Tryz.results274 rfl ?_ (.inr rfl)
    have g1 := e1.symm.trans (show ((ch.toNat : Int) = (65 : UInt8).toNat ↔ (ch.toNat : Int) = 65) from Iff.rfl)
    have g2 := e2.symm.trans (show ((ch.toNat : Int) = (66 : UInt8).toNat ↔ (ch.toNat : Int) = 66) from Iff.rfl)
    have g3 := e3.symm.trans (show ((ch.toNat : Int) = (67 : UInt8).toNat ↔ (ch.toNat : Int) = 67) from Iff.rfl)
    simp only [decide_eq_true_eq, decide_eq_false_iff_not] at *
    unfold sD
    simp_all
   ·skip
    refine au (bu (av (aSR (aM rfl (aU rfl (bq rfl) ?_)))))
    refine aU rfl (qFA (off := 4) rfl) ?_
    refine aA rfl (aNn (aq ?_))
    refine aV [] [] rfl Tryz.results274 rfl ?_ (.inr rfl)
    have g1 := e1.symm.trans (show ((ch.toNat : Int) = (65 : UInt8).toNat ↔ (ch.toNat : Int) = 65) from Iff.rfl)
    have g2 := e2.symm.trans (show ((ch.toNat : Int) = (66 : UInt8).toNat ↔ (ch.toNat : Int) = 66) from Iff.rfl)
    have g3 := e3.symm.trans (show ((ch.toNat : Int) = (67 : UInt8).toNat ↔ (ch.toNat : Int) = 67) from Iff.rfl)
    simp only [decide_eq_true_eq, decide_eq_false_iff_not] at *
    unfold sD
    simp_all
theorem sN (s : ByteArray) (c : UInt8) (w : World) : (Extern.BytealgIndexByte.indexByte #[.string s, .int .u8 c.toNat]).run Tryz.prog w = .ok (.int .i64 (Lib.indexByte s.data.toList c)) w := by
 have := Lib.run_indexByteString (P := Tryz.prog) s (c.toNat : Int) w
 rwa [show ((c.toNat : Int).toNat).toUInt8 = c by simp] at this
theorem ss (s : ByteArray) (c : UInt8) : Con Tryz.prog 303 [.string s, .int .u8 c.toNat] [] [] fun r _ _ => r = .int .i64 (Lib.indexByte s.data.toList c) := by
 refine Con.enter Tryz.func303 rfl (by simp [Tryz.ntmps303]) ?_
 show awp _ _ _ _ ⟨[(0, true, _), (1, true, _)], _, _⟩
 refine aSR (aA rfl (aNn (aSR (aM rfl (aM rfl ?_)))))
 refine aU rfl (yT (vs := _) Tryz.func310 rfl rfl (by kernel_rfl) (by kernel_rfl) rfl (fun w => sN s c w)) ?_
 refine aA rfl (aNn (aq ?_))
 refine aV [] [] rfl Tryz.results303 rfl ?_ (.inr rfl)
 rfl
theorem vp (s : ByteArray) (c : UInt8) : Con Tryz.prog 275 [.string s, .int .u8 c.toNat] [] [] fun r _ _ => r = .int .i64 (Lib.indexByte s.data.toList c) := by
 refine Con.enter Tryz.func275 rfl (by simp [Tryz.ntmps275]) ?_
 show awp _ _ _ _ ⟨[(0, true, _), (1, true, _)], _, _⟩
 refine aSR (aA rfl (aNn (aSR (aM rfl (aM rfl ?_)))))
 refine aU rfl (bw (by kernel_rfl) rfl (fun w S fp hst => (ss s c).quiet0 hst)) ?_
 refine aA rfl (aNn (aq ?_))
 refine aV [] [] rfl Tryz.results275 rfl ?_ (.inr rfl)
 rfl
def aat : List UInt8 := [65, 66, 67, 73]
def dT : Per := At 0 0 (ml.map D.v)
def qa : List (List D) := [[.v (.int .u8 65)], [.v (.int .u8 66)], [.v (.int .u8 67)], [.v (.int .u8 73)]]
theorem wO {k : Nat} (hk : k < 4) : ∃ ch, aat[k]? = some ch ∧ qa[k]? = some [.v (.int .u8 ch.toNat)] := by
 have : k = 0 ∨ k = 1 ∨ k = 2 ∨ k = 3 := by omega
 rcases this with rfl | rfl | rfl | rfl <;> exact ⟨_, rfl, rfl⟩
def z6 (op a b c m : Int) (ch : UInt8) : Int := if ch = 65 then a else if ch = 66 then b else if ch = 67 then c else m
theorem wi (op a b c m : Int) (ch : UInt8) : (vH op a b c m)[sD ch]? = some (.int .i64 (z6 op a b c m ch)) := by
 unfold sD z6
 split
 · rfl
 · split
   · rfl
   · split <;> rfl
theorem se (op a b c m : Int) : Con Tryz.prog 227 [.agg (vH op a b c m).toArray] [dT] [] (YB True) := by
 refine Con.enter Tryz.func227 rfl (by simp [Tryz.ntmps227]) ?_
 show awp _ _ _ _ ⟨[(0, true, _)], _, _⟩
 refine aSR ?_
 refine aj (q := true) rfl (bI rfl rfl rfl (fun b0_0 => ?_))
 refine aHN ?_
 refine aA rfl (aNs (aSR ?_))
 refine aU rfl (qFA (off := 0) rfl) ?_
 refine aU rfl (ab 0 tk3 rfl rfl rfl) (aU rfl (eE rfl rfl) (aM rfl ?_))
 refine aG rfl rfl (fun hc => qFA (off := 0) rfl) ?_
 refine aG rfl rfl (fun hc => ab 0 tk3 (aa rfl hc) rfl rfl) (aG rfl rfl (fun hc => cL (aa rfl hc) rfl) (aU rfl (ct rfl rfl (fun h => gf rfl h)) (aM rfl (aG rfl rfl (fun hc => ab 0 tk233 rfl rfl rfl) ?_))))
 refine aQ (caps := []) [] (false) (by kernel_rfl) _ rfl rfl (fun _ => rfl) (fun hc => (aI (aa rfl hc) rfl)) (fun hc => by rw [List.append_nil]; exact xX _ _ _ _ _) (fun c1 hc1 => ?_)
 refine aG rfl rfl (fun hc => bT (aa rfl hc)) (aU rfl (ct rfl rfl (fun h => gf rfl h)) (aNn ?_))
 refine ah _ rfl (fun h1 => ?_) (fun h1 => ?_)
 ·skip
  refine aSR (aA rfl (aNn (aq (aK ?_))))
  refine aV [] [] rfl Tryz.results227 rfl ?_ (.inr rfl)
  exact ⟨⟨rfl, rfl⟩, _, rfl, fun _ => trivial⟩
 ·skip
  have hop : op < 31 ∧ 0 < op := by simp at h1; omega
  obtain ⟨k0, rfl⟩ := Int.eq_ofNat_of_zero_le (show 0 ≤ op by omega)
  refine au (av (az (aSR ?_)))
  refine aj (q := true) rfl (cG (zs := [.int .u8 0]) (l := [(0, .const (.int .u8 65)), (1, .const (.int .u8 66)), (2, .const (.int .u8 67)), (3, .const (.int .u8 73))]) el280 (by kernel_rfl) (by decide) (by decide) (by decide) rfl rfl rfl (.more rfl (.v rfl .nil) (.more rfl (.v rfl .nil) (.more rfl (.v rfl .nil) (.more rfl (.v rfl .nil) .nil)))) rfl rfl (fun v3_0 => ?_))
  refine aHN ?_
  refine aj rfl (x5 1 Tryz.underlying280 Tryz.underlying5 rfl rfl rfl (by simp) ?_)
  refine aHK ?_
  refine aU rfl (aZ Tryz.underlying280 rfl) (aM rfl (aNn (aw (aP [1, 21, 22, 23] [1, 0] [0] (fun (k : Nat) s => k ≤ 4 ∧ s = ⟨[(1, true, .pointer (some ⟨b0_0, 0, none⟩)), (21, true, .slice v3_0 4 4), (22, true, .int .i64 (4 : Nat)), (23, true, .int .i64 k)], [Sh (.slice v3_0 4 4) (.sl qa), dT], [Box b0_0 233 (vH k0 a b c m)]⟩) (fun k => 4 - k) rfl (⟨0, Nat.zero_le _, rfl⟩) ?_))))
  rintro k s ⟨hk, rfl⟩
  refine aSR (aU rfl (bt rfl rfl) (aNs ?_))
  refine ah _ rfl (fun h2 => ?_) (fun h2 => ?_)
  ·skip
   have hk' : k < 4 := by simp at h2; omega
   obtain ⟨ch, hch, hrow⟩ := wO hk'
   refine au (av (az (aw (aSR ?_))))
   refine ck true rfl rfl (fun _ => kM Tryz.underlying280 tk5 rfl (an 0 rfl) rfl (row := [.v (.int .u8 ch.toNat)]) hrow rfl rfl) (fun h => absurd h (by decide)) (fun ⟨b5_0, o5_0⟩ => ?_)
   refine aU rfl (aF (o := 0) (v := .int .u8 ch.toNat) tk5 rfl (an 0 rfl) rfl rfl) (aA rfl (aNn (aSR (aM rfl ?_))))
   refine aU rfl (bw (by kernel_rfl) rfl (fun w S fp hst => (ud b0_0 ch).quiet0 hst)) ?_
   refine aU rfl (bq rfl) (aU rfl (ab 0 tk3 rfl rfl (wi k0 a b c m ch)) (aA rfl (aNn (aSR ?_))))
   refine aU rfl (qFA (off := 0) rfl) ?_
   refine aU rfl (ab 0 tk3 rfl rfl rfl) ?_
   refine aU rfl (dx (k0) Tryz.underlying344 tk343 rfl rfl (rfl) ((by omega))) ?_
   refine aU rfl (qFA (off := 1) rfl) ?_
   refine aU rfl (oK (k0 * 4 + 1) tk9 rfl (an 2 rfl) (by omega) (qG (rG (by omega)))) ?_
   refine aM rfl ?_
   refine aU rfl (bw (by kernel_rfl) rfl (fun w S fp hst => (vp _ ch).quiet0 hst)) ?_
   refine aU rfl (cL rfl rfl) (aA rfl (aNn (aSR (aM rfl (aU rfl (bT rfl) (aM rfl (aG rfl rfl (fun hc => ar rfl) (aG rfl rfl (fun hc => cN (aa rfl hc) rfl) (aU rfl (bn rfl rfl (fun h => gt rfl h)) (aM rfl (aG rfl rfl (fun hc => ar rfl) (aG rfl rfl (fun hc => cN (aa rfl hc) rfl) (aG rfl rfl (fun hc => ar (aa rfl hc)) ?_)))))))))))))
   refine aG rfl rfl (fun hc => ar rfl) (aG rfl rfl (fun hc => bt (aa rfl hc) rfl) (aG rfl rfl (fun hc => ar (aa rfl hc)) (aG rfl rfl (fun hc => ar rfl) (aG rfl rfl (fun hc => du (aa rfl hc) rfl) (aG rfl rfl (fun hc => ct (aa rfl hc) rfl (fun h => gf hc h)) (aG rfl rfl (fun hc => bn (aa rfl hc) rfl (fun h => gt hc h)) (aU rfl (ct rfl rfl (fun h => gf rfl h)) (aNn ?_))))))))
   refine ah _ rfl (fun h3 => ?_) (fun h3 => ?_)
   ·skip
    refine aSR (aA rfl (aNn (aq (bj (aK (aK (bj (aK ?_))))))))
    refine aV [] [] rfl Tryz.results227 rfl ?_ (.inr rfl)
    exact ⟨⟨rfl, rfl⟩, _, rfl, fun _ => trivial⟩
   ·skip
    refine au (bu (av (ae ?_)))
    refine aU rfl (bf rfl rfl (by omega)) ?_
    refine aM rfl (aNn ?_)
    refine ⟨[1, 21, 22, 23], [1, 0], [0], rfl, ?_⟩
    exact ⟨k + 1, ⟨by omega, rfl⟩, by omega⟩
  ·skip
   refine aR (aS (aS (aY (av (aSR (aA rfl (aNn (aq ?_))))))))
   refine aV [] [] rfl Tryz.results227 rfl ?_ (.inr rfl)
   exact ⟨⟨rfl, rfl⟩, _, rfl, fun _ => trivial⟩
theorem qU (s : ByteArray) (hs : s.size ≤ maxLen) (at_ : Int) : Con Tryz.prog 272 [.string s, .int .i64 at_, .int .i64 4] [] [] (fun r _ _ => r = .bool (decide (at_ ≥ 0) && decide (at_ ≤ s.size - 4))) := by
 have hs' : s.size ≤ 9223372036854775807 := hs
 refine Con.enter Tryz.func272 rfl (by simp [Tryz.ntmps272]) ?_
 show awp _ _ _ _ ⟨[(0, true, _), (1, true, _), (2, true, _)], _, _⟩
 refine aSR (aA rfl (aNs (aSR (aM rfl (aNn (aw (az (aSR (aU rfl (bB rfl rfl) (aA rfl (aNn ?_)))))))))))
 refine ah _ rfl (fun h1 => ?_) (fun h1 => ?_)
 ·skip
  exact absurd h1 (by decide)
 ·skip
  refine aSR (aU rfl (bB rfl rfl) (aA rfl (aNn ?_)))
  refine ah _ rfl (fun h2 => ?_) (fun h2 => ?_)
  ·skip
   exact absurd h2 (by decide)
  ·skip
   refine aSR (aU rfl (bB rfl rfl) (aA rfl (aNn ?_)))
   refine ah _ rfl (fun h3 => ?_) (fun h3 => ?_)
   ·skip
    refine au (av ?_)
    refine ah _ rfl (fun _ => ?_) (fun h => absurd (h3.symm.trans h) (by decide))
    refine aSR (aM rfl (aU rfl (cL rfl rfl) (aM rfl (aG rfl rfl (fun hc => ar rfl) (aG rfl rfl (fun hc => ar rfl) (aG rfl rfl (fun hc => dW Tryz.underlying9 (aa rfl hc)) (aG rfl rfl (fun hc => ar rfl) ?_)))))))
    refine aG rfl rfl (fun hc => dX (aa rfl hc) (aa rfl hc) (by (first | omega | (simp at hc; omega)))) ?_
    refine aG rfl rfl (fun hc => eE (aa rfl hc) (aa rfl hc)) (aU rfl (bn rfl rfl (fun h => gt rfl h)) (aA rfl (aNn (aq (bj (aK ?_))))))
    refine aV [] [] rfl Tryz.results272 rfl ?_ (.inr rfl)
    rfl
   ·skip
    exact absurd h3 (by decide)
theorem xz (s : ByteArray) (hs : s.size ≤ maxLen) (at_ : Int) : Con Tryz.prog 226 [.string s, .int .i64 at_, .int .i64 4, .bool true] [] [] (fun r ps hp => ps = [] ∧ hp = [] ∧ ∃ (z : Int) (b : Bool), r = .tuple #[.int .i64 z, .bool b]) := by
 have hs' : s.size ≤ 9223372036854775807 := hs
 refine Con.enter Tryz.func226 rfl (by simp [Tryz.ntmps226]) ?_
 show awp _ _ _ _ ⟨[(0, true, _), (1, true, _), (2, true, _), (3, true, _)], _, _⟩
 refine aSR (aA rfl (aA rfl (aNs (aSR (aM rfl (aM rfl (aM rfl ?_)))))))
 refine aU rfl (bw (by kernel_rfl) rfl (fun w S fp hst => (qU s hs at_).quiet0 hst)) ?_
 refine aU rfl (bT rfl) (aNn ?_)
 refine ah _ rfl (fun h1 => ?_) (fun h1 => ?_)
 ·skip
  refine aSR (aA rfl (aA rfl (aNn (aq (aK ?_)))))
  refine jF [] [] rfl Tryz.results226 rfl rfl ?_ (.inr rfl)
  exact ⟨rfl, rfl, _, _, rfl⟩
 ·skip
  have hat : 0 ≤ at_ ∧ at_ + 4 ≤ s.size := by simp at h1; omega
  refine au (av (aSR (aA rfl (aNs ?_))))
  refine aSR (aM rfl (aM rfl (aNn (aw (aP [0, 1, 2, 3, 10, 18, 19] [] [] (fun (q : Nat × Int) st => q.1 ≤ 4 ∧ st = ⟨[(0, true, .string s), (1, true, .int .i64 at_), (2, true, .int .i64 4), (3, true, .bool true), (10, true, .int .u64 q.2), (18, true, .int .i64 4), (19, true, .int .i64 q.1)], [], []⟩) (fun q => 4 - q.1) rfl (⟨(0, 0), Nat.zero_le _, rfl⟩) ?_)))))
  rintro ⟨k, z⟩ st ⟨hk, rfl⟩
  dsimp only at hk
  refine aSR (aU rfl (bt rfl rfl) (aNs ?_))
  refine ah _ rfl (fun h2 => ?_) (fun h2 => ?_)
  ·skip
   have hk' : k < 4 := by simp at h2; omega
   obtain ⟨k0, hk0⟩ := Int.eq_ofNat_of_zero_le (show 0 ≤ at_ + k by omega)
   obtain ⟨u, hu⟩ : ∃ u, s.data.toList[k0]? = some u := ⟨_, List.getElem?_eq_getElem (by show k0 < s.data.toList.length; simp; show k0 < s.size; omega)⟩
   refine au (av (az (aw (aSR (aM rfl (aA rfl (aNn (ae (aM rfl (aM rfl (aM rfl (aM rfl ?_))))))))))))
   refine aU rfl (bf rfl rfl (by omega)) ?_
   refine aU rfl (eo (k0) Tryz.underlying9 rfl rfl (hk0) (hu)) ?_
   refine aU rfl (dG (by kernel_rfl) Tryz.underlying275 rfl) ?_
   refine aM rfl ?_
   refine aU rfl (jf rfl rfl (by omega)) ?_
   refine aU rfl (sY rfl rfl (by omega)) ?_
   refine aU rfl (tq rfl rfl) (aA rfl (cr (bu (av (ae ?_)))))
   refine aU rfl (bf rfl rfl (by omega)) ?_
   refine aM rfl (aNn ?_)
   refine ⟨[0, 1, 2, 3, 10, 18, 19], [], [], rfl, ?_⟩
   exact ⟨(k + 1, _), ⟨by dsimp only; omega, rfl⟩, by dsimp only; omega⟩
  ·skip
   refine aR (aS (aS (aY (av (az (aSR (aM rfl (aNn ?_))))))))
   refine ah _ rfl (fun h3 => ?_) (fun h3 => ?_)
   ·skip
    refine aSR (aM rfl ?_)
    refine aU rfl (jf rfl rfl (by omega)) ?_
    refine aU rfl (dX rfl rfl (by omega)) ?_
    refine aA rfl (aNn (aSR (aM rfl (aM rfl ?_))))
    refine aU rfl (sY rfl rfl (by omega)) ?_
    refine aU rfl (dG (by kernel_rfl) Tryz.underlying3 rfl) ?_
    refine aM rfl ?_
    refine aU rfl (nX rfl rfl (by omega)) ?_
    refine aA rfl (aA rfl (aNn (aq (aK ?_))))
    refine jF [] [] rfl Tryz.results226 rfl rfl ?_ (.inr rfl)
    exact ⟨rfl, rfl, _, _, rfl⟩
   ·skip
    refine au (av (aSR (aM rfl ?_)))
    refine aU rfl (dG (by kernel_rfl) Tryz.underlying3 rfl) ?_
    refine aA rfl (aA rfl (aNn (aq ?_)))
    refine jF [] [] rfl Tryz.results226 rfl rfl ?_ (.inr rfl)
    exact ⟨rfl, rfl, _, _, rfl⟩
theorem sq (s : ByteArray) (hs : s.size ≤ maxLen) (at_ : Int) : Con Tryz.prog 142 [.string s, .int .i64 at_] [dT] [] (fun r ps hp => ps = [] ∧ hp = [] ∧ ∃ (op a b c m : Int) (ok : Bool), r = .tuple #[.agg (vH op a b c m).toArray, .bool ok]) := by
 have hs' : s.size ≤ 9223372036854775807 := hs
 have hu : ∀ z : Int, 0 ≤ z → z < s.size → ∃ (k0 : Nat) (u : UInt8), z = k0 ∧ s.data.toList[k0]? = some u := fun z h0 h1 => by
   obtain ⟨k0, rfl⟩ := Int.eq_ofNat_of_zero_le h0
   exact ⟨k0, _, rfl, List.getElem?_eq_getElem (by show k0 < s.data.toList.length; simp; show k0 < s.size; omega)⟩
 refine Con.enter Tryz.func142 rfl (by simp [Tryz.ntmps142]) ?_
 show awp _ _ _ _ ⟨[(0, true, _), (1, true, _)], _, _⟩
 refine aSR ?_
 refine aj (q := true) rfl (bp (zs := [.int .i64 0, .int .i64 0, .int .i64 0, .int .i64 0, .int .i64 0]) (by kernel_rfl) rfl (fun b0_0 => ?_))
 refine aHN ?_
 refine aA rfl (aNs (aSR (aM rfl (aU rfl (bt rfl rfl) (aM rfl (aG rfl rfl (fun hc => ar rfl) (aG rfl rfl (fun hc => ar rfl) (aG rfl rfl (fun hc => dW Tryz.underlying9 (aa rfl hc)) ?_))))))))
 refine aG rfl rfl (fun hc => dX (aa rfl hc) rfl (by (first | omega | (simp at hc; omega)))) ?_
 refine aG rfl rfl (fun hc => du (aa rfl hc) (aa rfl hc)) (aU rfl (ct rfl rfl (fun h => gf rfl h)) (aNn ?_))
 refine ah _ rfl (fun h1 => ?_) (fun h1 => ?_)
 ·skip
  refine aSR ?_
  refine aU rfl (cU (l := []) (zs := [.int .i64 0, .int .i64 0, .int .i64 0, .int .i64 0, .int .i64 0]) (pl := [(0, 1), (1, 1), (2, 1), (3, 1), (4, 1)]) (by kernel_rfl) (by kernel_rfl) (by kernel_rfl) rfl rfl rfl) ?_
  refine aj rfl (aT 0 tk233 rfl rfl rfl rfl ?_)
  refine aHK ?_
  refine aA rfl (aNn (aq (aK ?_)))
  refine dZ [] [] rfl Tryz.results142 (cv 0 tk233 rfl rfl rfl) (cT rfl) ?_ (.inr rfl)
  exact ⟨rfl, rfl, _, _, _, _, _, _, rfl⟩
 ·skip
  have hat : 0 ≤ at_ ∧ at_ + 8 ≤ s.size := by simp at h1; omega
  obtain ⟨k0, u0, e0, hu0⟩ := hu at_ (by omega) (by omega)
  obtain ⟨k1, u1, e1, hu1⟩ := hu (at_ + 1) (by omega) (by omega)
  obtain ⟨k2, u2, e2, hu2⟩ := hu (at_ + 2) (by omega) (by omega)
  obtain ⟨k3, u3, e3, hu3⟩ := hu (at_ + 3) (by omega) (by omega)
  refine au (av (aSR (aM rfl (aM rfl ?_))))
  refine aU rfl (bf rfl rfl (by omega)) ?_
  refine aj (q := true) rfl (bF [] [] (by kernel_rfl) rfl rfl rfl rfl (xz s hs _) ?_)
  rintro _ _ _ ⟨rfl, rfl, m, gb, rfl⟩
  refine aST ?_
  refine aM rfl (aU rfl (bc rfl rfl) (aU rfl (bc rfl rfl) (aA rfl (aA rfl (aNs ?_)))))
  refine aX [22] (by kernel_rfl) ?_
  show aB _ _ _ _ _ 23 #[false, false, false, false, false, false, false, false, false, false, false, false, false, false, false, false, false, false, false, false, false, false, false] _
  refine bV 0 rfl rfl (ar rfl) ?_
  refine bV 1 rfl rfl (ar rfl) ?_
  refine bV 2 rfl rfl (eo (k0) Tryz.underlying9 rfl rfl (e0) (hu0)) ?_
  refine bV 3 rfl rfl (dG (by kernel_rfl) Tryz.underlying3 rfl) ?_
  refine bV 4 rfl rfl (ar rfl) ?_
  refine bV 5 rfl rfl (ar rfl) ?_
  refine bV 6 rfl rfl (bf rfl rfl (by omega)) ?_
  refine bV 7 rfl rfl (eo (k1) Tryz.underlying9 rfl rfl (e1) (hu1)) ?_
  refine bV 8 rfl rfl (dG (by kernel_rfl) Tryz.underlying3 rfl) ?_
  refine bV 9 rfl rfl (ar rfl) ?_
  refine bV 10 rfl rfl (ar rfl) ?_
  refine bV 11 rfl rfl (bf rfl rfl (by omega)) ?_
  refine bV 12 rfl rfl (eo (k2) Tryz.underlying9 rfl rfl (e2) (hu2)) ?_
  refine bV 13 rfl rfl (dG (by kernel_rfl) Tryz.underlying3 rfl) ?_
  refine bV 14 rfl rfl (ar rfl) ?_
  refine bV 15 rfl rfl (ar rfl) ?_
  refine bV 16 rfl rfl (bf rfl rfl (by omega)) ?_
  refine bV 17 rfl rfl (eo (k3) Tryz.underlying9 rfl rfl (e3) (hu3)) ?_
  refine bV 18 rfl rfl (dG (by kernel_rfl) Tryz.underlying3 rfl) ?_
  refine bV 19 rfl rfl (ar rfl) ?_
  refine bV 20 rfl rfl (cU (l := [(0, .tmp 29), (1, .tmp 34), (2, .tmp 39), (3, .tmp 44), (4, .tmp 45)]) (zs := [.int .i64 0, .int .i64 0, .int .i64 0, .int .i64 0, .int .i64 0]) (pl := [(0, 1), (1, 1), (2, 1), (3, 1), (4, 1)]) (by kernel_rfl) (by kernel_rfl) (by kernel_rfl) rfl rfl rfl) ?_
  refine bM (q := true) 21 rfl (by kernel_rfl) rfl rfl (bp (zs := [.int .i64 0, .int .i64 0, .int .i64 0, .int .i64 0, .int .i64 0]) (by kernel_rfl) rfl (fun b4_21 => ?_))
  refine bST rfl ?_
  refine bM 22 rfl (by kernel_rfl) rfl rfl (aT 1 tk233 rfl rfl rfl rfl ?_)
  refine bST rfl ?_
  refine bD (by kernel_rfl) ?_
  refine av (az (aSR (aM rfl (aU rfl (bT rfl) (aM rfl (aG rfl rfl (fun hc => ab 1 tk233 rfl rfl rfl) ?_))))))
  refine aQ (caps := []) [0] (false) (by kernel_rfl) _ rfl rfl (fun _ => rfl) (fun hc => (aI (aa rfl hc) rfl)) (fun hc => by rw [List.append_nil]; exact se _ _ _ _ _) (fun c1 hc1 => ?_)
  refine aG rfl rfl (fun hc => bT (aa rfl hc)) (aU rfl (ct rfl rfl (fun h => gf rfl h)) (aNn ?_))
  refine ah _ rfl (fun h2 => ?_) (fun h2 => ?_)
  ·skip
   refine aSR ?_
   refine aU rfl (cU (l := []) (zs := [.int .i64 0, .int .i64 0, .int .i64 0, .int .i64 0, .int .i64 0]) (pl := [(0, 1), (1, 1), (2, 1), (3, 1), (4, 1)]) (by kernel_rfl) (by kernel_rfl) (by kernel_rfl) rfl rfl rfl) ?_
   refine aj rfl (aT 0 tk233 rfl rfl rfl rfl ?_)
   refine aHK ?_
   refine aA rfl (aNn (aq (aK ?_)))
   refine dZ [] [] rfl Tryz.results142 (cv 0 tk233 rfl rfl rfl) (cT rfl) ?_ (.inr rfl)
   exact ⟨rfl, rfl, _, _, _, _, _, _, rfl⟩
  ·skip
   refine au (av (aSR (aU rfl (ab 1 tk233 rfl rfl rfl) ?_)))
   refine aj rfl (aT 0 tk233 rfl rfl rfl rfl ?_)
   refine aHK ?_
   refine aA rfl (aNn (aq ?_))
   refine dZ [] [] rfl Tryz.results142 (cv 0 tk233 rfl rfl rfl) (cT rfl) ?_ (.inr rfl)
   exact ⟨rfl, rfl, _, _, _, _, _, _, rfl⟩
end Go.Proofs.YtgmiihmahaahiaaGreatDoor

namespace Go.Sy
open Go.RowKit Go.Lp
theorem nT {P : Program} {n : Fr} {s : Sta} {d : Option Tmp} {ty : TypeId} {pos : String} {af : Array Edge} {gd : Option (Nat × Bool)} {x y : Operand} {t t' : TypeId} {k : IntKind} {a b : Int} (hx : ev s.env x = some (true, .int k a)) (hy : ev s.env y = some (true, .int k b)) : Quiet P n ⟨d, .binOp .xor t x y t', ty, pos, af, gd⟩ s (.int k (bits .xor k a b)) := .run2 hx hy fun ρ w h1 h2 => by unfold execOp; dsimp only; rw [h1, h2]; cases k <;> rfl
theorem yt {P : Program} {n : Fr} {s : Sta} {d : Option Tmp} {ty : TypeId} {pos : String} {af : Array Edge} {gd : Option (Nat × Bool)} {x : Operand} {t : TypeId} {k : IntKind} {z : Int} (hx : ev s.env x = some (true, .int k z)) : Quiet P n ⟨d, .unOp .xor t x, ty, pos, af, gd⟩ s (.int k (bits .xor k (if k.signed then -1 else k.max) z)) := .run1 hx fun ρ w h => by unfold execOp; dsimp only; rw [h]; rfl
end Go.Sy
namespace Go.Proofs.YtgmiihmahaahiaaGreatDoor
open Go.RowKit Go.Lp Go.Sy
open Go.Proofs.Tryz
attribute [local irreducible] aL aB awp aC fwp
theorem sF (z : Int) : 0 ≤ IntKind.u64.wrap z := by rw [IntKind.wrap_u64]; omega
theorem rW (z : Int) : 0 ≤ bits .and .u64 (IntKind.u64.wrap z) 63 := by
 obtain ⟨k, hk⟩ := Int.eq_ofNat_of_zero_le (sF z)
 have hlt : IntKind.u64.wrap z < 18446744073709551616 := by rw [IntKind.wrap_u64]; omega
 rw [hk] at hlt ⊢
 have := bits_and_u64_nat k 63 (by omega) (by omega)
 rw [show (63 : Int) = ((63 : Nat) : Int) from rfl, this]
 omega
theorem qf (x k : Int) : Con Tryz.prog 304 [.int .u64 x, .int .i64 k] [] [] (YN (fun z : Int => .int .u64 z) fun _ => True) := by
 refine Con.enter Tryz.func304 rfl (by simp [Tryz.ntmps304]) ?_
 show awp _ _ _ _ ⟨[(0, true, _), (1, true, _)], _, _⟩
 refine aSR (aA rfl (aNn (aSR (aM rfl ?_))))
 refine aU rfl (dG (by kernel_rfl) Tryz.underlying147 rfl) ?_
 refine aU rfl (sf rfl rfl) (aA rfl (aNn (aSR (aM rfl (aM rfl ?_)))))
 refine aU rfl (sY rfl rfl (by exact rW _)) ?_
 refine aM rfl (aM rfl (aU rfl (qk rfl rfl) ?_))
 refine aU rfl (nX rfl rfl (by exact sF _)) ?_
 refine aU rfl (tq rfl rfl) (aA rfl (aNn (aq ?_)))
 refine aV [] [] rfl Tryz.results304 rfl ?_ (.inr rfl)
 exact ⟨⟨rfl, rfl⟩, _, rfl, trivial⟩
abbrev eh (zs : List Int) : List Value := zs.map fun z => .int .u64 z
def jl : List Int := [0, 1, 62, 28, 27, 36, 44, 6, 55, 20, 3, 10, 43, 25, 39, 41, 45, 15, 21, 8, 18, 2, 61, 56, 14]
def fg : List Int := [1, 32898, 9223372036854808714, 9223372039002292224, 32907, 2147483649, 9223372039002292353, 9223372036854808585, 138, 136, 2147516425, 2147483658, 2147516555, 9223372036854775947, 9223372036854808713, 9223372036854808579, 9223372036854808578, 9223372036854775936, 32778, 9223372039002259466, 9223372039002292353, 9223372036854808704, 2147483649, 9223372039002292232]
def dm : Per := At 2 0 ((jl.map fun z => Value.int .i64 z).map D.v)
def dn : Per := At 1 0 ((eh fg).map D.v)
theorem zo {zs : List Int} {k : Nat} {z : Int} (h : k < zs.length) : wrC (eh zs) k [.int .u64 z] = eh (zs.set k z) := by
 unfold wrC
 apply List.ext_getElem?
 intro j
 simp only [eh, List.map_set]
 rw [List.getElem?_set, List.getElem?_append]
 simp
 by_cases h1 : j < k
 · rw [if_pos (by omega), if_neg (by omega), List.getElem?_take_of_lt h1]; simp
 · by_cases h2 : k = j
   · subst h2
     rw [if_neg (by omega), if_pos rfl, if_pos h]
     rw [Nat.min_eq_left (by omega)]; simp
   · rw [if_neg (by omega), if_neg h2, Nat.min_eq_left (by omega)]
     obtain ⟨m, hm⟩ : ∃ m, j - k = m + 1 := ⟨j - k - 1, by omega⟩
     rw [hm, List.getElem?_cons_succ, List.getElem?_drop]
     simp
     congr 2
     omega
theorem sZ {zs : List Int} {k : Nat} (h : k < zs.length) : (eh zs)[k]? = some (.int .u64 (zs.getD k 0)) := by
 simp [eh, h]
theorem wP {zs : List Int} {k : Nat} (h : k < zs.length) : (eh zs).toArray[k]? = some (.int .u64 (zs.getD k 0)) := by rw [List.getElem?_toArray]; exact sZ h
theorem gl {zs : List Int} {k o : Nat} (h : k < zs.length) (e : o = k) : rdC false 1 (eh zs) o = some (.int .u64 (zs.getD k 0)) := by
 subst e; exact sZ h
theorem tm5 (j : Nat) : ((j : Int)).tmod 5 = ((j % 5 : Nat) : Int) := rfl
theorem td5 (j : Nat) : ((j : Int)).tdiv 5 = ((j / 5 : Nat) : Int) := rfl
theorem wq {j : Nat} (h : j < 25) : IntKind.i64.wrap ((j : Int).tdiv 5) = ((j / 5 : Nat) : Int) := by rw [td5, IntKind.wrap_i64]; omega
theorem yc (j m : Nat) : ((j : Int) - (j : Int).tmod 5) + ((j : Int).tmod 5 + (m : Int)).tmod 5 = ((j - j % 5 + (j % 5 + m) % 5 : Nat) : Int) := by
 rw [tm5]
 have : ((↑(j % 5) : Int) + m).tmod 5 = (((j % 5 + m) % 5 : Nat) : Int) := rfl
 rw [this]; omega
theorem jV {zs : List Int} {k o : Nat} {z : Int} (h : k < zs.length) (e : o = k) : wrC (eh zs) o [.int .u64 z] = eh (zs.set k z) := by subst e; exact zo h
theorem pN (b : Nat) (z0 : List Int) (h0 : z0.length = 25) : Con Tryz.prog 284 [.pointer (some ⟨b, 0, none⟩)] [dn, dm] [Box b 312 (eh z0)] fun _ ps hp => ps = [] ∧ ∃ zs : List Int, zs.length = 25 ∧ hp = [Box b 312 (eh zs)] := by
 refine Con.enter Tryz.func284 rfl (by simp [Tryz.ntmps284]) ?_
 show awp _ _ _ _ ⟨[(0, true, _)], _, _⟩
 refine aSR ?_
 refine aU rfl (oK (v := .agg (eh fg).toArray) 0 tk367 rfl (an 0 rfl) rfl (by kernel_rfl)) ?_
 refine aM rfl (aNn (aw (aP [0, 15, 16] [1, 0] [0] (fun (q : Nat × List Int) s => (q.1 ≤ 24 ∧ q.2.length = 25) ∧ s = ⟨[(0, true, .pointer (some ⟨b, 0, none⟩)), (15, true, .agg (eh fg).toArray), (16, true, .int .i64 q.1)], [dn, dm], [Box b 312 (eh q.2)]⟩) (fun q => 24 - q.1) rfl (⟨(0, z0), ⟨Nat.zero_le _, h0⟩, rfl⟩) ?_)))
 rintro ⟨i, zs⟩ s ⟨⟨hi, hz⟩, rfl⟩
 dsimp only at hi hz
 refine aSR (aU rfl (bt rfl rfl) (aNs ?_))
 refine ah _ rfl (fun h1 => ?_) (fun h1 => ?_)
 ·skip
  have hi' : i < 24 := by simp at h1; omega
  have hcl : fg.length = 24 := rfl
  refine au (av (az (aw (aSR ?_))))
  refine aU rfl (xf (i) Tryz.underlying367 (by kernel_rfl) rfl rfl (rfl) (by omega) ((wP (zs := fg) (k := i) (by omega)))) ?_
  refine aA rfl (aNn (aSR ?_))
  refine aj (q := true) rfl (bp (zs := [.int .u64 0, .int .u64 0, .int .u64 0, .int .u64 0, .int .u64 0]) (by kernel_rfl) rfl (fun b3_0 => ?_))
  refine aHN ?_
  refine aNs (aSR (aM rfl (aM rfl (cr ?_))))
  refine av (aw (aP [0, 3, 4, 15, 16, 19, 20] [1, 0] [0, 1] (fun (q : Nat × List Int) s => (q.1 ≤ 25 ∧ q.2.length = 5) ∧ s = ⟨[(0, true, .pointer (some ⟨b, 0, none⟩)), (3, true, .int .u64 (fg.getD i 0)), (4, true, .pointer (some ⟨b3_0, 0, none⟩)), (15, true, .agg (eh fg).toArray), (16, true, .int .i64 i), (19, true, .pointer (some ⟨b, 0, none⟩)), (20, true, .int .i64 q.1)], [dn, dm], [Box b 312 (eh zs), Box b3_0 368 (eh q.2)]⟩) (fun q => 25 - q.1) rfl (⟨(0, [0, 0, 0, 0, 0]), ⟨Nat.zero_le _, rfl⟩, rfl⟩) ?_))
  rintro ⟨j, qs⟩ s ⟨⟨hj, hq⟩, rfl⟩
  dsimp only at hj hq
  refine aSR (aU rfl (bt rfl rfl) (aNs ?_))
  refine ah _ rfl (fun h2 => ?_) (fun h2 => ?_)
  ·skip
   have hj' : j < 25 := by simp at h2; omega
   have hm5 : j % 5 < 5 := Nat.mod_lt _ (by decide)
   refine au (av (az (aw (az ?_))))
   refine aX [] (by kernel_rfl) ?_
   show aB _ _ _ _ _ 6 #[false, false, false, false, false, false] _
   refine bV 0 rfl rfl (ar rfl) ?_
   refine bV 1 rfl rfl (bq rfl) ?_
   refine bV 2 rfl rfl (dx (j) Tryz.underlying312 tk275 rfl rfl (rfl) (hj')) ?_
   refine bV 3 rfl rfl (ab (v := .int .u64 (zs.getD j 0)) 0 tk275 rfl rfl (gl (zs := zs) (k := j) (by omega) (by omega))) ?_
   refine bV 4 rfl rfl (bJ rfl) ?_
   refine bV 5 rfl rfl (bJ rfl) ?_
   refine bD (by kernel_rfl) ?_
   refine av (ae (aM rfl ?_))
   refine aU rfl (eO rfl rfl (by decide)) ?_
   refine aU rfl (dx (j % 5) Tryz.underlying368 tk275 rfl rfl (rfl) (hm5)) ?_
   refine aU rfl (ab (v := .int .u64 (qs.getD (j % 5) 0)) 1 tk275 rfl rfl (gl (zs := qs) (k := (j % 5)) (by omega) (by omega))) ?_
   refine aM rfl (aU rfl (nT rfl rfl) (aU rfl (dx (j % 5) Tryz.underlying368 tk275 rfl rfl (rfl) (hm5)) ?_))
   refine aj rfl (iG 1 ([.int .u64 (bits .xor .u64 (qs.getD (j % 5) 0) (zs.getD j 0))]) (eh (qs.set (j % 5) (bits .xor .u64 (qs.getD (j % 5) 0) (zs.getD j 0)))) tk275 rfl rfl rfl rfl rfl (fun v hv => by rw [List.mem_singleton.1 hv]; rfl) (by simp [hq]; omega) (jV (zs := qs) (k := (j % 5)) (by omega) (by omega)) ?_)
   refine aHK ?_
   refine cr (bu (av (ae ?_)))
   refine aU rfl (bf rfl rfl (by (try simp only [tm5, td5]); omega)) ?_
   refine aM rfl (aNn ?_)
   refine ⟨[0, 3, 4, 15, 16, 19, 20], [1, 0], [0, 1], rfl, ?_⟩
   exact ⟨(j + 1, _), ⟨⟨by dsimp only; omega, by dsimp only; rw [List.length_set]; exact hq⟩, rfl⟩, by dsimp only; omega⟩
  ·skip
   refine aR (aS (aS (aY (av (aSR ?_)))))
   refine aj (q := true) rfl (bp (zs := [.int .u64 0, .int .u64 0, .int .u64 0, .int .u64 0, .int .u64 0, .int .u64 0, .int .u64 0, .int .u64 0, .int .u64 0, .int .u64 0, .int .u64 0, .int .u64 0, .int .u64 0, .int .u64 0, .int .u64 0, .int .u64 0, .int .u64 0, .int .u64 0, .int .u64 0, .int .u64 0, .int .u64 0, .int .u64 0, .int .u64 0, .int .u64 0, .int .u64 0]) (by kernel_rfl) rfl (fun b9_0 => ?_))
   refine aHN ?_
   refine aNs (aSR (aM rfl (aM rfl (cr ?_))))
   refine av (aw (aP [0, 3, 4, 7, 15, 16, 34, 35] [1, 0] [0, 1, 2] (fun (q : Nat × List Int) s => (q.1 ≤ 25 ∧ q.2.length = 25) ∧ s = ⟨[(0, true, .pointer (some ⟨b, 0, none⟩)), (3, true, .int .u64 (fg.getD i 0)), (4, true, .pointer (some ⟨b3_0, 0, none⟩)), (7, true, .pointer (some ⟨b9_0, 0, none⟩)), (15, true, .agg (eh fg).toArray), (16, true, .int .i64 i), (34, true, .pointer (some ⟨b, 0, none⟩)), (35, true, .int .i64 q.1)], [dn, dm], [Box b 312 (eh zs), Box b3_0 368 (eh qs), Box b9_0 312 (eh q.2)]⟩) (fun q => 25 - q.1) rfl (⟨(0, List.replicate 25 0), ⟨Nat.zero_le _, rfl⟩, rfl⟩) ?_))
   clear hj
   rintro ⟨j, ys⟩ s ⟨⟨hj, hy⟩, rfl⟩
   dsimp only at hj hy
   refine aSR (aU rfl (bt rfl rfl) (aNs ?_))
   refine ah _ rfl (fun h3 => ?_) (fun h3 => ?_)
   ·skip
    have hj' : j < 25 := by simp at h3; omega
    refine au (av (az (aw (az ?_))))
    refine aX [] (by kernel_rfl) ?_
    show aB _ _ _ _ _ 6 #[false, false, false, false, false, false] _
    refine bV 0 rfl rfl (ar rfl) ?_
    refine bV 1 rfl rfl (bq rfl) ?_
    refine bV 2 rfl rfl (dx (j) Tryz.underlying312 tk275 rfl rfl (rfl) (hj')) ?_
    refine bV 3 rfl rfl (ab (v := .int .u64 (zs.getD j 0)) 0 tk275 rfl rfl (gl (zs := zs) (k := j) (by omega) (by omega))) ?_
    refine bV 4 rfl rfl (bJ rfl) ?_
    refine bV 5 rfl rfl (bJ rfl) ?_
    refine bD (by kernel_rfl) ?_
    refine av (aSR (aM rfl ?_))
    refine aU rfl (eO rfl rfl (by decide)) ?_
    refine aM rfl ?_
    refine aU rfl (wI rfl rfl (by decide)) ?_
    refine aA rfl (aA rfl (aNs ?_))
    rw [show IntKind.i64.wrap ((((j, ys) : Nat × List Int).fst : Int).tdiv 5) = ((j / 5 : Nat) : Int) from wq hj']
    refine aX [] (by kernel_rfl) ?_
    show aB _ _ _ _ _ 15 #[false, false, false, false, false, false, false, false, false, false, false, false, false, false, false] _
    refine bV 0 rfl rfl (ar rfl) ?_
    refine bV 1 rfl rfl (ar rfl) ?_
    refine bV 2 rfl rfl (bf rfl rfl (by (try simp only [tm5, td5]); omega)) ?_
    refine bV 3 rfl rfl (eO rfl rfl (by decide)) ?_
    refine bV 4 rfl rfl (dx ((j % 5 + 4) % 5) Tryz.underlying368 tk275 rfl rfl (rfl) (Nat.mod_lt _ (by decide))) ?_
    refine bV 5 rfl rfl (ab (v := .int .u64 (qs.getD ((j % 5 + 4) % 5) 0)) 1 tk275 rfl rfl (gl (zs := qs) (k := ((j % 5 + 4) % 5)) (by omega) (by omega))) ?_
    refine bV 6 rfl rfl (ar rfl) ?_
    refine bV 7 rfl rfl (bf rfl rfl (by (try simp only [tm5, td5]); omega)) ?_
    refine bV 8 rfl rfl (eO rfl rfl (by decide)) ?_
    refine bV 9 rfl rfl (dx ((j % 5 + 1) % 5) Tryz.underlying368 tk275 rfl rfl (rfl) (Nat.mod_lt _ (by decide))) ?_
    refine bV 10 rfl rfl (ab (v := .int .u64 (qs.getD ((j % 5 + 1) % 5) 0)) 1 tk275 rfl rfl (gl (zs := qs) (k := ((j % 5 + 1) % 5)) (by omega) (by omega))) ?_
    refine el (caps := []) 11 rfl (by kernel_rfl) [] ((0 : Int)) (by kernel_rfl) true rfl rfl (fun _ => rfl) (fun hc => rfl) (fun hc => by rw [List.append_nil]; exact qf _ _) (fun r1 hr1 => ?_)
    refine bV 12 rfl rfl (nT rfl rfl) ?_
    refine bV 13 rfl rfl (nT rfl rfl) ?_
    refine bV 14 rfl rfl (bJ rfl) ?_
    refine bD (by kernel_rfl) ?_
    refine av (ae (aM rfl (aM rfl ?_)))
    refine aU rfl (jf rfl rfl (by (try simp only [tm5, td5]); omega)) ?_
    refine aM rfl ?_
    refine aU rfl (jf rfl rfl (by (try simp only [tm5, td5]); omega)) ?_
    refine aU rfl (bf rfl rfl (by (try simp only [tm5, td5]); omega)) ?_
    refine aU rfl (eO rfl rfl (by decide)) ?_
    refine aU rfl (jf rfl rfl (by have e : 5 * (2 * (j : Int).tmod 5 + 3 * ((j / 5 : Nat) : Int)).tmod 5 = ((5 * ((2 * (j % 5) + 3 * (j / 5)) % 5) : Nat) : Int) := rfl; rw [e]; omega)) ?_
    refine aU rfl (bf rfl rfl (by have e : ((j / 5 : Nat) : Int) + 5 * (2 * (j : Int).tmod 5 + 3 * ((j / 5 : Nat) : Int)).tmod 5 = ((j / 5 + 5 * ((2 * (j % 5) + 3 * (j / 5)) % 5) : Nat) : Int) := rfl; rw [e]; omega)) ?_
    refine aM rfl (aM rfl (aU rfl (dx (j) Tryz.underlying370 tk3 rfl rfl (rfl) (hj')) ?_))
    refine aU rfl (oK (v := .int .i64 (jl.getD j 0)) j tk3 rfl (an 1 rfl) (by omega) (qG (by rw [List.getElem?_map, List.getElem?_eq_getElem (show j < jl.length from hj')]; simp [List.getD, List.getElem?_eq_getElem (show j < jl.length from hj')]))) ?_
    refine aQ (caps := []) [] ((0 : Int)) (by kernel_rfl) true rfl rfl (fun _ => rfl) (fun hc => rfl) (fun hc => by rw [List.append_nil]; exact qf _ _) (fun r2 hr2 => ?_)
    refine aU rfl (dx (j / 5 + 5 * ((2 * (j % 5) + 3 * (j / 5)) % 5)) Tryz.underlying312 tk275 rfl rfl (rfl) (by omega)) ?_
    refine aj rfl (iG 2 ([.int .u64 r2]) (eh (ys.set (j / 5 + 5 * ((2 * (j % 5) + 3 * (j / 5)) % 5)) r2)) tk275 rfl rfl rfl rfl rfl (fun v hv => by rw [List.mem_singleton.1 hv]; rfl) (by simp [hy]; omega) (jV (zs := ys) (k := (j / 5 + 5 * ((2 * (j % 5) + 3 * (j / 5)) % 5))) (by omega) (by omega)) ?_)
    refine aHK ?_
    refine cr (bu (av (ae ?_)))
    refine aU rfl (bf rfl rfl (by (try simp only [tm5, td5]); omega)) ?_
    refine aM rfl (aNn ?_)
    refine ⟨[0, 3, 4, 7, 15, 16, 34, 35], [1, 0], [0, 1, 2], rfl, ?_⟩
    exact ⟨(j + 1, _), ⟨⟨by dsimp only; omega, by dsimp only; rw [List.length_set]; exact hy⟩, rfl⟩, by dsimp only; omega⟩
   ·skip
    refine aR (aS (aS (aY (av (az (aSR ?_))))))
    refine aM rfl (aNn (aw (aP [0, 3, 7, 15, 16, 75] [1, 0] [0, 2] (fun (q : Nat × List Int) s => (q.1 ≤ 25 ∧ q.2.length = 25) ∧ s = ⟨[(0, true, .pointer (some ⟨b, 0, none⟩)), (3, true, .int .u64 (fg.getD i 0)), (7, true, .pointer (some ⟨b9_0, 0, none⟩)), (15, true, .agg (eh fg).toArray), (16, true, .int .i64 i), (75, true, .int .i64 q.1)], [dn, dm], [Box b 312 (eh q.2), Box b9_0 312 (eh ys)]⟩) (fun q => 25 - q.1) rfl (⟨(0, zs), ⟨Nat.zero_le _, hz⟩, rfl⟩) ?_)))
    clear hj
    rintro ⟨j, ws⟩ s ⟨⟨hj, hw⟩, rfl⟩
    dsimp only at hj hw
    refine aSR (aU rfl (bt rfl rfl) (aNs ?_))
    refine ah _ rfl (fun h4 => ?_) (fun h4 => ?_)
    ·skip
     have hj' : j < 25 := by simp at h4; omega
     refine au (av (az (aw (aSR (aM rfl (aA rfl (aNn (aSR (aM rfl ?_)))))))))
     refine aU rfl (eO rfl rfl (by decide)) ?_
     refine aM rfl (aM rfl ?_)
     refine aU rfl (eO rfl rfl (by decide)) ?_
     refine aU rfl (dX rfl rfl (by (try simp only [tm5, td5]); omega)) ?_
     refine aA rfl (aA rfl (aNn ?_))
     refine aX [24] (by kernel_rfl) ?_
     show aB _ _ _ _ _ 25 #[false, false, false, false, false, false, false, false, false, false, false, false, false, false, false, false, false, false, false, false, false, false, false, false, false] _
     refine bV 0 rfl rfl (ar rfl) ?_
     refine bV 1 rfl rfl (ar rfl) ?_
     refine bV 2 rfl rfl (ar rfl) ?_
     refine bV 3 rfl rfl (dx (j) Tryz.underlying312 tk275 rfl rfl (rfl) (hj')) ?_
     refine bV 4 rfl rfl (ab (v := .int .u64 (ys.getD j 0)) 1 tk275 rfl rfl (gl (zs := ys) (k := j) (by omega) (by omega))) ?_
     refine bV 5 rfl rfl (ar rfl) ?_
     refine bV 6 rfl rfl (ar rfl) ?_
     refine bV 7 rfl rfl (bf rfl rfl (by (try simp only [tm5, td5]); omega)) ?_
     refine bV 8 rfl rfl (eO rfl rfl (by decide)) ?_
     refine bV 9 rfl rfl (bf rfl rfl (by have e : ((j : Int) - (j : Int).tmod 5) + ((j : Int).tmod 5 + 1).tmod 5 = _ := yc j 1; rw [e]; omega)) ?_
     refine bV 10 rfl rfl (dx (j - j % 5 + (j % 5 + 1) % 5) Tryz.underlying312 tk275 rfl rfl (yc j 1) (by omega)) ?_
     refine bV 11 rfl rfl (ab (v := .int .u64 (ys.getD (j - j % 5 + (j % 5 + 1) % 5) 0)) 1 tk275 rfl rfl (gl (zs := ys) (k := (j - j % 5 + (j % 5 + 1) % 5)) (by omega) (by omega))) ?_
     refine bV 12 rfl rfl (yt rfl) ?_
     refine bV 13 rfl rfl (ar rfl) ?_
     refine bV 14 rfl rfl (ar rfl) ?_
     refine bV 15 rfl rfl (bf rfl rfl (by (try simp only [tm5, td5]); omega)) ?_
     refine bV 16 rfl rfl (eO rfl rfl (by decide)) ?_
     refine bV 17 rfl rfl (bf rfl rfl (by have e : ((j : Int) - (j : Int).tmod 5) + ((j : Int).tmod 5 + 2).tmod 5 = _ := yc j 2; rw [e]; omega)) ?_
     refine bV 18 rfl rfl (dx (j - j % 5 + (j % 5 + 2) % 5) Tryz.underlying312 tk275 rfl rfl (yc j 2) (by omega)) ?_
     refine bV 19 rfl rfl (ab (v := .int .u64 (ys.getD (j - j % 5 + (j % 5 + 2) % 5) 0)) 1 tk275 rfl rfl (gl (zs := ys) (k := (j - j % 5 + (j % 5 + 2) % 5)) (by omega) (by omega))) ?_
     refine bV 20 rfl rfl (sf rfl rfl) ?_
     refine bV 21 rfl rfl (nT rfl rfl) ?_
     refine bV 22 rfl rfl (bq rfl) ?_
     refine bV 23 rfl rfl (dx (j) Tryz.underlying312 tk275 rfl rfl (rfl) (hj')) ?_
     refine bM 24 rfl (by kernel_rfl) rfl rfl (iG 0 ([_]) (eh (ws.set j _)) tk275 rfl rfl rfl rfl rfl (fun v hv => by rw [List.mem_singleton.1 hv]; rfl) (by simp [hw]; omega) (jV (zs := ws) (k := j) (by omega) (by omega)) ?_)
     refine bST rfl ?_
     refine bD (by kernel_rfl) ?_
     refine bu (av (ae ?_))
     refine aU rfl (bf rfl rfl (by (try simp only [tm5, td5]); omega)) ?_
     refine aM rfl (aNn ?_)
     refine ⟨[0, 3, 7, 15, 16, 75], [1, 0], [0, 1], rfl, ?_⟩
     exact ⟨(j + 1, _), ⟨⟨by dsimp only; omega, by dsimp only; rw [List.length_set]; exact hw⟩, rfl⟩, by dsimp only; omega⟩
    ·skip
     refine aR (aS (aS (aY (av ?_))))
     refine aX [8] (by kernel_rfl) ?_
     show aB _ _ _ _ _ 9 #[false, false, false, false, false, false, false, false, false] _
     refine bV 0 rfl rfl (ar rfl) ?_
     refine bV 1 rfl rfl (bq rfl) ?_
     refine bV 2 rfl rfl (dx (0) Tryz.underlying312 tk275 rfl rfl (rfl) (by decide)) ?_
     refine bV 3 rfl rfl (ab (v := .int .u64 (ws.getD 0 0)) 0 tk275 rfl rfl (gl (zs := ws) (k := 0) (by omega) (by omega))) ?_
     refine bV 4 rfl rfl (ar rfl) ?_
     refine bV 5 rfl rfl (nT rfl rfl) ?_
     refine bV 6 rfl rfl (bq rfl) ?_
     refine bV 7 rfl rfl (dx (0) Tryz.underlying312 tk275 rfl rfl (rfl) (by decide)) ?_
     refine bM 8 rfl (by kernel_rfl) rfl rfl (iG 0 ([_]) (eh (ws.set 0 _)) tk275 rfl rfl rfl rfl rfl (fun v hv => by rw [List.mem_singleton.1 hv]; rfl) (by simp [hw]) (jV (zs := ws) (k := 0) (by omega) (by omega)) ?_)
     refine bST rfl ?_
     refine bD (by kernel_rfl) ?_
     refine bu (av (ae ?_))
     refine aU rfl (bf rfl rfl (by (try simp only [tm5, td5]); omega)) ?_
     refine aM rfl (aNn ?_)
     refine ⟨[0, 15, 16], [1, 0], [0], rfl, ?_⟩
     exact ⟨(i + 1, _), ⟨⟨by dsimp only; omega, by dsimp only; rw [List.length_set]; exact hw⟩, rfl⟩, by dsimp only; omega⟩
 ·skip
  refine aR (aS (aS (aY ?_)))
  refine iL [] [0] rfl Tryz.results284 ?_ (.inl rfl)
  exact ⟨rfl, zs, hz, rfl⟩
end Go.Proofs.YtgmiihmahaahiaaGreatDoor

namespace Go.Proofs.YtgmiihmahaahiaaGreatDoor
open Go.RowKit Go.Lp Go.Sy
open Go.Proofs.Tryz
attribute [local irreducible] aL aB awp aC fwp
theorem yI (k : Int) : Con Tryz.prog 141 [.int .i64 k] [] [] fun r ps hp => hp = [] ∧ ∃ l : Sl Int, r = l.val ∧ ps = [ShF eN l] := by
 refine Con.conv (R := fun r ps hp => ps = [] ∧ ((r = .slice none 0 0 ∧ hp = []) ∨ ∃ (ad : Option Addr) (zs : List Int), r = .slice ad zs.length zs.length ∧ hp = [bA (.slice ad zs.length zs.length) 3 1 (zs.map eN)])) ?_ fun _ _ _ ⟨h1, h⟩ => ?_
 rotate_left
 · subst h1
   rcases h with ⟨h2, h3⟩ | ⟨ad, zs, h2, h3⟩
   · subst h2 h3
     refine ⟨_, _, StE.ents (ps' := [ShF eN ⟨none, 0, []⟩]) fun p hp => ?_, rfl, ⟨none, 0, []⟩, rfl, rfl⟩
     rw [List.mem_singleton.1 hp]
     exact fun _ _ _ => .e none 0 (by unfold maxLen; omega)
   · subst h2 h3
     exact ⟨_, _, (StE.share 0 (ShF eN ⟨ad, zs.length, zs⟩) rfl fun _ _ _ h => eF h).trans (StE.keep [0] [] rfl), rfl, ⟨ad, zs.length, zs⟩, rfl, rfl⟩
 refine Con.enter Tryz.func141 rfl (by simp [Tryz.ntmps141]) ?_
 show awp _ _ _ _ ⟨[(0, true, _)], _, _⟩
 refine aSR (aA rfl (aNs (aSR (aM rfl (aNn (aw (aSR (aU rfl (bB rfl rfl) (aA rfl (aNn ?_))))))))))
 refine ah _ rfl (fun h1 => ?_) (fun h1 => ?_)
 ·skip
  refine aSR ?_
  refine aj (q := true) rfl (cG (zs := [.int .i64 0]) (l := [(0, .const (.int .i64 14)), (1, .const (.int .i64 19)), (2, .const (.int .i64 20)), (3, .const (.int .i64 21))]) el90 (by kernel_rfl) (by decide) (by decide) (by decide) rfl rfl rfl (.more rfl (.v rfl .nil) (.more rfl (.v rfl .nil) (.more rfl (.v rfl .nil) (.more rfl (.v rfl .nil) .nil)))) rfl rfl (fun v3_0 => ?_))
  refine aHN ?_
  refine aA rfl (aNn (aq (bj (aK ?_))))
  refine aV [] [0] rfl Tryz.results141 rfl ?_ (.inr rfl)
  exact ⟨rfl, .inr ⟨v3_0, [14, 19, 20, 21], rfl, rfl⟩⟩
 ·skip
  refine aSR (aU rfl (bB rfl rfl) (aA rfl (aNn ?_)))
  refine ah _ rfl (fun h2 => ?_) (fun h2 => ?_)
  ·skip
   refine aSR ?_
   refine aj (q := true) rfl (cG (zs := [.int .i64 0]) (l := [(0, .const (.int .i64 22))]) el90 (by kernel_rfl) (by decide) (by decide) (by decide) rfl rfl rfl (.more rfl (.v rfl .nil) .nil) rfl rfl (fun v5_0 => ?_))
   refine aHN ?_
   refine aA rfl (aNn (aq (bj (aK ?_))))
   refine aV [] [0] rfl Tryz.results141 rfl ?_ (.inr rfl)
   exact ⟨rfl, .inr ⟨v5_0, [22], rfl, rfl⟩⟩
  ·skip
   refine aSR (aU rfl (bB rfl rfl) (aA rfl (aNn ?_)))
   refine ah _ rfl (fun h3 => ?_) (fun h3 => ?_)
   ·skip
    refine aSR ?_
    refine aj (q := true) rfl (cG (zs := [.int .i64 0]) (l := [(0, .const (.int .i64 24)), (1, .const (.int .i64 25))]) el90 (by kernel_rfl) (by decide) (by decide) (by decide) rfl rfl rfl (.more rfl (.v rfl .nil) (.more rfl (.v rfl .nil) .nil)) rfl rfl (fun v7_0 => ?_))
    refine aHN ?_
    refine aA rfl (aNn (aq (bj (aK ?_))))
    refine aV [] [0] rfl Tryz.results141 rfl ?_ (.inr rfl)
    exact ⟨rfl, .inr ⟨v7_0, [24, 25], rfl, rfl⟩⟩
   ·skip
    refine aSR (aU rfl (bB rfl rfl) (aA rfl (aNn ?_)))
    refine ah _ rfl (fun h4 => ?_) (fun h4 => ?_)
    ·skip
     refine aSR ?_
     refine aj (q := true) rfl (cG (zs := [.int .i64 0]) (l := [(0, .const (.int .i64 3))]) el90 (by kernel_rfl) (by decide) (by decide) (by decide) rfl rfl rfl (.more rfl (.v rfl .nil) .nil) rfl rfl (fun v9_0 => ?_))
     refine aHN ?_
     refine aA rfl (aNn (aq (bj (aK ?_))))
     refine aV [] [0] rfl Tryz.results141 rfl ?_ (.inr rfl)
     exact ⟨rfl, .inr ⟨v9_0, [3], rfl, rfl⟩⟩
    ·skip
     refine aSR (aU rfl (bB rfl rfl) (aA rfl (aNn ?_)))
     refine ah _ rfl (fun h5 => ?_) (fun h5 => ?_)
     ·skip
      refine aSR ?_
      refine aj (q := true) rfl (cG (zs := [.int .i64 0]) (l := [(0, .const (.int .i64 4))]) el90 (by kernel_rfl) (by decide) (by decide) (by decide) rfl rfl rfl (.more rfl (.v rfl .nil) .nil) rfl rfl (fun v11_0 => ?_))
      refine aHN ?_
      refine aA rfl (aNn (aq (bj (aK ?_))))
      refine aV [] [0] rfl Tryz.results141 rfl ?_ (.inr rfl)
      exact ⟨rfl, .inr ⟨v11_0, [4], rfl, rfl⟩⟩
     ·skip
      refine aSR (aU rfl (bB rfl rfl) (aA rfl (aNn ?_)))
      refine ah _ rfl (fun h6 => ?_) (fun h6 => ?_)
      ·skip
       refine aSR ?_
       refine aj (q := true) rfl (cG (zs := [.int .i64 0]) (l := [(0, .const (.int .i64 13)), (1, .const (.int .i64 3))]) el90 (by kernel_rfl) (by decide) (by decide) (by decide) rfl rfl rfl (.more rfl (.v rfl .nil) (.more rfl (.v rfl .nil) .nil)) rfl rfl (fun v13_0 => ?_))
       refine aHN ?_
       refine aA rfl (aNn (aq (bj (aK ?_))))
       refine aV [] [0] rfl Tryz.results141 rfl ?_ (.inr rfl)
       exact ⟨rfl, .inr ⟨v13_0, [13, 3], rfl, rfl⟩⟩
      ·skip
       refine au (bu (av (aSR (aA rfl (aNn (aq ?_))))))
       refine aV [] [] rfl Tryz.results141 rfl ?_ (.inr rfl)
       exact ⟨rfl, .inl ⟨rfl, rfl⟩⟩
theorem tZ (k : Int) : gI k ≠ 0 := by unfold gI; split <;> (try split) <;> decide
theorem vw (x y : fU) (p : Per) : Con Tryz.prog 144 [x.val, y.val] [p] [] (YB True) := by
 refine Con.enter Tryz.func144 rfl (by simp [Tryz.ntmps144]) ?_
 show awp _ _ _ _ ⟨[(0, true, _), (1, true, _)], _, _⟩
 refine aSR ?_
 refine aj (q := true) rfl (bI rfl rfl rfl (fun b0_0 => ?_))
 refine aHN ?_
 refine aj (q := true) rfl (bI rfl rfl rfl (fun b0_1 => ?_))
 refine aHN ?_
 refine aA rfl (aNs ?_)
 refine aX [] (by kernel_rfl) ?_
 show aB _ _ _ _ _ 24 #[false, false, false, false, false, false, false, false, false, false, false, false, false, false, false, false, false, false, false, false, false, false, false, false] _
 refine bV 0 rfl rfl (qFA (off := 0) rfl) ?_
 refine bV 1 rfl rfl (ab 0 tk3 rfl rfl rfl) ?_
 refine bV 2 rfl rfl (qFA (off := 0) rfl) ?_
 refine bV 3 rfl rfl (ab 1 tk3 rfl rfl rfl) ?_
 refine bV 4 rfl rfl (bt rfl rfl) ?_
 refine bV 5 rfl rfl (ar rfl) ?_
 refine bW 6 rfl rfl rfl (fun hc => qFA (off := 0) rfl) ?_
 refine bW 7 rfl rfl rfl (fun hc => ab 0 tk3 (aa rfl hc) rfl rfl) ?_
 refine bW 8 rfl rfl rfl (fun hc => qFA (off := 0) rfl) ?_
 refine bW 9 rfl rfl rfl (fun hc => ab 1 tk3 (aa rfl hc) rfl rfl) ?_
 refine bW 10 rfl rfl rfl (fun hc => bB (aa rfl hc) (aa rfl hc)) ?_
 refine bW 11 rfl rfl rfl (fun hc => ar (aa rfl hc)) ?_
 refine bW 12 rfl rfl rfl (fun hc => qFA (off := 1) rfl) ?_
 refine bW 13 rfl rfl rfl (fun hc => ab 0 tk3 (aa rfl hc) rfl rfl) ?_
 refine bW 14 rfl rfl rfl (fun hc => qFA (off := 2) rfl) ?_
 refine bW 15 rfl rfl rfl (fun hc => ab 0 tk3 (aa rfl hc) rfl rfl) ?_
 refine bW 16 rfl rfl rfl (fun hc => bw (by kernel_rfl) (aI (aa rfl hc) rfl) (fun w S fp hst => (jj _).quiet0 hst)) ?_
 refine bW 17 rfl rfl rfl (fun hc => xE (aa rfl hc) (aa rfl hc)) ?_
 refine bW 18 rfl rfl rfl (fun hc => qFA (off := 1) rfl) ?_
 refine bW 19 rfl rfl rfl (fun hc => ab 1 tk3 (aa rfl hc) rfl rfl) ?_
 refine bW 20 rfl rfl rfl (fun hc => eE (aa rfl hc) (aa rfl hc)) ?_
 refine bW 21 rfl rfl rfl (fun hc => bn (aa rfl hc) rfl (fun h => gt hc h)) ?_
 refine bV 22 rfl rfl (ct rfl rfl (fun h => gf rfl h)) ?_
 refine bV 23 rfl rfl (bJ rfl) ?_
 refine bD (by kernel_rfl) ?_
 refine av (aq ?_)
 refine aV [] [] rfl Tryz.results144 rfl ?_ (.inr rfl)
 exact ⟨⟨rfl, rfl⟩, _, rfl, fun _ => trivial⟩
theorem vv (b : Nat) (o : ax) (r : fU) : Con Tryz.prog 139 [r.val, .pointer (some ⟨b, 0, none⟩)] [At b 0 o.row, dT, o.ok] [] (YB True) := by
 refine Con.enter Tryz.func139 rfl (by simp [Tryz.ntmps139]) ?_
 show awp _ _ _ _ ⟨[(0, true, _), (1, true, _)], _, _⟩
 refine bd (ax.f_secs (.of (an 2 rfl))) (fun hlen => ?_)
 refine bd (ax.f_syms (.of (an 2 rfl))) (fun hlen2 => ?_)
 refine aSR ?_
 refine aj (q := true) rfl (bI rfl rfl rfl (fun b0_0 => ?_))
 refine aHN ?_
 refine aA rfl (aNs (aSR ?_))
 refine aU rfl (qFA (off := 2) rfl) ?_
 refine aU rfl (ab 0 tk3 rfl rfl rfl) ?_
 refine aU rfl (bw (by kernel_rfl) rfl (fun w S fp hst => (cB _ _).quiet0 hst)) ?_
 refine aU rfl (bT rfl) (aM rfl (aG rfl rfl (fun hc => aN (o := 0) tk145 rfl (.of (an 0 rfl)) rfl) ?_))
 refine aG rfl rfl (fun hc => qFA (off := 0) rfl) ?_
 refine aG rfl rfl (fun hc => ab 0 tk3 (aa rfl hc) rfl rfl) ?_
 refine fW (zs := [.int .i64 0]) (l := [(0, .const (.int .i64 0)), (1, .const (.int .i64 1))]) el90 (by kernel_rfl) (by decide) (by decide) (by decide) rfl _ rfl (fun hc => rfl) rfl (.more rfl (.v rfl .nil) (.more rfl (.v rfl .nil) .nil)) rfl rfl (fun v1_8 => ?_)
 refine aQ (caps := []) [3, 0] (false) (by kernel_rfl) _ rfl rfl (fun _ => rfl) (fun hc => (aI (aa rfl hc) (aI (aa rfl hc) (aI (aa rfl hc) rfl)))) (fun hc => by rw [List.append_nil]; exact (jz o ⟨v1_8, 2, [0, 1]⟩ _).pre (eD (.yes (.of (an 0 rfl)) hc) (.of (an 1 rfl)))) (fun c1 hc1 => ?_)
 refine aG rfl rfl (fun hc => bT (aa rfl hc)) (aU rfl (ct rfl rfl (fun h => gf rfl h)) (aM rfl ?_))
 refine aG rfl rfl (fun hc => qFA (off := 3) rfl) ?_
 refine aG rfl rfl (fun hc => ab 0 tk3 (aa rfl hc) rfl rfl) ?_
 refine aG rfl rfl (fun hc => qFA (off := 0) rfl) ?_
 refine aG rfl rfl (fun hc => qFA (off := 2) (aa rfl hc)) ?_
 refine aG rfl rfl (fun hc => aN (o := 2) tk51 (aa rfl hc) (.of (an 1 rfl)) rfl) (aG rfl rfl (fun hc => aZ Tryz.underlying51 (aa rfl hc)) ?_)
 refine aG rfl rfl (fun hc => bw (by kernel_rfl) (aI (aa rfl hc) (aI (aa rfl hc) rfl)) (fun w S fp hst => (cB _ _).quiet0 hst)) ?_
 refine aG rfl rfl (fun hc => bT (aa rfl hc)) (aU rfl (ct rfl rfl (fun h => gf rfl h)) (aM rfl ?_))
 refine aG rfl rfl (fun hc => qFA (off := 4) rfl) ?_
 refine aG rfl rfl (fun hc => ab 0 tk3 (aa rfl hc) rfl rfl) (aG rfl rfl (fun hc => bt (aa rfl hc) rfl) (aU rfl (ct rfl rfl (fun h => gf rfl h)) (aM rfl ?_)))
 refine aG rfl rfl (fun hc => qFA (off := 4) rfl) ?_
 refine aG rfl rfl (fun hc => ab 0 tk3 (aa rfl hc) rfl rfl) (aG rfl rfl (fun hc => cL (aa rfl hc) rfl) (aU rfl (ct rfl rfl (fun h => gf rfl h)) (aNn ?_)))
 refine ah _ rfl (fun h1 => ?_) (fun h1 => ?_)
 ·skip
  refine aSR (aA rfl (aNn (aq (aK ?_))))
  refine aV [] [] rfl Tryz.results139 rfl ?_ (.inr rfl)
  exact ⟨⟨rfl, rfl⟩, _, rfl, fun _ => trivial⟩
 ·skip
  have hsec : 0 ≤ r.sec ∧ r.sec < o.secs.l.length := by
    simp only [Bool.or_eq_false_iff, Bool.not_eq_false'] at h1
    exact hc1 (by rw [h1.1.1.1.1]; rfl) h1.1.1.1.2
  have hsm := lV (l := o.secs.l) (i := r.sec) (by omega) (by omega)
  refine au (av (az ?_))
  refine aX [11] (by kernel_rfl) ?_
  show aB _ _ _ _ _ 13 #[false, false, false, false, false, false, false, false, false, false, false, false, false] _
  refine bV 0 rfl rfl (qFA (off := 0) rfl) ?_
  refine bV 1 rfl rfl (qFA (off := 1) rfl) ?_
  refine bV 2 rfl rfl (aN (o := 1) tk50 rfl (.of (an 1 rfl)) rfl) ?_
  refine bV 3 rfl rfl (qFA (off := 0) rfl) ?_
  refine bV 4 rfl rfl (ab 0 tk3 rfl rfl rfl) ?_
  refine cD 5 rfl (by kernel_rfl) true rfl rfl (fun _ => ai Tryz.underlying50 tk85 rfl ((ax.f_secs (.of (an 3 rfl)))) rfl (cR (i := r.sec) (by omega) (by omega)) (by omega) rfl) (fun h => absurd h (by decide)) (fun ⟨b3_5, o3_5⟩ => ?_)
  refine bV 6 rfl rfl (aF (o := 0) tk85 rfl (an 0 rfl) rfl rfl) ?_
  refine bV 7 rfl rfl (qFA (off := 2) rfl) ?_
  refine bV 8 rfl rfl (ab 0 tk3 rfl rfl rfl) ?_
  refine bV 9 rfl rfl (bw (by kernel_rfl) rfl (fun w S fp hst => (jj _).quiet0 hst)) ?_
  refine bM (q := true) 10 rfl (by kernel_rfl) rfl rfl (bp (zs := [.string .empty, .int .i64 0, .int .i64 0, .int .i64 0, .string .empty, .bool false]) (by kernel_rfl) rfl (fun b3_10 => ?_))
  refine bST rfl ?_
  refine bM 11 rfl (by kernel_rfl) rfl rfl (aT 1 tk85 rfl rfl rfl rfl ?_)
  refine bST rfl ?_
  refine bV 12 rfl rfl (bJ rfl) ?_
  refine bD (by kernel_rfl) ?_
  refine av (az (aSR ?_))
  refine aU rfl (qFA (off := 1) rfl) ?_
  refine aU rfl (ab 0 tk3 rfl rfl rfl) ?_
  refine aU rfl (qFA (off := 3) rfl) ?_
  refine aU rfl (ab 1 tk3 rfl rfl rfl) ?_
  refine aU rfl (bw (by kernel_rfl) rfl (fun w S fp hst => (cB _ _).quiet0 hst)) ?_
  refine aU rfl (bT rfl) (aM rfl ?_)
  refine aG rfl rfl (fun hc => qFA (off := 1) rfl) ?_
  refine aG rfl rfl (fun hc => ab 0 tk3 (aa rfl hc) rfl rfl) ?_
  refine aG rfl rfl (fun hc => qFA (off := 3) rfl) ?_
  refine aG rfl rfl (fun hc => ab 1 tk3 (aa rfl hc) rfl rfl) (aG rfl rfl (fun hc => ar rfl) (aG rfl rfl (fun hc => qk (aa rfl hc) (aa rfl hc)) (aG rfl rfl (fun hc => du (aa rfl hc) (aa rfl hc)) (aU rfl (ct rfl rfl (fun h => gf rfl h)) (aM rfl ?_)))))
  refine aG rfl rfl (fun hc => qFA (off := 1) rfl) ?_
  refine aG rfl rfl (fun hc => ab 0 tk3 (aa rfl hc) rfl rfl) (aG rfl rfl (fun hc => ar rfl) ?_)
  refine aG rfl rfl (fun hc => eO (aa rfl hc) (aa rfl hc) (by exact tZ _)) ?_
  refine aG rfl rfl (fun hc => cN (aa rfl hc) rfl) (aU rfl (ct rfl rfl (fun h => gf rfl h)) (aNn ?_))
  refine ah _ rfl (fun h2 => ?_) (fun h2 => ?_)
  ·skip
   refine aSR (aA rfl (aNn (aq (aK ?_))))
   refine aV [] [] rfl Tryz.results139 rfl ?_ (.inr rfl)
   exact ⟨⟨rfl, rfl⟩, _, rfl, fun _ => trivial⟩
  ·skip
   refine au (av (aSR ?_))
   refine aU rfl (qFA (off := 2) rfl) ?_
   refine aU rfl (ab 0 tk3 rfl rfl rfl) ?_
   refine aj (q := true) rfl (bF [] [] (by kernel_rfl) rfl rfl rfl rfl (yI _) ?_)
   rintro _ _ _ ⟨rfl, ol, rfl, rfl⟩
   refine aST ?_
   refine aA rfl (aNs (aSR (aM rfl (aU rfl (xu Tryz.underlying90 rfl) (aNn ?_)))))
   refine ah _ rfl (fun h3 => ?_) (fun h3 => ?_)
   ·skip
    refine aSR ?_
    refine aU rfl (qFA (off := 1) rfl) ?_
    refine aU rfl (ab 1 tk3 rfl rfl rfl) (aU rfl (bB rfl rfl) (aM rfl ?_))
    refine aG rfl rfl (fun hc => qFA (off := 2) rfl) ?_
    refine aG rfl rfl (fun hc => ab 1 tk3 (aa rfl hc) rfl rfl) (aG rfl rfl (fun hc => ar rfl) (aG rfl rfl (fun hc => cL (aa rfl hc) (aa rfl hc)) (aU rfl (bn rfl rfl (fun h => gt rfl h)) (aA rfl (aNn (aq (aK ?_)))))))
    refine aV [] [] rfl Tryz.results139 rfl ?_ (.inr rfl)
    exact ⟨⟨rfl, rfl⟩, _, rfl, fun _ => trivial⟩
   ·skip
    refine au (av (az ?_))
    refine eR (bH.f_bytes (Ent.all (ax.f_secsA (.of (an 5 rfl))) hsm)) (fun hbl => ?_)
    refine ae ?_
    refine aU rfl (qFA (off := 4) rfl) ?_
    refine aU rfl (ab 1 tk9 rfl rfl rfl) ?_
    refine aU rfl (qFA (off := 1) rfl) ?_
    refine aU rfl (ab 0 tk3 rfl rfl rfl) ?_
    refine aj (q := true) rfl (bF [1] [] (by kernel_rfl) rfl rfl rfl rfl (sq _ hbl _) ?_)
    rintro _ _ _ ⟨rfl, rfl, iop, ia, ib, ic, im, iok, rfl⟩
    refine aST ?_
    refine aM rfl (aU rfl (bc rfl rfl) (aU rfl (bc rfl rfl) ?_))
    refine aj (q := true) rfl (bp (zs := [.int .i64 0, .int .i64 0, .int .i64 0, .int .i64 0, .int .i64 0]) (by kernel_rfl) rfl (fun b9_8 => ?_))
    refine aHN ?_
    refine aj rfl (aT 2 tk233 rfl rfl rfl rfl ?_)
    refine aHK ?_
    refine aA rfl (aNn (aSR ?_))
    refine aU rfl (qFA (off := 1) rfl) ?_
    refine aU rfl (ab 1 tk3 rfl rfl rfl) (aU rfl (bB rfl rfl) (aM rfl (aG rfl rfl (fun hc => ar rfl) (aU rfl (bn rfl rfl (fun h => gt rfl h)) (aM rfl (aG rfl rfl (fun hc => ar rfl) ?_))))))
    refine aG rfl rfl (fun hc => qFA (off := 0) rfl) ?_
    refine aG rfl rfl (fun hc => ab 2 tk3 (aa rfl hc) rfl rfl) ?_
    refine aQ (caps := []) [5] (false) (by kernel_rfl) _ rfl rfl (fun _ => rfl) (fun hc => (aI (aa rfl hc) (aI (aa rfl hc) rfl))) (fun hc => by rw [List.append_nil]; exact oo ol _) (fun c2 hc2 => ?_)
    refine aU rfl (bn rfl rfl (fun h => gt rfl h)) (aA rfl (aNn (aq ?_)))
    refine aV [] [] rfl Tryz.results139 rfl ?_ (.inr rfl)
    exact ⟨⟨rfl, rfl⟩, _, rfl, fun _ => trivial⟩
theorem vt (o : ax) : Con Tryz.prog 69 [o.val] [dT, o.ok] [] (YB True) := by
 refine Con.enter Tryz.func69 rfl (by simp [Tryz.ntmps69]) ?_
 show awp _ _ _ _ ⟨[(0, true, _)], _, _⟩
 refine aSR ?_
 refine aj (q := true) rfl (bI rfl rfl rfl (fun b0_0 => ?_))
 refine aHN ?_
 refine aA rfl (aNn (aSR (aU rfl (dq (l := [.tmp 1]) rfl) (aA rfl (cr ?_)))))
 refine av (aSR (aA rfl (aNs (bL 0 rfl rfl ?_))))
 show awp _ _ _ _ ⟨_, At _ 0 _ :: _, _⟩
 refine ae ?_
 refine aU rfl (qFA (off := 0) rfl) ?_
 refine aU rfl (qFA (off := 3) rfl) ?_
 refine aU rfl (aN (o := 3) tk52 rfl (.of (an 0 rfl)) rfl) (aM rfl ?_)
 refine aQ (caps := []) [2, 1, 0] (false) (by kernel_rfl) true rfl rfl (fun _ => rfl) (fun hc => rfl) (fun hc => by rw [List.append_nil]; exact (mI o.rels 139 [.pointer (some ⟨b0_0, 0, none⟩)] (cx (At b0_0 0 o.row) (cx dT o.ok)) (fun _ => True) (by kernel_rfl) (fun r _ => (vv b0_0 o r).pre (rY fw.left fw.right.left fw.right.right))).pre (eD (ax.f_rels (.of (an 2 rfl))) (.mk2 (.of (an 0 rfl)) (.mk2 (.of (an 1 rfl)) (.of (an 2 rfl)))))) (fun c1 hc1 => ?_)
 refine aM rfl ?_
 refine aG rfl rfl (fun hc => qFA (off := 0) rfl) ?_
 refine aG rfl rfl (fun hc => qFA (off := 3) (aa rfl hc)) ?_
 refine aG rfl rfl (fun hc => aN (o := 3) tk52 (aa rfl hc) (.of (an 0 rfl)) rfl) (aG rfl rfl (fun hc => ar rfl) ?_)
 refine aQ (caps := []) [0] (false) (by kernel_rfl) _ rfl rfl (fun _ => rfl) (fun hc => (aI (aa rfl hc) (aI (aa rfl hc) rfl))) (fun hc => by rw [List.append_nil]; exact (mO o.rels 144 [] o.ok (by kernel_rfl) (fun x _ y _ => vw x y _)).pre (eD (ax.f_rels (.of (an 0 rfl))) (.of (an 0 rfl)))) (fun c2 hc2 => ?_)
 refine aU rfl (bn rfl rfl (fun h => gt rfl h)) (aA rfl (aNn (aq ?_)))
 refine aV [] [] rfl Tryz.results69 rfl ?_ (.inr rfl)
 exact ⟨⟨rfl, rfl⟩, _, rfl, fun _ => trivial⟩
end Go.Proofs.YtgmiihmahaahiaaGreatDoor

