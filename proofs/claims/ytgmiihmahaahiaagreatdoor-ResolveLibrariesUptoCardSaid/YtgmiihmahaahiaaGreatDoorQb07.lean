/- Parts of the proof, in build order. No condition. -/
import Derived.Test.YtgmiihmahaahiaaGreatDoorQb06
import Derived.Test.YtgmiihmahaahiaaGreatDoorQb03
import Derived.Test.YtgmiihmahaahiaaGreatDoorQb04
import Derived.Lib.Bytealg
set_option linter.unusedSimpArgs false
set_option linter.unusedVariables false
set_option maxHeartbeats 1000000
set_option maxRecDepth 20000
namespace Go.Sy
open Go.RowKit Go.Lp
theorem StE.ents {ps ps' : List Per} {hp : List Res} (h : ∀ p ∈ ps', Ent ps p) : StE ps hp ps' hp := fun w S fp hst =>
 ⟨S, fp, ⟨fun p hp => h p hp w S hst.per, hst.res, hst.lt, hst.dj, hst.slt⟩, fun _ h => h, fun _ h => .inl h, fun _ h => h⟩
end Go.Sy
namespace Go.Proofs.YtgmiihmahaahiaaGreatDoor
open Go.RowKit Go.Lp Go.Sy
open Go.Proofs.Tryz
attribute [local irreducible] aL aB awp aC fwp
abbrev eD : Int → List D := fun z => [D.v (eI z)]
theorem el {ps : List Per} {p q : Per} (h1 : Ent ps p) (h2 : Ent ps q) : ∀ r ∈ [p, q], Ent ps r := fun r hr => by
 simp only [List.mem_cons, List.not_mem_nil, or_false] at hr
 rcases hr with rfl | rfl
 · exact h1
 · exact h2
theorem ra {ps : List Per} {p q t : Per} (h1 : Ent ps p) (h2 : Ent ps q) (h3 : Ent ps t) : ∀ r ∈ [p, q, t], Ent ps r := fun r hr => by
 simp only [List.mem_cons, List.not_mem_nil, or_false] at hr
 rcases hr with rfl | rfl | rfl
 · exact h1
 · exact h2
 · exact h3
theorem ff {p : Per} : Ent [p] p := .of (an 0 rfl)
theorem sX (s : bM) (p : Per) : Con Tryz.prog 132 [s.val] [p] [] (YN dH fun _ => True) := by
 refine Con.enter Tryz.func132 rfl (by simp [Tryz.ntmps132]) ?_
 show awp _ _ _ _ ⟨[(0, true, _)], _, _⟩
 refine aSR ?_
 refine al (q := true) rfl (bO rfl rfl rfl (fun b0_0 => ?_))
 refine aH (by (try simp only [nM, nN]); rfl) ?_
 refine aA rfl (aNn (aSR ?_))
 refine aU rfl (aa (off := 0) (by kernel_rfl) rfl) ?_
 refine aU rfl (ae 0 tk9 rfl rfl rfl) (aA rfl (aNn (aj ?_)))
 refine bc [] [] rfl Tryz.results132 rfl ?_ (.inr rfl)
 exact ⟨⟨rfl, rfl⟩, _, rfl, trivial⟩
theorem tT (s : bM) : Con Tryz.prog 127 [s.val] [s.ok] [] (YB (s.bytes.size ≤ 1048576)) := by
 refine Con.enter Tryz.func127 rfl (by simp [Tryz.ntmps127]) ?_
 show awp _ _ _ _ ⟨[(0, true, _)], _, _⟩
 refine eE (bM.f_name (.of (an 0 rfl))) (fun hnl => ?_)
 refine aSR ?_
 refine al (q := true) rfl (bO rfl rfl rfl (fun b0_0 => ?_))
 refine aH (by (try simp only [nM, nN]); rfl) ?_
 refine aA rfl (aNn (aSR ?_))
 refine aU rfl (aa (off := 3) (by kernel_rfl) rfl) ?_
 refine aU rfl (ae 0 tk3 rfl rfl rfl) (aA rfl (aNs (aSR ?_)))
 refine aU rfl (aa (off := 1) (by kernel_rfl) rfl) ?_
 refine aU rfl (ae 0 tk3 rfl rfl rfl) (aU rfl (bK rfl rfl) (aM rfl ?_))
 refine aG rfl rfl (fun hc => aa (off := 1) (by kernel_rfl) rfl) ?_
 refine aG rfl rfl (fun hc => ae 0 tk3 (ab rfl hc) rfl rfl) (aG rfl rfl (fun hc => bK (ab rfl hc) rfl) (aU rfl (cx rfl rfl (fun h => gf rfl h)) (aNn ?_)))
 refine ah _ rfl (fun h1 => ?_) (fun h1 => ?_)
 ·skip
  refine ai (aA rfl (aNn (aSR ?_)))
  refine aU rfl (aa (off := 1) (by kernel_rfl) rfl) ?_
  refine aU rfl (ae 0 tk3 rfl rfl rfl) (aU rfl (cN rfl rfl) (aM rfl ?_))
  refine aG rfl rfl (fun hc => aa (off := 2) (by kernel_rfl) rfl) ?_
  refine aG rfl rfl (fun hc => ae 0 tk3 (ab rfl hc) rfl rfl) (aG rfl rfl (fun hc => cQ (ab rfl hc) rfl) (aG rfl rfl (fun hc => aq (ab rfl hc)) ?_))
  refine aG rfl rfl (fun hc => aa (off := 3) (by kernel_rfl) rfl) ?_
  refine aG rfl rfl (fun hc => ae 0 tk3 (ab rfl hc) rfl rfl) ?_
  refine aG rfl rfl (fun hc => eJ (ab rfl hc) rfl (by decide)) ?_
  refine aG rfl rfl (fun hc => bK (ab rfl hc) rfl) (aG rfl rfl (fun hc => bA (ab rfl hc) rfl (fun h => gt hc h)) (aU rfl (cx rfl rfl (fun h => gf rfl h)) (aA rfl (aNn (aSR ?_)))))
  refine aU rfl (aa (off := 0) (by kernel_rfl) rfl) ?_
  refine aU rfl (ae 0 tk9 rfl rfl rfl) ?_
  refine aQ (caps := []) [] (false) (by kernel_rfl) true rfl rfl (fun _ => rfl) (fun hc => rfl) (fun hc => by rw [List.append_nil]; exact eR _ hnl) (fun c1 hc1 => ?_)
  refine aM rfl ?_
  refine aG rfl rfl (fun hc => aa (off := 1) (by kernel_rfl) rfl) ?_
  refine aG rfl rfl (fun hc => ae 0 tk3 (ab rfl hc) rfl rfl) ?_
  refine aG rfl rfl (fun hc => bP (by kernel_rfl) (aN (ab rfl hc) (aN (ab rfl rfl) rfl)) (fun w S fp hst => (cD _ _).quiet0 hst)) ?_
  refine aU rfl (bA rfl rfl (fun h => gt rfl h)) (aM rfl ?_)
  refine aG rfl rfl (fun hc => aa (off := 2) (by kernel_rfl) rfl) ?_
  refine aG rfl rfl (fun hc => ae 0 tk3 (ab rfl hc) rfl rfl) ?_
  refine aQ (caps := []) [] (false) (by kernel_rfl) _ rfl rfl (fun _ => rfl) (fun hc => (aN (ab rfl hc) rfl)) (fun hc => by rw [List.append_nil]; exact jF _) (fun c2 hc2 => ?_)
  refine aU rfl (bA rfl rfl (fun h => gt rfl h)) (aM rfl ?_)
  refine aG rfl rfl (fun hc => aa (off := 3) (by kernel_rfl) rfl) ?_
  refine aG rfl rfl (fun hc => ae 0 tk3 (ab rfl hc) rfl rfl) ?_
  refine aG rfl rfl (fun hc => bP (by kernel_rfl) (aN (ab rfl hc) (aN (ab rfl rfl) rfl)) (fun w S fp hst => (cD _ _).quiet0 hst)) ?_
  refine aU rfl (bA rfl rfl (fun h => gt rfl h)) (aM rfl ?_)
  refine aG rfl rfl (fun hc => aa (off := 4) (by kernel_rfl) rfl) ?_
  refine aG rfl rfl (fun hc => ae 0 tk9 (ab rfl hc) rfl rfl) (aG rfl rfl (fun hc => dX Tryz.underlying9 (ab rfl hc)) (aG rfl rfl (fun hc => aq rfl) (aG rfl rfl (fun hc => bK (ab rfl hc) (ab rfl hc)) (aU rfl (bA rfl rfl (fun h => gt rfl h)) (aM rfl (aG rfl rfl (fun hc => aq rfl) (aU rfl (bA rfl rfl (fun h => gt rfl h)) (aA rfl (aNn (aj ?_))))))))))
  refine bc [] [] rfl Tryz.results127 rfl ?_ (.inr rfl)
  refine ⟨⟨rfl, rfl⟩, _, rfl, fun hb => ?_⟩
  simp only [Bool.and_eq_true, decide_eq_true_eq] at hb; omega
 ·skip
  refine au (aw (aSR ?_))
  refine aU rfl (aa (off := 1) (by kernel_rfl) rfl) ?_
  refine aU rfl (ae 0 tk3 rfl rfl rfl) (aU rfl (cN rfl rfl) (aM rfl ?_))
  refine aG rfl rfl (fun hc => aa (off := 2) (by kernel_rfl) rfl) ?_
  refine aG rfl rfl (fun hc => ae 0 tk3 (ab rfl hc) rfl rfl) (aG rfl rfl (fun hc => cQ (ab rfl hc) rfl) (aG rfl rfl (fun hc => aq (ab rfl hc)) ?_))
  refine aG rfl rfl (fun hc => aa (off := 3) (by kernel_rfl) rfl) ?_
  refine aG rfl rfl (fun hc => ae 0 tk3 (ab rfl hc) rfl rfl) ?_
  refine aG rfl rfl (fun hc => eJ (ab rfl hc) rfl (by decide)) ?_
  refine aG rfl rfl (fun hc => bK (ab rfl hc) rfl) (aG rfl rfl (fun hc => bA (ab rfl hc) rfl (fun h => gt hc h)) (aU rfl (cx rfl rfl (fun h => gf rfl h)) (aA rfl (aNn (aSR ?_)))))
  refine aU rfl (aa (off := 0) (by kernel_rfl) rfl) ?_
  refine aU rfl (ae 0 tk9 rfl rfl rfl) ?_
  refine aQ (caps := []) [] (false) (by kernel_rfl) true rfl rfl (fun _ => rfl) (fun hc => rfl) (fun hc => by rw [List.append_nil]; exact eR _ hnl) (fun c1 hc1 => ?_)
  refine aM rfl ?_
  refine aG rfl rfl (fun hc => aa (off := 1) (by kernel_rfl) rfl) ?_
  refine aG rfl rfl (fun hc => ae 0 tk3 (ab rfl hc) rfl rfl) ?_
  refine aG rfl rfl (fun hc => bP (by kernel_rfl) (aN (ab rfl hc) (aN (ab rfl rfl) rfl)) (fun w S fp hst => (cD _ _).quiet0 hst)) ?_
  refine aU rfl (bA rfl rfl (fun h => gt rfl h)) (aM rfl ?_)
  refine aG rfl rfl (fun hc => aa (off := 2) (by kernel_rfl) rfl) ?_
  refine aG rfl rfl (fun hc => ae 0 tk3 (ab rfl hc) rfl rfl) ?_
  refine aQ (caps := []) [] (false) (by kernel_rfl) _ rfl rfl (fun _ => rfl) (fun hc => (aN (ab rfl hc) rfl)) (fun hc => by rw [List.append_nil]; exact jF _) (fun c2 hc2 => ?_)
  refine aU rfl (bA rfl rfl (fun h => gt rfl h)) (aM rfl ?_)
  refine aG rfl rfl (fun hc => aa (off := 3) (by kernel_rfl) rfl) ?_
  refine aG rfl rfl (fun hc => ae 0 tk3 (ab rfl hc) rfl rfl) ?_
  refine aG rfl rfl (fun hc => bP (by kernel_rfl) (aN (ab rfl hc) (aN (ab rfl rfl) rfl)) (fun w S fp hst => (cD _ _).quiet0 hst)) ?_
  refine aU rfl (bA rfl rfl (fun h => gt rfl h)) (aM rfl ?_)
  refine aG rfl rfl (fun hc => aa (off := 4) (by kernel_rfl) rfl) ?_
  refine aG rfl rfl (fun hc => ae 0 tk9 (ab rfl hc) rfl rfl) (aG rfl rfl (fun hc => dX Tryz.underlying9 (ab rfl hc)) (aG rfl rfl (fun hc => aq rfl) (aG rfl rfl (fun hc => bK (ab rfl hc) (ab rfl hc)) (aU rfl (bA rfl rfl (fun h => gt rfl h)) (aM rfl (aG rfl rfl (fun hc => aq rfl) (aU rfl (bA rfl rfl (fun h => gt rfl h)) (aA rfl (aNn (aj ?_))))))))))
  refine bc [] [] rfl Tryz.results127 rfl ?_ (.inr rfl)
  refine ⟨⟨rfl, rfl⟩, _, rfl, fun hb => ?_⟩
  simp only [Bool.and_eq_true, decide_eq_true_eq] at hb; omega
theorem tM (o : ar) : Con Tryz.prog 67 [o.val] [o.ok] [] (YB (∀ s ∈ o.secs.l, s.bytes.size ≤ 1048576)) := by
 refine Con.enter Tryz.func67 rfl (by simp [Tryz.ntmps67]) ?_
 show awp _ _ _ _ ⟨[(0, true, _)], _, _⟩
 refine bf (ar.f_secs (.of (an 0 rfl))) (fun hlen => ?_)
 refine aSR ?_
 refine al (q := true) rfl (bO rfl rfl rfl (fun b0_0 => ?_))
 refine aH (by (try simp only [nM, nN]); rfl) ?_
 refine aA rfl (aNn (aSR (aA rfl (aNn (aSR ?_)))))
 refine aU rfl (aa (off := 0) (by kernel_rfl) rfl) ?_
 refine aU rfl (aa (off := 1) (by kernel_rfl) rfl) ?_
 refine aU rfl (ae 0 tk50 rfl rfl rfl) (aU rfl (bq Tryz.underlying50 rfl) (aU rfl (eG rfl rfl) (aM rfl ?_)))
 refine aG rfl rfl (fun hc => aa (off := 0) (by kernel_rfl) rfl) ?_
 refine aG rfl rfl (fun hc => aa (off := 1) (by kernel_rfl) (ab rfl hc)) ?_
 refine aG rfl rfl (fun hc => ae 0 tk50 (ab rfl hc) rfl rfl) (aG rfl rfl (fun hc => aq rfl) ?_)
 refine aQ (caps := []) [0] (false) (by kernel_rfl) _ rfl rfl (fun _ => rfl) (fun hc => (aN (ab rfl hc) (aN (ab rfl hc) rfl))) (fun hc => by rw [List.append_nil]; exact (jy o.secs 127 [] o.ok (fun s => s.bytes.size ≤ 1048576) (by kernel_rfl) (fun s hs => (tT s).pre fun p hp => (List.mem_singleton.1 hp) ▸ Ent.allm (ar.f_secsA (.of (an 0 rfl))) hs)).pre (el (ar.f_secs (.of (an 0 rfl))) (.of (an 0 rfl)))) (fun c1 hc1 => ?_)
 refine aU rfl (bA rfl rfl (fun h => gt rfl h)) (aM rfl ?_)
 refine aG rfl rfl (fun hc => aa (off := 0) (by kernel_rfl) rfl) ?_
 refine aG rfl rfl (fun hc => aa (off := 1) (by kernel_rfl) (ab rfl hc)) ?_
 refine aG rfl rfl (fun hc => ae 0 tk50 (ab rfl hc) rfl rfl) ?_
 refine aQ (caps := []) [0] (false) (by kernel_rfl) _ rfl rfl (fun _ => rfl) (fun hc => (aN (ab rfl hc) (aN (ab rfl rfl) rfl))) (fun hc => by rw [List.append_nil]; exact (jL o.secs 132 [] o.ok (by kernel_rfl) (fun s hs => sX s _)).pre (el (ar.f_secs (.of (an 0 rfl))) (.of (an 0 rfl)))) (fun c2 hc2 => ?_)
 refine aU rfl (bA rfl rfl (fun h => gt rfl h)) (aA rfl (aNn (aj ?_)))
 refine bc [] [] rfl Tryz.results67 rfl ?_ (.inr rfl)
 refine ⟨⟨rfl, rfl⟩, _, rfl, fun hb => ?_⟩
 simp at hb
 exact hc1 (by simp; omega) hb.1.2
theorem sE (k : Int) : Con Tryz.prog 135 [.int .i64 k] [] [] fun r ps hp => hp = [] ∧ ∃ l : Sl Int, r = l.val ∧ ps = [ShF eD l] := by
 refine Con.conv (R := fun r ps hp => ps = [] ∧ ∃ (ad : Option Addr) (zs : List Int), r = .slice ad zs.length zs.length ∧ hp = [bH (.slice ad zs.length zs.length) 3 1 (zs.map eD)]) ?_ fun _ _ _ ⟨h1, ad, zs, h2, h3⟩ => ?_
 rotate_left
 · subst h1 h2 h3
   exact ⟨_, _, (StE.share 0 (ShF eD ⟨ad, zs.length, zs⟩) rfl fun _ _ _ h => et h).trans (StE.keep [0] [] rfl), rfl, ⟨ad, zs.length, zs⟩, rfl, rfl⟩
 refine Con.enter Tryz.func135 rfl (by simp [Tryz.ntmps135]) ?_
 show awp _ _ _ _ ⟨[(0, true, _)], _, _⟩
 refine aSR (aA rfl (aNs (aSR (aM rfl (aNn (ax (aSR (aU rfl (bK rfl rfl) (aA rfl (aNn ?_))))))))))
 refine ah _ rfl (fun h1 => ?_) (fun h1 => ?_)
 ·skip
  refine aSR ?_
  refine al (q := true) rfl (cz (zs := [.int .i64 0]) (l := [(0, .const (.int .i64 0))]) el90 (by kernel_rfl) (by decide) (by decide) (by decide) rfl rfl rfl (.more rfl (.v rfl .nil) .nil) rfl rfl (fun v3_0 => ?_))
  refine aH (by (try simp only [nM, nN]); rfl) ?_
  refine aA rfl (aNn (aj (bC (aO ?_))))
  refine bc [] [0] rfl Tryz.results135 rfl ?_ (.inr rfl)
  exact ⟨rfl, v3_0, [0], rfl, rfl⟩
 ·skip
  refine aSR (aU rfl (bK rfl rfl) (aA rfl (aNn ?_)))
  refine ah _ rfl (fun h2 => ?_) (fun h2 => ?_)
  ·skip
   refine aSR ?_
   refine al (q := true) rfl (cz (zs := [.int .i64 0]) (l := [(0, .const (.int .i64 1)), (1, .const (.int .i64 2))]) el90 (by kernel_rfl) (by decide) (by decide) (by decide) rfl rfl rfl (.more rfl (.v rfl .nil) (.more rfl (.v rfl .nil) .nil)) rfl rfl (fun v5_0 => ?_))
   refine aH (by (try simp only [nM, nN]); rfl) ?_
   refine aA rfl (aNn (aj (bC (aO ?_))))
   refine bc [] [0] rfl Tryz.results135 rfl ?_ (.inr rfl)
   exact ⟨rfl, v5_0, [1, 2], rfl, rfl⟩
  ·skip
   refine au (bL (aw (aSR ?_)))
   refine al (q := true) rfl (cz (zs := [.int .i64 0]) (l := [(0, .const (.int .i64 3)), (1, .const (.int .i64 4))]) el90 (by kernel_rfl) (by decide) (by decide) (by decide) rfl rfl rfl (.more rfl (.v rfl .nil) (.more rfl (.v rfl .nil) .nil)) rfl rfl (fun v6_0 => ?_))
   refine aH (by (try simp only [nM, nN]); rfl) ?_
   refine aA rfl (aNn (aj ?_))
   refine bc [] [0] rfl Tryz.results135 rfl ?_ (.inr rfl)
   exact ⟨rfl, v6_0, [3, 4], rfl, rfl⟩
theorem tQ (b : Nat) (o : ar) (s : bu) : Con Tryz.prog 133 [s.val, .pointer (some ⟨b, 0, none⟩)] [At b 0 o.row, o.ok, s.ok] [] (YB ((s.sec = -1 ∧ s.bind ≠ 0) ∨ (0 ≤ s.sec ∧ s.sec < o.secs.l.length))) := by
 refine Con.enter Tryz.func133 rfl (by simp [Tryz.ntmps133]) ?_
 show awp _ _ _ _ ⟨[(0, true, _), (1, true, _)], _, _⟩
 refine eE (bu.f_name (.of (an 2 rfl))) (fun hnl => ?_)
 refine eE (bu.f_version (.of (an 2 rfl))) (fun hvl => ?_)
 refine bf (ar.f_secs (.of (an 1 rfl))) (fun hlen => ?_)
 refine aSR ?_
 refine al (q := true) rfl (bO rfl rfl rfl (fun b0_0 => ?_))
 refine aH (by (try simp only [nM, nN]); rfl) ?_
 refine aA rfl (aNn (aSR ?_))
 refine aU rfl (aa (off := 0) (by kernel_rfl) rfl) ?_
 refine aU rfl (ae 0 tk9 rfl rfl rfl) ?_
 refine aQ (caps := []) [] (false) (by kernel_rfl) true rfl rfl (fun _ => rfl) (fun hc => rfl) (fun hc => by rw [List.append_nil]; exact eR _ hnl) (fun c1 hc1 => ?_)
 refine aM rfl ?_
 refine aG rfl rfl (fun hc => aa (off := 1) (by kernel_rfl) rfl) ?_
 refine aG rfl rfl (fun hc => ae 0 tk9 (ab rfl hc) rfl rfl) (aG rfl rfl (fun hc => dR (ab rfl hc) rfl) (aG rfl rfl (fun hc => aq (ab rfl hc)) ?_))
 refine aG rfl rfl (fun hc => aa (off := 1) (by kernel_rfl) rfl) ?_
 refine aG rfl rfl (fun hc => ae 0 tk9 (ab rfl hc) rfl rfl) ?_
 refine aQ (caps := []) [] (false) (by kernel_rfl) _ rfl rfl (fun _ => rfl) (fun hc => (aN (ab rfl hc) rfl)) (fun hc => by rw [List.append_nil]; exact eR _ hvl) (fun c2 hc2 => ?_)
 refine aG rfl rfl (fun hc => cx (ab rfl hc) rfl (fun h => gf hc h)) (aU rfl (bA rfl rfl (fun h => gt rfl h)) (aM rfl ?_))
 refine aG rfl rfl (fun hc => aa (off := 3) (by kernel_rfl) rfl) ?_
 refine aG rfl rfl (fun hc => ae 0 tk3 (ab rfl hc) rfl rfl) ?_
 refine aG rfl rfl (fun hc => bP (by kernel_rfl) (aN (ab rfl hc) (aN (ab rfl rfl) rfl)) (fun w S fp hst => (cD _ _).quiet0 hst)) ?_
 refine aU rfl (bA rfl rfl (fun h => gt rfl h)) (aM rfl ?_)
 refine aG rfl rfl (fun hc => aa (off := 4) (by kernel_rfl) rfl) ?_
 refine aG rfl rfl (fun hc => ae 0 tk3 (ab rfl hc) rfl rfl) ?_
 refine aG rfl rfl (fun hc => bP (by kernel_rfl) (aN (ab rfl hc) (aN (ab rfl rfl) rfl)) (fun w S fp hst => (cD _ _).quiet0 hst)) ?_
 refine aU rfl (bA rfl rfl (fun h => gt rfl h)) (aM rfl ?_)
 refine aG rfl rfl (fun hc => aa (off := 5) (by kernel_rfl) rfl) ?_
 refine aG rfl rfl (fun hc => ae 0 tk3 (ab rfl hc) rfl rfl) ?_
 refine aG rfl rfl (fun hc => bP (by kernel_rfl) (aN (ab rfl hc) (aN (ab rfl rfl) rfl)) (fun w S fp hst => (cD _ _).quiet0 hst)) ?_
 refine aU rfl (bA rfl rfl (fun h => gt rfl h)) (aM rfl ?_)
 refine aG rfl rfl (fun hc => aa (off := 7) (by kernel_rfl) rfl) ?_
 refine aG rfl rfl (fun hc => ae 0 tk3 (ab rfl hc) rfl rfl) (aG rfl rfl (fun hc => cQ (ab rfl hc) rfl) (aU rfl (bA rfl rfl (fun h => gt rfl h)) (aM rfl ?_)))
 refine aG rfl rfl (fun hc => aa (off := 8) (by kernel_rfl) rfl) ?_
 refine aG rfl rfl (fun hc => ae 0 tk3 (ab rfl hc) rfl rfl) (aG rfl rfl (fun hc => cQ (ab rfl hc) rfl) (aU rfl (bA rfl rfl (fun h => gt rfl h)) (aA rfl (aNs (ax (aSR (aM rfl (aU rfl (cm rfl) (aA rfl (aNn ?_))))))))))
 refine ah _ rfl (fun h1 => ?_) (fun h1 => ?_)
 ·skip
  refine aSR (aA rfl (aNn (aj (bC (aO ?_)))))
  refine bc [] [] rfl Tryz.results133 rfl ?_ (.inr rfl)
  exact ⟨⟨rfl, rfl⟩, _, rfl, fun hb => by cases hb⟩
 ·skip
  refine aSR ?_
  refine aU rfl (aa (off := 3) (by kernel_rfl) rfl) ?_
  refine aU rfl (ae 0 tk3 rfl rfl rfl) (aU rfl (bK rfl rfl) (aA rfl (aNn ?_)))
  refine ah _ rfl (fun h2 => ?_) (fun h2 => ?_)
  ·skip
   refine aSR ?_
   refine aU rfl (aa (off := 6) (by kernel_rfl) rfl) ?_
   refine aU rfl (ae 0 tk3 rfl rfl rfl) (aU rfl (bK rfl rfl) (aM rfl ?_))
   refine aG rfl rfl (fun hc => aa (off := 5) (by kernel_rfl) rfl) ?_
   refine aG rfl rfl (fun hc => ae 0 tk3 (ab rfl hc) rfl rfl) (aG rfl rfl (fun hc => bK (ab rfl hc) rfl) (aU rfl (bA rfl rfl (fun h => gt rfl h)) (aM rfl ?_)))
   refine aG rfl rfl (fun hc => aa (off := 1) (by kernel_rfl) rfl) ?_
   refine aG rfl rfl (fun hc => ae 0 tk9 (ab rfl hc) rfl rfl) (aG rfl rfl (fun hc => dR (ab rfl hc) rfl) (aU rfl (bA rfl rfl (fun h => gt rfl h)) (aM rfl ?_)))
   refine aG rfl rfl (fun hc => aa (off := 2) (by kernel_rfl) rfl) ?_
   refine aG rfl rfl (fun hc => ae 0 tk4 (ab rfl hc) rfl rfl) (aG rfl rfl (fun hc => cm (ab rfl hc)) (aU rfl (bA rfl rfl (fun h => gt rfl h)) (aM rfl ?_)))
   refine aG rfl rfl (fun hc => aa (off := 7) (by kernel_rfl) rfl) ?_
   refine aG rfl rfl (fun hc => ae 0 tk3 (ab rfl hc) rfl rfl) (aG rfl rfl (fun hc => bK (ab rfl hc) rfl) (aU rfl (bA rfl rfl (fun h => gt rfl h)) (aM rfl ?_)))
   refine aG rfl rfl (fun hc => aa (off := 8) (by kernel_rfl) rfl) ?_
   refine aG rfl rfl (fun hc => ae 0 tk3 (ab rfl hc) rfl rfl) (aG rfl rfl (fun hc => cQ (ab rfl hc) rfl) (aU rfl (bA rfl rfl (fun h => gt rfl h)) (aM rfl ?_)))
   refine aG rfl rfl (fun hc => aa (off := 8) (by kernel_rfl) rfl) ?_
   refine aG rfl rfl (fun hc => ae 0 tk3 (ab rfl hc) rfl rfl) (aG rfl rfl (fun hc => eG (ab rfl hc) rfl) (aU rfl (bA rfl rfl (fun h => gt rfl h)) (aM rfl ?_)))
   refine aG rfl rfl (fun hc => aa (off := 9) (by kernel_rfl) rfl) ?_
   refine aG rfl rfl (fun hc => ae 0 tk3 (ab rfl hc) rfl rfl) ?_
   refine aQ (caps := []) [] (false) (by kernel_rfl) _ rfl rfl (fun _ => rfl) (fun hc => (aN (ab rfl hc) rfl)) (fun hc => by rw [List.append_nil]; exact jF _) (fun c3 hc3 => ?_)
   refine aU rfl (bA rfl rfl (fun h => gt rfl h)) (aA rfl (aNn (aj (bC (aO ?_)))))
   refine bc [] [] rfl Tryz.results133 rfl ?_ (.inr rfl)
   refine ⟨⟨rfl, rfl⟩, _, rfl, fun hb => .inl ?_⟩
   simp only [Bool.and_eq_true, decide_eq_true_eq] at hb h2; omega
  ·skip
   refine aSR ?_
   refine aU rfl (aa (off := 6) (by kernel_rfl) rfl) ?_
   refine aU rfl (ae 0 tk3 rfl rfl rfl) (aU rfl (bK rfl rfl) (aA rfl (aNn ?_)))
   refine ah _ rfl (fun h3 => ?_) (fun h3 => ?_)
   ·skip
    refine aSR ?_
    refine aU rfl (aa (off := 3) (by kernel_rfl) rfl) ?_
    refine aU rfl (ae 0 tk3 rfl rfl rfl) (aU rfl (cN rfl rfl) (aM rfl ?_))
    refine aG rfl rfl (fun hc => aa (off := 2) (by kernel_rfl) rfl) ?_
    refine aG rfl rfl (fun hc => ae 0 tk4 (ab rfl hc) rfl rfl) (aG rfl rfl (fun hc => cm (ab rfl hc)) (aU rfl (bA rfl rfl (fun h => gt rfl h)) (aM rfl ?_)))
    refine aG rfl rfl (fun hc => aa (off := 7) (by kernel_rfl) rfl) ?_
    refine aG rfl rfl (fun hc => ae 0 tk3 (ab rfl hc) rfl rfl) (aG rfl rfl (fun hc => bK (ab rfl hc) rfl) (aU rfl (bA rfl rfl (fun h => gt rfl h)) (aM rfl ?_)))
    refine aG rfl rfl (fun hc => aa (off := 8) (by kernel_rfl) rfl) ?_
    refine aG rfl rfl (fun hc => ae 0 tk3 (ab rfl hc) rfl rfl) (aG rfl rfl (fun hc => bK (ab rfl hc) rfl) (aU rfl (bA rfl rfl (fun h => gt rfl h)) (aM rfl ?_)))
    refine aG rfl rfl (fun hc => aa (off := 9) (by kernel_rfl) rfl) ?_
    refine aG rfl rfl (fun hc => ae 0 tk3 (ab rfl hc) rfl rfl) (aG rfl rfl (fun hc => bK (ab rfl hc) rfl) (aU rfl (bA rfl rfl (fun h => gt rfl h)) (aA rfl (aNn (aj (bC (aO ?_)))))))
    refine bc [] [] rfl Tryz.results133 rfl ?_ (.inr rfl)
    refine ⟨⟨rfl, rfl⟩, _, rfl, fun hb => .inl ?_⟩
    simp only [Bool.and_eq_true, Bool.not_eq_true', decide_eq_true_eq, decide_eq_false_iff_not] at hb h3; omega
   ·skip
    refine az ?_
    refine bn [] (by kernel_rfl) ?_
    show aB _ _ _ _ _ 23 #[false, false, false, false, false, false, false, false, false, false, false, false, false, false, false, false, false, false, false, false, false, false, false] _
    refine bU 0 rfl (by kernel_rfl) rfl (aK (o := 0) tk145 rfl (.of (an 0 rfl)) rfl) ?_
    refine bU 1 rfl (by kernel_rfl) rfl (aa (off := 6) (by kernel_rfl) rfl) ?_
    refine bU 2 rfl (by kernel_rfl) rfl (ae 0 tk3 rfl rfl rfl) ?_
    refine bU 3 rfl (by kernel_rfl) rfl (aa (off := 5) (by kernel_rfl) rfl) ?_
    refine bU 4 rfl (by kernel_rfl) rfl (ae 0 tk3 rfl rfl rfl) ?_
    refine bV (q := true) 5 rfl (by kernel_rfl) rfl rfl (bF [] [] (by kernel_rfl) rfl rfl rfl rfl (sE _) ?_)
    rintro _ _ _ ⟨rfl, kl, rfl, rfl⟩
    refine cq rfl (by (try simp only [nM, nN]); rfl) (by (try simp only [aV, place, Nat.reduceBEq, if_true, if_false, reduceIte, Nat.reduceAdd, nW]); rfl) ?_
    refine ea (caps := []) 6 rfl (by kernel_rfl) [3, 1] (false) (by kernel_rfl) true rfl rfl (fun _ => rfl) (fun hc => rfl) (fun hc => by rw [List.append_nil]; exact jr o kl _) (fun c4 hc4 => ?_)
    refine bU 7 rfl (by kernel_rfl) rfl (cm rfl) ?_
    refine bU 8 rfl (by kernel_rfl) rfl (aq rfl) ?_
    refine bG 9 rfl (by kernel_rfl) rfl rfl (fun hc => aa (off := 9) (by kernel_rfl) rfl) ?_
    refine bG 10 rfl (by kernel_rfl) rfl rfl (fun hc => ae 0 tk3 (ab rfl hc) rfl rfl) ?_
    refine bG 11 rfl (by kernel_rfl) rfl rfl (fun hc => cN (ab rfl hc) rfl) ?_
    refine bU 12 rfl (by kernel_rfl) rfl (cx rfl rfl (fun h => gf rfl h)) ?_
    refine bU 13 rfl (by kernel_rfl) rfl (aq rfl) ?_
    refine bG 14 rfl (by kernel_rfl) rfl rfl (fun hc => aa (off := 2) (by kernel_rfl) rfl) ?_
    refine bG 15 rfl (by kernel_rfl) rfl rfl (fun hc => ae 0 tk4 (ab rfl hc) rfl rfl) ?_
    refine bG 16 rfl (by kernel_rfl) rfl rfl (fun hc => aq (ab rfl hc)) ?_
    refine bG 17 rfl (by kernel_rfl) rfl rfl (fun hc => aa (off := 1) (by kernel_rfl) rfl) ?_
    refine bG 18 rfl (by kernel_rfl) rfl rfl (fun hc => ae 0 tk9 (ab rfl hc) rfl rfl) ?_
    refine bG 19 rfl (by kernel_rfl) rfl rfl (fun hc => dR (ab rfl hc) rfl) ?_
    refine bG 20 rfl (by kernel_rfl) rfl rfl (fun hc => bA (ab rfl hc) rfl (fun h => gt hc h)) ?_
    refine bU 21 rfl (by kernel_rfl) rfl (cx rfl rfl (fun h => gf rfl h)) ?_
    refine bU 22 rfl (by kernel_rfl) rfl (bk rfl) ?_
    refine bS (by kernel_rfl) ?_
    refine aw ?_
    refine ah _ rfl (fun h4 => ?_) (fun h4 => ?_)
    ·skip
     refine aSR (aA rfl (aNn (aj (bC (aO ?_)))))
     refine bc [] [] rfl Tryz.results133 rfl ?_ (.inr rfl)
     exact ⟨⟨rfl, rfl⟩, _, rfl, fun hb => by cases hb⟩
    ·skip
     have c4 : 0 ≤ s.sec ∧ s.sec < o.secs.l.length := hc4 rfl (by simp at h4; exact h4.1.1)
     refine au (bL (aw (aSR ?_)))
     refine aU rfl (aa (off := 0) (by kernel_rfl) rfl) ?_
     refine aU rfl (aa (off := 1) (by kernel_rfl) rfl) ?_
     refine aU rfl (aK (o := 1) tk50 rfl (.of (an 1 rfl)) rfl) ?_
     refine aU rfl (aa (off := 6) (by kernel_rfl) rfl) ?_
     refine aU rfl (ae 0 tk3 rfl rfl rfl) ?_
     refine cF true rfl rfl (fun _ => av Tryz.underlying50 tk85 rfl ((ar.f_secs (.of (an 2 rfl)))) rfl (dO (i := s.sec) (by omega) (by omega)) (by omega) rfl) (fun h => absurd h (by decide)) (fun ⟨b10_5, o10_5⟩ => ?_)
     refine aU rfl (aa (off := 3) (by kernel_rfl) rfl) ?_
     refine aU rfl (aR (o := 3) tk3 rfl (an 0 rfl) rfl rfl) (aA rfl (aNn (aSR ?_)))
     refine aU rfl (aa (off := 3) (by kernel_rfl) rfl) ?_
     refine aU rfl (ae 0 tk3 rfl rfl rfl) (aU rfl (cN rfl rfl) (aM rfl ?_))
     refine aG rfl rfl (fun hc => aa (off := 1) (by kernel_rfl) rfl) ?_
     refine aG rfl rfl (fun hc => ae 0 tk9 (ab rfl hc) rfl rfl) (aG rfl rfl (fun hc => dR (ab rfl hc) rfl) (aG rfl rfl (fun hc => aq (ab rfl hc)) ?_))
     refine aG rfl rfl (fun hc => aa (off := 4) (by kernel_rfl) rfl) ?_
     refine aG rfl rfl (fun hc => ae 0 tk3 (ab rfl hc) rfl rfl) (aG rfl rfl (fun hc => bK (ab rfl hc) rfl) (aG rfl rfl (fun hc => bA (ab rfl hc) rfl (fun h => gt hc h)) (aU rfl (cx rfl rfl (fun h => gf rfl h)) (aA rfl (aNn (aSR (aM rfl (aM rfl ?_))))))))
     refine aG rfl rfl (fun hc => aa (off := 7) (by kernel_rfl) rfl) ?_
     refine aG rfl rfl (fun hc => ae 0 tk3 (ab rfl hc) rfl rfl) (aG rfl rfl (fun hc => aq rfl) (aG rfl rfl (fun hc => eG (ab rfl hc) (ab rfl hc)) (aU rfl (bA rfl rfl (fun h => gt rfl h)) (aM rfl ?_))))
     refine aG rfl rfl (fun hc => aa (off := 8) (by kernel_rfl) rfl) ?_
     refine aG rfl rfl (fun hc => ae 0 tk3 (ab rfl hc) rfl rfl) (aG rfl rfl (fun hc => aq rfl) ?_)
     refine aG rfl rfl (fun hc => aa (off := 7) (by kernel_rfl) rfl) ?_
     refine aG rfl rfl (fun hc => ae 0 tk3 (ab rfl hc) rfl rfl) (aG rfl rfl (fun hc => pW (ab rfl hc) (ab rfl hc)) (aG rfl rfl (fun hc => eG (ab rfl hc) (ab rfl hc)) (aU rfl (bA rfl rfl (fun h => gt rfl h)) (aM rfl ?_))))
     refine aG rfl rfl (fun hc => aa (off := 5) (by kernel_rfl) rfl) ?_
     refine aG rfl rfl (fun hc => ae 0 tk3 (ab rfl hc) rfl rfl) (aG rfl rfl (fun hc => cN (ab rfl hc) rfl) (aG rfl rfl (fun hc => aq (ab rfl hc)) ?_))
     refine aG rfl rfl (fun hc => aa (off := 7) (by kernel_rfl) rfl) ?_
     refine aG rfl rfl (fun hc => ae 0 tk3 (ab rfl hc) rfl rfl) ?_
     refine aG rfl rfl (fun hc => eJ (ab rfl hc) rfl (by decide)) ?_
     refine aG rfl rfl (fun hc => bK (ab rfl hc) rfl) (aG rfl rfl (fun hc => cx (ab rfl hc) rfl (fun h => gf hc h)) (aU rfl (bA rfl rfl (fun h => gt rfl h)) (aA rfl (aNn (aj ?_)))))
     refine bc [] [] rfl Tryz.results133 rfl ?_ (.inr rfl)
     exact ⟨⟨rfl, rfl⟩, _, rfl, fun _ => .inr c4⟩
theorem tc (s : bu) (p : Per) : Con Tryz.prog 138 [s.val] [p] [] (YN cj fun _ => True) := by
 refine Con.enter Tryz.func138 rfl (by simp [Tryz.ntmps138]) ?_
 show awp _ _ _ _ ⟨[(0, true, _)], _, _⟩
 refine aSR ?_
 refine al (q := true) rfl (bO rfl rfl rfl (fun b0_0 => ?_))
 refine aH (by (try simp only [nM, nN]); rfl) ?_
 refine al (q := true) rfl (bp (zs := [.string .empty, .string .empty]) (by kernel_rfl) rfl (fun b0_1 => ?_))
 refine aH (by (try simp only [nM, nN]); rfl) ?_
 refine aNn (aSR ?_)
 refine aU rfl (aa (off := 0) (by kernel_rfl) rfl) ?_
 refine aU rfl (ae 0 tk9 rfl rfl rfl) ?_
 refine aU rfl (aa (off := 1) (by kernel_rfl) rfl) ?_
 refine aU rfl (ae 0 tk9 rfl rfl rfl) ?_
 refine aU rfl (xC (l := [(0, .tmp 4), (1, .tmp 6)]) (zs := [.string .empty, .string .empty]) (sz := 1) (m := 2) (by kernel_rfl) (by kernel_rfl) rfl rfl rfl) ?_
 refine al rfl (aW 1 tk230 rfl rfl rfl rfl ?_)
 refine aH (by (try simp only [nK, nL]); rfl) ?_
 refine aNn (aj ?_)
 refine rU [] [] rfl Tryz.results138 (cT 1 tk230 rfl rfl rfl) ?_ (.inr rfl)
 exact ⟨⟨rfl, rfl⟩, (s.name, s.version), rfl, trivial⟩
theorem tD (o : ar) : Con Tryz.prog 68 [o.val] [o.ok] [] (YB (∀ s ∈ o.syms.l, (s.sec = -1 ∧ s.bind ≠ 0) ∨ (0 ≤ s.sec ∧ s.sec < o.secs.l.length))) := by
 refine Con.enter Tryz.func68 rfl (by simp [Tryz.ntmps68]) ?_
 show awp _ _ _ _ ⟨[(0, true, _)], _, _⟩
 refine bf (ar.f_syms (.of (an 0 rfl))) (fun hlen => ?_)
 refine aSR ?_
 refine al (q := true) rfl (bO rfl rfl rfl (fun b0_0 => ?_))
 refine aH (by (try simp only [nM, nN]); rfl) ?_
 refine aA rfl (aNn (aSR (aU rfl (dn (l := [.tmp 1]) rfl) (aA rfl (cA ?_)))))
 refine aw (az (bT 0 rfl rfl ?_))
 show awp _ _ _ _ ⟨_, At _ 0 _ :: _, _⟩
 refine ai ?_
 refine aU rfl (aa (off := 0) (by kernel_rfl) rfl) ?_
 refine aU rfl (aa (off := 2) (by kernel_rfl) rfl) ?_
 refine aU rfl (aK (o := 2) tk51 rfl (.of (an 0 rfl)) rfl) (aU rfl (bq Tryz.underlying51 rfl) (aU rfl (eG rfl rfl) (aM rfl ?_)))
 refine aG rfl rfl (fun hc => aa (off := 0) (by kernel_rfl) rfl) ?_
 refine aG rfl rfl (fun hc => aa (off := 2) (by kernel_rfl) (ab rfl hc)) ?_
 refine aG rfl rfl (fun hc => aK (o := 2) tk51 (ab rfl hc) (.of (an 0 rfl)) rfl) (aG rfl rfl (fun hc => aq rfl) ?_)
 refine aQ (caps := []) [1, 0] (false) (by kernel_rfl) _ rfl rfl (fun _ => rfl) (fun hc => (aN (ab rfl hc) (aN (ab rfl hc) rfl))) (fun hc => by rw [List.append_nil]; exact (jS o.syms 133 [.pointer (some ⟨b0_0, 0, none⟩)] (cw (At b0_0 0 o.row) o.ok) _ (by kernel_rfl) (fun s hs => (tQ b0_0 o s).pre (ra ff.left ff.right (.allm (ar.f_symsA ff.right) hs)))).pre (el (ar.f_syms (.of (an 1 rfl))) (.mk2 (.of (an 0 rfl)) (.of (an 1 rfl))))) (fun c1 hc1 => ?_)
 refine aU rfl (bA rfl rfl (fun h => gt rfl h)) (aM rfl ?_)
 refine aG rfl rfl (fun hc => aa (off := 0) (by kernel_rfl) rfl) ?_
 refine aG rfl rfl (fun hc => aa (off := 2) (by kernel_rfl) (ab rfl hc)) ?_
 refine aG rfl rfl (fun hc => aK (o := 2) tk51 (ab rfl hc) (.of (an 0 rfl)) rfl) ?_
 refine aQ (caps := []) [0] (false) (by kernel_rfl) _ rfl rfl (fun _ => rfl) (fun hc => (aN (ab rfl hc) (aN (ab rfl rfl) rfl))) (fun hc => by rw [List.append_nil]; exact (kB o.syms 138 [] o.ok (by kernel_rfl) (fun s hs => tc s _)).pre (el (ar.f_syms (.of (an 0 rfl))) (.of (an 0 rfl)))) (fun c2 hc2 => ?_)
 refine aU rfl (bA rfl rfl (fun h => gt rfl h)) (aA rfl (aNn (aj ?_)))
 refine bc [] [] rfl Tryz.results68 rfl ?_ (.inr rfl)
 refine ⟨⟨rfl, rfl⟩, _, rfl, fun hb => ?_⟩
 simp at hb
 exact hc1 (by simp; omega) hb.1.2
end Go.Proofs.YtgmiihmahaahiaaGreatDoor

namespace Go.Sy
open Go.RowKit Go.Lp
section
variable {P : Program} {n : Fr} {s : Sta} {d : Option Tmp} {ty : TypeId} {pos : String} {af : Array Edge} {gd : Option (Nat × Bool)} {v : Value}
theorem nU {x : Operand} {U : TypeId} {ag : Bool} {k b p q : Nat} {row : List D} (o : Nat) (hk : tyk P U = some (ag, k)) (hx : ev s.env x = some (true, .pointer (some ⟨b, q, none⟩))) (hi : At b p row ∈ s.ps) (ho : q = p + o) (hv : rdD ag k row o = some v) :
   Quiet P n ⟨d, .load U x, ty, pos, af, gd⟩ s v := fun w S fp a hst he hn => by
 subst ho
 have h1 := he.val hx rfl
 have : (execOp a.eval ⟨d, .load U x, ty, pos, af, gd⟩).run P w = .ok (.value v) w := by
   unfold execOp; dsimp only; rw [h1]
   have := kH (P := P) hk hv (hst.per _ hi)
   show ((loadVar U ⟨b, p + o, none⟩).bind fun r => Sem.pure (Next.value r)).run P w = _
   rw [Sem.run_bind', this]; rfl
 rw [this]; exact ck _ _
theorem pg {cs : List Value} {o : Nat} {k : Nat} (h : cs[o]? = some v) : rdD false k (cs.map D.v) o = some v := by
 unfold rdD; simp [h]
end
end Go.Sy
namespace Go.Proofs.YtgmiihmahaahiaaGreatDoor
open Go.RowKit Go.Lp Go.Sy
open Go.Proofs.Tryz
attribute [local irreducible] aL aB awp aC fwp
theorem gD (n : Int) : Con Tryz.prog 302 [.int .i64 n, .int .i64 32, .bool true] [] [] (YB True) := by
 refine Con.enter Tryz.func302 rfl (by simp [Tryz.ntmps302]) ?_
 show awp _ _ _ _ ⟨[(0, true, _), (1, true, _), (2, true, _)], _, _⟩
 refine aSR (aA rfl (aNs (ax (aSR (aM rfl (aU rfl (bJ rfl rfl) (aM rfl (aG rfl rfl (fun hc => aq rfl) (aG rfl rfl (fun hc => dp (ab rfl hc) rfl) (aU rfl (cx rfl rfl (fun h => gf rfl h)) (aA rfl (aNn ?_))))))))))))
 refine ah _ rfl (fun h1 => ?_) (fun h1 => ?_)
 ·skip
  refine aSR (aA rfl (aNn (aj (bC (aO ?_)))))
  refine bc [] [] rfl Tryz.results302 rfl ?_ (.inr rfl)
  exact ⟨⟨rfl, rfl⟩, _, rfl, fun _ => trivial⟩
 ·skip
  refine aSR (aM rfl (aA rfl (aNn ?_)))
  refine ah _ rfl (fun h2 => ?_) (fun h2 => ?_)
  ·skip
   refine aSR (aM rfl (aM rfl ?_))
   refine aU rfl (dT rfl rfl (by omega)) ?_
   refine aU rfl (mK rfl rfl (by decide)) ?_
   refine aU rfl (bK rfl rfl) (aM rfl (aG rfl rfl (fun hc => aq rfl) (aG rfl rfl (fun hc => aq rfl) ?_)))
   refine aG rfl rfl (fun hc => dT (ab rfl hc) rfl (by (first | omega | (simp at hc; omega)))) ?_
   refine aG rfl rfl (fun hc => mK (ab rfl hc) (ab rfl hc) (by decide)) ?_
   refine aG rfl rfl (fun hc => bK (ab rfl hc) rfl) (aU rfl (cx rfl rfl (fun h => gf rfl h)) (aA rfl (aNn (aj (bC (aO ?_))))))
   refine bc [] [] rfl Tryz.results302 rfl ?_ (.inr rfl)
   exact ⟨⟨rfl, rfl⟩, _, rfl, fun _ => trivial⟩
  ·skip
   refine au (bL (aw (aSR (aM rfl (aU rfl (cQ rfl rfl) (aM rfl (aG rfl rfl (fun hc => aq rfl) (aG rfl rfl (fun hc => cQ (ab rfl hc) rfl) (aG rfl rfl (fun hc => aq (ab rfl hc)) (aG rfl rfl (fun hc => aq rfl) (aG rfl rfl (fun hc => aq rfl) ?_)))))))))))
   refine aG rfl rfl (fun hc => mK (ab rfl hc) (ab rfl hc) (by decide)) ?_
   refine aG rfl rfl (fun hc => bK (ab rfl hc) rfl) (aG rfl rfl (fun hc => cx (ab rfl hc) rfl (fun h => gf hc h)) (aU rfl (bA rfl rfl (fun h => gt rfl h)) (aA rfl (aNn (aj ?_)))))
   refine bc [] [] rfl Tryz.results302 rfl ?_ (.inr rfl)
   exact ⟨⟨rfl, rfl⟩, _, rfl, fun _ => trivial⟩
abbrev vP (op a b c m : Int) : List Value := [.int .i64 op, .int .i64 a, .int .i64 b, .int .i64 c, .int .i64 m]
theorem xa (op a b c m : Int) : Con Tryz.prog 273 [.agg (vP op a b c m).toArray] [] [] (YB True) := by
 refine Con.enter Tryz.func273 rfl (by simp [Tryz.ntmps273]) ?_
 show awp _ _ _ _ ⟨[(0, true, _)], _, _⟩
 refine aSR ?_
 refine al (q := true) rfl (bO rfl rfl rfl (fun b0_0 => ?_))
 refine aH (by (try simp only [nM, nN]); rfl) ?_
 refine aA rfl (aNn (aSR ?_))
 refine aU rfl (aa (off := 4) (by kernel_rfl) rfl) ?_
 refine aU rfl (ae 0 tk3 rfl rfl rfl) ?_
 refine aU rfl (eJ rfl rfl (by decide)) ?_
 refine aU rfl (bK rfl rfl) (aA rfl (aNs (aSR ?_)))
 refine aU rfl (aa (off := 0) (by kernel_rfl) rfl) ?_
 refine aU rfl (ae 0 tk3 rfl rfl rfl) (aNn (ax (az (aSR (aU rfl (bK rfl rfl) (aA rfl (aNn ?_)))))))
 refine ah _ rfl (fun h1 => ?_) (fun h1 => ?_)
 ·skip
  refine au (aw ?_)
  refine ah _ rfl (fun _ => ?_) (fun h => absurd (h1.symm.trans h) (by decide))
  refine aSR (aM rfl (aM rfl ?_))
  refine aG rfl rfl (fun hc => aa (off := 4) (by kernel_rfl) rfl) ?_
  refine aG rfl rfl (fun hc => ae 0 tk3 (ab rfl hc) rfl rfl) ?_
  refine aQ (caps := []) [] (false) (by kernel_rfl) _ rfl rfl (fun _ => rfl) (fun hc => (aN (ab rfl hc) (aN (ab rfl rfl) (aN (ab rfl rfl) rfl)))) (fun hc => by rw [List.append_nil]; exact gD _) (fun c1 hc1 => ?_)
  refine aU rfl (bA rfl rfl (fun h => gt rfl h)) (aA rfl (aNn (aj (bC (aO ?_)))))
  refine bc [] [] rfl Tryz.results273 rfl ?_ (.inr rfl)
  exact ⟨⟨rfl, rfl⟩, _, rfl, fun _ => trivial⟩
 ·skip
  refine aSR (aU rfl (bK rfl rfl) (aA rfl (aNn ?_)))
  refine ah _ rfl (fun h2 => ?_) (fun h2 => ?_)
  ·skip
   refine au (aw ?_)
   refine ah _ rfl (fun _ => ?_) (fun h => absurd (h2.symm.trans h) (by decide))
   refine aSR (aM rfl (aM rfl ?_))
   refine aG rfl rfl (fun hc => aa (off := 4) (by kernel_rfl) rfl) ?_
   refine aG rfl rfl (fun hc => ae 0 tk3 (ab rfl hc) rfl rfl) ?_
   refine aQ (caps := []) [] (false) (by kernel_rfl) _ rfl rfl (fun _ => rfl) (fun hc => (aN (ab rfl hc) (aN (ab rfl rfl) (aN (ab rfl rfl) rfl)))) (fun hc => by rw [List.append_nil]; exact gD _) (fun c1 hc1 => ?_)
   refine aU rfl (bA rfl rfl (fun h => gt rfl h)) (aA rfl (aNn (aj (bC (aO ?_)))))
   refine bc [] [] rfl Tryz.results273 rfl ?_ (.inr rfl)
   exact ⟨⟨rfl, rfl⟩, _, rfl, fun _ => trivial⟩
  ·skip
   refine aSR (aU rfl (bK rfl rfl) (aA rfl (aNn ?_)))
   refine ah _ rfl (fun h3 => ?_) (fun h3 => ?_)
   ·skip
    refine au (aw ?_)
    refine ah _ rfl (fun _ => ?_) (fun h => absurd (h3.symm.trans h) (by decide))
    refine aSR (aM rfl (aM rfl ?_))
    refine aG rfl rfl (fun hc => aa (off := 4) (by kernel_rfl) rfl) ?_
    refine aG rfl rfl (fun hc => ae 0 tk3 (ab rfl hc) rfl rfl) ?_
    refine aQ (caps := []) [] (false) (by kernel_rfl) _ rfl rfl (fun _ => rfl) (fun hc => (aN (ab rfl hc) (aN (ab rfl rfl) (aN (ab rfl rfl) rfl)))) (fun hc => by rw [List.append_nil]; exact gD _) (fun c1 hc1 => ?_)
    refine aU rfl (bA rfl rfl (fun h => gt rfl h)) (aA rfl (aNn (aj (bC (aO ?_)))))
    refine bc [] [] rfl Tryz.results273 rfl ?_ (.inr rfl)
    exact ⟨⟨rfl, rfl⟩, _, rfl, fun _ => trivial⟩
   ·skip
    refine aSR (aU rfl (bK rfl rfl) (aA rfl (aNn ?_)))
    refine ah _ rfl (fun h4 => ?_) (fun h4 => ?_)
    ·skip
     refine au (aw ?_)
     refine ah _ rfl (fun _ => ?_) (fun h => absurd (h4.symm.trans h) (by decide))
     refine aSR (aM rfl (aM rfl ?_))
     refine aG rfl rfl (fun hc => aa (off := 4) (by kernel_rfl) rfl) ?_
     refine aG rfl rfl (fun hc => ae 0 tk3 (ab rfl hc) rfl rfl) ?_
     refine aQ (caps := []) [] (false) (by kernel_rfl) _ rfl rfl (fun _ => rfl) (fun hc => (aN (ab rfl hc) (aN (ab rfl rfl) (aN (ab rfl rfl) rfl)))) (fun hc => by rw [List.append_nil]; exact gD _) (fun c1 hc1 => ?_)
     refine aU rfl (bA rfl rfl (fun h => gt rfl h)) (aA rfl (aNn (aj (bC (aO ?_)))))
     refine bc [] [] rfl Tryz.results273 rfl ?_ (.inr rfl)
     exact ⟨⟨rfl, rfl⟩, _, rfl, fun _ => trivial⟩
    ·skip
     refine ai (aU rfl (bK rfl rfl) (aA rfl (aNn ?_)))
     refine ah _ rfl (fun h5 => ?_) (fun h5 => ?_)
     ·skip
      refine aSR (aM rfl (aM rfl ?_))
      refine aG rfl rfl (fun hc => aa (off := 4) (by kernel_rfl) rfl) ?_
      refine aG rfl rfl (fun hc => ae 0 tk3 (ab rfl hc) rfl rfl) ?_
      refine aQ (caps := []) [] (false) (by kernel_rfl) _ rfl rfl (fun _ => rfl) (fun hc => (aN (ab rfl hc) (aN (ab rfl rfl) (aN (ab rfl rfl) rfl)))) (fun hc => by rw [List.append_nil]; exact gD _) (fun c1 hc1 => ?_)
      refine aU rfl (bA rfl rfl (fun h => gt rfl h)) (aA rfl (aNn (aj (bC (aO ?_)))))
      refine bc [] [] rfl Tryz.results273 rfl ?_ (.inr rfl)
      exact ⟨⟨rfl, rfl⟩, _, rfl, fun _ => trivial⟩
     ·skip
      refine aSR (aU rfl (bK rfl rfl) (aA rfl (aNn ?_)))
      refine ah _ rfl (fun h6 => ?_) (fun h6 => ?_)
      ·skip
       refine aSR (aM rfl (aM rfl ?_))
       refine aG rfl rfl (fun hc => aa (off := 4) (by kernel_rfl) rfl) ?_
       refine aG rfl rfl (fun hc => ae 0 tk3 (ab rfl hc) rfl rfl) (aG rfl rfl (fun hc => cQ (ab rfl hc) rfl) (aU rfl (bA rfl rfl (fun h => gt rfl h)) (aM rfl ?_)))
       refine aG rfl rfl (fun hc => aa (off := 4) (by kernel_rfl) rfl) ?_
       refine aG rfl rfl (fun hc => ae 0 tk3 (ab rfl hc) rfl rfl) (aG rfl rfl (fun hc => eG (ab rfl hc) rfl) (aU rfl (bA rfl rfl (fun h => gt rfl h)) (aA rfl (aNn (aj (bC (aO ?_)))))))
       refine bc [] [] rfl Tryz.results273 rfl ?_ (.inr rfl)
       exact ⟨⟨rfl, rfl⟩, _, rfl, fun _ => trivial⟩
      ·skip
       refine aSR (aU rfl (bK rfl rfl) (aA rfl (aNn ?_)))
       refine ah _ rfl (fun h7 => ?_) (fun h7 => ?_)
       ·skip
        refine aSR ?_
        refine aU rfl (aa (off := 4) (by kernel_rfl) rfl) ?_
        refine aU rfl (ae 0 tk3 rfl rfl rfl) (aU rfl (cQ rfl rfl) (aM rfl ?_))
        refine aG rfl rfl (fun hc => aa (off := 4) (by kernel_rfl) rfl) ?_
        refine aG rfl rfl (fun hc => ae 0 tk3 (ab rfl hc) rfl rfl) (aG rfl rfl (fun hc => bJ (ab rfl hc) rfl) (aU rfl (bA rfl rfl (fun h => gt rfl h)) (aA rfl (aNn (aj (bC (aO ?_)))))))
        refine bc [] [] rfl Tryz.results273 rfl ?_ (.inr rfl)
        exact ⟨⟨rfl, rfl⟩, _, rfl, fun _ => trivial⟩
       ·skip
        refine au (bL (aw (aSR ?_)))
        refine aU rfl (aa (off := 4) (by kernel_rfl) rfl) ?_
        refine aU rfl (ae 0 tk3 rfl rfl rfl) ?_
        refine aQ (caps := []) [] (false) (by kernel_rfl) true rfl rfl (fun _ => rfl) (fun hc => rfl) (fun hc => by rw [List.append_nil]; exact gD _) (fun c2 hc2 => ?_)
        refine aA rfl (aNn (aj ?_))
        refine bc [] [] rfl Tryz.results273 rfl ?_ (.inr rfl)
        exact ⟨⟨rfl, rfl⟩, _, rfl, fun _ => trivial⟩
def qN (ch : UInt8) : Nat := if ch = 65 then 1 else if ch = 66 then 2 else if ch = 67 then 3 else 4
theorem uS (a b : UInt8) : ((a.toNat : Int) = b.toNat) ↔ a = b := by
 rw [← UInt8.toNat_inj]; omega
theorem tK (b : Nat) (ch : UInt8) : Con Tryz.prog 274 [.pointer (some ⟨b, 0, none⟩), .int .u8 ch.toNat] [] [] fun r _ _ => r = .pointer (some ⟨b, qN ch, none⟩) := by
 have e1 := uS ch 65
 have e2 := uS ch 66
 have e3 := uS ch 67
 refine Con.enter Tryz.func274 rfl (by simp [Tryz.ntmps274]) ?_
 show awp _ _ _ _ ⟨[(0, true, _), (1, true, _)], _, _⟩
 refine aSR (aA rfl (aNs (aSR (aM rfl (aNn (ax (aSR (aU rfl (bK rfl rfl) (aA rfl (aNn ?_))))))))))
 refine ah _ rfl (fun h1 => ?_) (fun h1 => ?_)
 ·skip
  refine aSR (aM rfl (aU rfl (br rfl) ?_))
  refine aU rfl (aa (off := 1) (by kernel_rfl) rfl) ?_
  refine aA rfl (aNn (aj (bC (aO ?_))))
  refine bc [] [] rfl Tryz.results274 rfl ?_ (.inr rfl)
  have g1 := e1.symm.trans (show ((ch.toNat : Int) = (65 : UInt8).toNat ↔ (ch.toNat : Int) = 65) from Iff.rfl)
  have g2 := e2.symm.trans (show ((ch.toNat : Int) = (66 : UInt8).toNat ↔ (ch.toNat : Int) = 66) from Iff.rfl)
  have g3 := e3.symm.trans (show ((ch.toNat : Int) = (67 : UInt8).toNat ↔ (ch.toNat : Int) = 67) from Iff.rfl)
  simp only [decide_eq_true_eq, decide_eq_false_iff_not] at *
  unfold qN
  simp_all
 ·skip
  refine aSR (aU rfl (bK rfl rfl) (aA rfl (aNn ?_)))
  refine ah _ rfl (fun h2 => ?_) (fun h2 => ?_)
  ·skip
   refine aSR (aM rfl (aU rfl (br rfl) ?_))
   refine aU rfl (aa (off := 2) (by kernel_rfl) rfl) ?_
   refine aA rfl (aNn (aj (bC (aO ?_))))
   refine bc [] [] rfl Tryz.results274 rfl ?_ (.inr rfl)
   have g1 := e1.symm.trans (show ((ch.toNat : Int) = (65 : UInt8).toNat ↔ (ch.toNat : Int) = 65) from Iff.rfl)
   have g2 := e2.symm.trans (show ((ch.toNat : Int) = (66 : UInt8).toNat ↔ (ch.toNat : Int) = 66) from Iff.rfl)
   have g3 := e3.symm.trans (show ((ch.toNat : Int) = (67 : UInt8).toNat ↔ (ch.toNat : Int) = 67) from Iff.rfl)
   simp only [decide_eq_true_eq, decide_eq_false_iff_not] at *
   unfold qN
   simp_all
  ·skip
   refine aSR (aU rfl (bK rfl rfl) (aA rfl (aNn ?_)))
   refine ah _ rfl (fun h3 => ?_) (fun h3 => ?_)
   ·skip
    refine aSR (aM rfl (aU rfl (br rfl) ?_))
    refine aU rfl (aa (off := 3) (by kernel_rfl) rfl) ?_
    refine aA rfl (aNn (aj (bC (aO ?_))))
    refine bc [] [] rfl Tryz.results274 rfl ?_ (.inr rfl)
    have g1 := e1.symm.trans (show ((ch.toNat : Int) = (65 : UInt8).toNat ↔ (ch.toNat : Int) = 65) from Iff.rfl)
    have g2 := e2.symm.trans (show ((ch.toNat : Int) = (66 : UInt8).toNat ↔ (ch.toNat : Int) = 66) from Iff.rfl)
    have g3 := e3.symm.trans (show ((ch.toNat : Int) = (67 : UInt8).toNat ↔ (ch.toNat : Int) = 67) from Iff.rfl)
    simp only [decide_eq_true_eq, decide_eq_false_iff_not] at *
    unfold qN
    simp_all
   ·skip
    refine au (bL (aw (aSR (aM rfl (aU rfl (br rfl) ?_)))))
    refine aU rfl (aa (off := 4) (by kernel_rfl) rfl) ?_
    refine aA rfl (aNn (aj ?_))
    refine bc [] [] rfl Tryz.results274 rfl ?_ (.inr rfl)
    have g1 := e1.symm.trans (show ((ch.toNat : Int) = (65 : UInt8).toNat ↔ (ch.toNat : Int) = 65) from Iff.rfl)
    have g2 := e2.symm.trans (show ((ch.toNat : Int) = (66 : UInt8).toNat ↔ (ch.toNat : Int) = 66) from Iff.rfl)
    have g3 := e3.symm.trans (show ((ch.toNat : Int) = (67 : UInt8).toNat ↔ (ch.toNat : Int) = 67) from Iff.rfl)
    simp only [decide_eq_true_eq, decide_eq_false_iff_not] at *
    unfold qN
    simp_all
theorem qy (s : ByteArray) (c : UInt8) (w : World) : (Extern.BytealgIndexByte.indexByte #[.string s, .int .u8 c.toNat]).run Tryz.prog w = .ok (.int .i64 (Lib.indexByte s.data.toList c)) w := by
 have := Lib.run_indexByteString (P := Tryz.prog) s (c.toNat : Int) w
 rwa [show ((c.toNat : Int).toNat).toUInt8 = c by simp] at this
theorem qW (s : ByteArray) (c : UInt8) : Con Tryz.prog 303 [.string s, .int .u8 c.toNat] [] [] fun r _ _ => r = .int .i64 (Lib.indexByte s.data.toList c) := by
 refine Con.enter Tryz.func303 rfl (by simp [Tryz.ntmps303]) ?_
 show awp _ _ _ _ ⟨[(0, true, _), (1, true, _)], _, _⟩
 refine aSR (aA rfl (aNn (aSR (aM rfl (aM rfl ?_)))))
 refine aU rfl (xn (vs := _) Tryz.func310 rfl rfl (by kernel_rfl) (by kernel_rfl) rfl (fun w => qy s c w)) ?_
 refine aA rfl (aNn (aj ?_))
 refine bc [] [] rfl Tryz.results303 rfl ?_ (.inr rfl)
 rfl
theorem sY (s : ByteArray) (c : UInt8) : Con Tryz.prog 275 [.string s, .int .u8 c.toNat] [] [] fun r _ _ => r = .int .i64 (Lib.indexByte s.data.toList c) := by
 refine Con.enter Tryz.func275 rfl (by simp [Tryz.ntmps275]) ?_
 show awp _ _ _ _ ⟨[(0, true, _), (1, true, _)], _, _⟩
 refine aSR (aA rfl (aNn (aSR (aM rfl (aM rfl ?_)))))
 refine aU rfl (bP (by kernel_rfl) rfl (fun w S fp hst => (qW s c).quiet0 hst)) ?_
 refine aA rfl (aNn (aj ?_))
 refine bc [] [] rfl Tryz.results275 rfl ?_ (.inr rfl)
 rfl
def yG : List UInt8 := [65, 66, 67, 73]
def dS : Per := At 0 0 (ll.map D.v)
def po : List (List D) := [[.v (.int .u8 65)], [.v (.int .u8 66)], [.v (.int .u8 67)], [.v (.int .u8 73)]]
theorem ug {k : Nat} (hk : k < 4) : ∃ ch, yG[k]? = some ch ∧ po[k]? = some [.v (.int .u8 ch.toNat)] := by
 have : k = 0 ∨ k = 1 ∨ k = 2 ∨ k = 3 := by omega
 rcases this with rfl | rfl | rfl | rfl <;> exact ⟨_, rfl, rfl⟩
def yj (op a b c m : Int) (ch : UInt8) : Int := if ch = 65 then a else if ch = 66 then b else if ch = 67 then c else m
theorem uZ (op a b c m : Int) (ch : UInt8) : (vP op a b c m)[qN ch]? = some (.int .i64 (yj op a b c m ch)) := by
 unfold qN yj
 split
 · rfl
 · split
   · rfl
   · split <;> rfl
theorem rh (op a b c m : Int) : Con Tryz.prog 227 [.agg (vP op a b c m).toArray] [dS] [] (YB True) := by
 refine Con.enter Tryz.func227 rfl (by simp [Tryz.ntmps227]) ?_
 show awp _ _ _ _ ⟨[(0, true, _)], _, _⟩
 refine aSR ?_
 refine al (q := true) rfl (bO rfl rfl rfl (fun b0_0 => ?_))
 refine aH (by (try simp only [nM, nN]); rfl) ?_
 refine aA rfl (aNs (aSR ?_))
 refine aU rfl (aa (off := 0) (by kernel_rfl) rfl) ?_
 refine aU rfl (ae 0 tk3 rfl rfl rfl) (aU rfl (eG rfl rfl) (aM rfl ?_))
 refine aG rfl rfl (fun hc => aa (off := 0) (by kernel_rfl) rfl) ?_
 refine aG rfl rfl (fun hc => ae 0 tk3 (ab rfl hc) rfl rfl) (aG rfl rfl (fun hc => cQ (ab rfl hc) rfl) (aU rfl (cx rfl rfl (fun h => gf rfl h)) (aM rfl (aG rfl rfl (fun hc => ae 0 tk233 rfl rfl rfl) ?_))))
 refine aQ (caps := []) [] (false) (by kernel_rfl) _ rfl rfl (fun _ => rfl) (fun hc => (aN (ab rfl hc) rfl)) (fun hc => by rw [List.append_nil]; exact xa _ _ _ _ _) (fun c1 hc1 => ?_)
 refine aG rfl rfl (fun hc => cm (ab rfl hc)) (aU rfl (cx rfl rfl (fun h => gf rfl h)) (aNn ?_))
 refine ah _ rfl (fun h1 => ?_) (fun h1 => ?_)
 ·skip
  refine aSR (aA rfl (aNn (aj (aO ?_))))
  refine bc [] [] rfl Tryz.results227 rfl ?_ (.inr rfl)
  exact ⟨⟨rfl, rfl⟩, _, rfl, fun _ => trivial⟩
 ·skip
  have hop : op < 31 ∧ 0 < op := by simp at h1; omega
  obtain ⟨k0, rfl⟩ := Int.eq_ofNat_of_zero_le (show 0 ≤ op by omega)
  refine au (aw (az (aSR ?_)))
  refine al (q := true) rfl (cz (zs := [.int .u8 0]) (l := [(0, .const (.int .u8 65)), (1, .const (.int .u8 66)), (2, .const (.int .u8 67)), (3, .const (.int .u8 73))]) el280 (by kernel_rfl) (by decide) (by decide) (by decide) rfl rfl rfl (.more rfl (.v rfl .nil) (.more rfl (.v rfl .nil) (.more rfl (.v rfl .nil) (.more rfl (.v rfl .nil) .nil)))) rfl rfl (fun v3_0 => ?_))
  refine aH (by (try simp only [nM, nN]); rfl) ?_
  refine al rfl (wt 1 Tryz.underlying280 Tryz.underlying5 rfl rfl rfl (by simp) ?_)
  refine aH (by (try simp only [nK, nL]); rfl) ?_
  refine aU rfl (bq Tryz.underlying280 rfl) (aM rfl (aNn (ax (aZ [1, 21, 22, 23] [1, 0] [0] (fun (k : Nat) s => k ≤ 4 ∧ s = ⟨[(1, true, .pointer (some ⟨b0_0, 0, none⟩)), (21, true, .slice v3_0 4 4), (22, true, .int .i64 (4 : Nat)), (23, true, .int .i64 k)], [Sh (.slice v3_0 4 4) (.sl po), dS], [Box b0_0 233 (vP k0 a b c m)]⟩) (fun k => 4 - k) rfl (⟨0, Nat.zero_le _, rfl⟩) ?_))))
  rintro k s ⟨hk, rfl⟩
  refine aSR (aU rfl (bJ rfl rfl) (aNs ?_))
  refine ah _ rfl (fun h2 => ?_) (fun h2 => ?_)
  ·skip
   have hk' : k < 4 := by simp at h2; omega
   obtain ⟨ch, hch, hrow⟩ := ug hk'
   refine au (aw (az (ax (aSR ?_))))
   refine cF true rfl rfl (fun _ => j4 Tryz.underlying280 tk5 rfl (an 0 rfl) rfl (row := [.v (.int .u8 ch.toNat)]) hrow rfl rfl) (fun h => absurd h (by decide)) (fun ⟨b5_0, o5_0⟩ => ?_)
   refine aU rfl (aR (o := 0) (v := .int .u8 ch.toNat) tk5 rfl (an 0 rfl) rfl rfl) (aA rfl (aNn (aSR (aM rfl ?_))))
   refine aU rfl (bP (by kernel_rfl) rfl (fun w S fp hst => (tK b0_0 ch).quiet0 hst)) ?_
   refine aU rfl (br rfl) (aU rfl (ae 0 tk3 rfl rfl (uZ k0 a b c m ch)) (aA rfl (aNn (aSR ?_))))
   refine aU rfl (aa (off := 0) (by kernel_rfl) rfl) ?_
   refine aU rfl (ae 0 tk3 rfl rfl rfl) ?_
   refine aU rfl (dr (k0) Tryz.underlying344 tk343 rfl rfl (rfl) ((by omega))) ?_
   refine aU rfl (aa (off := 1) (by kernel_rfl) rfl) ?_
   refine aU rfl (nU (k0 * 4 + 1) tk9 rfl (an 2 rfl) (by omega) (pg (rp (by omega)))) ?_
   refine aM rfl ?_
   refine aU rfl (bP (by kernel_rfl) rfl (fun w S fp hst => (sY _ ch).quiet0 hst)) ?_
   refine aU rfl (cQ rfl rfl) (aA rfl (aNn (aSR (aM rfl (aU rfl (cm rfl) (aM rfl (aG rfl rfl (fun hc => aq rfl) (aG rfl rfl (fun hc => cN (ab rfl hc) rfl) (aU rfl (bA rfl rfl (fun h => gt rfl h)) (aM rfl (aG rfl rfl (fun hc => aq rfl) (aG rfl rfl (fun hc => cN (ab rfl hc) rfl) (aG rfl rfl (fun hc => aq (ab rfl hc)) ?_)))))))))))))
   refine aG rfl rfl (fun hc => aq rfl) (aG rfl rfl (fun hc => bJ (ab rfl hc) rfl) (aG rfl rfl (fun hc => aq (ab rfl hc)) (aG rfl rfl (fun hc => aq rfl) (aG rfl rfl (fun hc => dp (ab rfl hc) rfl) (aG rfl rfl (fun hc => cx (ab rfl hc) rfl (fun h => gf hc h)) (aG rfl rfl (fun hc => bA (ab rfl hc) rfl (fun h => gt hc h)) (aU rfl (cx rfl rfl (fun h => gf rfl h)) (aNn ?_))))))))
   refine ah _ rfl (fun h3 => ?_) (fun h3 => ?_)
   ·skip
    refine aSR (aA rfl (aNn (aj (bC (aO (aO (bC (aO ?_))))))))
    refine bc [] [] rfl Tryz.results227 rfl ?_ (.inr rfl)
    exact ⟨⟨rfl, rfl⟩, _, rfl, fun _ => trivial⟩
   ·skip
    refine au (bL (aw (ai ?_)))
    refine aU rfl (bB rfl rfl (by omega)) ?_
    refine aM rfl (aNn ?_)
    refine ⟨[1, 21, 22, 23], [1, 0], [0], rfl, ?_⟩
    exact ⟨k + 1, ⟨by omega, rfl⟩, by omega⟩
  ·skip
   refine bg (bj (bj (bz (aw (aSR (aA rfl (aNn (aj ?_))))))))
   refine bc [] [] rfl Tryz.results227 rfl ?_ (.inr rfl)
   exact ⟨⟨rfl, rfl⟩, _, rfl, fun _ => trivial⟩
theorem qm (s : ByteArray) (hs : s.size ≤ maxLen) (at_ : Int) : Con Tryz.prog 272 [.string s, .int .i64 at_, .int .i64 4] [] [] (fun r _ _ => r = .bool (decide (at_ ≥ 0) && decide (at_ ≤ s.size - 4))) := by
 have hs' : s.size ≤ 9223372036854775807 := hs
 refine Con.enter Tryz.func272 rfl (by simp [Tryz.ntmps272]) ?_
 show awp _ _ _ _ ⟨[(0, true, _), (1, true, _), (2, true, _)], _, _⟩
 refine aSR (aA rfl (aNs (aSR (aM rfl (aNn (ax (az (aSR (aU rfl (bK rfl rfl) (aA rfl (aNn ?_)))))))))))
 refine ah _ rfl (fun h1 => ?_) (fun h1 => ?_)
 ·skip
  exact absurd h1 (by decide)
 ·skip
  refine aSR (aU rfl (bK rfl rfl) (aA rfl (aNn ?_)))
  refine ah _ rfl (fun h2 => ?_) (fun h2 => ?_)
  ·skip
   exact absurd h2 (by decide)
  ·skip
   refine aSR (aU rfl (bK rfl rfl) (aA rfl (aNn ?_)))
   refine ah _ rfl (fun h3 => ?_) (fun h3 => ?_)
   ·skip
    refine au (aw ?_)
    refine ah _ rfl (fun _ => ?_) (fun h => absurd (h3.symm.trans h) (by decide))
    refine aSR (aM rfl (aU rfl (cQ rfl rfl) (aM rfl (aG rfl rfl (fun hc => aq rfl) (aG rfl rfl (fun hc => aq rfl) (aG rfl rfl (fun hc => dX Tryz.underlying9 (ab rfl hc)) (aG rfl rfl (fun hc => aq rfl) ?_)))))))
    refine aG rfl rfl (fun hc => dT (ab rfl hc) (ab rfl hc) (by (first | omega | (simp at hc; omega)))) ?_
    refine aG rfl rfl (fun hc => eG (ab rfl hc) (ab rfl hc)) (aU rfl (bA rfl rfl (fun h => gt rfl h)) (aA rfl (aNn (aj (bC (aO ?_))))))
    refine bc [] [] rfl Tryz.results272 rfl ?_ (.inr rfl)
    rfl
   ·skip
    exact absurd h3 (by decide)
theorem vv (s : ByteArray) (hs : s.size ≤ maxLen) (at_ : Int) : Con Tryz.prog 226 [.string s, .int .i64 at_, .int .i64 4, .bool true] [] [] (fun r ps hp => ps = [] ∧ hp = [] ∧ ∃ (z : Int) (b : Bool), r = .tuple #[.int .i64 z, .bool b]) := by
 have hs' : s.size ≤ 9223372036854775807 := hs
 refine Con.enter Tryz.func226 rfl (by simp [Tryz.ntmps226]) ?_
 show awp _ _ _ _ ⟨[(0, true, _), (1, true, _), (2, true, _), (3, true, _)], _, _⟩
 refine aSR (aA rfl (aA rfl (aNs (aSR (aM rfl (aM rfl (aM rfl ?_)))))))
 refine aU rfl (bP (by kernel_rfl) rfl (fun w S fp hst => (qm s hs at_).quiet0 hst)) ?_
 refine aU rfl (cm rfl) (aNn ?_)
 refine ah _ rfl (fun h1 => ?_) (fun h1 => ?_)
 ·skip
  refine aSR (aA rfl (aA rfl (aNn (aj (aO ?_)))))
  refine wY [] [] rfl Tryz.results226 rfl rfl ?_ (.inr rfl)
  exact ⟨rfl, rfl, _, _, rfl⟩
 ·skip
  have hat : 0 ≤ at_ ∧ at_ + 4 ≤ s.size := by simp at h1; omega
  refine au (aw (aSR (aA rfl (aNs ?_))))
  refine aSR (aM rfl (aM rfl (aNn (ax (aZ [0, 1, 2, 3, 10, 18, 19] [] [] (fun (q : Nat × Int) st => q.1 ≤ 4 ∧ st = ⟨[(0, true, .string s), (1, true, .int .i64 at_), (2, true, .int .i64 4), (3, true, .bool true), (10, true, .int .u64 q.2), (18, true, .int .i64 4), (19, true, .int .i64 q.1)], [], []⟩) (fun q => 4 - q.1) rfl (⟨(0, 0), Nat.zero_le _, rfl⟩) ?_)))))
  rintro ⟨k, z⟩ st ⟨hk, rfl⟩
  dsimp only at hk
  refine aSR (aU rfl (bJ rfl rfl) (aNs ?_))
  refine ah _ rfl (fun h2 => ?_) (fun h2 => ?_)
  ·skip
   have hk' : k < 4 := by simp at h2; omega
   obtain ⟨k0, hk0⟩ := Int.eq_ofNat_of_zero_le (show 0 ≤ at_ + k by omega)
   obtain ⟨u, hu⟩ : ∃ u, s.data.toList[k0]? = some u := ⟨_, List.getElem?_eq_getElem (by show k0 < s.data.toList.length; simp; show k0 < s.size; omega)⟩
   refine au (aw (az (ax (aSR (aM rfl (aA rfl (aNn (ai (aM rfl (aM rfl (aM rfl (aM rfl ?_))))))))))))
   refine aU rfl (bB rfl rfl (by omega)) ?_
   refine aU rfl (ef (k0) Tryz.underlying9 rfl rfl (hk0) (hu)) ?_
   refine aU rfl (dC (by kernel_rfl) Tryz.underlying275 rfl) ?_
   refine aM rfl ?_
   refine aU rfl (iS rfl rfl (by omega)) ?_
   refine aU rfl (rJ rfl rfl (by omega)) ?_
   refine aU rfl (rW rfl rfl) (aA rfl (cA (bL (aw (ai ?_)))))
   refine aU rfl (bB rfl rfl (by omega)) ?_
   refine aM rfl (aNn ?_)
   refine ⟨[0, 1, 2, 3, 10, 18, 19], [], [], rfl, ?_⟩
   exact ⟨(k + 1, _), ⟨by dsimp only; omega, rfl⟩, by dsimp only; omega⟩
  ·skip
   refine bg (bj (bj (bz (aw (az (aSR (aM rfl (aNn ?_))))))))
   refine ah _ rfl (fun h3 => ?_) (fun h3 => ?_)
   ·skip
    refine aSR (aM rfl ?_)
    refine aU rfl (iS rfl rfl (by omega)) ?_
    refine aU rfl (dT rfl rfl (by omega)) ?_
    refine aA rfl (aNn (aSR (aM rfl (aM rfl ?_))))
    refine aU rfl (rJ rfl rfl (by omega)) ?_
    refine aU rfl (dC (by kernel_rfl) Tryz.underlying3 rfl) ?_
    refine aM rfl ?_
    refine aU rfl (mK rfl rfl (by omega)) ?_
    refine aA rfl (aA rfl (aNn (aj (aO ?_))))
    refine wY [] [] rfl Tryz.results226 rfl rfl ?_ (.inr rfl)
    exact ⟨rfl, rfl, _, _, rfl⟩
   ·skip
    refine au (aw (aSR (aM rfl ?_)))
    refine aU rfl (dC (by kernel_rfl) Tryz.underlying3 rfl) ?_
    refine aA rfl (aA rfl (aNn (aj ?_)))
    refine wY [] [] rfl Tryz.results226 rfl rfl ?_ (.inr rfl)
    exact ⟨rfl, rfl, _, _, rfl⟩
theorem qL (s : ByteArray) (hs : s.size ≤ maxLen) (at_ : Int) : Con Tryz.prog 142 [.string s, .int .i64 at_] [dS] [] (fun r ps hp => ps = [] ∧ hp = [] ∧ ∃ (op a b c m : Int) (ok : Bool), r = .tuple #[.agg (vP op a b c m).toArray, .bool ok]) := by
 have hs' : s.size ≤ 9223372036854775807 := hs
 have hu : ∀ z : Int, 0 ≤ z → z < s.size → ∃ (k0 : Nat) (u : UInt8), z = k0 ∧ s.data.toList[k0]? = some u := fun z h0 h1 => by
   obtain ⟨k0, rfl⟩ := Int.eq_ofNat_of_zero_le h0
   exact ⟨k0, _, rfl, List.getElem?_eq_getElem (by show k0 < s.data.toList.length; simp; show k0 < s.size; omega)⟩
 refine Con.enter Tryz.func142 rfl (by simp [Tryz.ntmps142]) ?_
 show awp _ _ _ _ ⟨[(0, true, _), (1, true, _)], _, _⟩
 refine aSR ?_
 refine al (q := true) rfl (bp (zs := [.int .i64 0, .int .i64 0, .int .i64 0, .int .i64 0, .int .i64 0]) (by kernel_rfl) rfl (fun b0_0 => ?_))
 refine aH (by (try simp only [nM, nN]); rfl) ?_
 refine aA rfl (aNs (aSR (aM rfl (aU rfl (bJ rfl rfl) (aM rfl (aG rfl rfl (fun hc => aq rfl) (aG rfl rfl (fun hc => aq rfl) (aG rfl rfl (fun hc => dX Tryz.underlying9 (ab rfl hc)) ?_))))))))
 refine aG rfl rfl (fun hc => dT (ab rfl hc) rfl (by (first | omega | (simp at hc; omega)))) ?_
 refine aG rfl rfl (fun hc => dp (ab rfl hc) (ab rfl hc)) (aU rfl (cx rfl rfl (fun h => gf rfl h)) (aNn ?_))
 refine ah _ rfl (fun h1 => ?_) (fun h1 => ?_)
 ·skip
  refine aSR ?_
  refine aU rfl (dF (l := []) (zs := [.int .i64 0, .int .i64 0, .int .i64 0, .int .i64 0, .int .i64 0]) (pl := [(0, 1), (1, 1), (2, 1), (3, 1), (4, 1)]) (by kernel_rfl) (by kernel_rfl) (by kernel_rfl) rfl rfl rfl) ?_
  refine al rfl (aW 0 tk233 rfl rfl rfl rfl ?_)
  refine aH (by (try simp only [nK, nL]); rfl) ?_
  refine aA rfl (aNn (aj (aO ?_)))
  refine fh [] [] rfl Tryz.results142 (cT 0 tk233 rfl rfl rfl) (dz rfl) ?_ (.inr rfl)
  exact ⟨rfl, rfl, _, _, _, _, _, _, rfl⟩
 ·skip
  have hat : 0 ≤ at_ ∧ at_ + 8 ≤ s.size := by simp at h1; omega
  obtain ⟨k0, u0, e0, hu0⟩ := hu at_ (by omega) (by omega)
  obtain ⟨k1, u1, e1, hu1⟩ := hu (at_ + 1) (by omega) (by omega)
  obtain ⟨k2, u2, e2, hu2⟩ := hu (at_ + 2) (by omega) (by omega)
  obtain ⟨k3, u3, e3, hu3⟩ := hu (at_ + 3) (by omega) (by omega)
  refine au (aw (aSR (aM rfl (aM rfl ?_))))
  refine aU rfl (bB rfl rfl (by omega)) ?_
  refine al (q := true) rfl (bF [] [] (by kernel_rfl) rfl rfl rfl rfl (vv s hs _) ?_)
  rintro _ _ _ ⟨rfl, rfl, m, gb, rfl⟩
  refine cB (by (try simp only [nM, nN]); rfl) (by (try simp only [aV, place, Nat.reduceBEq, if_true, if_false, reduceIte, Nat.reduceAdd, nW]); rfl) ?_
  refine aM rfl (aU rfl (aJ rfl rfl) (aU rfl (aJ rfl rfl) (aA rfl (aA rfl (aNs ?_)))))
  refine bn [22] (by kernel_rfl) ?_
  show aB _ _ _ _ _ 23 #[false, false, false, false, false, false, false, false, false, false, false, false, false, false, false, false, false, false, false, false, false, false, false] _
  refine bU 0 rfl (by kernel_rfl) rfl (aq rfl) ?_
  refine bU 1 rfl (by kernel_rfl) rfl (aq rfl) ?_
  refine bU 2 rfl (by kernel_rfl) rfl (ef (k0) Tryz.underlying9 rfl rfl (e0) (hu0)) ?_
  refine bU 3 rfl (by kernel_rfl) rfl (dC (by kernel_rfl) Tryz.underlying3 rfl) ?_
  refine bU 4 rfl (by kernel_rfl) rfl (aq rfl) ?_
  refine bU 5 rfl (by kernel_rfl) rfl (aq rfl) ?_
  refine bU 6 rfl (by kernel_rfl) rfl (bB rfl rfl (by omega)) ?_
  refine bU 7 rfl (by kernel_rfl) rfl (ef (k1) Tryz.underlying9 rfl rfl (e1) (hu1)) ?_
  refine bU 8 rfl (by kernel_rfl) rfl (dC (by kernel_rfl) Tryz.underlying3 rfl) ?_
  refine bU 9 rfl (by kernel_rfl) rfl (aq rfl) ?_
  refine bU 10 rfl (by kernel_rfl) rfl (aq rfl) ?_
  refine bU 11 rfl (by kernel_rfl) rfl (bB rfl rfl (by omega)) ?_
  refine bU 12 rfl (by kernel_rfl) rfl (ef (k2) Tryz.underlying9 rfl rfl (e2) (hu2)) ?_
  refine bU 13 rfl (by kernel_rfl) rfl (dC (by kernel_rfl) Tryz.underlying3 rfl) ?_
  refine bU 14 rfl (by kernel_rfl) rfl (aq rfl) ?_
  refine bU 15 rfl (by kernel_rfl) rfl (aq rfl) ?_
  refine bU 16 rfl (by kernel_rfl) rfl (bB rfl rfl (by omega)) ?_
  refine bU 17 rfl (by kernel_rfl) rfl (ef (k3) Tryz.underlying9 rfl rfl (e3) (hu3)) ?_
  refine bU 18 rfl (by kernel_rfl) rfl (dC (by kernel_rfl) Tryz.underlying3 rfl) ?_
  refine bU 19 rfl (by kernel_rfl) rfl (aq rfl) ?_
  refine bU 20 rfl (by kernel_rfl) rfl (dF (l := [(0, .tmp 29), (1, .tmp 34), (2, .tmp 39), (3, .tmp 44), (4, .tmp 45)]) (zs := [.int .i64 0, .int .i64 0, .int .i64 0, .int .i64 0, .int .i64 0]) (pl := [(0, 1), (1, 1), (2, 1), (3, 1), (4, 1)]) (by kernel_rfl) (by kernel_rfl) (by kernel_rfl) rfl rfl rfl) ?_
  refine bV (q := true) 21 rfl (by kernel_rfl) rfl rfl (bp (zs := [.int .i64 0, .int .i64 0, .int .i64 0, .int .i64 0, .int .i64 0]) (by kernel_rfl) rfl (fun b4_21 => ?_))
  refine cq rfl (by (try simp only [nM, nN]); rfl) (by (try simp only [aV, place, Nat.reduceBEq, if_true, if_false, reduceIte, Nat.reduceAdd, nW]); rfl) ?_
  refine bV 22 rfl (by kernel_rfl) rfl rfl (aW 1 tk233 rfl rfl rfl rfl ?_)
  refine cq rfl (by (try simp only [nM, nN]); rfl) (by (try simp only [aV, place, Nat.reduceBEq, if_true, if_false, reduceIte, Nat.reduceAdd, nW]); rfl) ?_
  refine bS (by kernel_rfl) ?_
  refine aw (az (aSR (aM rfl (aU rfl (cm rfl) (aM rfl (aG rfl rfl (fun hc => ae 1 tk233 rfl rfl rfl) ?_))))))
  refine aQ (caps := []) [0] (false) (by kernel_rfl) _ rfl rfl (fun _ => rfl) (fun hc => (aN (ab rfl hc) rfl)) (fun hc => by rw [List.append_nil]; exact rh _ _ _ _ _) (fun c1 hc1 => ?_)
  refine aG rfl rfl (fun hc => cm (ab rfl hc)) (aU rfl (cx rfl rfl (fun h => gf rfl h)) (aNn ?_))
  refine ah _ rfl (fun h2 => ?_) (fun h2 => ?_)
  ·skip
   refine aSR ?_
   refine aU rfl (dF (l := []) (zs := [.int .i64 0, .int .i64 0, .int .i64 0, .int .i64 0, .int .i64 0]) (pl := [(0, 1), (1, 1), (2, 1), (3, 1), (4, 1)]) (by kernel_rfl) (by kernel_rfl) (by kernel_rfl) rfl rfl rfl) ?_
   refine al rfl (aW 0 tk233 rfl rfl rfl rfl ?_)
   refine aH (by (try simp only [nK, nL]); rfl) ?_
   refine aA rfl (aNn (aj (aO ?_)))
   refine fh [] [] rfl Tryz.results142 (cT 0 tk233 rfl rfl rfl) (dz rfl) ?_ (.inr rfl)
   exact ⟨rfl, rfl, _, _, _, _, _, _, rfl⟩
  ·skip
   refine au (aw (aSR (aU rfl (ae 1 tk233 rfl rfl rfl) ?_)))
   refine al rfl (aW 0 tk233 rfl rfl rfl rfl ?_)
   refine aH (by (try simp only [nK, nL]); rfl) ?_
   refine aA rfl (aNn (aj ?_))
   refine fh [] [] rfl Tryz.results142 (cT 0 tk233 rfl rfl rfl) (dz rfl) ?_ (.inr rfl)
   exact ⟨rfl, rfl, _, _, _, _, _, _, rfl⟩
end Go.Proofs.YtgmiihmahaahiaaGreatDoor

namespace Go.Sy
open Go.RowKit Go.Lp
theorem nr {P : Program} {n : Fr} {s : Sta} {d : Option Tmp} {ty : TypeId} {pos : String} {af : Array Edge} {gd : Option (Nat × Bool)} {x y : Operand} {t t' : TypeId} {k : IntKind} {a b : Int} (hx : ev s.env x = some (true, .int k a)) (hy : ev s.env y = some (true, .int k b)) : Quiet P n ⟨d, .binOp .xor t x y t', ty, pos, af, gd⟩ s (.int k (bits .xor k a b)) := .run2 hx hy fun ρ w h1 h2 => by unfold execOp; dsimp only; rw [h1, h2]; cases k <;> rfl
theorem xh {P : Program} {n : Fr} {s : Sta} {d : Option Tmp} {ty : TypeId} {pos : String} {af : Array Edge} {gd : Option (Nat × Bool)} {x : Operand} {t : TypeId} {k : IntKind} {z : Int} (hx : ev s.env x = some (true, .int k z)) : Quiet P n ⟨d, .unOp .xor t x, ty, pos, af, gd⟩ s (.int k (bits .xor k (if k.signed then -1 else k.max) z)) := .run1 hx fun ρ w h => by unfold execOp; dsimp only; rw [h]; rfl
end Go.Sy
namespace Go.Proofs.YtgmiihmahaahiaaGreatDoor
open Go.RowKit Go.Lp Go.Sy
open Go.Proofs.Tryz
attribute [local irreducible] aL aB awp aC fwp
theorem ru (z : Int) : 0 ≤ IntKind.u64.wrap z := by rw [IntKind.wrap_u64]; omega
theorem qz (z : Int) : 0 ≤ bits .and .u64 (IntKind.u64.wrap z) 63 := by
 obtain ⟨k, hk⟩ := Int.eq_ofNat_of_zero_le (ru z)
 have hlt : IntKind.u64.wrap z < 18446744073709551616 := by rw [IntKind.wrap_u64]; omega
 rw [hk] at hlt ⊢
 have := bits_and_u64_nat k 63 (by omega) (by omega)
 rw [show (63 : Int) = ((63 : Nat) : Int) from rfl, this]
 omega
theorem pP (x k : Int) : Con Tryz.prog 304 [.int .u64 x, .int .i64 k] [] [] (YN (fun z : Int => .int .u64 z) fun _ => True) := by
 refine Con.enter Tryz.func304 rfl (by simp [Tryz.ntmps304]) ?_
 show awp _ _ _ _ ⟨[(0, true, _), (1, true, _)], _, _⟩
 refine aSR (aA rfl (aNn (aSR (aM rfl ?_))))
 refine aU rfl (dC (by kernel_rfl) Tryz.underlying147 rfl) ?_
 refine aU rfl (qV rfl rfl) (aA rfl (aNn (aSR (aM rfl (aM rfl ?_)))))
 refine aU rfl (rJ rfl rfl (by exact qz _)) ?_
 refine aM rfl (aM rfl (aU rfl (pW rfl rfl) ?_))
 refine aU rfl (mK rfl rfl (by exact ru _)) ?_
 refine aU rfl (rW rfl rfl) (aA rfl (aNn (aj ?_)))
 refine bc [] [] rfl Tryz.results304 rfl ?_ (.inr rfl)
 exact ⟨⟨rfl, rfl⟩, _, rfl, trivial⟩
abbrev dZ (zs : List Int) : List Value := zs.map fun z => .int .u64 z
def iL : List Int := [0, 1, 62, 28, 27, 36, 44, 6, 55, 20, 3, 10, 43, 25, 39, 41, 45, 15, 21, 8, 18, 2, 61, 56, 14]
def eU : List Int := [1, 32898, 9223372036854808714, 9223372039002292224, 32907, 2147483649, 9223372039002292353, 9223372036854808585, 138, 136, 2147516425, 2147483658, 2147516555, 9223372036854775947, 9223372036854808713, 9223372036854808579, 9223372036854808578, 9223372036854775936, 32778, 9223372039002259466, 9223372039002292353, 9223372036854808704, 2147483649, 9223372039002292232]
def di : Per := At 2 0 ((iL.map fun z => Value.int .i64 z).map D.v)
def dh : Per := At 1 0 ((dZ eU).map D.v)
theorem x1 {zs : List Int} {k : Nat} {z : Int} (h : k < zs.length) : wrC (dZ zs) k [.int .u64 z] = dZ (zs.set k z) := by
 unfold wrC
 apply List.ext_getElem?
 intro j
 simp only [dZ, List.map_set]
 rw [List.getElem?_set, List.getElem?_append]
 simp
 by_cases h1 : j < k
 · rw [if_pos (by omega), if_neg (by omega), List.getElem?_take_of_lt h1]; simp
 · by_cases h2 : k = j
   · subst h2
     rw [if_neg (by omega), if_pos rfl, if_pos h]
     rw [Nat.min_eq_left (by omega)]; simp
   · rw [if_neg (by omega), if_neg h2, Nat.min_eq_left (by omega)]
     obtain ⟨m, hm⟩ : ∃ m, j - k = m + 1 := ⟨j - k - 1, by omega⟩
     rw [hm, List.getElem?_cons_succ, List.getElem?_drop]
     simp
     congr 2
     omega
theorem rT {zs : List Int} {k : Nat} (h : k < zs.length) : (dZ zs)[k]? = some (.int .u64 (zs.getD k 0)) := by
 simp [dZ, h]
theorem vM {zs : List Int} {k : Nat} (h : k < zs.length) : (dZ zs).toArray[k]? = some (.int .u64 (zs.getD k 0)) := by rw [List.getElem?_toArray]; exact rT h
theorem gm {zs : List Int} {k o : Nat} (h : k < zs.length) (e : o = k) : rdC false 1 (dZ zs) o = some (.int .u64 (zs.getD k 0)) := by
 subst e; exact rT h
theorem tm5 (j : Nat) : ((j : Int)).tmod 5 = ((j % 5 : Nat) : Int) := rfl
theorem td5 (j : Nat) : ((j : Int)).tdiv 5 = ((j / 5 : Nat) : Int) := rfl
theorem wq {j : Nat} (h : j < 25) : IntKind.i64.wrap ((j : Int).tdiv 5) = ((j / 5 : Nat) : Int) := by rw [td5, IntKind.wrap_i64]; omega
theorem wR (j m : Nat) : ((j : Int) - (j : Int).tmod 5) + ((j : Int).tmod 5 + (m : Int)).tmod 5 = ((j - j % 5 + (j % 5 + m) % 5 : Nat) : Int) := by
 rw [tm5]
 have : ((↑(j % 5) : Int) + m).tmod 5 = (((j % 5 + m) % 5 : Nat) : Int) := rfl
 rw [this]; omega
theorem jd {zs : List Int} {k o : Nat} {z : Int} (h : k < zs.length) (e : o = k) : wrC (dZ zs) o [.int .u64 z] = dZ (zs.set k z) := by subst e; exact x1 h
theorem pN (b : Nat) (z0 : List Int) (h0 : z0.length = 25) : Con Tryz.prog 284 [.pointer (some ⟨b, 0, none⟩)] [dh, di] [Box b 312 (dZ z0)] fun _ ps hp => ps = [] ∧ ∃ zs : List Int, zs.length = 25 ∧ hp = [Box b 312 (dZ zs)] := by
 refine Con.enter Tryz.func284 rfl (by simp [Tryz.ntmps284]) ?_
 show awp _ _ _ _ ⟨[(0, true, _)], _, _⟩
 refine aSR ?_
 refine aU rfl (nU (v := .agg (dZ eU).toArray) 0 tk367 rfl (an 0 rfl) rfl (by kernel_rfl)) ?_
 refine aM rfl (aNn (ax (aZ [0, 15, 16] [1, 0] [0] (fun (q : Nat × List Int) s => (q.1 ≤ 24 ∧ q.2.length = 25) ∧ s = ⟨[(0, true, .pointer (some ⟨b, 0, none⟩)), (15, true, .agg (dZ eU).toArray), (16, true, .int .i64 q.1)], [dh, di], [Box b 312 (dZ q.2)]⟩) (fun q => 24 - q.1) rfl (⟨(0, z0), ⟨Nat.zero_le _, h0⟩, rfl⟩) ?_)))
 rintro ⟨i, zs⟩ s ⟨⟨hi, hz⟩, rfl⟩
 dsimp only at hi hz
 refine aSR (aU rfl (bJ rfl rfl) (aNs ?_))
 refine ah _ rfl (fun h1 => ?_) (fun h1 => ?_)
 ·skip
  have hi' : i < 24 := by simp at h1; omega
  have hcl : eU.length = 24 := rfl
  refine au (aw (az (ax (aSR ?_))))
  refine aU rfl (va (i) Tryz.underlying367 (by kernel_rfl) rfl rfl (rfl) (by omega) ((vM (zs := eU) (k := i) (by omega)))) ?_
  refine aA rfl (aNn (aSR ?_))
  refine al (q := true) rfl (bp (zs := [.int .u64 0, .int .u64 0, .int .u64 0, .int .u64 0, .int .u64 0]) (by kernel_rfl) rfl (fun b3_0 => ?_))
  refine aH (by (try simp only [nM, nN]); rfl) ?_
  refine aNs (aSR (aM rfl (aM rfl (cA ?_))))
  refine aw (ax (aZ [0, 3, 4, 15, 16, 19, 20] [1, 0] [0, 1] (fun (q : Nat × List Int) s => (q.1 ≤ 25 ∧ q.2.length = 5) ∧ s = ⟨[(0, true, .pointer (some ⟨b, 0, none⟩)), (3, true, .int .u64 (eU.getD i 0)), (4, true, .pointer (some ⟨b3_0, 0, none⟩)), (15, true, .agg (dZ eU).toArray), (16, true, .int .i64 i), (19, true, .pointer (some ⟨b, 0, none⟩)), (20, true, .int .i64 q.1)], [dh, di], [Box b 312 (dZ zs), Box b3_0 368 (dZ q.2)]⟩) (fun q => 25 - q.1) rfl (⟨(0, [0, 0, 0, 0, 0]), ⟨Nat.zero_le _, rfl⟩, rfl⟩) ?_))
  rintro ⟨j, qs⟩ s ⟨⟨hj, hq⟩, rfl⟩
  dsimp only at hj hq
  refine aSR (aU rfl (bJ rfl rfl) (aNs ?_))
  refine ah _ rfl (fun h2 => ?_) (fun h2 => ?_)
  ·skip
   have hj' : j < 25 := by simp at h2; omega
   have hm5 : j % 5 < 5 := Nat.mod_lt _ (by decide)
   refine au (aw (az (ax (az ?_))))
   refine bn [] (by kernel_rfl) ?_
   show aB _ _ _ _ _ 6 #[false, false, false, false, false, false] _
   refine bU 0 rfl (by kernel_rfl) rfl (aq rfl) ?_
   refine bU 1 rfl (by kernel_rfl) rfl (br rfl) ?_
   refine bU 2 rfl (by kernel_rfl) rfl (dr (j) Tryz.underlying312 tk275 rfl rfl (rfl) (hj')) ?_
   refine bU 3 rfl (by kernel_rfl) rfl (ae (v := .int .u64 (zs.getD j 0)) 0 tk275 rfl rfl (gm (zs := zs) (k := j) (by omega) (by omega))) ?_
   refine bU 4 rfl (by kernel_rfl) rfl (bk rfl) ?_
   refine bU 5 rfl (by kernel_rfl) rfl (bk rfl) ?_
   refine bS (by kernel_rfl) ?_
   refine aw (ai (aM rfl ?_))
   refine aU rfl (eJ rfl rfl (by decide)) ?_
   refine aU rfl (dr (j % 5) Tryz.underlying368 tk275 rfl rfl (rfl) (hm5)) ?_
   refine aU rfl (ae (v := .int .u64 (qs.getD (j % 5) 0)) 1 tk275 rfl rfl (gm (zs := qs) (k := (j % 5)) (by omega) (by omega))) ?_
   refine aM rfl (aU rfl (nr rfl rfl) (aU rfl (dr (j % 5) Tryz.underlying368 tk275 rfl rfl (rfl) (hm5)) ?_))
   refine al rfl (il 1 ([.int .u64 (bits .xor .u64 (qs.getD (j % 5) 0) (zs.getD j 0))]) (dZ (qs.set (j % 5) (bits .xor .u64 (qs.getD (j % 5) 0) (zs.getD j 0)))) tk275 rfl rfl rfl rfl rfl (fun v hv => by rw [List.mem_singleton.1 hv]; rfl) (by simp [hq]; omega) (jd (zs := qs) (k := (j % 5)) (by omega) (by omega)) ?_)
   refine aH (by (try simp only [nK, nL]); rfl) ?_
   refine cA (bL (aw (ai ?_)))
   refine aU rfl (bB rfl rfl (by (try simp only [tm5, td5]); omega)) ?_
   refine aM rfl (aNn ?_)
   refine ⟨[0, 3, 4, 15, 16, 19, 20], [1, 0], [0, 1], rfl, ?_⟩
   exact ⟨(j + 1, _), ⟨⟨by dsimp only; omega, by dsimp only; rw [List.length_set]; exact hq⟩, rfl⟩, by dsimp only; omega⟩
  ·skip
   refine bg (bj (bj (bz (aw (aSR ?_)))))
   refine al (q := true) rfl (bp (zs := [.int .u64 0, .int .u64 0, .int .u64 0, .int .u64 0, .int .u64 0, .int .u64 0, .int .u64 0, .int .u64 0, .int .u64 0, .int .u64 0, .int .u64 0, .int .u64 0, .int .u64 0, .int .u64 0, .int .u64 0, .int .u64 0, .int .u64 0, .int .u64 0, .int .u64 0, .int .u64 0, .int .u64 0, .int .u64 0, .int .u64 0, .int .u64 0, .int .u64 0]) (by kernel_rfl) rfl (fun b9_0 => ?_))
   refine aH (by (try simp only [nM, nN]); rfl) ?_
   refine aNs (aSR (aM rfl (aM rfl (cA ?_))))
   refine aw (ax (aZ [0, 3, 4, 7, 15, 16, 34, 35] [1, 0] [0, 1, 2] (fun (q : Nat × List Int) s => (q.1 ≤ 25 ∧ q.2.length = 25) ∧ s = ⟨[(0, true, .pointer (some ⟨b, 0, none⟩)), (3, true, .int .u64 (eU.getD i 0)), (4, true, .pointer (some ⟨b3_0, 0, none⟩)), (7, true, .pointer (some ⟨b9_0, 0, none⟩)), (15, true, .agg (dZ eU).toArray), (16, true, .int .i64 i), (34, true, .pointer (some ⟨b, 0, none⟩)), (35, true, .int .i64 q.1)], [dh, di], [Box b 312 (dZ zs), Box b3_0 368 (dZ qs), Box b9_0 312 (dZ q.2)]⟩) (fun q => 25 - q.1) rfl (⟨(0, List.replicate 25 0), ⟨Nat.zero_le _, rfl⟩, rfl⟩) ?_))
   clear hj
   rintro ⟨j, ys⟩ s ⟨⟨hj, hy⟩, rfl⟩
   dsimp only at hj hy
   refine aSR (aU rfl (bJ rfl rfl) (aNs ?_))
   refine ah _ rfl (fun h3 => ?_) (fun h3 => ?_)
   ·skip
    have hj' : j < 25 := by simp at h3; omega
    refine au (aw (az (ax (az ?_))))
    refine bn [] (by kernel_rfl) ?_
    show aB _ _ _ _ _ 6 #[false, false, false, false, false, false] _
    refine bU 0 rfl (by kernel_rfl) rfl (aq rfl) ?_
    refine bU 1 rfl (by kernel_rfl) rfl (br rfl) ?_
    refine bU 2 rfl (by kernel_rfl) rfl (dr (j) Tryz.underlying312 tk275 rfl rfl (rfl) (hj')) ?_
    refine bU 3 rfl (by kernel_rfl) rfl (ae (v := .int .u64 (zs.getD j 0)) 0 tk275 rfl rfl (gm (zs := zs) (k := j) (by omega) (by omega))) ?_
    refine bU 4 rfl (by kernel_rfl) rfl (bk rfl) ?_
    refine bU 5 rfl (by kernel_rfl) rfl (bk rfl) ?_
    refine bS (by kernel_rfl) ?_
    refine aw (aSR (aM rfl ?_))
    refine aU rfl (eJ rfl rfl (by decide)) ?_
    refine aM rfl ?_
    refine aU rfl (um rfl rfl (by decide)) ?_
    refine aA rfl (aA rfl (aNs ?_))
    rw [show IntKind.i64.wrap ((((j, ys) : Nat × List Int).fst : Int).tdiv 5) = ((j / 5 : Nat) : Int) from wq hj']
    refine bn [] (by kernel_rfl) ?_
    show aB _ _ _ _ _ 15 #[false, false, false, false, false, false, false, false, false, false, false, false, false, false, false] _
    refine bU 0 rfl (by kernel_rfl) rfl (aq rfl) ?_
    refine bU 1 rfl (by kernel_rfl) rfl (aq rfl) ?_
    refine bU 2 rfl (by kernel_rfl) rfl (bB rfl rfl (by (try simp only [tm5, td5]); omega)) ?_
    refine bU 3 rfl (by kernel_rfl) rfl (eJ rfl rfl (by decide)) ?_
    refine bU 4 rfl (by kernel_rfl) rfl (dr ((j % 5 + 4) % 5) Tryz.underlying368 tk275 rfl rfl (rfl) (Nat.mod_lt _ (by decide))) ?_
    refine bU 5 rfl (by kernel_rfl) rfl (ae (v := .int .u64 (qs.getD ((j % 5 + 4) % 5) 0)) 1 tk275 rfl rfl (gm (zs := qs) (k := ((j % 5 + 4) % 5)) (by omega) (by omega))) ?_
    refine bU 6 rfl (by kernel_rfl) rfl (aq rfl) ?_
    refine bU 7 rfl (by kernel_rfl) rfl (bB rfl rfl (by (try simp only [tm5, td5]); omega)) ?_
    refine bU 8 rfl (by kernel_rfl) rfl (eJ rfl rfl (by decide)) ?_
    refine bU 9 rfl (by kernel_rfl) rfl (dr ((j % 5 + 1) % 5) Tryz.underlying368 tk275 rfl rfl (rfl) (Nat.mod_lt _ (by decide))) ?_
    refine bU 10 rfl (by kernel_rfl) rfl (ae (v := .int .u64 (qs.getD ((j % 5 + 1) % 5) 0)) 1 tk275 rfl rfl (gm (zs := qs) (k := ((j % 5 + 1) % 5)) (by omega) (by omega))) ?_
    refine ea (caps := []) 11 rfl (by kernel_rfl) [] ((0 : Int)) (by kernel_rfl) true rfl rfl (fun _ => rfl) (fun hc => rfl) (fun hc => by rw [List.append_nil]; exact pP _ _) (fun r1 hr1 => ?_)
    refine bU 12 rfl (by kernel_rfl) rfl (nr rfl rfl) ?_
    refine bU 13 rfl (by kernel_rfl) rfl (nr rfl rfl) ?_
    refine bU 14 rfl (by kernel_rfl) rfl (bk rfl) ?_
    refine bS (by kernel_rfl) ?_
    refine aw (ai (aM rfl (aM rfl ?_)))
    refine aU rfl (iS rfl rfl (by (try simp only [tm5, td5]); omega)) ?_
    refine aM rfl ?_
    refine aU rfl (iS rfl rfl (by (try simp only [tm5, td5]); omega)) ?_
    refine aU rfl (bB rfl rfl (by (try simp only [tm5, td5]); omega)) ?_
    refine aU rfl (eJ rfl rfl (by decide)) ?_
    refine aU rfl (iS rfl rfl (by have e : 5 * (2 * (j : Int).tmod 5 + 3 * ((j / 5 : Nat) : Int)).tmod 5 = ((5 * ((2 * (j % 5) + 3 * (j / 5)) % 5) : Nat) : Int) := rfl; rw [e]; omega)) ?_
    refine aU rfl (bB rfl rfl (by have e : ((j / 5 : Nat) : Int) + 5 * (2 * (j : Int).tmod 5 + 3 * ((j / 5 : Nat) : Int)).tmod 5 = ((j / 5 + 5 * ((2 * (j % 5) + 3 * (j / 5)) % 5) : Nat) : Int) := rfl; rw [e]; omega)) ?_
    refine aM rfl (aM rfl (aU rfl (dr (j) Tryz.underlying370 tk3 rfl rfl (rfl) (hj')) ?_))
    refine aU rfl (nU (v := .int .i64 (iL.getD j 0)) j tk3 rfl (an 1 rfl) (by omega) (pg (by rw [List.getElem?_map, List.getElem?_eq_getElem (show j < iL.length from hj')]; simp [List.getD, List.getElem?_eq_getElem (show j < iL.length from hj')]))) ?_
    refine aQ (caps := []) [] ((0 : Int)) (by kernel_rfl) true rfl rfl (fun _ => rfl) (fun hc => rfl) (fun hc => by rw [List.append_nil]; exact pP _ _) (fun r2 hr2 => ?_)
    refine aU rfl (dr (j / 5 + 5 * ((2 * (j % 5) + 3 * (j / 5)) % 5)) Tryz.underlying312 tk275 rfl rfl (rfl) (by omega)) ?_
    refine al rfl (il 2 ([.int .u64 r2]) (dZ (ys.set (j / 5 + 5 * ((2 * (j % 5) + 3 * (j / 5)) % 5)) r2)) tk275 rfl rfl rfl rfl rfl (fun v hv => by rw [List.mem_singleton.1 hv]; rfl) (by simp [hy]; omega) (jd (zs := ys) (k := (j / 5 + 5 * ((2 * (j % 5) + 3 * (j / 5)) % 5))) (by omega) (by omega)) ?_)
    refine aH (by (try simp only [nK, nL]); rfl) ?_
    refine cA (bL (aw (ai ?_)))
    refine aU rfl (bB rfl rfl (by (try simp only [tm5, td5]); omega)) ?_
    refine aM rfl (aNn ?_)
    refine ⟨[0, 3, 4, 7, 15, 16, 34, 35], [1, 0], [0, 1, 2], rfl, ?_⟩
    exact ⟨(j + 1, _), ⟨⟨by dsimp only; omega, by dsimp only; rw [List.length_set]; exact hy⟩, rfl⟩, by dsimp only; omega⟩
   ·skip
    refine bg (bj (bj (bz (aw (az (aSR ?_))))))
    refine aM rfl (aNn (ax (aZ [0, 3, 7, 15, 16, 75] [1, 0] [0, 2] (fun (q : Nat × List Int) s => (q.1 ≤ 25 ∧ q.2.length = 25) ∧ s = ⟨[(0, true, .pointer (some ⟨b, 0, none⟩)), (3, true, .int .u64 (eU.getD i 0)), (7, true, .pointer (some ⟨b9_0, 0, none⟩)), (15, true, .agg (dZ eU).toArray), (16, true, .int .i64 i), (75, true, .int .i64 q.1)], [dh, di], [Box b 312 (dZ q.2), Box b9_0 312 (dZ ys)]⟩) (fun q => 25 - q.1) rfl (⟨(0, zs), ⟨Nat.zero_le _, hz⟩, rfl⟩) ?_)))
    clear hj
    rintro ⟨j, ws⟩ s ⟨⟨hj, hw⟩, rfl⟩
    dsimp only at hj hw
    refine aSR (aU rfl (bJ rfl rfl) (aNs ?_))
    refine ah _ rfl (fun h4 => ?_) (fun h4 => ?_)
    ·skip
     have hj' : j < 25 := by simp at h4; omega
     refine au (aw (az (ax (aSR (aM rfl (aA rfl (aNn (aSR (aM rfl ?_)))))))))
     refine aU rfl (eJ rfl rfl (by decide)) ?_
     refine aM rfl (aM rfl ?_)
     refine aU rfl (eJ rfl rfl (by decide)) ?_
     refine aU rfl (dT rfl rfl (by (try simp only [tm5, td5]); omega)) ?_
     refine aA rfl (aA rfl (aNn ?_))
     refine bn [24] (by kernel_rfl) ?_
     show aB _ _ _ _ _ 25 #[false, false, false, false, false, false, false, false, false, false, false, false, false, false, false, false, false, false, false, false, false, false, false, false, false] _
     refine bU 0 rfl (by kernel_rfl) rfl (aq rfl) ?_
     refine bU 1 rfl (by kernel_rfl) rfl (aq rfl) ?_
     refine bU 2 rfl (by kernel_rfl) rfl (aq rfl) ?_
     refine bU 3 rfl (by kernel_rfl) rfl (dr (j) Tryz.underlying312 tk275 rfl rfl (rfl) (hj')) ?_
     refine bU 4 rfl (by kernel_rfl) rfl (ae (v := .int .u64 (ys.getD j 0)) 1 tk275 rfl rfl (gm (zs := ys) (k := j) (by omega) (by omega))) ?_
     refine bU 5 rfl (by kernel_rfl) rfl (aq rfl) ?_
     refine bU 6 rfl (by kernel_rfl) rfl (aq rfl) ?_
     refine bU 7 rfl (by kernel_rfl) rfl (bB rfl rfl (by (try simp only [tm5, td5]); omega)) ?_
     refine bU 8 rfl (by kernel_rfl) rfl (eJ rfl rfl (by decide)) ?_
     refine bU 9 rfl (by kernel_rfl) rfl (bB rfl rfl (by have e : ((j : Int) - (j : Int).tmod 5) + ((j : Int).tmod 5 + 1).tmod 5 = _ := wR j 1; rw [e]; omega)) ?_
     refine bU 10 rfl (by kernel_rfl) rfl (dr (j - j % 5 + (j % 5 + 1) % 5) Tryz.underlying312 tk275 rfl rfl (wR j 1) (by omega)) ?_
     refine bU 11 rfl (by kernel_rfl) rfl (ae (v := .int .u64 (ys.getD (j - j % 5 + (j % 5 + 1) % 5) 0)) 1 tk275 rfl rfl (gm (zs := ys) (k := (j - j % 5 + (j % 5 + 1) % 5)) (by omega) (by omega))) ?_
     refine bU 12 rfl (by kernel_rfl) rfl (xh rfl) ?_
     refine bU 13 rfl (by kernel_rfl) rfl (aq rfl) ?_
     refine bU 14 rfl (by kernel_rfl) rfl (aq rfl) ?_
     refine bU 15 rfl (by kernel_rfl) rfl (bB rfl rfl (by (try simp only [tm5, td5]); omega)) ?_
     refine bU 16 rfl (by kernel_rfl) rfl (eJ rfl rfl (by decide)) ?_
     refine bU 17 rfl (by kernel_rfl) rfl (bB rfl rfl (by have e : ((j : Int) - (j : Int).tmod 5) + ((j : Int).tmod 5 + 2).tmod 5 = _ := wR j 2; rw [e]; omega)) ?_
     refine bU 18 rfl (by kernel_rfl) rfl (dr (j - j % 5 + (j % 5 + 2) % 5) Tryz.underlying312 tk275 rfl rfl (wR j 2) (by omega)) ?_
     refine bU 19 rfl (by kernel_rfl) rfl (ae (v := .int .u64 (ys.getD (j - j % 5 + (j % 5 + 2) % 5) 0)) 1 tk275 rfl rfl (gm (zs := ys) (k := (j - j % 5 + (j % 5 + 2) % 5)) (by omega) (by omega))) ?_
     refine bU 20 rfl (by kernel_rfl) rfl (qV rfl rfl) ?_
     refine bU 21 rfl (by kernel_rfl) rfl (nr rfl rfl) ?_
     refine bU 22 rfl (by kernel_rfl) rfl (br rfl) ?_
     refine bU 23 rfl (by kernel_rfl) rfl (dr (j) Tryz.underlying312 tk275 rfl rfl (rfl) (hj')) ?_
     refine bV 24 rfl (by kernel_rfl) rfl rfl (il 0 ([_]) (dZ (ws.set j _)) tk275 rfl rfl rfl rfl rfl (fun v hv => by rw [List.mem_singleton.1 hv]; rfl) (by simp [hw]; omega) (jd (zs := ws) (k := j) (by omega) (by omega)) ?_)
     refine cq rfl (by (try simp only [nM, nN]); rfl) (by (try simp only [aV, place, Nat.reduceBEq, if_true, if_false, reduceIte, Nat.reduceAdd, nW]); rfl) ?_
     refine bS (by kernel_rfl) ?_
     refine bL (aw (ai ?_))
     refine aU rfl (bB rfl rfl (by (try simp only [tm5, td5]); omega)) ?_
     refine aM rfl (aNn ?_)
     refine ⟨[0, 3, 7, 15, 16, 75], [1, 0], [0, 1], rfl, ?_⟩
     exact ⟨(j + 1, _), ⟨⟨by dsimp only; omega, by dsimp only; rw [List.length_set]; exact hw⟩, rfl⟩, by dsimp only; omega⟩
    ·skip
     refine bg (bj (bj (bz (aw ?_))))
     refine bn [8] (by kernel_rfl) ?_
     show aB _ _ _ _ _ 9 #[false, false, false, false, false, false, false, false, false] _
     refine bU 0 rfl (by kernel_rfl) rfl (aq rfl) ?_
     refine bU 1 rfl (by kernel_rfl) rfl (br rfl) ?_
     refine bU 2 rfl (by kernel_rfl) rfl (dr (0) Tryz.underlying312 tk275 rfl rfl (rfl) (by decide)) ?_
     refine bU 3 rfl (by kernel_rfl) rfl (ae (v := .int .u64 (ws.getD 0 0)) 0 tk275 rfl rfl (gm (zs := ws) (k := 0) (by omega) (by omega))) ?_
     refine bU 4 rfl (by kernel_rfl) rfl (aq rfl) ?_
     refine bU 5 rfl (by kernel_rfl) rfl (nr rfl rfl) ?_
     refine bU 6 rfl (by kernel_rfl) rfl (br rfl) ?_
     refine bU 7 rfl (by kernel_rfl) rfl (dr (0) Tryz.underlying312 tk275 rfl rfl (rfl) (by decide)) ?_
     refine bV 8 rfl (by kernel_rfl) rfl rfl (il 0 ([_]) (dZ (ws.set 0 _)) tk275 rfl rfl rfl rfl rfl (fun v hv => by rw [List.mem_singleton.1 hv]; rfl) (by simp [hw]) (jd (zs := ws) (k := 0) (by omega) (by omega)) ?_)
     refine cq rfl (by (try simp only [nM, nN]); rfl) (by (try simp only [aV, place, Nat.reduceBEq, if_true, if_false, reduceIte, Nat.reduceAdd, nW]); rfl) ?_
     refine bS (by kernel_rfl) ?_
     refine bL (aw (ai ?_))
     refine aU rfl (bB rfl rfl (by (try simp only [tm5, td5]); omega)) ?_
     refine aM rfl (aNn ?_)
     refine ⟨[0, 15, 16], [1, 0], [0], rfl, ?_⟩
     exact ⟨(i + 1, _), ⟨⟨by dsimp only; omega, by dsimp only; rw [List.length_set]; exact hw⟩, rfl⟩, by dsimp only; omega⟩
 ·skip
  refine bg (bj (bj (bz ?_)))
  refine gZ [] [0] rfl Tryz.results284 ?_ (.inl rfl)
  exact ⟨rfl, zs, hz, rfl⟩
end Go.Proofs.YtgmiihmahaahiaaGreatDoor

