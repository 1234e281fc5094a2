/- Parts of the proof, in build order. No condition. -/
import Derived.Test.YtgmiihmahaahiaaGreatDoorQb07
import Derived.Test.YtgmiihmahaahiaaGreatDoorQb03
import Derived.Test.YtgmiihmahaahiaaGreatDoorQb04
import Derived.Laws.CopyRow
import Derived.Lib.BufferWrite
import Derived.Lib.ConvBytes
import Derived.Lib.SliceRun
import Derived.Deep.Upon
set_option linter.unusedSimpArgs false
set_option linter.unusedVariables false
set_option maxHeartbeats 1000000
set_option maxRecDepth 20000
namespace Go.Proofs.YtgmiihmahaahiaaGreatDoor
open Go.RowKit Go.Lp Go.Sy
open Go.Proofs.Tryz
attribute [local irreducible] aL aB awp aC fwp
theorem wz (k : Int) : Con Tryz.prog 141 [.int .i64 k] [] [] fun r ps hp => hp = [] ∧ ∃ l : Sl Int, r = l.val ∧ ps = [ShF eD l] := by
 refine Con.conv (R := fun r ps hp => ps = [] ∧ ((r = .slice none 0 0 ∧ hp = []) ∨ ∃ (ad : Option Addr) (zs : List Int), r = .slice ad zs.length zs.length ∧ hp = [bH (.slice ad zs.length zs.length) 3 1 (zs.map eD)])) ?_ fun _ _ _ ⟨h1, h⟩ => ?_
 rotate_left
 · subst h1
   rcases h with ⟨h2, h3⟩ | ⟨ad, zs, h2, h3⟩
   · subst h2 h3
     refine ⟨_, _, StE.ents (ps' := [ShF eD ⟨none, 0, []⟩]) fun p hp => ?_, rfl, ⟨none, 0, []⟩, rfl, rfl⟩
     rw [List.mem_singleton.1 hp]
     exact fun _ _ _ => .e none 0 (by unfold maxLen; omega)
   · subst h2 h3
     exact ⟨_, _, (StE.share 0 (ShF eD ⟨ad, zs.length, zs⟩) rfl fun _ _ _ h => et h).trans (StE.keep [0] [] rfl), rfl, ⟨ad, zs.length, zs⟩, rfl, rfl⟩
 refine Con.enter Tryz.func141 rfl (by simp [Tryz.ntmps141]) ?_
 show awp _ _ _ _ ⟨[(0, true, _)], _, _⟩
 refine aSR (aA rfl (aNs (aSR (aM rfl (aNn (ax (aSR (aU rfl (bK rfl rfl) (aA rfl (aNn ?_))))))))))
 refine ah _ rfl (fun h1 => ?_) (fun h1 => ?_)
 ·skip
  refine aSR ?_
  refine al (q := true) rfl (cz (zs := [.int .i64 0]) (l := [(0, .const (.int .i64 14)), (1, .const (.int .i64 19)), (2, .const (.int .i64 20)), (3, .const (.int .i64 21))]) el90 (by kernel_rfl) (by decide) (by decide) (by decide) rfl rfl rfl (.more rfl (.v rfl .nil) (.more rfl (.v rfl .nil) (.more rfl (.v rfl .nil) (.more rfl (.v rfl .nil) .nil)))) rfl rfl (fun v3_0 => ?_))
  refine aH (by (try simp only [nM, nN]); rfl) ?_
  refine aA rfl (aNn (aj (bC (aO ?_))))
  refine bc [] [0] rfl Tryz.results141 rfl ?_ (.inr rfl)
  exact ⟨rfl, .inr ⟨v3_0, [14, 19, 20, 21], rfl, rfl⟩⟩
 ·skip
  refine aSR (aU rfl (bK rfl rfl) (aA rfl (aNn ?_)))
  refine ah _ rfl (fun h2 => ?_) (fun h2 => ?_)
  ·skip
   refine aSR ?_
   refine al (q := true) rfl (cz (zs := [.int .i64 0]) (l := [(0, .const (.int .i64 22))]) el90 (by kernel_rfl) (by decide) (by decide) (by decide) rfl rfl rfl (.more rfl (.v rfl .nil) .nil) rfl rfl (fun v5_0 => ?_))
   refine aH (by (try simp only [nM, nN]); rfl) ?_
   refine aA rfl (aNn (aj (bC (aO ?_))))
   refine bc [] [0] rfl Tryz.results141 rfl ?_ (.inr rfl)
   exact ⟨rfl, .inr ⟨v5_0, [22], rfl, rfl⟩⟩
  ·skip
   refine aSR (aU rfl (bK rfl rfl) (aA rfl (aNn ?_)))
   refine ah _ rfl (fun h3 => ?_) (fun h3 => ?_)
   ·skip
    refine aSR ?_
    refine al (q := true) rfl (cz (zs := [.int .i64 0]) (l := [(0, .const (.int .i64 24)), (1, .const (.int .i64 25))]) el90 (by kernel_rfl) (by decide) (by decide) (by decide) rfl rfl rfl (.more rfl (.v rfl .nil) (.more rfl (.v rfl .nil) .nil)) rfl rfl (fun v7_0 => ?_))
    refine aH (by (try simp only [nM, nN]); rfl) ?_
    refine aA rfl (aNn (aj (bC (aO ?_))))
    refine bc [] [0] rfl Tryz.results141 rfl ?_ (.inr rfl)
    exact ⟨rfl, .inr ⟨v7_0, [24, 25], rfl, rfl⟩⟩
   ·skip
    refine aSR (aU rfl (bK rfl rfl) (aA rfl (aNn ?_)))
    refine ah _ rfl (fun h4 => ?_) (fun h4 => ?_)
    ·skip
     refine aSR ?_
     refine al (q := true) rfl (cz (zs := [.int .i64 0]) (l := [(0, .const (.int .i64 3))]) el90 (by kernel_rfl) (by decide) (by decide) (by decide) rfl rfl rfl (.more rfl (.v rfl .nil) .nil) rfl rfl (fun v9_0 => ?_))
     refine aH (by (try simp only [nM, nN]); rfl) ?_
     refine aA rfl (aNn (aj (bC (aO ?_))))
     refine bc [] [0] rfl Tryz.results141 rfl ?_ (.inr rfl)
     exact ⟨rfl, .inr ⟨v9_0, [3], rfl, rfl⟩⟩
    ·skip
     refine aSR (aU rfl (bK rfl rfl) (aA rfl (aNn ?_)))
     refine ah _ rfl (fun h5 => ?_) (fun h5 => ?_)
     ·skip
      refine aSR ?_
      refine al (q := true) rfl (cz (zs := [.int .i64 0]) (l := [(0, .const (.int .i64 4))]) el90 (by kernel_rfl) (by decide) (by decide) (by decide) rfl rfl rfl (.more rfl (.v rfl .nil) .nil) rfl rfl (fun v11_0 => ?_))
      refine aH (by (try simp only [nM, nN]); rfl) ?_
      refine aA rfl (aNn (aj (bC (aO ?_))))
      refine bc [] [0] rfl Tryz.results141 rfl ?_ (.inr rfl)
      exact ⟨rfl, .inr ⟨v11_0, [4], rfl, rfl⟩⟩
     ·skip
      refine aSR (aU rfl (bK rfl rfl) (aA rfl (aNn ?_)))
      refine ah _ rfl (fun h6 => ?_) (fun h6 => ?_)
      ·skip
       refine aSR ?_
       refine al (q := true) rfl (cz (zs := [.int .i64 0]) (l := [(0, .const (.int .i64 13)), (1, .const (.int .i64 3))]) el90 (by kernel_rfl) (by decide) (by decide) (by decide) rfl rfl rfl (.more rfl (.v rfl .nil) (.more rfl (.v rfl .nil) .nil)) rfl rfl (fun v13_0 => ?_))
       refine aH (by (try simp only [nM, nN]); rfl) ?_
       refine aA rfl (aNn (aj (bC (aO ?_))))
       refine bc [] [0] rfl Tryz.results141 rfl ?_ (.inr rfl)
       exact ⟨rfl, .inr ⟨v13_0, [13, 3], rfl, rfl⟩⟩
      ·skip
       refine au (bL (aw (aSR (aA rfl (aNn (aj ?_))))))
       refine bc [] [] rfl Tryz.results141 rfl ?_ (.inr rfl)
       exact ⟨rfl, .inl ⟨rfl, rfl⟩⟩
theorem sD (k : Int) : gy k ≠ 0 := by unfold gy; split <;> (try split) <;> decide
theorem sT (x y : fM) (p : Per) : Con Tryz.prog 144 [x.val, y.val] [p] [] (YB True) := by
 refine Con.enter Tryz.func144 rfl (by simp [Tryz.ntmps144]) ?_
 show awp _ _ _ _ ⟨[(0, true, _), (1, true, _)], _, _⟩
 refine aSR ?_
 refine al (q := true) rfl (bO rfl rfl rfl (fun b0_0 => ?_))
 refine aH (by (try simp only [nM, nN]); rfl) ?_
 refine al (q := true) rfl (bO rfl rfl rfl (fun b0_1 => ?_))
 refine aH (by (try simp only [nM, nN]); rfl) ?_
 refine aA rfl (aNs ?_)
 refine bn [] (by kernel_rfl) ?_
 show aB _ _ _ _ _ 24 #[false, false, false, false, false, false, false, false, false, false, false, false, false, false, false, false, false, false, false, false, false, false, false, false] _
 refine bU 0 rfl (by kernel_rfl) rfl (aa (off := 0) (by kernel_rfl) rfl) ?_
 refine bU 1 rfl (by kernel_rfl) rfl (ae 0 tk3 rfl rfl rfl) ?_
 refine bU 2 rfl (by kernel_rfl) rfl (aa (off := 0) (by kernel_rfl) rfl) ?_
 refine bU 3 rfl (by kernel_rfl) rfl (ae 1 tk3 rfl rfl rfl) ?_
 refine bU 4 rfl (by kernel_rfl) rfl (bJ rfl rfl) ?_
 refine bU 5 rfl (by kernel_rfl) rfl (aq rfl) ?_
 refine bG 6 rfl (by kernel_rfl) rfl rfl (fun hc => aa (off := 0) (by kernel_rfl) rfl) ?_
 refine bG 7 rfl (by kernel_rfl) rfl rfl (fun hc => ae 0 tk3 (ab rfl hc) rfl rfl) ?_
 refine bG 8 rfl (by kernel_rfl) rfl rfl (fun hc => aa (off := 0) (by kernel_rfl) rfl) ?_
 refine bG 9 rfl (by kernel_rfl) rfl rfl (fun hc => ae 1 tk3 (ab rfl hc) rfl rfl) ?_
 refine bG 10 rfl (by kernel_rfl) rfl rfl (fun hc => bK (ab rfl hc) (ab rfl hc)) ?_
 refine bG 11 rfl (by kernel_rfl) rfl rfl (fun hc => aq (ab rfl hc)) ?_
 refine bG 12 rfl (by kernel_rfl) rfl rfl (fun hc => aa (off := 1) (by kernel_rfl) rfl) ?_
 refine bG 13 rfl (by kernel_rfl) rfl rfl (fun hc => ae 0 tk3 (ab rfl hc) rfl rfl) ?_
 refine bG 14 rfl (by kernel_rfl) rfl rfl (fun hc => aa (off := 2) (by kernel_rfl) rfl) ?_
 refine bG 15 rfl (by kernel_rfl) rfl rfl (fun hc => ae 0 tk3 (ab rfl hc) rfl rfl) ?_
 refine bG 16 rfl (by kernel_rfl) rfl rfl (fun hc => bP (by kernel_rfl) (aN (ab rfl hc) rfl) (fun w S fp hst => (iP _).quiet0 hst)) ?_
 refine bG 17 rfl (by kernel_rfl) rfl rfl (fun hc => uQ (ab rfl hc) (ab rfl hc)) ?_
 refine bG 18 rfl (by kernel_rfl) rfl rfl (fun hc => aa (off := 1) (by kernel_rfl) rfl) ?_
 refine bG 19 rfl (by kernel_rfl) rfl rfl (fun hc => ae 1 tk3 (ab rfl hc) rfl rfl) ?_
 refine bG 20 rfl (by kernel_rfl) rfl rfl (fun hc => eG (ab rfl hc) (ab rfl hc)) ?_
 refine bG 21 rfl (by kernel_rfl) rfl rfl (fun hc => bA (ab rfl hc) rfl (fun h => gt hc h)) ?_
 refine bU 22 rfl (by kernel_rfl) rfl (cx rfl rfl (fun h => gf rfl h)) ?_
 refine bU 23 rfl (by kernel_rfl) rfl (bk rfl) ?_
 refine bS (by kernel_rfl) ?_
 refine aw (aj ?_)
 refine bc [] [] rfl Tryz.results144 rfl ?_ (.inr rfl)
 exact ⟨⟨rfl, rfl⟩, _, rfl, fun _ => trivial⟩
theorem tf (b : Nat) (o : ar) (r : fM) : Con Tryz.prog 139 [r.val, .pointer (some ⟨b, 0, none⟩)] [At b 0 o.row, dS, o.ok] [] (YB True) := by
 refine Con.enter Tryz.func139 rfl (by simp [Tryz.ntmps139]) ?_
 show awp _ _ _ _ ⟨[(0, true, _), (1, true, _)], _, _⟩
 refine bf (ar.f_secs (.of (an 2 rfl))) (fun hlen => ?_)
 refine bf (ar.f_syms (.of (an 2 rfl))) (fun hlen2 => ?_)
 refine aSR ?_
 refine al (q := true) rfl (bO rfl rfl rfl (fun b0_0 => ?_))
 refine aH (by (try simp only [nM, nN]); rfl) ?_
 refine aA rfl (aNs (aSR ?_))
 refine aU rfl (aa (off := 2) (by kernel_rfl) rfl) ?_
 refine aU rfl (ae 0 tk3 rfl rfl rfl) ?_
 refine aU rfl (bP (by kernel_rfl) rfl (fun w S fp hst => (cD _ _).quiet0 hst)) ?_
 refine aU rfl (cm rfl) (aM rfl (aG rfl rfl (fun hc => aK (o := 0) tk145 rfl (.of (an 0 rfl)) rfl) ?_))
 refine aG rfl rfl (fun hc => aa (off := 0) (by kernel_rfl) rfl) ?_
 refine aG rfl rfl (fun hc => ae 0 tk3 (ab rfl hc) rfl rfl) ?_
 refine fS (zs := [.int .i64 0]) (l := [(0, .const (.int .i64 0)), (1, .const (.int .i64 1))]) el90 (by kernel_rfl) (by decide) (by decide) (by decide) rfl _ rfl (fun hc => rfl) rfl (.more rfl (.v rfl .nil) (.more rfl (.v rfl .nil) .nil)) rfl rfl (fun v1_8 => ?_)
 refine aQ (caps := []) [3, 0] (false) (by kernel_rfl) _ rfl rfl (fun _ => rfl) (fun hc => (aN (ab rfl hc) (aN (ab rfl hc) (aN (ab rfl hc) rfl)))) (fun hc => by rw [List.append_nil]; exact (jr o ⟨v1_8, 2, [0, 1]⟩ _).pre (el (.yes (.of (an 0 rfl)) hc) (.of (an 1 rfl)))) (fun c1 hc1 => ?_)
 refine aG rfl rfl (fun hc => cm (ab rfl hc)) (aU rfl (cx rfl rfl (fun h => gf rfl h)) (aM rfl ?_))
 refine aG rfl rfl (fun hc => aa (off := 3) (by kernel_rfl) rfl) ?_
 refine aG rfl rfl (fun hc => ae 0 tk3 (ab rfl hc) rfl rfl) ?_
 refine aG rfl rfl (fun hc => aa (off := 0) (by kernel_rfl) rfl) ?_
 refine aG rfl rfl (fun hc => aa (off := 2) (by kernel_rfl) (ab rfl hc)) ?_
 refine aG rfl rfl (fun hc => aK (o := 2) tk51 (ab rfl hc) (.of (an 1 rfl)) rfl) (aG rfl rfl (fun hc => bq Tryz.underlying51 (ab rfl hc)) ?_)
 refine aG rfl rfl (fun hc => bP (by kernel_rfl) (aN (ab rfl hc) (aN (ab rfl hc) rfl)) (fun w S fp hst => (cD _ _).quiet0 hst)) ?_
 refine aG rfl rfl (fun hc => cm (ab rfl hc)) (aU rfl (cx rfl rfl (fun h => gf rfl h)) (aM rfl ?_))
 refine aG rfl rfl (fun hc => aa (off := 4) (by kernel_rfl) rfl) ?_
 refine aG rfl rfl (fun hc => ae 0 tk3 (ab rfl hc) rfl rfl) (aG rfl rfl (fun hc => bJ (ab rfl hc) rfl) (aU rfl (cx rfl rfl (fun h => gf rfl h)) (aM rfl ?_)))
 refine aG rfl rfl (fun hc => aa (off := 4) (by kernel_rfl) rfl) ?_
 refine aG rfl rfl (fun hc => ae 0 tk3 (ab rfl hc) rfl rfl) (aG rfl rfl (fun hc => cQ (ab rfl hc) rfl) (aU rfl (cx rfl rfl (fun h => gf rfl h)) (aNn ?_)))
 refine ah _ rfl (fun h1 => ?_) (fun h1 => ?_)
 ·skip
  refine aSR (aA rfl (aNn (aj (aO ?_))))
  refine bc [] [] rfl Tryz.results139 rfl ?_ (.inr rfl)
  exact ⟨⟨rfl, rfl⟩, _, rfl, fun _ => trivial⟩
 ·skip
  have hsec : 0 ≤ r.sec ∧ r.sec < o.secs.l.length := by
    simp only [Bool.or_eq_false_iff, Bool.not_eq_false'] at h1
    exact hc1 (by rw [h1.1.1.1.1]; rfl) h1.1.1.1.2
  have hsm := lX (l := o.secs.l) (i := r.sec) (by omega) (by omega)
  refine au (aw (az ?_))
  refine bn [11] (by kernel_rfl) ?_
  show aB _ _ _ _ _ 13 #[false, false, false, false, false, false, false, false, false, false, false, false, false] _
  refine bU 0 rfl (by kernel_rfl) rfl (aa (off := 0) (by kernel_rfl) rfl) ?_
  refine bU 1 rfl (by kernel_rfl) rfl (aa (off := 1) (by kernel_rfl) rfl) ?_
  refine bU 2 rfl (by kernel_rfl) rfl (aK (o := 1) tk50 rfl (.of (an 1 rfl)) rfl) ?_
  refine bU 3 rfl (by kernel_rfl) rfl (aa (off := 0) (by kernel_rfl) rfl) ?_
  refine bU 4 rfl (by kernel_rfl) rfl (ae 0 tk3 rfl rfl rfl) ?_
  refine dI 5 rfl (by kernel_rfl) true rfl rfl (fun _ => av Tryz.underlying50 tk85 rfl ((ar.f_secs (.of (an 3 rfl)))) rfl (dO (i := r.sec) (by omega) (by omega)) (by omega) rfl) (fun h => absurd h (by decide)) (fun ⟨b3_5, o3_5⟩ => ?_)
  refine bU 6 rfl (by kernel_rfl) rfl (aR (o := 0) tk85 rfl (an 0 rfl) rfl rfl) ?_
  refine bU 7 rfl (by kernel_rfl) rfl (aa (off := 2) (by kernel_rfl) rfl) ?_
  refine bU 8 rfl (by kernel_rfl) rfl (ae 0 tk3 rfl rfl rfl) ?_
  refine bU 9 rfl (by kernel_rfl) rfl (bP (by kernel_rfl) rfl (fun w S fp hst => (iP _).quiet0 hst)) ?_
  refine bV (q := true) 10 rfl (by kernel_rfl) rfl rfl (bp (zs := [.string .empty, .int .i64 0, .int .i64 0, .int .i64 0, .string .empty, .bool false]) (by kernel_rfl) rfl (fun b3_10 => ?_))
  refine cq rfl (by (try simp only [nM, nN]); rfl) (by (try simp only [aV, place, Nat.reduceBEq, if_true, if_false, reduceIte, Nat.reduceAdd, nW]); rfl) ?_
  refine bV 11 rfl (by kernel_rfl) rfl rfl (aW 1 tk85 rfl rfl rfl rfl ?_)
  refine cq rfl (by (try simp only [nM, nN]); rfl) (by (try simp only [aV, place, Nat.reduceBEq, if_true, if_false, reduceIte, Nat.reduceAdd, nW]); rfl) ?_
  refine bU 12 rfl (by kernel_rfl) rfl (bk rfl) ?_
  refine bS (by kernel_rfl) ?_
  refine aw (az (aSR ?_))
  refine aU rfl (aa (off := 1) (by kernel_rfl) rfl) ?_
  refine aU rfl (ae 0 tk3 rfl rfl rfl) ?_
  refine aU rfl (aa (off := 3) (by kernel_rfl) rfl) ?_
  refine aU rfl (ae 1 tk3 rfl rfl rfl) ?_
  refine aU rfl (bP (by kernel_rfl) rfl (fun w S fp hst => (cD _ _).quiet0 hst)) ?_
  refine aU rfl (cm rfl) (aM rfl ?_)
  refine aG rfl rfl (fun hc => aa (off := 1) (by kernel_rfl) rfl) ?_
  refine aG rfl rfl (fun hc => ae 0 tk3 (ab rfl hc) rfl rfl) ?_
  refine aG rfl rfl (fun hc => aa (off := 3) (by kernel_rfl) rfl) ?_
  refine aG rfl rfl (fun hc => ae 1 tk3 (ab rfl hc) rfl rfl) (aG rfl rfl (fun hc => aq rfl) (aG rfl rfl (fun hc => pW (ab rfl hc) (ab rfl hc)) (aG rfl rfl (fun hc => dp (ab rfl hc) (ab rfl hc)) (aU rfl (cx rfl rfl (fun h => gf rfl h)) (aM rfl ?_)))))
  refine aG rfl rfl (fun hc => aa (off := 1) (by kernel_rfl) rfl) ?_
  refine aG rfl rfl (fun hc => ae 0 tk3 (ab rfl hc) rfl rfl) (aG rfl rfl (fun hc => aq rfl) ?_)
  refine aG rfl rfl (fun hc => eJ (ab rfl hc) (ab rfl hc) (by exact sD _)) ?_
  refine aG rfl rfl (fun hc => cN (ab rfl hc) rfl) (aU rfl (cx rfl rfl (fun h => gf rfl h)) (aNn ?_))
  refine ah _ rfl (fun h2 => ?_) (fun h2 => ?_)
  ·skip
   refine aSR (aA rfl (aNn (aj (aO ?_))))
   refine bc [] [] rfl Tryz.results139 rfl ?_ (.inr rfl)
   exact ⟨⟨rfl, rfl⟩, _, rfl, fun _ => trivial⟩
  ·skip
   refine au (aw (aSR ?_))
   refine aU rfl (aa (off := 2) (by kernel_rfl) rfl) ?_
   refine aU rfl (ae 0 tk3 rfl rfl rfl) ?_
   refine al (q := true) rfl (bF [] [] (by kernel_rfl) rfl rfl rfl rfl (wz _) ?_)
   rintro _ _ _ ⟨rfl, ol, rfl, rfl⟩
   refine cB (by (try simp only [nM, nN]); rfl) (by (try simp only [aV, place, Nat.reduceBEq, if_true, if_false, reduceIte, Nat.reduceAdd, nW]); rfl) ?_
   refine aA rfl (aNs (aSR (aM rfl (aU rfl (uf Tryz.underlying90 rfl) (aNn ?_)))))
   refine ah _ rfl (fun h3 => ?_) (fun h3 => ?_)
   ·skip
    refine aSR ?_
    refine aU rfl (aa (off := 1) (by kernel_rfl) rfl) ?_
    refine aU rfl (ae 1 tk3 rfl rfl rfl) (aU rfl (bK rfl rfl) (aM rfl ?_))
    refine aG rfl rfl (fun hc => aa (off := 2) (by kernel_rfl) rfl) ?_
    refine aG rfl rfl (fun hc => ae 1 tk3 (ab rfl hc) rfl rfl) (aG rfl rfl (fun hc => aq rfl) (aG rfl rfl (fun hc => cQ (ab rfl hc) (ab rfl hc)) (aU rfl (bA rfl rfl (fun h => gt rfl h)) (aA rfl (aNn (aj (aO ?_)))))))
    refine bc [] [] rfl Tryz.results139 rfl ?_ (.inr rfl)
    exact ⟨⟨rfl, rfl⟩, _, rfl, fun _ => trivial⟩
   ·skip
    refine au (aw (az ?_))
    refine eE (bM.f_bytes (Ent.all (ar.f_secsA (.of (an 5 rfl))) hsm)) (fun hbl => ?_)
    refine ai ?_
    refine aU rfl (aa (off := 4) (by kernel_rfl) rfl) ?_
    refine aU rfl (ae 1 tk9 rfl rfl rfl) ?_
    refine aU rfl (aa (off := 1) (by kernel_rfl) rfl) ?_
    refine aU rfl (ae 0 tk3 rfl rfl rfl) ?_
    refine al (q := true) rfl (bF [1] [] (by kernel_rfl) rfl rfl rfl rfl (qL _ hbl _) ?_)
    rintro _ _ _ ⟨rfl, rfl, iop, ia, ib, ic, im, iok, rfl⟩
    refine cB (by (try simp only [nM, nN]); rfl) (by (try simp only [aV, place, Nat.reduceBEq, if_true, if_false, reduceIte, Nat.reduceAdd, nW]); rfl) ?_
    refine aM rfl (aU rfl (aJ rfl rfl) (aU rfl (aJ rfl rfl) ?_))
    refine al (q := true) rfl (bp (zs := [.int .i64 0, .int .i64 0, .int .i64 0, .int .i64 0, .int .i64 0]) (by kernel_rfl) rfl (fun b9_8 => ?_))
    refine aH (by (try simp only [nM, nN]); rfl) ?_
    refine al rfl (aW 2 tk233 rfl rfl rfl rfl ?_)
    refine aH (by (try simp only [nK, nL]); rfl) ?_
    refine aA rfl (aNn (aSR ?_))
    refine aU rfl (aa (off := 1) (by kernel_rfl) rfl) ?_
    refine aU rfl (ae 1 tk3 rfl rfl rfl) (aU rfl (bK rfl rfl) (aM rfl (aG rfl rfl (fun hc => aq rfl) (aU rfl (bA rfl rfl (fun h => gt rfl h)) (aM rfl (aG rfl rfl (fun hc => aq rfl) ?_))))))
    refine aG rfl rfl (fun hc => aa (off := 0) (by kernel_rfl) rfl) ?_
    refine aG rfl rfl (fun hc => ae 2 tk3 (ab rfl hc) rfl rfl) ?_
    refine aQ (caps := []) [5] (false) (by kernel_rfl) _ rfl rfl (fun _ => rfl) (fun hc => (aN (ab rfl hc) (aN (ab rfl hc) rfl))) (fun hc => by rw [List.append_nil]; exact nt ol _) (fun c2 hc2 => ?_)
    refine aU rfl (bA rfl rfl (fun h => gt rfl h)) (aA rfl (aNn (aj ?_)))
    refine bc [] [] rfl Tryz.results139 rfl ?_ (.inr rfl)
    exact ⟨⟨rfl, rfl⟩, _, rfl, fun _ => trivial⟩
theorem tU (o : ar) : Con Tryz.prog 69 [o.val] [dS, o.ok] [] (YB True) := by
 refine Con.enter Tryz.func69 rfl (by simp [Tryz.ntmps69]) ?_
 show awp _ _ _ _ ⟨[(0, true, _)], _, _⟩
 refine aSR ?_
 refine al (q := true) rfl (bO rfl rfl rfl (fun b0_0 => ?_))
 refine aH (by (try simp only [nM, nN]); rfl) ?_
 refine aA rfl (aNn (aSR (aU rfl (dn (l := [.tmp 1]) rfl) (aA rfl (cA ?_)))))
 refine aw (aSR (aA rfl (aNs (bT 0 rfl rfl ?_))))
 show awp _ _ _ _ ⟨_, At _ 0 _ :: _, _⟩
 refine ai ?_
 refine aU rfl (aa (off := 0) (by kernel_rfl) rfl) ?_
 refine aU rfl (aa (off := 3) (by kernel_rfl) rfl) ?_
 refine aU rfl (aK (o := 3) tk52 rfl (.of (an 0 rfl)) rfl) (aM rfl ?_)
 refine aQ (caps := []) [2, 1, 0] (false) (by kernel_rfl) true rfl rfl (fun _ => rfl) (fun hc => rfl) (fun hc => by rw [List.append_nil]; exact (mx o.rels 139 [.pointer (some ⟨b0_0, 0, none⟩)] (cw (At b0_0 0 o.row) (cw dS o.ok)) (fun _ => True) (by kernel_rfl) (fun r _ => (tf b0_0 o r).pre (ra ff.left ff.right.left ff.right.right))).pre (el (ar.f_rels (.of (an 2 rfl))) (.mk2 (.of (an 0 rfl)) (.mk2 (.of (an 1 rfl)) (.of (an 2 rfl)))))) (fun c1 hc1 => ?_)
 refine aM rfl ?_
 refine aG rfl rfl (fun hc => aa (off := 0) (by kernel_rfl) rfl) ?_
 refine aG rfl rfl (fun hc => aa (off := 3) (by kernel_rfl) (ab rfl hc)) ?_
 refine aG rfl rfl (fun hc => aK (o := 3) tk52 (ab rfl hc) (.of (an 0 rfl)) rfl) (aG rfl rfl (fun hc => aq rfl) ?_)
 refine aQ (caps := []) [0] (false) (by kernel_rfl) _ rfl rfl (fun _ => rfl) (fun hc => (aN (ab rfl hc) (aN (ab rfl hc) rfl))) (fun hc => by rw [List.append_nil]; exact (mn o.rels 144 [] o.ok (by kernel_rfl) (fun x _ y _ => sT x y _)).pre (el (ar.f_rels (.of (an 0 rfl))) (.of (an 0 rfl)))) (fun c2 hc2 => ?_)
 refine aU rfl (bA rfl rfl (fun h => gt rfl h)) (aA rfl (aNn (aj ?_)))
 refine bc [] [] rfl Tryz.results69 rfl ?_ (.inr rfl)
 exact ⟨⟨rfl, rfl⟩, _, rfl, fun _ => trivial⟩
end Go.Proofs.YtgmiihmahaahiaaGreatDoor

namespace Go.Sy
open Go.RowKit Go.Lp
theorem eL {P : Program} {n : Fr} {env : Env} {ps : List Per} {hp : List Res} {c : Code} {Q : Exit → Sta → Prop} (p : Per) (hp' : Ent ps p) (h : awp P n c Q ⟨env, p :: ps, hp⟩) : awp P n c Q ⟨env, ps, hp⟩ := fun w S fp a hst he hn hd =>
 h w S fp a ⟨fun q hq => (List.mem_cons.1 hq).elim (fun e => e ▸ hp' w S hst.per) (fun h => hst.per q h), hst.res, hst.lt, hst.dj, hst.slt⟩ he hn hd
theorem vm {w : World} {S F : bE} {v : Value} {E : TypeId} {sz : Nat} {rows : List (List D)} (h : (bH v E sz rows).holds w S F) : ∃ ad cap, v = .slice ad rows.length cap := by
 rcases h with ⟨h1, h2, _⟩ | ⟨b, cap, h1, _⟩
 · subst h2; exact ⟨none, 0, h1⟩
 · exact ⟨_, cap, h1⟩
theorem fC {P : Program} {n : Fr} {env : Env} {ps : List Per} {hp : List Res} {c : Code} {Q : Exit → Sta → Prop} (i : Nat) {v : Value} {T : TypeId} {sz : Nat} {rows : List (List D)} (hi : hp[i]? = some (bH v T sz rows)) (h : ∀ ad cp, v = .slice ad rows.length cp → awp P n c Q ⟨env, ps, hp⟩) : awp P n c Q ⟨env, ps, hp⟩ := fun w S fp a hst he hn hd => by
 obtain ⟨ad, cp, e⟩ := vm (hst.res i _ hi)
 exact h ad cp e w S fp a hst he hn hd
end Go.Sy
namespace Go.Proofs.YtgmiihmahaahiaaGreatDoor
open Go.RowKit Go.Lp Go.Sy
open Go.Proofs.Tryz
attribute [local irreducible] aL aB awp aC fwp
def xT (l : List Int) : Prop := ∀ (k : Nat) (a b : Int), l[k]? = some a → l[k + 1]? = some b → a < b
theorem rY {l : List Int} (h : xT l) (h0 : ∀ z ∈ l, 0 ≤ z) : ∀ (k : Nat) (a : Int), l[k]? = some a → (k : Int) ≤ a
 | 0, a, ha => h0 a (List.mem_of_getElem? ha)
 | k + 1, b, hb => by
   have hl := (List.getElem?_eq_some_iff.1 hb).1
   have ha : l[k]? = some l[k] := List.getElem?_eq_getElem (by omega)
   have h1 := rY h h0 k _ ha
   have h2 := h k _ _ ha hb
   omega
theorem vW {l : List Int} {n : Nat} (h : xT l) (h0 : ∀ z ∈ l, 0 ≤ z ∧ z < n) : l.length ≤ n := by
 cases hl : l.length with
 | zero => exact Nat.zero_le _
 | succ k =>
   have ha : l[k]? = some l[k] := List.getElem?_eq_getElem (by omega)
   have h1 := rY h (fun z hz => (h0 z hz).1) k _ ha
   have h2 := (h0 _ (List.mem_of_getElem? ha)).2
   omega
theorem ur (l : Sl Int) (F : FuncId) (caps : List Value) (p : Per) (hF : bI Tryz.prog F = true) (h : ∀ a b : Int, Con Tryz.prog F ((eI a) :: (eI b) :: caps) [p] [] (fun r _ _ => r = .bool (decide (a < b)))) : Con Tryz.prog 149 [l.val, .func (.func F) #[] caps.toArray] [ShF eD l, p] [] (YB (xT l.l)) := by
 refine Con.enter Tryz.func149 rfl (by simp [Tryz.ntmps149]) ?_
 show awp _ _ _ _ ⟨[(0, true, _), (1, true, _)], _, _⟩
 refine bf (.of (an 0 rfl)) (fun hlen => ?_)
 refine aSR (aA rfl (aNs (aSR (aA rfl (aNn (ax ?_))))))
 refine aZ [0, 1, 5] [1, 0] [] (fun (k : Nat) s => (k ≤ l.l.length ∧ ∀ (j : Nat) (a b : Int), j < k → l.l[j]? = some a → l.l[j + 1]? = some b → a < b) ∧ s = ⟨[(0, true, l.val), (1, true, .func (.func F) #[] caps.toArray), (5, true, .int .i64 ((k + 1 : Nat) : Int))], [ShF eD l, p], []⟩) (fun k => l.l.length - k) rfl (⟨0, ⟨Nat.zero_le _, fun j a b h => by omega⟩, rfl⟩) ?_
 rintro k s ⟨⟨hk, hA⟩, rfl⟩
 refine az (aSR (aM rfl (aM rfl (aU rfl (bq Tryz.underlying90 rfl) (aU rfl (bJ rfl rfl) (aNn ?_))))))
 refine ah _ rfl (fun h1 => ?_) (fun h1 => ?_)
 ·skip
  have hk' : k + 1 < l.l.length := by simp at h1; omega
  have ha := bY (l := l.l) (i := k) (by omega)
  have hb := bY (l := l.l) (i := k + 1) hk'
  refine au (aw (az (ax (az ?_))))
  refine bn [] (by kernel_rfl) ?_
  show aB _ _ _ _ _ 12 #[false, false, false, false, false, false, false, false, false, false, false, false] _
  refine bU 0 rfl (by kernel_rfl) rfl (aq rfl) ?_
  refine bU 1 rfl (by kernel_rfl) rfl (aq rfl) ?_
  refine bU 2 rfl (by kernel_rfl) rfl (aq rfl) ?_
  refine bU 3 rfl (by kernel_rfl) rfl (dT rfl rfl (by omega)) ?_
  refine dI 4 rfl (by kernel_rfl) true rfl rfl (fun _ => av Tryz.underlying90 tk3 rfl ((.of (an 0 rfl))) rfl (aS ha) (by omega) rfl) (fun h => absurd h (by decide)) (fun ⟨b4_4, o4_4⟩ => ?_)
  refine bU 5 rfl (by kernel_rfl) rfl (aR (o := 0) tk3 rfl (an 0 rfl) rfl rfl) ?_
  refine bU 6 rfl (by kernel_rfl) rfl (aq rfl) ?_
  refine bU 7 rfl (by kernel_rfl) rfl (aq rfl) ?_
  refine dI 8 rfl (by kernel_rfl) true rfl rfl (fun _ => av Tryz.underlying90 tk3 rfl ((.of (an 1 rfl))) rfl (aS hb) rfl rfl) (fun h => absurd h (by decide)) (fun ⟨b4_8, o4_8⟩ => ?_)
  refine bU 9 rfl (by kernel_rfl) rfl (aR (o := 0) tk3 rfl (an 0 rfl) rfl rfl) ?_
  refine bU 10 rfl (by kernel_rfl) rfl (kM hF rfl rfl (fun w S fp hst => (h _ _).quiet1 (an 3 rfl) hst)) ?_
  refine bU 11 rfl (by kernel_rfl) rfl (cm rfl) ?_
  refine bS (by kernel_rfl) ?_
  refine aw ?_
  refine ah _ rfl (fun h2 => ?_) (fun h2 => ?_)
  ·skip
   refine aSR (aA rfl (aNn (aj (bC (aO (aO (bC (aO ?_))))))))
   refine bc [] [] rfl Tryz.results149 rfl ?_ (.inr rfl)
   exact ⟨⟨rfl, rfl⟩, _, rfl, fun h => by cases h⟩
  ·skip
   refine au (bL (aw (ai (aM rfl ?_))))
   refine aU rfl (bB rfl rfl (by omega)) ?_
   refine aA rfl (aNn ?_)
   refine ⟨[0, 1, 5], [1, 0], [], rfl, ?_⟩
   refine ⟨k + 1, ⟨⟨by omega, fun j a b hj h3 h4 => ?_⟩, rfl⟩, by omega⟩
   by_cases hjk : j = k
   · subst hjk
     rw [ha] at h3; rw [hb] at h4
     rw [← Option.some.inj h3, ← Option.some.inj h4]
     simpa using h2
   · exact hA j a b (by omega) h3 h4
 ·skip
  refine bg (bj (bj (bz (aw (aSR (aA rfl (aNn (aj ?_))))))))
  refine bc [] [] rfl Tryz.results149 rfl ?_ (.inr rfl)
  refine ⟨⟨rfl, rfl⟩, _, rfl, fun _ j a b h3 h4 => hA j a b ?_ h3 h4⟩
  have := (List.getElem?_eq_some_iff.1 h4).1
  simp at h1; omega
theorem uz (b : Nat) (o : ar) (z : Int) : Con Tryz.prog 148 [eI z, .pointer (some ⟨b, 0, none⟩)] [At b 0 o.row, o.ok] [] (YB (0 ≤ z ∧ z < o.secs.l.length)) := by
 refine Con.enter Tryz.func148 rfl (by simp [Tryz.ntmps148]) ?_
 show awp _ _ _ _ ⟨[(0, true, _), (1, true, _)], _, _⟩
 refine bf (ar.f_secs (.of (an 1 rfl))) (fun hlen => ?_)
 refine aSR (aA rfl (aNn (aSR (aM rfl ?_))))
 refine aU rfl (aa (off := 0) (by kernel_rfl) rfl) ?_
 refine aU rfl (aa (off := 1) (by kernel_rfl) rfl) ?_
 refine aU rfl (aK (o := 1) tk50 rfl (.of (an 0 rfl)) rfl) (aU rfl (bq Tryz.underlying50 rfl) ?_)
 refine aU rfl (bP (by kernel_rfl) rfl (fun w S fp hst => (cD _ _).quiet0 hst)) ?_
 refine aA rfl (aNn (aj ?_))
 refine bc [] [] rfl Tryz.results148 rfl ?_ (.inr rfl)
 refine ⟨⟨rfl, rfl⟩, _, rfl, fun hb => ?_⟩
 simp only [Bool.and_eq_true, decide_eq_true_eq] at hb; omega
theorem wk (x y : Int) (p : Per) : Con Tryz.prog 150 [eI x, eI y] [p] [] (fun r _ _ => r = .bool (decide (x < y))) := by
 refine Con.enter Tryz.func150 rfl (by simp [Tryz.ntmps150]) ?_
 show awp _ _ _ _ ⟨[(0, true, _), (1, true, _)], _, _⟩
 refine aSR (aA rfl (aNn (aSR (aM rfl (aM rfl (aU rfl (bJ rfl rfl) (aA rfl (aNn (aj ?_)))))))))
 refine bc [] [] rfl Tryz.results150 rfl ?_ (.inr rfl)
 rfl
theorem uH (g : cR) (p : Per) : Con Tryz.prog 152 [g.val] [p] [] (YN dH fun _ => True) := by
 refine Con.enter Tryz.func152 rfl (by simp [Tryz.ntmps152]) ?_
 show awp _ _ _ _ ⟨[(0, true, _)], _, _⟩
 refine aSR ?_
 refine al (q := true) rfl (bO rfl rfl rfl (fun b0_0 => ?_))
 refine aH (by (try simp only [nM, nN]); rfl) ?_
 refine aA rfl (aNn (aSR ?_))
 refine aU rfl (aa (off := 0) (by kernel_rfl) rfl) ?_
 refine aU rfl (ae 0 tk9 rfl rfl rfl) (aA rfl (aNn (aj ?_)))
 refine bc [] [] rfl Tryz.results152 rfl ?_ (.inr rfl)
 exact ⟨⟨rfl, rfl⟩, _, rfl, trivial⟩
theorem uO (x : Int) (p : Per) : Con Tryz.prog 154 [eI x] [p] [] (YN eI fun _ => True) := by
 refine Con.enter Tryz.func154 rfl (by simp [Tryz.ntmps154]) ?_
 show awp _ _ _ _ ⟨[(0, true, _)], _, _⟩
 refine aSR (aA rfl (aNn (aSR (aM rfl (aA rfl (aNn (aj ?_)))))))
 refine bc [] [] rfl Tryz.results154 rfl ?_ (.inr rfl)
 exact ⟨⟨rfl, rfl⟩, _, rfl, trivial⟩
theorem pE (o : ar) (hg : o.groups.l.length ≤ 1000) (hs : o.secs.l.length ≤ 1000) : Con Tryz.prog 70 [o.val] [o.ok] [] (YB (∀ g ∈ o.groups.l, g.secs.l.length ≤ o.secs.l.length ∧ ∀ z ∈ g.secs.l, 0 ≤ z ∧ z < o.secs.l.length)) := by
 refine Con.enter Tryz.func70 rfl (by simp [Tryz.ntmps70]) ?_
 show awp _ _ _ _ ⟨[(0, true, _)], _, _⟩
 refine bf (ar.f_groups (.of (an 0 rfl))) (fun hlen => ?_)
 refine aSR ?_
 refine al (q := true) rfl (bO rfl rfl rfl (fun b0_0 => ?_))
 refine aH (by (try simp only [nM, nN]); rfl) ?_
 refine aA rfl (aNn (aSR (aA rfl (aNn ?_))))
 refine az (az (eZ 3 1 ?_))
 show awp _ _ _ _ ⟨_, _, [_, _]⟩
 refine bT 0 rfl rfl ?_
 show awp _ _ _ _ ⟨_, At _ 0 _ :: _, _⟩
 refine ai ?_
 refine aU rfl (aa (off := 0) (by kernel_rfl) rfl) ?_
 refine aU rfl (aa (off := 4) (by kernel_rfl) rfl) ?_
 refine aU rfl (aK (o := 4) tk53 rfl (.of (an 0 rfl)) rfl) (aU rfl (bq Tryz.underlying53 rfl) (aM rfl (aNn (ax ?_))))
 refine aZ [1, 3, 8, 9, 10] [1, 0] [1] (fun (q : Nat × (Value × List Int)) s => (q.1 ≤ o.groups.l.length ∧ q.2.2.length ≤ 1000 * q.1 ∧ ∀ g ∈ o.groups.l.take q.1, g.secs.l.length ≤ o.secs.l.length ∧ ∀ z ∈ g.secs.l, 0 ≤ z ∧ z < o.secs.l.length) ∧ s = ⟨[(1, true, .pointer (some ⟨b0_0, 0, none⟩)), (3, true, q.2.1), (8, true, o.groups.val), (9, true, .int .i64 o.groups.l.length), (10, true, .int .i64 q.1)], [At b0_0 0 o.row, o.ok], [bH q.2.1 3 1 (q.2.2.map eD)]⟩) (fun q => o.groups.l.length - q.1) rfl (⟨(0, (_, [])), ⟨Nat.zero_le _, Nat.le_refl _, fun g hg => by cases hg⟩, rfl⟩) ?_
 rintro ⟨k, v, zs⟩ s ⟨⟨hk, hz, hG⟩, rfl⟩
 dsimp only at hk hz hG
 refine aSR (aU rfl (bJ rfl rfl) (aNs ?_))
 refine ah _ rfl (fun h1 => ?_) (fun h1 => ?_)
 ·skip
  have hk' : k < o.groups.l.length := by simp at h1; omega
  obtain ⟨g, hgk⟩ : ∃ g, o.groups.l[k]? = some g := ⟨_, List.getElem?_eq_getElem hk'⟩
  refine au (aw (az (ax (aSR ?_))))
  refine cF true rfl rfl (fun _ => av Tryz.underlying53 tk92 rfl ((ar.f_groups (.of (an 1 rfl)))) rfl (aS hgk) rfl rfl) (fun h => absurd h (by decide)) (fun ⟨b4_0, o4_0⟩ => ?_)
  refine aU rfl (aR (o := 0) tk92 rfl (an 0 rfl) rfl rfl) ?_
  refine al (q := true) rfl (bp (zs := [.string .empty, .slice none 0 0]) (by kernel_rfl) rfl (fun b4_2 => ?_))
  refine aH (by (try simp only [nM, nN]); rfl) ?_
  refine al rfl (aW 1 tk92 rfl rfl rfl rfl ?_)
  refine aH (by (try simp only [nK, nL]); rfl) ?_
  refine aNs (az ?_)
  refine eE (cR.f_name (Ent.all (ar.f_groupsA (.of (an 2 rfl))) hgk)) (fun hnl => ?_)
  refine bf (cR.f_secs (Ent.all (ar.f_groupsA (.of (an 2 rfl))) hgk)) (fun hlen2 => ?_)
  refine ai ?_
  refine aU rfl (aa (off := 0) (by kernel_rfl) rfl) ?_
  refine aU rfl (ae 1 tk9 rfl rfl rfl) ?_
  refine aQ (caps := []) [] (false) (by kernel_rfl) true rfl rfl (fun _ => rfl) (fun hc => rfl) (fun hc => by rw [List.append_nil]; exact eR _ hnl) (fun c1 hc1 => ?_)
  refine aU rfl (cm rfl) (aM rfl ?_)
  refine aG rfl rfl (fun hc => aa (off := 1) (by kernel_rfl) rfl) ?_
  refine aG rfl rfl (fun hc => ae 1 tk90 (ab rfl hc) rfl rfl) (aG rfl rfl (fun hc => bq Tryz.underlying90 (ab rfl hc)) (aG rfl rfl (fun hc => bK (ab rfl hc) rfl) (aU rfl (cx rfl rfl (fun h => gf rfl h)) (aM rfl ?_))))
  refine aG rfl rfl (fun hc => aa (off := 1) (by kernel_rfl) rfl) ?_
  refine aG rfl rfl (fun hc => ae 1 tk90 (ab rfl hc) rfl rfl) (aG rfl rfl (fun hc => dn (l := [.tmp 1]) rfl) ?_)
  refine aQ (caps := []) [1, 0] (false) (by kernel_rfl) _ rfl rfl (fun _ => rfl) (fun hc => (aN (ab rfl hc) (aN (ab rfl hc) rfl))) (fun hc => by rw [List.append_nil]; exact (mw g.secs 148 [.pointer (some ⟨b0_0, 0, none⟩)] (cw (At b0_0 0 o.row) o.ok) (fun z => 0 ≤ z ∧ z < o.secs.l.length) (by kernel_rfl) (fun z _ => (uz b0_0 o z).pre (el ff.left ff.right))).pre (el (cR.f_secs (Ent.all (ar.f_groupsA (.of (an 1 rfl))) hgk)) (.mk2 (.of (an 0 rfl)) (.of (an 1 rfl))))) (fun c2 hc2 => ?_)
  refine aG rfl rfl (fun hc => cm (ab rfl hc)) (aU rfl (cx rfl rfl (fun h => gf rfl h)) (aM rfl ?_))
  refine aG rfl rfl (fun hc => aa (off := 1) (by kernel_rfl) rfl) ?_
  refine aG rfl rfl (fun hc => ae 1 tk90 (ab rfl hc) rfl rfl) ?_
  refine aQ (caps := []) [0] (false) (by kernel_rfl) _ rfl rfl (fun _ => rfl) (fun hc => (aN (ab rfl hc) (aN (ab rfl rfl) rfl))) (fun hc => by rw [List.append_nil]; exact (ur g.secs 150 [] o.ok (by kernel_rfl) (fun x y => wk x y _)).pre (el (cR.f_secs (Ent.all (ar.f_groupsA (.of (an 0 rfl))) hgk)) (.of (an 0 rfl)))) (fun c3 hc3 => ?_)
  refine aG rfl rfl (fun hc => cm (ab rfl hc)) (aU rfl (cx rfl rfl (fun h => gf rfl h)) (aNn ?_))
  refine ah _ rfl (fun h2 => ?_) (fun h2 => ?_)
  ·skip
   refine aSR (aA rfl (aNn (aj (aO (bC (aO (aO (bC (aO ?_)))))))))
   refine bc [] [] rfl Tryz.results70 rfl ?_ (.inr rfl)
   exact ⟨⟨rfl, rfl⟩, _, rfl, fun h => by cases h⟩
  ·skip
   have hgl : g.secs.l.length ≤ o.secs.l.length ∧ ∀ z ∈ g.secs.l, 0 ≤ z ∧ z < o.secs.l.length := by
     simp only [Bool.or_eq_false_iff, Bool.not_eq_false'] at h2
     have hin := hc2 (by rw [h2.1.1.1, h2.1.1.2]; rfl) h2.1.2
     refine ⟨?_, hin⟩
     exact vW (hc3 (by rw [h2.1.1.1, h2.1.1.2, h2.1.2]; rfl) h2.2) hin
   refine au (aw (eL (ShF eD g.secs) (cR.f_secs (Ent.all (ar.f_groupsA (.of (an 2 rfl))) hgk)) (ai (aM rfl ?_))))
   refine aU rfl (aa (off := 1) (by kernel_rfl) rfl) ?_
   refine aU rfl (ae 1 tk90 rfl rfl rfl) ?_
   refine al rfl (mR 0 el90 el90 rfl rfl rfl rfl (an 0 rfl) ((fun r hr => by obtain ⟨z, _, rfl⟩ := List.mem_map.1 hr; rfl)) (by simp; omega) ((zs ++ g.secs.l).length) (by simp; try omega) (fun v7_3 c7_3 => ?_))
   refine aH (by (try simp only [nK, nL]); rfl) ?_
   refine aA rfl (cA (bL (aw (ai ?_))))
   refine aU rfl (bB rfl rfl (by omega)) ?_
   refine aM rfl (aNn ?_)
   refine ⟨[1, 3, 8, 9, 10], [1, 0], [0], rfl, ?_⟩
   refine ⟨(k + 1, (_, zs ++ g.secs.l)), ⟨⟨by dsimp only; omega, by have := hgl.1; dsimp only; rw [List.length_append]; omega, fun g2 hg2 => ?_⟩, by dsimp only; rw [List.map_append]; rfl⟩, by dsimp only; omega⟩
   dsimp only at hg2
   rw [List.take_add_one, hgk, List.mem_append] at hg2
   rcases hg2 with hg2 | hg2
   · exact hG g2 hg2
   · simp at hg2; subst hg2; exact hgl
 ·skip
  refine bg (bj (bj (bz (aw (az ?_)))))
  refine fC 0 rfl (fun ad cp hv => ?_)
  rw [List.length_map] at hv
  dsimp only at hv h1 ⊢
  subst hv
  refine fu 0 (ShF eD ⟨ad, cp, zs⟩) rfl (fun _ _ _ h => et h) ?_
  show awp _ _ _ _ ⟨_, [ShF eD _, _, _], _⟩
  refine ai ?_
  refine aU rfl (aa (off := 0) (by kernel_rfl) rfl) ?_
  refine aU rfl (aa (off := 4) (by kernel_rfl) rfl) ?_
  refine aU rfl (aK (o := 4) tk53 rfl (.of (an 1 rfl)) rfl) ?_
  refine aQ (caps := []) [0] (false) (by kernel_rfl) true rfl rfl (fun _ => rfl) (fun hc => rfl) (fun hc => by rw [List.append_nil]; exact (lJ o.groups 152 [] o.ok (by kernel_rfl) (fun g _ => uH g _)).pre (el (ar.f_groups (.of (an 0 rfl))) (.of (an 0 rfl)))) (fun c4 hc4 => ?_)
  refine aM rfl (aG rfl rfl (fun hc => aq rfl) ?_)
  refine aQ (caps := []) [2, 0] (false) (by kernel_rfl) _ rfl rfl (fun _ => rfl) (fun hc => (aN (ab rfl hc) (aN (ab rfl rfl) rfl))) (fun hc => by rw [List.append_nil]; exact ou ⟨ad, cp, zs⟩ 154 [] o.ok (by kernel_rfl) (fun z _ => uO z _)) (fun c5 hc5 => ?_)
  refine aU rfl (bA rfl rfl (fun h => gt rfl h)) (aA rfl (aNn (aj ?_)))
  refine bc [] [] rfl Tryz.results70 rfl ?_ (.inr rfl)
  refine ⟨⟨rfl, rfl⟩, _, rfl, fun _ => ?_⟩
  rw [List.take_of_length_le (by simp at h1; omega)] at hG; exact hG
end Go.Proofs.YtgmiihmahaahiaaGreatDoor

namespace Go.Sy
open Go.RowKit Go.Lp Go.Sort
section
variable {P : Program} {n : Fr} {env : Env} {ps : List Per} {hp : List Res} {s : Sta} {d : Option Tmp} {ty : TypeId} {pos : String} {af : Array Edge} {gd : Option (Nat × Bool)} {x y : Operand} {K : Sta → Prop}
theorem mV {T E : TypeId} {sz m c B o : Nat} {kk : IntKind} {z : Int} (k : Nat) (hel : elB P T E sz = true) (hx : ev s.env x = some (true, .slice (some ⟨B, o, none⟩) m c))
   (hy : ev s.env y = some (true, .int kk z)) (hz : z = (k : Int)) (hk : k ≤ m) (hm : m ≤ c) :
   Quiet P n ⟨d, .slice T x none (some y) none, ty, pos, af, gd⟩ s (.slice (some ⟨B, o, none⟩) k c) := fun w S fp a hst he hn => by
 have h1 := he.val hx rfl
 subst hz
 have h2 := he.val hy rfl
 obtain ⟨hT, it, hi, _, hsz, _⟩ := dq hel
 have hE : P.elem T = E := by unfold Program.elem; rw [hT]
 have hrun : ∀ w1, (execOp a.eval ⟨d, .slice T x none (some y) none, ty, pos, af, gd⟩).run P w1 = .ok (.value (sliced (some ⟨B, o, none⟩) 0 k c sz)) w1 := fun w1 => by
   unfold execOp; dsimp only; simp only [Option.map_some, Option.map_none]; rw [h1, h2]
   show ((Instr.sliceAt T (.slice (some ⟨B, o, none⟩) m c) none (some (.int kk k)) none).bind fun r => Sem.pure (Next.value r)).run P w1 = _
   have hT' : P.underlying T = some (.slice (P.elem T)) := by rw [hT, hE]
   rw [Sem.run_bind', run_sliceAt_slice w1 T _ _ _ _ hT', run_slice_h w1 T _ m c hT' kk k (by omega) (by omega), hE, cW hi, hsz]
   rfl
 have e : sliced (some ⟨B, o, none⟩) 0 k c sz = .slice (some ⟨B, o, none⟩) k c := by
   unfold sliced
   simp only [Nat.sub_zero]
   congr 1
   split
   · rfl
   · simp [lS]
 rw [hrun, e]; exact ck _ _
theorem iD {T E : TypeId} {sz m c B o : Nat} {kk : IntKind} {z : Int} (k m' o' : Nat) (hel : elB P T E sz = true) (hx : ev s.env x = some (true, .slice (some ⟨B, o, none⟩) m c))
   (hy : ev s.env y = some (true, .int kk z)) (hz : z = (k : Int)) (hk : k < m) (hm : m ≤ c) (hm' : m - k = m') (ho : o + k * sz = o') :
   Quiet P n ⟨d, .slice T x (some y) none none, ty, pos, af, gd⟩ s (.slice (some ⟨B, o', none⟩) m' (c - k)) := fun w S fp a hst he hn => by
 have h1 := he.val hx rfl
 subst hz
 have h2 := he.val hy rfl
 obtain ⟨hT, it, hi, _, hsz, _⟩ := dq hel
 have hE : P.elem T = E := by unfold Program.elem; rw [hT]
 have hrun : ∀ w1, (execOp a.eval ⟨d, .slice T x (some y) none none, ty, pos, af, gd⟩).run P w1 = .ok (.value (sliced (some ⟨B, o, none⟩) k m c sz)) w1 := fun w1 => by
   unfold execOp; dsimp only; simp only [Option.map_some, Option.map_none]; rw [h1, h2]
   show ((Instr.sliceAt T (.slice (some ⟨B, o, none⟩) m c) (some (.int kk k)) none none).bind fun r => Sem.pure (Next.value r)).run P w1 = _
   have hT' : P.underlying T = some (.slice (P.elem T)) := by rw [hT, hE]
   rw [Sem.run_bind', run_sliceAt_slice w1 T _ _ _ _ hT', run_slice_l w1 T _ m c hT' kk k (by omega) (by omega), hE, cW hi, hsz]
   rfl
 have e : sliced (some ⟨B, o, none⟩) k m c sz = .slice (some ⟨B, o', none⟩) m' (c - k) := by
   unfold sliced
   rw [← hm', ← ho, if_neg (by omega)]
   simp [lS]
 rw [hrun, e]; exact ck _ _
end
section
variable {α : Type} [Inhabited α] {enc : α → Value}
variable {P : Program} {n : Fr} {env : Env} {ps : List Per} {hp : List Res} {ty : TypeId} {pos : String} {af : Array Edge} {gd : Option (Nat × Bool)} {K : Sta → Prop}
theorem wP {d : Option Tmp} {x y : Operand} {T T2 E : TypeId} {sz sl sc dc : Nat} {da sa : Option Addr} {s : Sta} (hel : elB P T E sz = true) (hx : ev s.env x = some (true, .slice da 0 dc)) (hy : ev s.env y = some (true, .slice sa sl sc)) :
   Quiet P n ⟨d, .call ⟨.builtin .copy, #[x, y], #[T, T2]⟩, ty, pos, af, gd⟩ s (.int .i64 0) := fun w S fp a hst he hn => by
 have h1 := he.val hx rfl
 have h2 := he.val hy rfl
 obtain ⟨hT, it, hi, _, hsz, _⟩ := dq hel
 have : (execOp a.eval ⟨d, .call ⟨.builtin .copy, #[x, y], #[T, T2]⟩, ty, pos, af, gd⟩).run P w = .ok (.value (.int .i64 0)) w := by
   show ((Builtin.copy_ #[T, T2] ty (#[x, y].map a.eval)).bind fun r => Sem.pure (Next.value r)).run P w = _
   have hargs : #[x, y].map a.eval = #[.slice da 0 dc, .slice sa sl sc] := by simp [h1, h2]
   rw [hargs, Sem.run_bind']
   have : (Builtin.copy_ #[T, T2] ty #[.slice da 0 dc, .slice sa sl sc]).run P w = .ok (goInt 0) w := by
     cases da <;> cases sa <;> simp [Builtin.copy_, run_underlying hT, Builtin.lenOf, Builtin.firstCells, sizeOf, typeInfo, hi, storeCells, loadCells, loadCellsFrom] <;> rfl
   rw [this]; rfl
 rw [this]; exact ck _ _
theorem uL {t : Nat} {x y : Operand} {T T2 E : TypeId} {B N o dl dc cp sl sc : Nat} {sa : Option Addr} {zs cs : List α} (i : Nat) (hel : elB P T E 1 = true) (hone : ∀ x : α, (enc x).oneCell' = true)
   (hx : ev env x = some (true, .slice (some ⟨B, o, none⟩) dl dc)) (hy : ev env y = some (true, .slice sa sl sc)) (ht : fits n (some t) = true)
   (hi : hp[i]? = some (bH (.slice (some ⟨B, 0, none⟩) N cp) E 1 (eQ enc zs))) (hN : zs.length = N) (hlen : cs.length = min sl dl) (hfit : o + cs.length ≤ zs.length)
   (hsrc : ∀ w S fp sp, St w S fp ps hp → w.heap[B]? = some (.cells (zs.map enc ++ sp).toArray E (0, 0)) → ∃ sb : Addr, sa = some sb ∧ ∀ j c, cs[j]? = some c → w.cell? (sb.add j) = some (enc c))
   (zs' : List α) (hz' : zs.take o ++ cs ++ zs.drop (o + cs.length) = zs') (m : Int) (hm : m = cs.length)
   (hK : K ⟨(t, true, .int .i64 m) :: env, ps, hp.set i (bH (.slice (some ⟨B, 0, none⟩) N cp) E 1 (eQ enc zs'))⟩) :
   Eff P n ⟨some t, .call ⟨.builtin .copy, #[x, y], #[T, T2]⟩, ty, pos, af, gd⟩ ⟨env, ps, hp⟩ false K := .change i hi fun w S fp a hst he hn hR => by
 subst hN
 have h1 := he.val hx rfl
 have h2 := he.val hy rfl
 obtain ⟨hT, it, hit, _, hsz, _⟩ := dq hel
 rcases w9 hR with ⟨hv, _⟩ | ⟨b, cap, sp, hv, hb, hcap, hcm, hF, hH⟩
 · simp at hv
 · obtain ⟨rfl, rfl⟩ : B = b ∧ cp = cap := by simpa using hv
   obtain ⟨sb, rfl, hcell⟩ := hsrc w S fp sp hst hb
   have hlz : zs'.length = zs.length := by rw [← hz']; simp; omega
   have hrun : (Builtin.copy_ #[T, T2] ty #[.slice (some ⟨B, o, none⟩) dl dc, .slice (some sb) sl sc]).run P w = .ok (goInt cs.length) (w.setRow B (zs'.map enc ++ sp).toArray) := by
     have := run_copy_row (P := P) w T T2 ty E B o dl dc sb sl sc _ E (cs.map enc) hT (by rw [hit]; exact congrArg some hsz) hb (by simpa using hlen)
       (fun j v hj => by
         rw [List.getElem?_map, Option.map_eq_some_iff] at hj
         obtain ⟨c, hc, rfl⟩ := hj
         exact hcell j c hc)
       (by simp; omega) (fun v hv => by obtain ⟨c, _, rfl⟩ := List.mem_map.1 hv; exact hone c)
     rw [this, List.length_map]
     congr 3
     rw [← hz']
     simp only [List.map_append, List.map_take, List.map_drop]
     rw [List.take_append_of_le_length (by simp; omega), List.drop_append_of_le_length (by simp; omega)]
     simp
   have : (execOp a.eval ⟨some t, .call ⟨.builtin .copy, #[x, y], #[T, T2]⟩, ty, pos, af, gd⟩).run P w = .ok (.value (.int .i64 m)) (w.setRow B (zs'.map enc ++ sp).toArray) := by
     show ((Builtin.copy_ #[T, T2] ty (#[x, y].map a.eval)).bind fun r => Sem.pure (Next.value r)).run P w = _
     have hargs : #[x, y].map a.eval = #[.slice (some ⟨B, o, none⟩) dl dc, .slice (some sb) sl sc] := by simp [h1, h2]
     rw [hargs, Sem.run_bind', hrun, hm]; rfl
   rw [this]
   have hbS : ¬ S B := (hst.lt i (List.getElem?_eq_some_iff.1 hi).1 B ((hF B).2 rfl)).2
   refine ⟨bH _ E 1 (eQ enc zs'), _, hK, rfl, rfl, he.put (g := true) (by rw [hn]; simpa [fits] using ht) _, ?_, rfl, rfl, ⟨rfl, rfl⟩, by simp [World.setRow], fun b' hb' hne => setRow_other _ _ _ _ (fun h => hne ((hF b').2 h))⟩
   refine .inr ⟨B, cp, by rw [jl, hlz], ⟨zs'.map enc, sp, setRow_heap _ _ _ _ _ _ hb, ?_, by rw [Nat.mul_one, ← hcap, List.length_append, List.length_map, hlz], by rw [jl, hlz]; omega, hcm⟩, hF⟩
   refine ⟨by simp [eQ], fun i r hi => ?_, fun u hu => ?_, fun i j r d h1 h2 => ?_⟩
   · simp only [eQ, List.getElem?_map, Option.map_eq_some_iff] at hi
     obtain ⟨x, _, rfl⟩ := hi; rfl
   · obtain ⟨x, _, rfl⟩ := List.mem_map.1 hu; exact hone x
   · simp only [eQ, List.getElem?_map, Option.map_eq_some_iff] at h1
     obtain ⟨x, hx, rfl⟩ := h1
     cases j with
     | zero =>
       simp only [List.getElem?_cons_zero, Option.some.injEq] at h2
       subst h2
       exact ⟨enc x, by simp [hx], .v _⟩
     | succ j => simp at h2
theorem wJ {t : Nat} {x y : Operand} {T T2 E : TypeId} {B N o dl dc cp sl sc : Nat} {sa : Option Addr} {zs xs : List α} (i : Nat) (hel : elB P T E 1 = true) (hone : ∀ x : α, (enc x).oneCell' = true)
   (hx : ev env x = some (true, .slice (some ⟨B, o, none⟩) dl dc)) (hy : ev env y = some (true, .slice sa sl sc)) (ht : fits n (some t) = true)
   (hi : hp[i]? = some (bH (.slice (some ⟨B, 0, none⟩) N cp) E 1 (eQ enc zs))) (hN : zs.length = N) (hs : Sh (.slice sa sl sc) (.sl (eQ enc xs)) ∈ ps) (h0 : xs ≠ []) (hle : xs.length ≤ dl) (hfit : o + xs.length ≤ zs.length)
   (zs' : List α) (hz' : zs.take o ++ xs ++ zs.drop (o + xs.length) = zs') (hsl : sl = xs.length)
   (hK : K ⟨(t, true, .int .i64 xs.length) :: env, ps, hp.set i (bH (.slice (some ⟨B, 0, none⟩) N cp) E 1 (eQ enc zs'))⟩) :
   Eff P n ⟨some t, .call ⟨.builtin .copy, #[x, y], #[T, T2]⟩, ty, pos, af, gd⟩ ⟨env, ps, hp⟩ false K := by
 refine uL (cs := xs) i hel hone hx hy ht hi hN (by rw [hsl]; omega) hfit (fun w S fp sp hst _ => ?_) zs' hz' _ rfl hK
 have hrep := hst.per _ hs
 generalize hrows : eQ enc xs = rows at hrep
 cases hrep with
 | e a c hc => simp [eQ] at hrows; exact (h0 hrows).elim
 | sl b o c sz _ us hb hn' hc hrl hcell hd =>
     subst hrows
     have hg : ∀ (j : Nat) c, xs[j]? = some c → (eQ enc xs)[j]? = some [D.v (enc c)] := fun j c hj => by simp [eQ, hj]
     have hsz : sz = 1 := by
       obtain ⟨c0, hc0⟩ : ∃ c, xs[0]? = some c := ⟨_, List.getElem?_eq_getElem (List.length_pos_iff.2 h0)⟩
       have := hrl 0 _ (hg 0 c0 hc0); simpa using this.symm
     subst hsz
     refine ⟨_, rfl, fun j c hj => ?_⟩
     have h1 := (hcell j 0 _ _ (hg j c hj) rfl).1
     rw [bN (hd j 0 _ _ (hg j c hj) rfl), Nat.mul_one, Nat.add_zero] at h1
     rw [lS]; exact h1
theorem wF {t : Nat} {x y : Operand} {T T2 E : TypeId} {B N o dl dc cp sl sc : Nat} {zs : List α} (i : Nat) (hel : elB P T E 1 = true) (hone : ∀ x : α, (enc x).oneCell' = true)
   (hx : ev env x = some (true, .slice (some ⟨B, o, none⟩) dl dc)) (hy : ev env y = some (true, .slice (some ⟨B, 0, none⟩) sl sc)) (ht : fits n (some t) = true)
   (hi : hp[i]? = some (bH (.slice (some ⟨B, 0, none⟩) N cp) E 1 (eQ enc zs))) (hN : zs.length = N) (k : Nat) (hk : k = min sl dl) (hfit : o + k ≤ zs.length)
   (zs' : List α) (hz' : zs.take o ++ zs.take k ++ zs.drop (o + k) = zs')
   (hK : K ⟨(t, true, .int .i64 k) :: env, ps, hp.set i (bH (.slice (some ⟨B, 0, none⟩) N cp) E 1 (eQ enc zs'))⟩) :
   Eff P n ⟨some t, .call ⟨.builtin .copy, #[x, y], #[T, T2]⟩, ty, pos, af, gd⟩ ⟨env, ps, hp⟩ false K := by
 have hl : (zs.take k).length = k := by rw [List.length_take]; omega
 refine uL (cs := zs.take k) i hel hone hx hy ht hi hN (by rw [hl, hk]) (by rw [hl]; exact hfit) (fun w S fp sp hst hb => ⟨_, rfl, fun j c hj => ?_⟩) zs' (by rw [hl]; exact hz') k (by rw [hl]) hK
 have hj' : j < zs.length := by
   have := (List.getElem?_eq_some_iff.1 hj).1
   rw [hl] at this; omega
 rw [lS, Nat.zero_add, dK hb, List.getElem?_append_left (by simpa using hj'), List.getElem?_map]
 rw [List.getElem?_take] at hj
 split at hj
 · rw [hj]; rfl
 · cases hj
end
end Go.Sy

namespace Go.Sy
open Go.RowKit Go.Lp
theorem py {w : World} {S : bE} {sz : Nat} {cs : List Value} {rows : List (List D)} (h : dD w S sz cs rows) {k : Nat} (hk : k ≤ rows.length) : dD w S sz (cs.take (k * sz)) (rows.take k) where
 len := by
   have := h.len
   have h2 : k * sz ≤ rows.length * sz := Nat.mul_le_mul_right _ hk
   rw [List.length_take, List.length_take, Nat.min_eq_left hk, Nat.min_eq_left (by omega)]
 row i r hr := h.row i r (by
   have hl := (List.getElem?_eq_some_iff.1 hr).1
   rw [List.length_take] at hl
   rw [List.getElem?_take_of_lt (by omega)] at hr; exact hr)
 one v hv := h.one v (List.mem_of_mem_take hv)
 rep i j r d hr hd := by
   have hl := (List.getElem?_eq_some_iff.1 hr).1
   rw [List.length_take] at hl
   rw [List.getElem?_take_of_lt (by omega)] at hr
   obtain ⟨u, hu, hrep⟩ := h.rep i j r d hr hd
   refine ⟨u, ?_, hrep⟩
   have hj := (List.getElem?_eq_some_iff.1 hd).1
   rw [h.row i r hr] at hj
   have h3 : (i + 1) * sz ≤ k * sz := Nat.mul_le_mul_right _ (by omega)
   rw [Nat.add_mul] at h3
   rw [List.getElem?_take_of_lt (by omega)]; exact hu
theorem wa {w : World} {S F : bE} {b : Nat} {T : TypeId} {sz cap : Nat} {rows : List (List D)} {k : Nat} (hk : k ≤ rows.length) (h : (Own b T sz cap rows).holds w S F) : (Own b T sz cap (rows.take k)).holds w S F := by
 obtain ⟨⟨cs, sp, hb, hr, hl, hle, hc⟩, hF⟩ := h
 refine ⟨⟨cs.take (k * sz), cs.drop (k * sz) ++ sp, ?_, py hr hk, ?_, by rw [List.length_take]; omega, hc⟩, hF⟩
 · rw [← List.append_assoc, List.take_append_drop]; exact hb
 · rw [← List.append_assoc, List.take_append_drop]; exact hl
theorem tO {w : World} {S F : bE} {B m cp : Nat} {T : TypeId} {sz : Nat} {rows : List (List D)} {k : Nat} (hk : k ≤ rows.length) (h : (bH (.slice (some ⟨B, 0, none⟩) m cp) T sz rows).holds w S F) : (bH (.slice (some ⟨B, 0, none⟩) k cp) T sz (rows.take k)).holds w S F := by
 rcases h with ⟨h1, _⟩ | ⟨b, cap, h1, ho⟩
 · cases h1
 · simp only [Value.slice.injEq, Option.some.injEq, Addr.mk.injEq] at h1
   obtain ⟨⟨rfl, _⟩, rfl, rfl⟩ := h1
   exact .inr ⟨B, cp, by rw [List.length_take, Nat.min_eq_left hk], wa hk ho⟩
theorem uW {P : Program} {n : Fr} {env : Env} {ps : List Per} {hp : List Res} {c : Code} {Q : Exit → Sta → Prop} (i k : Nat) {B m cp : Nat} {T : TypeId} {sz : Nat} {rows : List (List D)} (hi : hp[i]? = some (bH (.slice (some ⟨B, 0, none⟩) m cp) T sz rows)) (hk : k ≤ rows.length)
   (h : awp P n c Q ⟨env, ps, hp.set i (bH (.slice (some ⟨B, 0, none⟩) k cp) T sz (rows.take k))⟩) : awp P n c Q ⟨env, ps, hp⟩ := eW i _ hi (fun _ _ _ hh => tO hk hh) h
theorem iH {P : Program} {n : Fr} {env : Env} {ps : List Per} {hp : List Res} {c : Code} {Q : Exit → Sta → Prop} (i : Nat) {v : Value} {E : TypeId} {sz : Nat} {rows : List (List D)} (hi : hp[i]? = some (bH v E sz rows)) (h0 : rows ≠ []) (h : ∀ B cp, v = .slice (some ⟨B, 0, none⟩) rows.length cp → rows.length ≤ cp → awp P n c Q ⟨env, ps, hp⟩) : awp P n c Q ⟨env, ps, hp⟩ := fun w S fp a hst he hn hd => by
 rcases hst.res i _ hi with ⟨_, h1, _⟩ | ⟨B, cp, h1, ⟨⟨_, _, _, _, _, hle, _⟩, _⟩⟩
 · exact (h0 h1).elim
 · exact h B cp h1 hle w S fp a hst he hn hd
end Go.Sy

namespace Go.Sy
open Go.RowKit Go.Lp Go.Proofs.YtgmiihmahaahiaaGreatDoor
section
variable {P : Program} {n : Fr} {env : Env} {ps : List Per} {hp : List Res} {d : Option Tmp} {ty : TypeId} {pos : String} {af : Array Edge} {gd : Option (Nat × Bool)} {v : Value}
theorem nb (bs : List UInt8) : ∀ (r : ByteArray), (bs.map fun b => (b.toNat : Int)).foldl (fun r n => r.push (UInt8.ofNat n.toNat)) r = ⟨r.data ++ bs.toArray⟩ := by
 induction bs with
 | nil => intro r; simp
 | cons b bs ih =>
   intro r
   rw [List.map_cons, List.foldl_cons, ih]
   simp [ByteArray.push]
theorem kT {x : Operand} {T E T2 : TypeId} {m c : Nat} {ad : Option Addr} {rows : List (List D)} (i : Nat) (bs : List UInt8) (hT : P.underlying T = some (.slice E)) (hE : P.underlying E = some (.int .u8)) (hD : P.underlying T2 = some .string) (hx : ev env x = some (true, .slice ad m c))
   (hi : hp[i]? = some (bH (.slice ad m c) E 1 rows)) (hr : rows = bs.map fun b => [.v (.int .u8 b.toNat)]) (h0 : bs ≠ []) :
   Quiet P n ⟨d, .convert T T2 x, ty, pos, af, gd⟩ ⟨env, ps, hp⟩ (.string (ofBytes bs)) := fun w S fp a hst he hn => by
 have h1 := he.val hx rfl
 subst hr
 rcases hst.res i _ hi with ⟨_, h, _⟩ | ⟨b, cap, hv, ⟨cs, sp, hb, hrows, hcap, _, _⟩, _⟩
 · simp at h; exact absurd h h0
 · injection hv with hv1 hv2 hv3
   subst hv1; subst hv2; subst hv3
   have hl : cs.length = bs.length := by have := hrows.len; simpa using this
   have hcs : cs = bs.map fun b => (.int .u8 b.toNat : Value) := by
     apply List.ext_getElem?
     intro k
     cases hk : bs[k]? with
     | none => rw [List.getElem?_eq_none (by have := List.getElem?_eq_none_iff.1 hk; omega)]; simp [hk]
     | some u =>
       obtain ⟨y, hy, hrep⟩ := hrows.rep k 0 [.v (.int .u8 u.toNat)] (.v (.int .u8 u.toNat)) (by simp [hk]) rfl
       rw [Nat.mul_one, Nat.add_zero] at hy
       rw [hy, bN hrep]; simp [hk]
   have hload : (loadCells ⟨b, 0, none⟩ bs.length).run P w = .ok ((bs.map fun b => (b.toNat : Int)).map (Value.int .u8)).toArray w := by
     rw [run_loadCells w ⟨b, 0, none⟩ bs.length (fun k => cs.getD k undef) (fun k hk => by
       have : (Addr.mk b 0 none).add k = ⟨b, k, none⟩ := by
         unfold Addr.add; split
         · rename_i h; rw [h]
         · simp
       rw [this, dK hb, List.getElem?_append_left (by omega)]
       simp [List.getD, show k < cs.length by omega])]
     congr 2
     rw [hcs, List.map_map]
     apply List.ext_getElem
     · simp
     · intro k h1 h2
       simp at h1 h2 ⊢
       simp [List.getD, h2]
   have : (convert T T2 (.slice (some ⟨b, 0, none⟩) (bs.map fun b => [D.v (.int .u8 b.toNat)]).length c)).run P w = .ok (.string (ofBytes bs)) w := by
     rw [List.length_map, run_convert_bytes_string w T T2 E _ _ _ hT hE hD, run_bytesToString w ⟨b, 0, none⟩ bs.length c (bs.map fun b => (b.toNat : Int)) hload]
     congr 2
     rw [nb]; simp [ofBytes]
   have hx2 : (execOp a.eval ⟨d, .convert T T2 x, ty, pos, af, gd⟩).run P w = .ok (.value (.string (ofBytes bs))) w := by
     unfold execOp; dsimp only; rw [h1]
     show ((convert T T2 _).bind fun r => Sem.pure (Next.value r)).run P w = _
     rw [Sem.run_bind', this]; rfl
   rw [hx2]; exact ck _ _
theorem dD.bytes {w : World} {S : bE} {cs : List Value} {l : List UInt8} (h : dD w S 1 cs (l.map fg)) : cs = Lib.byteCells l := by
 have hl : cs.length = l.length := by have := h.len; simpa using this
 apply List.ext_getElem?
 intro k
 unfold Lib.byteCells
 cases hk : l[k]? with
 | none => rw [List.getElem?_eq_none (by have := List.getElem?_eq_none_iff.1 hk; omega)]; simp [hk]
 | some u =>
   obtain ⟨y, hy, hrep⟩ := h.rep k 0 [.v (.int .u8 u.toNat)] (.v (.int .u8 u.toNat)) (by simp [hk]) rfl
   rw [Nat.mul_one, Nat.add_zero] at hy
   rw [hy, bN hrep]; simp [hk]
theorem nY (w : World) (S : bE) (l : List UInt8) : dD w S 1 (Lib.byteCells l) (l.map fg) where
 len := by simp [Lib.byteCells]
 row i r hr := by
   rw [List.getElem?_map, Option.map_eq_some_iff] at hr
   obtain ⟨u, _, rfl⟩ := hr; rfl
 one := Lib.byteCells_one l
 rep i j r d hr hd := by
   rw [List.getElem?_map, Option.map_eq_some_iff] at hr
   obtain ⟨u, hu, rfl⟩ := hr
   cases j with
   | zero =>
     simp only [List.getElem?_cons_zero, Option.some.injEq] at hd
     subst hd
     exact ⟨.int .u8 u.toNat, by simp [Lib.byteCells, hu], .v _⟩
   | succ j => simp at hd
theorem tL {t : Nat} {x y : Operand} {T T2 E : TypeId} {B N cp : Nat} {l : List UInt8} {s : ByteArray} {K : Sta → Prop} (i : Nat) (hel : elB P T E 1 = true) (hx : ev env x = some (true, .slice (some ⟨B, 0, none⟩) N cp)) (hy : ev env y = some (true, .string s)) (ht : fits n.size (some t) = true)
   (hi : hp[i]? = some (bH (.slice (some ⟨B, 0, none⟩) N cp) E 1 (l.map fg))) (hN : l.length = N) (hs : s.size ≤ N) (hK : ∀ l' : List UInt8, l'.length = N → K ⟨(t, true, .int .i64 s.size) :: env, ps, hp.set i (bH (.slice (some ⟨B, 0, none⟩) N cp) E 1 (l'.map fg))⟩) :
   Eff P n ⟨some t, .call ⟨.builtin .copy, #[x, y], #[T, T2]⟩, ty, pos, af, gd⟩ ⟨env, ps, hp⟩ false K := .change i hi fun w S fp a hst he hn hR => by
 have h1 := he.val hx rfl
 have h2 := he.val hy rfl
 obtain ⟨hT, it, hit, _, hsz, _⟩ := dq hel
 rcases hR with ⟨h, _⟩ | ⟨b, cap, hv, ⟨cs, sp, hb, hrows, hcap, hrc, hcm⟩, hF⟩
 · cases h
 · simp only [Value.slice.injEq, Option.some.injEq, Addr.mk.injEq] at hv
   obtain ⟨⟨rfl, _⟩, hNN, rfl⟩ := hv
   have hcs := hrows.bytes
   subst hcs
   have hlb : (Lib.byteCells l).length = l.length := by simp [Lib.byteCells]
   have hss : s.data.toList.length = s.size := by simp
   have hr := Lib.run_copy_row_string (P := P) w T T2 ty E B 0 N cp s (Lib.byteCells l ++ sp).toArray E hT (by rw [hit]; simp [hsz]) hb hs (by simp [hlb]; omega)
   have hexec : execOp a.eval ⟨some t, .call ⟨.builtin .copy, #[x, y], #[T, T2]⟩, ty, pos, af, gd⟩ = (Builtin.copy_ #[T, T2] ty (#[x, y].map a.eval)).bind fun r => Sem.pure (Next.value r) := rfl
   rw [hexec, show #[x, y].map a.eval = #[a.eval x, a.eval y] by simp, h1, h2, Sem.run_bind', hr]
   have hl' : (s.data.toList ++ l.drop s.size).length = N := by rw [List.length_append, List.length_drop, hss]; omega
   refine ⟨_, _, hK (s.data.toList ++ l.drop s.size) hl', rfl, rfl, ?_, ?_, rfl, rfl, ⟨rfl, rfl⟩, by simp [World.setRow], fun b' hb' hne => setRow_other _ _ _ _ (fun h => hne ((hF b').2 h))⟩
   · exact he.put (g := true) (by rw [hn]; simpa [fits] using ht) _
   · refine .inr ⟨B, cp, by rw [List.length_map, hl'], ⟨Lib.byteCells (s.data.toList ++ l.drop s.size), sp, ?_, nY _ _ _, ?_, ?_, hcm⟩, hF⟩
     · rw [setRow_heap _ _ _ _ _ _ hb]
       congr 3
       simp only [List.take_zero, List.nil_append, Nat.zero_add]
       rw [Lib.byteCells_append, List.append_assoc]
       congr 1
       show (Lib.byteCells l ++ sp).drop s.size = _
       rw [List.drop_append_of_le_length (by rw [hlb]; omega)]
       congr 1
       simp [Lib.byteCells, List.map_drop]
     · rw [List.length_append]
       have : (Lib.byteCells (s.data.toList ++ l.drop s.size)).length = N := by simp [Lib.byteCells]; omega
       rw [this]
       rw [List.length_append, hlb] at hcap; omega
     · rw [List.length_map, hl']; rw [List.length_map] at hrc; omega
theorem qx {T E : TypeId} {x y : Operand} {m sz k : Nat} {z : Int} {kk : IntKind} {b : Nat} (hT : P.underlying T = some (.array m E)) (hE : ((P.info? E).map fun j => j.size) = some sz) (hx : ev env x = some (true, .pointer (some ⟨b, 0, none⟩))) (hy : ev env y = some (true, .int kk z)) (hz : z = (k : Int)) (hk : 0 < k) (hkm : k ≤ m) :
   Quiet P n ⟨d, .slice T x none (some y) none, ty, pos, af, gd⟩ ⟨env, ps, hp⟩ (.slice (some ⟨b, 0, none⟩) k m) := fun w S fp a hst he hn => by
 have h1 := he.val hx rfl
 subst hz
 have h2 := he.val hy rfl
 obtain ⟨j, hj, hjs⟩ := Option.map_eq_some_iff.1 hE
 have : (execOp a.eval ⟨d, .slice T x none (some y) none, ty, pos, af, gd⟩).run P w = .ok (.value (.slice (some ⟨b, 0, none⟩) k m)) w := by
   unfold execOp; dsimp only; simp only [Option.map_some, Option.map_none]; rw [h1, h2]
   show ((Instr.sliceAt T (.pointer (some ⟨b, 0, none⟩)) none (some (.int kk k)) none).bind fun r => Sem.pure (Next.value r)).run P w = _
   have hm0 : ¬ m = 0 := by omega
   have : (Instr.sliceAt T (.pointer (some ⟨b, 0, none⟩)) none (some (.int kk k)) none).run P w = .ok (.slice (some ⟨b, 0, none⟩) k m) w := by
     unfold Instr.sliceAt
     simp [run_underlying hT, Instr.sureAddr, asAddr, Instr.sliceBounds, Instr.sliceBound, sizeOf, typeInfo, hj, Addr.add, hm0, asIntOf, hkm]
   rw [Sem.run_bind', this]; rfl
 rw [this]; exact ck _ _
end
end Go.Sy
namespace Go.Proofs.YtgmiihmahaahiaaGreatDoor
open Go.RowKit Go.Lp Go.Sy
open Go.Proofs.Tryz
attribute [local irreducible] aL aB awp aC fwp
theorem wq8 {i : Nat} (h : i ≤ 1000) : IntKind.i64.wrap ((i : Int).tdiv 8) = ((i / 8 : Nat) : Int) := by
 rw [show ((i : Int)).tdiv 8 = ((i / 8 : Nat) : Int) from rfl, IntKind.wrap_i64]; omega
theorem lG (b : Nat) (z0 : List Int) (h0 : z0.length = 25) (s : ByteArray) (hs : s.size ≤ 200) : Con Tryz.prog 248 [.pointer (some ⟨b, 0, none⟩), .string s] [dh, di] [Box b 312 (dZ z0)] fun _ ps hp => ps = [] ∧ ∃ zs : List Int, zs.length = 25 ∧ hp = [Box b 312 (dZ zs)] := by
 refine Con.enter Tryz.func248 rfl (by simp [Tryz.ntmps248]) ?_
 show awp _ _ _ _ ⟨[(0, true, _), (1, true, _)], _, _⟩
 refine az (aSR (aM rfl (aU rfl (dX Tryz.underlying9 rfl) (aM rfl (aNn ?_)))))
 refine ax (aZ [0, 1, 5, 6, 7] [1, 0] [0] (fun (q : Nat × List Int) st => (q.1 ≤ s.size ∧ q.2.length = 25) ∧ st = ⟨[(0, true, .pointer (some ⟨b, 0, none⟩)), (1, true, .string s), (5, true, .string s), (6, true, .int .i64 s.size), (7, true, .int .i64 q.1)], [dh, di], [Box b 312 (dZ q.2)]⟩) (fun q => s.size - q.1) rfl (⟨(0, z0), ⟨Nat.zero_le _, h0⟩, rfl⟩) ?_)
 rintro ⟨i, zs⟩ st ⟨⟨hi, hz⟩, rfl⟩
 dsimp only at hi hz
 refine aSR (aU rfl (bJ rfl rfl) (aNs ?_))
 refine ah _ rfl (fun h1 => ?_) (fun h1 => ?_)
 ·skip
  have hi' : i < s.size := by simp at h1; omega
  obtain ⟨u, hu⟩ : ∃ u, s.data.toList[i]? = some u := ⟨_, List.getElem?_eq_getElem (by show i < s.data.toList.length; simp; show i < s.size; omega)⟩
  have hi8 : i / 8 < 25 := by omega
  refine au (aw (az (ax (aSR (aM rfl (aA rfl (aNn ?_)))))))
  refine bn [17] (by kernel_rfl) ?_
  show aB _ _ _ _ _ 18 #[false, false, false, false, false, false, false, false, false, false, false, false, false, false, false, false, false, false] _
  refine bU 0 rfl (by kernel_rfl) rfl (aq rfl) ?_
  refine bU 1 rfl (by kernel_rfl) rfl (aq rfl) ?_
  refine bU 2 rfl (by kernel_rfl) rfl (um rfl rfl (by decide)) ?_
  refine bU 3 rfl (by kernel_rfl) rfl (br rfl) ?_
  refine bU 4 rfl (by kernel_rfl) rfl (dr (i / 8) Tryz.underlying312 tk275 rfl rfl (wq8 (by omega)) (hi8)) ?_
  refine bU 5 rfl (by kernel_rfl) rfl (ae (v := .int .u64 (zs.getD (i / 8) 0)) 0 tk275 rfl rfl (gm (zs := zs) (k := i / 8) (by omega) (by omega))) ?_
  refine bU 6 rfl (by kernel_rfl) rfl (aq rfl) ?_
  refine bU 7 rfl (by kernel_rfl) rfl (aq rfl) ?_
  refine bU 8 rfl (by kernel_rfl) rfl (ef (i) Tryz.underlying9 rfl rfl (rfl) (hu)) ?_
  refine bU 9 rfl (by kernel_rfl) rfl (dC (by kernel_rfl) Tryz.underlying275 rfl) ?_
  refine bU 10 rfl (by kernel_rfl) rfl (aq rfl) ?_
  refine bU 11 rfl (by kernel_rfl) rfl (eJ rfl rfl (by decide)) ?_
  refine bU 12 rfl (by kernel_rfl) rfl (iS rfl rfl (by show -9223372036854775808 ≤ 8 * ((i % 8 : Nat) : Int) ∧ 8 * ((i % 8 : Nat) : Int) ≤ 9223372036854775807; omega)) ?_
  refine bU 13 rfl (by kernel_rfl) rfl (rJ rfl rfl (by show (0 : Int) ≤ 8 * ((i % 8 : Nat) : Int); omega)) ?_
  refine bU 14 rfl (by kernel_rfl) rfl (nr rfl rfl) ?_
  refine bU 15 rfl (by kernel_rfl) rfl (br rfl) ?_
  refine bU 16 rfl (by kernel_rfl) rfl (dr (i / 8) Tryz.underlying312 tk275 rfl rfl (wq8 (by omega)) (hi8)) ?_
  refine bV 17 rfl (by kernel_rfl) rfl rfl (il 0 ([_]) (dZ (zs.set (i / 8) _)) tk275 rfl rfl rfl rfl rfl (fun v hv => by rw [List.mem_singleton.1 hv]; rfl) (by simp [hz]; omega) (jd (zs := zs) (k := i / 8) (by omega) (by omega)) ?_)
  refine cq rfl (by (try simp only [nM, nN]); rfl) (by (try simp only [aV, place, Nat.reduceBEq, if_true, if_false, reduceIte, Nat.reduceAdd, nW]); rfl) ?_
  refine bS (by kernel_rfl) ?_
  refine bL (aw (ai ?_))
  refine aU rfl (bB rfl rfl (by omega)) ?_
  refine aM rfl (aNn ?_)
  refine ⟨[0, 1, 5, 6, 7], [1, 0], [0], rfl, ?_⟩
  exact ⟨(i + 1, _), ⟨⟨by dsimp only; omega, by dsimp only; rw [List.length_set]; exact hz⟩, rfl⟩, by dsimp only; omega⟩
 ·skip
  refine bg (bj (bj (bz (aw (ai (aM rfl ?_))))))
  refine al (q := false) rfl (bF [1, 0] [0] (by kernel_rfl) rfl rfl rfl rfl (pN b zs hz) ?_)
  rintro _ _ _ ⟨rfl, ys, hy, rfl⟩
  refine cB (by (try simp only [nM, nN]); rfl) (by (try simp only [aV, place, Nat.reduceBEq, if_true, if_false, reduceIte, Nat.reduceAdd, nW]); rfl) ?_
  refine cA ?_
  refine gZ [] [0] rfl Tryz.results248 ?_ (.inl rfl)
  exact ⟨rfl, ys, hy, rfl⟩
end Go.Proofs.YtgmiihmahaahiaaGreatDoor

namespace Go.Sy
open Go.RowKit Go.Lp
theorem xk {P : Program} {n : Fr} {env : Env} {ps : List Per} {hp : List Res} {d : Option Tmp} {ty : TypeId} {pos : String} {af : Array Edge} {gd : Option (Nat × Bool)} {x y : Operand} {T E : TypeId} {sz : Nat} {B m cp : Nat} (k : Nat) (hel : elB P T E sz = true) (hx : ev env x = some (true, .slice (some ⟨B, 0, none⟩) m cp)) {z : Int} (hy : ev env y = some (true, .int .i64 z)) (hz : z = (k : Int)) (hk : k < m) :
   Quiet P n ⟨d, .indexAddr T x y, ty, pos, af, gd⟩ ⟨env, ps, hp⟩ (.pointer (some ⟨B, k * sz, none⟩)) := fun w S fp a hst he hn => by
 subst hz
 obtain ⟨hT, it, hit, _, hsz, _⟩ := dq hel
 have h1 := he.val hx rfl
 have h2 := he.val hy rfl
 have : (execOp a.eval ⟨d, .indexAddr T x y, ty, pos, af, gd⟩).run P w = .ok (.value (.pointer (some ⟨B, k * sz, none⟩))) w := by
   unfold execOp; dsimp only; rw [h1, h2]
   show ((Instr.indexAt T (.slice (some ⟨B, 0, none⟩) m cp) (.int .i64 k)).bind fun r => Sem.pure (Next.value r)).run P w = _
   have hE : P.elem T = E := by unfold Program.elem; rw [hT]
   rw [Sem.run_bind', run_indexAt_slice _ _ _ _ _ _ _ (by rw [hE]; exact hT), if_pos (by omega), hE, cW hit, hsz]
   simp only [Result.andThen, Int.toNat_natCast]
   unfold Addr.add
   split
   · rename_i h0; rw [h0]; rfl
   · simp only [Nat.zero_add]; rfl
 rw [this]; exact ck _ _
section
variable {P : Program} {n : Fr} {s : Sta} {d : Option Tmp} {ty : TypeId} {pos : String} {af : Array Edge} {gd : Option (Nat × Bool)}
theorem wN {x y : Operand} {T : TypeId} {kk : IntKind} {z : Int} {b : ByteArray} (hT : P.underlying T = some .string) (hx : ev s.env x = some (true, .string b)) (hy : ev s.env y = some (true, .int kk z)) (h0 : 0 ≤ z) (h1 : z ≤ b.size) :
   Quiet P n ⟨d, .slice T x (some y) none none, ty, pos, af, gd⟩ s (.string (b.extract z.toNat b.size)) := .run2 hx hy fun ρ w e1 e2 => by
 unfold execOp; dsimp only; simp only [Option.map_some, Option.map_none]; rw [e1, e2]
 show ((Instr.sliceAt T (.string b) (some (.int kk z)) none none).bind fun r => Sem.pure (Next.value r)).run P w = _
 have : (Instr.sliceAt T (.string b) (some (.int kk z)) none none).run P w = .ok (.string (b.extract z.toNat b.size)) w := by
   rw [run_sliceAt_string w T _ _ _ _ hT]
   exact run_slice_string_l w T b hT kk z h0 h1
 rw [Sem.run_bind', this]; rfl
end
end Go.Sy
namespace Go.Proofs.YtgmiihmahaahiaaGreatDoor
open Go.RowKit Go.Lp Go.Sy
open Go.Proofs.Tryz
attribute [local irreducible] aL aB awp aC fwp
theorem kL (z : Int) : ∃ u : UInt8, IntKind.u8.wrap z = u.toNat := by
 have h : 0 ≤ IntKind.u8.wrap z ∧ IntKind.u8.wrap z < 256 := by
   have : IntKind.u8.wrap z = z % 256 := rfl
   rw [this]; omega
 obtain ⟨k, hk⟩ := Int.eq_ofNat_of_zero_le h.1
 refine ⟨UInt8.ofNat k, ?_⟩
 have h2 : (UInt8.ofNat k).toNat = k % 256 := by simp
 rw [hk, h2]
 omega
theorem pO (b : Nat) (p : Value) (hp : p = .pointer none ∨ p = .pointer (some ⟨b, 0, none⟩)) (v : Value) (l : List UInt8) (hl : l.length ≤ 1000000) (z : Int) : Con Tryz.prog 249 [.pointer (some ⟨b, 0, none⟩), .int .u8 (IntKind.u8.wrap z)] [] [jE b p v, bH v 5 1 (l.map fg)]
   fun _ ps hp => ps = [] ∧ ∃ (ad : Option Addr) (c : Nat) (u : UInt8), hp = [jE b (.pointer (some ⟨b, 0, none⟩)) (.slice ad (l ++ [u]).length c), bH (.slice ad (l ++ [u]).length c) 5 1 ((l ++ [u]).map fg)] := by
 obtain ⟨u, hu⟩ := kL z
 rw [hu]
 exact (re b p hp v l hl u).post fun _ _ _ ⟨h1, ad, c, h2⟩ => ⟨h1, ad, c, u, h2⟩
theorem wZ (s : ByteArray) (hs : s.size ≤ maxLen) : Con Tryz.prog 188 [.string s] [dh, di] [] fun r ps hp => ps = [] ∧ hp = [] ∧ ∃ t : ByteArray, r = .string t := by
 have hs' : s.size ≤ 9223372036854775807 := hs
 refine Con.enter Tryz.func188 rfl (by simp [Tryz.ntmps188]) ?_
 show awp _ _ _ _ ⟨[(0, true, _)], _, _⟩
 refine aSR (aA rfl (aNn (aSR ?_)))
 refine al (q := true) rfl (bp (zs := [.int .u64 0, .int .u64 0, .int .u64 0, .int .u64 0, .int .u64 0, .int .u64 0, .int .u64 0, .int .u64 0, .int .u64 0, .int .u64 0, .int .u64 0, .int .u64 0, .int .u64 0, .int .u64 0, .int .u64 0, .int .u64 0, .int .u64 0, .int .u64 0, .int .u64 0, .int .u64 0, .int .u64 0, .int .u64 0, .int .u64 0, .int .u64 0, .int .u64 0]) (by kernel_rfl) rfl (fun b1_0 => ?_))
 refine aH (by (try simp only [nM, nN]); rfl) ?_
 refine aNs (ax (aZ [0, 3] [1, 0] [0] (fun (q : ByteArray × List Int) st => (q.1.size ≤ s.size ∧ q.2.length = 25) ∧ st = ⟨[(0, true, .string q.1), (3, true, .pointer (some ⟨b1_0, 0, none⟩))], [dh, di], [Box b1_0 312 (dZ q.2)]⟩) (fun q => q.1.size) rfl (⟨(s, List.replicate 25 0), ⟨Nat.le_refl _, rfl⟩, rfl⟩) ?_))
 rintro ⟨x, zs⟩ st ⟨⟨hx, hz⟩, rfl⟩
 dsimp only at hx hz ⊢
 refine az (aSR (aM rfl (aU rfl (dX Tryz.underlying9 rfl) (aU rfl (cQ rfl rfl) (aNn ?_)))))
 refine ah _ rfl (fun h1 => ?_) (fun h1 => ?_)
 ·skip
  have h136 : 136 ≤ x.size := by simp at h1; omega
  refine au (aw (az (ax (ai (aM rfl ?_)))))
  refine aU rfl (wQ Tryz.underlying9 rfl rfl (by omega) (by omega)) ?_
  refine al (q := false) rfl (bF [1, 0] [0] (by kernel_rfl) rfl rfl rfl rfl (lG b1_0 zs hz _ (by simp; omega)) ?_)
  rintro _ _ _ ⟨rfl, ys, hy, rfl⟩
  refine cB (by (try simp only [nM, nN]); rfl) (by (try simp only [aV, place, Nat.reduceBEq, if_true, if_false, reduceIte, Nat.reduceAdd, nW]); rfl) ?_
  refine cA (bL (aw (ai (aM rfl ?_))))
  refine aU rfl (wN Tryz.underlying9 rfl rfl (by omega) (by omega)) ?_
  refine aA rfl (aNn ?_)
  refine ⟨[0, 3], [1, 0], [0], rfl, ?_⟩
  have hxs : (x.extract (136 : Int).toNat x.size).size = x.size - 136 := by rw [ByteArray.size_extract]; show min x.size x.size - 136 = _; omega
  exact ⟨(x.extract (136 : Int).toNat x.size, ys), ⟨⟨(show (x.extract (136 : Int).toNat x.size).size ≤ s.size by rw [hxs]; omega), hy⟩, rfl⟩, (show (x.extract (136 : Int).toNat x.size).size < x.size by rw [hxs]; omega)⟩
 ·skip
  have h136 : x.size < 136 := by simp at h1; omega
  refine bg (bj (bj (bz (aw (aSR ?_)))))
  refine al (q := true) rfl (oP (m := 136) (zs := [.int .u8 0]) el280 (by kernel_rfl) rfl (by decide) (iv rfl (rfl)) (iv rfl (rfl)) (by omega) rfl (fun v5_0 => ?_))
  refine aH (by (try simp only [nM, nN]); rfl) ?_
  refine aA rfl (aNs ?_)
  refine eW 1 (bH _ _ 1 ((List.replicate 136 (0 : UInt8)).map fg)) rfl (fun _ _ _ h => by rw [List.map_replicate]; exact h) ?_
  refine iH 1 rfl (by simp) (fun B cp hv hcp => ?_)
  obtain ⟨rfl, _, rfl⟩ : v5_0 = some ⟨B, 0, none⟩ ∧ True ∧ 136 = cp := by simp at hv; exact ⟨hv.1, trivial, hv.2⟩
  refine ai (aM rfl (aM rfl ?_))
  refine al (q := false) rfl (tL 1 el280 rfl rfl rfl rfl (by simp) (by omega) (fun l hl => ?_))
  refine aNs ?_
  obtain ⟨u0, hu0⟩ : ∃ u, l[x.size]? = some u := ⟨_, List.getElem?_eq_getElem (by omega)⟩
  refine ai (aM rfl (aM rfl (aU rfl (dX Tryz.underlying9 rfl) ?_)))
  refine aU rfl (dU 1 x.size el280 rfl rfl rfl rfl (by rw [List.length_map, hl]; exact h136)) ?_
  refine al (q := false) rfl (gH 1 x.size 0 tk5 rfl rfl rfl (aS hu0) rfl (.v rfl .nil) rfl (by decide) ?_)
  refine aNs ?_
  refine eW 1 (bH _ _ 1 ((l.set x.size 6).map fg)) rfl (fun _ _ _ h => by rw [List.map_set]; exact h) ?_
  obtain ⟨l2, hl2⟩ : ∃ l2, l.set x.size 6 = l2 := ⟨_, rfl⟩
  have hl2n : l2.length = 136 := by rw [← hl2, List.length_set]; exact hl
  rw [hl2]
  obtain ⟨u1, hu1⟩ : ∃ u, l2[135]? = some u := ⟨_, List.getElem?_eq_getElem (by omega)⟩
  refine ai (aM rfl ?_)
  refine aU rfl (dU 1 135 el280 rfl rfl rfl rfl (by rw [List.length_map, hl2n]; decide)) ?_
  refine aU rfl (ej 1 135 0 tk5 rfl rfl (aS hu1) rfl rfl) (aU rfl (rW rfl rfl) ?_)
  refine aU rfl (dU 1 135 el280 rfl rfl rfl rfl (by rw [List.length_map, hl2n]; decide)) ?_
  refine al (q := false) rfl (gH 1 135 0 tk5 rfl rfl rfl (aS hu1) rfl (.v rfl .nil) rfl (by decide) ?_)
  refine aNs ?_
  obtain ⟨u2, hu2⟩ := kL (BitVec.ofInt 8 (u1.toNat : Int) ||| BitVec.ofInt 8 128).toNat
  refine eW 1 (bH _ _ 1 ((l2.set 135 u2).map fg)) rfl (fun _ _ _ h => by rw [List.map_set]; show (bH _ _ 1 ((l2.map fg).set 135 [.v (.int .u8 u2.toNat)])).holds _ _ _; rw [← hu2]; exact h) ?_
  obtain ⟨l3, hl3⟩ : ∃ l3, l2.set 135 u2 = l3 := ⟨_, rfl⟩
  have hl3n : l3.length = 136 := by rw [← hl3, List.length_set]; exact hl2n
  rw [hl3]
  refine ai (aM rfl ?_)
  refine aU rfl (kT 1 l3 Tryz.underlying280 Tryz.underlying5 Tryz.underlying9 rfl rfl rfl (by intro h; rw [h] at hl3n; cases hl3n)) ?_
  refine al (q := false) rfl (bF [1, 0] [0] (by kernel_rfl) rfl rfl rfl rfl (lG b1_0 zs hz (ofBytes l3) (by show l3.toArray.size ≤ 200; simp [hl3n])) ?_)
  rintro _ _ _ ⟨rfl, ys, hy, rfl⟩
  refine cB (by (try simp only [nM, nN]); rfl) (by (try simp only [aV, place, Nat.reduceBEq, if_true, if_false, reduceIte, Nat.reduceAdd, nW]); rfl) ?_
  refine aNn (aSR ?_)
  refine al (q := true) rfl (bp (zs := [.pointer none, .slice none 0 0]) (by kernel_rfl) rfl (fun b10_0 => ?_))
  refine aH (by (try simp only [nM, nN]); rfl) ?_
  refine aNs (az (eZ 5 1 ?_))
  show awp _ _ _ _ ⟨_, _, [_, _, _, _]⟩
  refine ai ?_
  refine aU rfl (qx (m := 25) (sz := 1) Tryz.underlying312 (by kernel_rfl) rfl rfl rfl (by decide) (by decide)) ?_
  refine aU rfl (bq Tryz.underlying316 rfl) (aM rfl (aNn (ax (aZ [3, 5, 33, 34, 35] [1, 0] [0, 2, 3] (fun (q : Nat × (Value × (Value × List UInt8))) st => (q.1 ≤ 4 ∧ (q.2.1 = .pointer none ∨ q.2.1 = .pointer (some ⟨b10_0, 0, none⟩)) ∧ q.2.2.2.length = 8 * q.1) ∧ st = ⟨[(3, true, .pointer (some ⟨b1_0, 0, none⟩)), (5, true, .pointer (some ⟨b10_0, 0, none⟩)), (33, true, .slice (some ⟨b1_0, 0, none⟩) 4 25), (34, true, .int .i64 (4 : Nat)), (35, true, .int .i64 q.1)], [dh, di], [Box b1_0 312 (dZ ys), jE b10_0 q.2.1 q.2.2.1, bH q.2.2.1 5 1 (q.2.2.2.map fg)]⟩) (fun q => 4 - q.1) rfl (⟨(0, (.pointer none, (.slice none 0 0, []))), ⟨Nat.zero_le _, .inl rfl, rfl⟩, rfl⟩) ?_))))
  rintro ⟨i, p, v, l4⟩ st ⟨⟨hi, hp, hl4⟩, rfl⟩
  dsimp only at hi hp hl4 ⊢
  refine aSR (aU rfl (bJ rfl rfl) (aNs ?_))
  refine ah _ rfl (fun h2 => ?_) (fun h2 => ?_)
  ·skip
   have hi' : i < 4 := by simp at h2; omega
   refine au (aw (az (ax (aSR (aU rfl (xk i el316 rfl rfl rfl hi') ?_)))))
   refine aU rfl (ae (v := .int .u64 (ys.getD i 0)) 0 tk275 rfl rfl (gm (zs := ys) (k := i) (by omega) (by omega))) ?_
   refine aA rfl (aNn (aSR (aM rfl (aNn ?_))))
   refine ax (aZ [3, 5, 7, 33, 34, 35, 39] [1, 0] [0, 1, 2] (fun (q : Nat × (Value × (Value × List UInt8))) st => (q.1 ≤ 8 ∧ (q.2.1 = .pointer none ∨ q.2.1 = .pointer (some ⟨b10_0, 0, none⟩)) ∧ q.2.2.2.length = 8 * i + q.1) ∧ st = ⟨[(3, true, .pointer (some ⟨b1_0, 0, none⟩)), (5, true, .pointer (some ⟨b10_0, 0, none⟩)), (7, true, .int .u64 (ys.getD i 0)), (33, true, .slice (some ⟨b1_0, 0, none⟩) 4 25), (34, true, .int .i64 (4 : Nat)), (35, true, .int .i64 i), (39, true, .int .i64 q.1)], [dh, di], [Box b1_0 312 (dZ ys), jE b10_0 q.2.1 q.2.2.1, bH q.2.2.1 5 1 (q.2.2.2.map fg)]⟩) (fun q => 8 - q.1) rfl (⟨(0, (p, (v, l4))), ⟨Nat.zero_le _, hp, hl4⟩, rfl⟩) ?_)
   rintro ⟨j, p2, v2, l5⟩ st ⟨⟨hj, hp2, hl5⟩, rfl⟩
   dsimp only at hj hp2 hl5 ⊢
   refine aSR (aU rfl (bJ rfl rfl) (aNs ?_))
   refine ah _ rfl (fun h3 => ?_) (fun h3 => ?_)
   ·skip
    have hj' : j < 8 := by simp at h3; omega
    refine au (aw (az (ax (aSR (aM rfl (aA rfl (aNn (ai (aM rfl (aM rfl ?_))))))))))
    refine aU rfl (iS rfl rfl (by omega)) ?_
    refine aU rfl (mK rfl rfl (by omega)) ?_
    refine aU rfl (dC (by kernel_rfl) Tryz.underlying5 rfl) ?_
    refine al (q := false) rfl (bF [] [1, 2] (by kernel_rfl) rfl rfl rfl rfl (pO b10_0 p2 hp2 v2 l5 (by omega) _) ?_)
    rintro _ _ _ ⟨rfl, ad, cc, u, rfl⟩
    refine cB (by (try simp only [nM, nN]); rfl) (by (try simp only [aV, place, Nat.reduceBEq, if_true, if_false, reduceIte, Nat.reduceAdd, nW]); rfl) ?_
    refine cA (bL (aw (ai ?_)))
    refine aU rfl (bB rfl rfl (by omega)) ?_
    refine aM rfl (aNn ?_)
    refine ⟨[3, 5, 7, 33, 34, 35, 39], [1, 0], [0, 1, 2], rfl, ?_⟩
    exact ⟨(j + 1, (_, (_, l5 ++ [u]))), ⟨⟨by dsimp only; omega, .inr rfl, by dsimp only; rw [List.length_append]; simp; omega⟩, rfl⟩, by dsimp only; omega⟩
   ·skip
    refine bg (bj (bj (bz (bL (aw (ai ?_))))))
    refine aU rfl (bB rfl rfl (by omega)) ?_
    refine aM rfl (aNn ?_)
    refine ⟨[3, 5, 33, 34, 35], [1, 0], [0, 1, 2], rfl, ?_⟩
    have hj8 : j = 8 := by simp at h3; omega
    subst hj8
    exact ⟨(i + 1, (p2, (v2, l5))), ⟨⟨by dsimp only; omega, hp2, by dsimp only; omega⟩, rfl⟩, by dsimp only; omega⟩
  ·skip
   refine bg (bj (bj (bz (aw (az ?_)))))
   have hi4 : i = 4 := by simp at h2; omega
   subst hi4
   have hne : l4 ≠ [] := by intro h; rw [h] at hl4; cases hl4
   refine iH 2 rfl (by simpa using hne) (fun B cp hv hcp => ?_)
   rw [List.length_map] at hv hcp
   subst hv
   refine ai ?_
   refine al (q := false) rfl (bF [] [1, 2] (by kernel_rfl) rfl rfl rfl rfl (ql b10_0 p B cp (by omega) l4 hne) ?_)
   rintro _ _ _ ⟨rfl, rfl, rfl⟩
   refine cB (by (try simp only [nM, nN]); rfl) (by (try simp only [aV, place, Nat.reduceBEq, if_true, if_false, reduceIte, Nat.reduceAdd, nW]); rfl) ?_
   refine aA rfl (aNn (aj ?_))
   refine bc [] [] rfl Tryz.results188 rfl ?_ (.inr rfl)
   exact ⟨rfl, rfl, _, rfl⟩
end Go.Proofs.YtgmiihmahaahiaaGreatDoor

namespace Go.Sy
open Go.RowKit Go.Lp Go.Proofs.YtgmiihmahaahiaaGreatDoor
theorem x6 {P : Program} {n : Fr} {env : Env} {ps : List Per} {hp : List Res} {c : Code} {Q : Exit → Sta → Prop} (i : Nat) {v : Value} {E : TypeId} {l : List UInt8} {z : Int} (hi : hp[i]? = some (bH v E 1 (l.map fg ++ [[.v (.int .u8 (IntKind.u8.wrap z))]]))) (h : ∀ u, awp P n c Q ⟨env, ps, hp.set i (bH v E 1 ((l ++ [u]).map fg))⟩) : awp P n c Q ⟨env, ps, hp⟩ := by
 obtain ⟨u, hu⟩ := kL z
 refine eW i _ hi (fun _ _ _ hh => ?_) (h u)
 rw [List.map_append]
 rw [hu] at hh
 exact hh
end Go.Sy
namespace Go.Proofs.YtgmiihmahaahiaaGreatDoor
open Go.RowKit Go.Lp Go.Sy
open Go.Proofs.Tryz
attribute [local irreducible] aL aB awp aC fwp
theorem yF {k m : Nat} (hk : k ≤ 9) (h : m < 128 ^ (10 - k)) (h1 : 128 ≤ m) : k < 9 ∧ m / 128 < 128 ^ (10 - (k + 1)) := by
 have h9 : k ≠ 9 := by intro e; subst e; omega
 obtain ⟨j, hj⟩ : ∃ j, 10 - k = j + 1 := ⟨9 - k, by omega⟩
 have hj2 : 10 - (k + 1) = j := by omega
 rw [hj, Nat.pow_succ] at h
 rw [hj2]
 exact ⟨by omega, Nat.div_lt_of_lt_mul (by rw [Nat.mul_comm]; exact h)⟩
theorem yw {m : Nat} (h : m < 18446744073709551616) : IntKind.u64.wrap ((m : Int).tdiv 128) = ((m / 128 : Nat) : Int) := by
 rw [show ((m : Int)).tdiv 128 = ((m / 128 : Nat) : Int) from rfl, IntKind.wrap_u64]; omega
theorem wL (m0 : Nat) (h0 : m0 < 18446744073709551616) : Con Tryz.prog 251 [.slice none 0 0, .int .u64 m0] [] [] fun r ps hp => ps = [] ∧ ∃ (ad : Option Addr) (c : Nat) (l : List UInt8), l ≠ [] ∧ l.length ≤ 10 ∧ r = .slice ad l.length c ∧ hp = [bH (.slice ad l.length c) 5 1 (l.map fg)] := by
 refine Con.enter Tryz.func251 rfl (by simp [Tryz.ntmps251]) ?_
 show awp _ _ _ _ ⟨[(0, true, _), (1, true, _)], _, _⟩
 refine az (eZ 5 1 ?_)
 show awp _ _ _ _ ⟨_, _, [_]⟩
 refine ai (aA rfl (aNs (ax ?_)))
 refine aZ [0, 1, 4] [] [0] (fun (q : Nat × (Value × List UInt8)) st => (q.1 < 18446744073709551616 ∧ q.2.2.length ≤ 9 ∧ q.1 < 128 ^ (10 - q.2.2.length)) ∧ st = ⟨[(0, true, q.2.1), (1, true, .int .u64 q.1), (4, true, .slice none 0 0)], [], [bH q.2.1 5 1 (q.2.2.map fg)]⟩) (fun q => q.1) rfl (⟨(m0, (.slice none 0 0, [])), ⟨h0, (show (0 : Nat) ≤ 9 by omega), Nat.lt_of_lt_of_le h0 (show 18446744073709551616 ≤ 128 ^ 10 by decide)⟩, rfl⟩) ?_
 rintro ⟨m, v, l⟩ st ⟨⟨hm, hl, hb⟩, rfl⟩
 dsimp only at hm hl hb ⊢
 refine az (aSR (aM rfl (aU rfl (cQ rfl rfl) (aNn ?_))))
 refine ah _ rfl (fun h1 => ?_) (fun h1 => ?_)
 ·skip
  have h128 : 128 ≤ m := by simp at h1; omega
  obtain ⟨hk, hb2⟩ := yF hl hb h128
  refine au (aw (ax (aSR (aM rfl (aM rfl ?_)))))
  refine aU rfl (eJ rfl rfl (by decide)) ?_
  refine aU rfl (dC (by kernel_rfl) Tryz.underlying5 rfl) ?_
  refine aU rfl (rW rfl rfl) ?_
  refine al (q := true) rfl (cz (zs := [.int .u8 0]) (l := [(0, .tmp 11)]) el280 (by kernel_rfl) (by decide) (by decide) (by decide) rfl rfl rfl (.more rfl (.v rfl .nil) .nil) rfl rfl (fun v2_5 => ?_))
  refine aH (by (try simp only [nM, nN]); rfl) ?_
  refine al rfl (bX 0 el280 rfl rfl rfl rfl (cH 1 el280 rfl (by simp)) (by first | assumption | simp) (by show (l.map fg).length + 1 ≤ _; rw [List.length_map]; exact Nat.le_trans (show l.length + 1 ≤ 10 by omega) (by decide)) ((l.length + 1)) (by show (l.map fg).length + 1 = _; rw [List.length_map]) (fun v2_6 c2_6 => ?_))
  refine aH (by (try simp only [nK, nL]); rfl) ?_
  refine aA rfl (aNn ?_)
  refine x6 0 rfl (fun u => ?_)
  refine ai (aM rfl ?_)
  refine aU rfl (um rfl rfl (by decide)) ?_
  refine aA rfl (cA (bL (aw ?_)))
  refine ⟨[0, 1, 4], [], [0], rfl, ?_⟩
  exact ⟨(m / 128, (_, l ++ [u])), ⟨⟨by dsimp only; omega, by dsimp only; rw [List.length_append]; simp; omega, by dsimp only; rw [List.length_append]; exact hb2⟩, by dsimp only; rw [← yw hm]; rfl⟩, by dsimp only; omega⟩
 ·skip
  refine bg (bj (bj (bz (aw (aSR (aM rfl (aM rfl ?_)))))))
  refine aU rfl (dC (by kernel_rfl) Tryz.underlying5 rfl) ?_
  refine al (q := true) rfl (cz (zs := [.int .u8 0]) (l := [(0, .tmp 18)]) el280 (by kernel_rfl) (by decide) (by decide) (by decide) rfl rfl rfl (.more rfl (.v rfl .nil) .nil) rfl rfl (fun v4_3 => ?_))
  refine aH (by (try simp only [nM, nN]); rfl) ?_
  refine al rfl (bX 0 el280 rfl rfl rfl rfl (cH 1 el280 rfl (by simp)) (by first | assumption | simp) (by show (l.map fg).length + 1 ≤ _; rw [List.length_map]; exact Nat.le_trans (show l.length + 1 ≤ 10 by omega) (by decide)) ((l.length + 1)) (by show (l.map fg).length + 1 = _; rw [List.length_map]) (fun v4_4 c4_4 => ?_))
  refine aH (by (try simp only [nK, nL]); rfl) ?_
  refine aA rfl (aNn (aj ?_))
  refine bc [] [0] rfl Tryz.results251 rfl ?_ (.inr rfl)
  obtain ⟨u, hu⟩ := kL (m : Int)
  refine ⟨rfl, v4_4, c4_4, l ++ [u], by simp, by rw [List.length_append]; simp; omega, by rw [List.length_append]; rfl, ?_⟩
  show [bH (.slice v4_4 (l.length + 1) c4_4) 5 1 (l.map fg ++ [[D.v (.int .u8 (IntKind.u8.wrap m))]])] = _
  rw [hu, List.map_append, List.length_append]; rfl
theorem jb (z : Int) : Con Tryz.prog 189 [.int .i64 z] [] [] fun r ps hp => ps = [] ∧ hp = [] ∧ ∃ t : ByteArray, t.size ≤ 10 ∧ r = .string t := by
 obtain ⟨m, hm⟩ := Int.eq_ofNat_of_zero_le (ru z)
 have hlt : m < 18446744073709551616 := by
   have : IntKind.u64.wrap z < 18446744073709551616 := by rw [IntKind.wrap_u64]; omega
   omega
 refine Con.enter Tryz.func189 rfl (by simp [Tryz.ntmps189]) ?_
 show awp _ _ _ _ ⟨[(0, true, _)], _, _⟩
 refine aSR (aA rfl (aNs (aSR (aM rfl (aU rfl (bJ rfl rfl) (aNn ?_))))))
 refine ah _ rfl (fun h1 => ?_) (fun h1 => ?_)
 ·skip
  refine aSR (aA rfl (aNn (aj (aO ?_))))
  refine bc [] [] rfl Tryz.results189 rfl ?_ (.inr rfl)
  exact ⟨rfl, rfl, .empty, by decide, rfl⟩
 ·skip
  refine au (aw (aSR (aM rfl ?_)))
  refine aU rfl (dC (by kernel_rfl) Tryz.underlying275 rfl) ?_
  refine al (q := true) rfl (bF [] [] (by kernel_rfl) rfl rfl rfl rfl ((by show Con _ _ [.slice none 0 0, .int .u64 (IntKind.u64.wrap z)] [] [] _; rw [hm]; exact wL m hlt)) ?_)
  rintro _ _ _ ⟨rfl, ad, c, l, hne, hl, rfl, rfl⟩
  refine cB (by (try simp only [nM, nN]); rfl) (by (try simp only [aV, place, Nat.reduceBEq, if_true, if_false, reduceIte, Nat.reduceAdd, nW]); rfl) ?_
  refine aU rfl (kT 0 l Tryz.underlying280 Tryz.underlying5 Tryz.underlying9 rfl rfl rfl hne) (aA rfl (aNn (aj ?_)))
  refine bc [] [] rfl Tryz.results189 rfl ?_ (.inr rfl)
  exact ⟨rfl, rfl, ofBytes l, hl, rfl⟩
theorem sM (s : ByteArray) (hs : s.size ≤ 4611686018427387904) : Con Tryz.prog 190 [.string s] [] [] fun r ps hp => ps = [] ∧ hp = [] ∧ ∃ t : ByteArray, t.size ≤ s.size + 10 ∧ r = .string t := by
 refine Con.enter Tryz.func190 rfl (by simp [Tryz.ntmps190]) ?_
 show awp _ _ _ _ ⟨[(0, true, _)], _, _⟩
 refine aSR (aA rfl (aNn (aSR (aM rfl (aU rfl (dX Tryz.underlying9 rfl) ?_)))))
 refine al (q := true) rfl (bF [] [] (by kernel_rfl) rfl rfl rfl rfl (jb _) ?_)
 rintro _ _ _ ⟨rfl, rfl, t, ht, rfl⟩
 refine cB (by (try simp only [nM, nN]); rfl) (by (try simp only [aV, place, Nat.reduceBEq, if_true, if_false, reduceIte, Nat.reduceAdd, nW]); rfl) ?_
 refine aM rfl ?_
 refine aU rfl (oR rfl rfl (by omega)) ?_
 refine aA rfl (aNn (aj ?_))
 refine bc [] [] rfl Tryz.results190 rfl ?_ (.inr rfl)
 exact ⟨rfl, rfl, t ++ s, by rw [ByteArray.size_append]; omega, rfl⟩
end Go.Proofs.YtgmiihmahaahiaaGreatDoor

namespace Go.Sy
open Go.RowKit Go.Lp Go.Proofs.YtgmiihmahaahiaaGreatDoor
def ByB (g cap : Nat) : Res :=
 ⟨fun w _ F => (∀ j, j < cap → (∃ u : UInt8, w.cell? ⟨g, j, none⟩ = some (.int .u8 u.toNat)) ∧ w.frozen? ⟨g, j, none⟩ = false) ∧ ∀ k, F k ↔ k = g,
  fun ⟨h, hF⟩ h1 _ _ => ⟨fun j hj => by
    have e := h1 g ((hF g).2 rfl)
    obtain ⟨⟨u, hu⟩, hz⟩ := h j hj
    refine ⟨⟨u, ?_⟩, ?_⟩
    · unfold World.cell? at hu ⊢; dsimp only at hu ⊢; rw [e]; exact hu
    · unfold World.frozen? at hz ⊢; dsimp only at hz ⊢; rw [e]; exact hz, hF⟩⟩
section
variable {P : Program} {n : Fr} {env : Env} {ps : List Per} {hp : List Res} {d : Option Tmp} {ty : TypeId} {pos : String} {af : Array Edge} {gd : Option (Nat × Bool)} {K : Sta → Prop} {q : Bool}
theorem qe {t : Nat} {S T E : TypeId} {u : TypeDesc} {x : Operand} {b : ByteArray} (hS : P.underlying S = some u) (hT : P.underlying T = some (.slice E)) (hE : P.underlying E = some (.int .u8)) (hx : ev env x = some (true, .string b)) (ht : fits n.size (some t) = true)
   (hK : ∀ g c, b.size ≤ c → K ⟨(t, true, .slice (some ⟨g, 0, none⟩) b.size c) :: env, ps, hp ++ [ByB g c]⟩) : Eff P n ⟨some t, .convert S T x, ty, pos, af, gd⟩ ⟨env, ps, hp⟩ q K := .push fun w S' fp a hst he hn => by
 have e1 := he.val hx rfl
 have hrun := Lib.run_convert_string_bytes (P := P) w S T E b hS hT hE
 have hexec : (execOp a.eval ⟨some t, .convert S T x, ty, pos, af, gd⟩).run P w = .ok (.value (.slice (some ⟨w.heap.size, 0, none⟩) b.size (grownCap w b.size 0 E))) (Lib.bytesWorld w E b) := by
   unfold execOp; dsimp only; rw [e1]
   show ((convert S T (.string b)).bind fun r => Sem.pure (Next.value r)).run P w = _
   rw [Sem.run_bind', hrun]; rfl
 rw [hexec]
 have hsz := Lib.bytesWorld_size w E b
 have hcap : b.size ≤ grownCap w b.size 0 E := grownCap_ge w b.size 0 E
 have hcs : (Lib.bytesCells w E b).size = grownCap w b.size 0 E := by
   unfold Lib.bytesCells
   simp
   show b.size + _ = _
   omega
 have hnew := Lib.bytesWorld_at_new w E b
 refine ⟨ByB w.heap.size (grownCap w b.size 0 E), (fun k => k = w.heap.size), _, hK _ _ hcap, rfl, rfl, he.put (g := true) (by rw [hn]; simpa [fits] using ht) _, ?_, ⟨fun j hj => ⟨?_, ?_⟩, fun _ => Iff.rfl⟩, fun k hk => by subst hk; rw [hsz]; omega⟩
 · exact ⟨by unfold Lib.bytesWorld World.freeze; split <;> rfl, by unfold Lib.bytesWorld World.freeze; split <;> rfl, by unfold Lib.bytesWorld World.freeze; split <;> rfl, by omega, by
     have : (Lib.bytesWorld w E b).drawn = w.drawn + 1 := by unfold Lib.bytesWorld World.freeze; split <;> rfl
     omega, fun k hk => Lib.bytesWorld_at_old w E b k hk⟩
 · unfold World.cell?
   rw [hnew]
   dsimp only
   unfold Lib.bytesCells
   rw [Array.getElem?_append]
   by_cases h : j < b.size
   · refine ⟨b.data.toList.getD j 0, ?_⟩
     have hb : j < b.data.size := h
     simp [h, hb, List.getD]
   · refine ⟨0, ?_⟩
     have hb : ¬ j < b.data.size := h
     have hb2 : b.data.size = b.size := rfl
     simp [h, hb, Array.getElem?_replicate]
     omega
 · unfold World.frozen?
   rw [hnew]
   dsimp only
   rw [hcs]
   simp
   omega
theorem eX (b : Nat) : ∀ (vs : List Value) (o : Nat) (w : World), (w.setCells b o vs).drawn = w.drawn ∧ (w.setCells b o vs).tape = w.tape ∧ (w.setCells b o vs).heap.size = w.heap.size
 | [], _, _ => ⟨rfl, rfl, rfl⟩
 | v :: vs, o, w => by
   obtain ⟨h1, h2, h3⟩ := eX b vs (o + 1) (w.setCell ⟨b, o, none⟩ v)
   exact ⟨h1, h2, h3.trans (by simp [World.setCell])⟩
theorem vD {α : Type} {l : List α} {i : Nat} {x : α} (h : l[i]? = some x) : l = l.set i x := by
 apply List.ext_getElem?
 intro k
 rw [List.getElem?_set]
 by_cases hk : i = k
 · subst hk; rw [if_pos rfl, if_pos (List.getElem?_eq_some_iff.1 h).1]; exact h
 · rw [if_neg hk]
theorem qd {x : Operand} {T E : TypeId} {g o m c cap : Nat} (i : Nat) (hT : P.underlying T = some (.slice E)) (hz : ∀ w, (zeroValue E).run P w = .ok (.int .u8 0) w) (hx : ev env x = some (true, .slice (some ⟨g, o, none⟩) m c)) (hi : hp[i]? = some (ByB g cap)) (hm : 0 < m) (hom : o + m ≤ cap)
   (hK : K ⟨env, ps, hp⟩) : Eff P n ⟨none, .call ⟨.builtin .clear, #[x], #[T]⟩, ty, pos, af, gd⟩ ⟨env, ps, hp⟩ false K := .change i hi fun w S fp a hst he hn hR => by
 have h1 := he.val hx rfl
 obtain ⟨hB, hF⟩ := hR
 have hr := Lib.run_clear_slice (P := P) w T E ty (.int .u8 0) hT hz rfl rfl g o m c hm (fun j hj => by obtain ⟨⟨u, hu⟩, _⟩ := hB (o + j) (by omega); rw [hu]; rfl) (fun j hj => (hB (o + j) (by omega)).2)
 have hexec : execOp a.eval ⟨none, .call ⟨.builtin .clear, #[x], #[T]⟩, ty, pos, af, gd⟩ = (Builtin.clear_ #[T] ty (#[x].map a.eval)).bind fun r => Sem.pure (Next.value r) := rfl
 rw [hexec, show #[x].map a.eval = #[a.eval x] by simp, h1, Sem.run_bind', hr]
 refine ⟨ByB g cap, ⟨env, ps, hp⟩, hK, rfl, vD hi, he, ⟨fun j hj => ?_, hF⟩, ?_, ?_, ?_, ?_, ?_⟩
 · obtain ⟨⟨u, hu⟩, hz2⟩ := hB j hj
   refine ⟨?_, by rw [World.frozen?_setCells]; exact hz2⟩
   by_cases hin : o ≤ j ∧ j < o + m
   · have := World.cell?_setCells_in g (List.replicate m (.int .u8 0)) o w (fun k hk => by
       rw [List.length_replicate] at hk
       obtain ⟨⟨u, hu⟩, _⟩ := hB (o + k) (by omega)
       rw [hu]; rfl) (j - o) (by rw [List.length_replicate]; omega)
     rw [show o + (j - o) = j by omega] at this
     exact ⟨0, by rw [this]; simp⟩
   · refine ⟨u, ?_⟩
     rw [World.cell?_setCells_out g _ o w _ (fun _ _ => by rw [List.length_replicate]; dsimp only; omega)]
     exact hu
 · exact World.os_setCells _ _ _ _
 · exact (eX _ _ _ _).2.1
 · exact ⟨World.output_setCells _ _ _ _, (eX _ _ _ _).1⟩
 · exact Nat.le_of_eq (eX _ _ _ _).2.2.symm
 · exact fun b hb hne => World.heap_setCells_other _ _ _ _ hb (fun h => hne ((hF b).2 h))
theorem pd {x : Operand} {T E T2 : TypeId} {m c g cap : Nat} (i : Nat) (hT : P.underlying T = some (.slice E)) (hE : P.underlying E = some (.int .u8)) (hD : P.underlying T2 = some .string) (hx : ev env x = some (true, .slice (some ⟨g, 0, none⟩) m c))
   (hi : hp[i]? = some (ByB g cap)) (hm : m ≤ cap) :
   gX P n ⟨d, .convert T T2 x, ty, pos, af, gd⟩ ⟨env, ps, hp⟩ (fun t : {t : ByteArray // t.size = m} => .string t.1) (fun _ => [Fa True]) := fun w S fp a hst he hn => by
 have h1 := he.val hx rfl
 obtain ⟨hB, hF⟩ := hst.res i _ hi
 have hg : g < w.heap.size := (hst.lt i (List.getElem?_eq_some_iff.1 hi).1 g ((hF g).2 rfl)).1
 obtain ⟨f, hf⟩ := Classical.skolem.1 (fun j : Nat => show ∃ u : UInt8, j < cap → w.cell? ⟨g, j, none⟩ = some (.int .u8 u.toNat) from by
   by_cases h : j < cap
   · obtain ⟨⟨u, hu⟩, _⟩ := hB j h; exact ⟨u, fun _ => hu⟩
   · exact ⟨0, fun h2 => absurd h2 h⟩)
 have hbl : ((List.range m).map f).length = m := by simp
 refine ⟨⟨ofBytes ((List.range m).map f), by show ((List.range m).map f).toArray.size = m; simp⟩, fun w1 hw1 => ?_, fun p hp => by rw [List.mem_singleton.1 hp]; trivial⟩
 have hc1 : ∀ j, j < cap → w1.cell? ⟨g, j, none⟩ = some (.int .u8 (f j).toNat) := fun j hj => by
   have := hf j hj
   unfold World.cell? at this ⊢
   dsimp only at this ⊢
   rw [hw1.block g hg]; exact this
 have hload : (loadCells ⟨g, 0, none⟩ m).run P w1 = .ok ((((List.range m).map f).map fun b => (b.toNat : Int)).map (Value.int .u8)).toArray w1 := by
   rw [run_loadCells w1 ⟨g, 0, none⟩ m (fun k => .int .u8 (f k).toNat) (fun k hk => by
     have : (Addr.mk g 0 none).add k = ⟨g, k, none⟩ := by
       unfold Addr.add; split
       · rename_i h; rw [h]
       · simp
     rw [this]; exact hc1 k (by omega))]
   congr 2
   rw [List.map_map, List.map_map]; rfl
 have hcv : (convert T T2 (.slice (some ⟨g, 0, none⟩) m c)).run P w1 = .ok (.string (ofBytes ((List.range m).map f))) w1 := by
   rw [run_convert_bytes_string w1 T T2 E _ _ _ hT hE hD, run_bytesToString w1 ⟨g, 0, none⟩ m c (((List.range m).map f).map fun b => (b.toNat : Int)) hload]
   congr 2
   rw [nb]; simp [ofBytes]
 have : (execOp a.eval ⟨d, .convert T T2 x, ty, pos, af, gd⟩).run P w1 = .ok (.value (.string (ofBytes ((List.range m).map f)))) w1 := by
   unfold execOp; dsimp only; rw [h1]
   show ((convert T T2 (.slice (some ⟨g, 0, none⟩) m c)).bind fun r => Sem.pure (Next.value r)).run P w1 = _
   rw [Sem.run_bind', hcv]; rfl
 rw [this]; exact ck _ _
theorem gj {s : Sta} {T E : TypeId} {x y z : Operand} {sz m c B o : Nat} {kk k2 : IntKind} {zl zh : Int} (l h : Nat) (hel : elB P T E sz = true) (hx : ev s.env x = some (true, .slice (some ⟨B, o, none⟩) m c))
   (hy : ev s.env y = some (true, .int kk zl)) (hz : ev s.env z = some (true, .int k2 zh)) (hl : zl = (l : Int)) (hh : zh = (h : Int)) (hlh : l < h) (hm : h ≤ m) (hmc : m ≤ c) :
   Quiet P n ⟨d, .slice T x (some y) (some z) none, ty, pos, af, gd⟩ s (.slice (some ⟨B, o + l * sz, none⟩) (h - l) (c - l)) := fun w S fp a hst he hn => by
 have h1 := he.val hx rfl
 subst hl hh
 have h2 := he.val hy rfl
 have h3 := he.val hz rfl
 obtain ⟨hT, it, hi, _, hsz, _⟩ := dq hel
 have hE : P.elem T = E := by unfold Program.elem; rw [hT]
 have hrun : ∀ w1, (execOp a.eval ⟨d, .slice T x (some y) (some z) none, ty, pos, af, gd⟩).run P w1 = .ok (.value (sliced (some ⟨B, o, none⟩) l h c sz)) w1 := fun w1 => by
   unfold execOp; dsimp only; simp only [Option.map_some, Option.map_none]; rw [h1, h2, h3]
   show ((Instr.sliceAt T (.slice (some ⟨B, o, none⟩) m c) (some (.int kk l)) (some (.int k2 h)) none).bind fun r => Sem.pure (Next.value r)).run P w1 = _
   have hT' : P.underlying T = some (.slice (P.elem T)) := by rw [hT, hE]
   rw [Sem.run_bind', run_sliceAt_slice w1 T _ _ _ _ hT', run_slice_lh w1 T _ m c hT' kk k2 l h (by omega) (by omega) (by omega), hE, cW hi, hsz]
   rfl
 have e : sliced (some ⟨B, o, none⟩) l h c sz = .slice (some ⟨B, o + l * sz, none⟩) (h - l) (c - l) := by
   unfold sliced
   rw [if_neg (by omega)]
   simp [lS]
 rw [hrun, e]; exact ck _ _
end
end Go.Sy

