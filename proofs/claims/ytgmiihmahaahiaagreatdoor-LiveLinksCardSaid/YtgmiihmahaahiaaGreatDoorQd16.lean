/- Parts of the proof, in build order. No condition. -/
import Derived.Test.YtgmiihmahaahiaaGreatDoorQd15
import Derived.Test.YtgmiihmahaahiaaGreatDoorQd03
set_option linter.unusedSimpArgs false
set_option linter.unusedVariables false
set_option maxHeartbeats 1000000
set_option maxRecDepth 20000
namespace Go.Proofs.YtgmiihmahaahiaaGreatDoor
open Go.RowKit Go.Lp Go.Sy
open Go.Proofs.Tryz
attribute [local irreducible] aL aB awp aC fwp
theorem yt (o : ax) (x : ju) : Con Tryz.prog 111 [o.val, x.val] [o.ok] [] (YB True) := by
 refine Con.enter Tryz.func111 rfl (by simp [Tryz.ntmps111]) ?_
 show awp _ _ _ _ ⟨[(0, true, _), (1, true, _)], _, _⟩
 refine bA (ax.f_syms (.of (aF 0 rfl))) (fun hlen => ?_)
 refine fI (cG.f_bytes (aau (.of (aF 0 rfl)) x.sec)) (fun hbl => ?_)
 refine aSR ?_
 refine an (q := true) rfl (cx rfl rfl rfl (fun b0_0 => ?_))
 refine aHN ?_
 refine an (q := true) rfl (cx rfl rfl rfl (fun b0_1 => ?_))
 refine aHN ?_
 refine aA rfl (aNn (aSR (aU rfl (ah 0 tk61 rfl rfl rfl) ?_)))
 refine aU rfl (qFA (off := 0) rfl) ?_
 refine aU rfl (ah 1 tk3 rfl rfl rfl) ?_
 refine aU rfl (bC (by kernel_rfl) rfl (fun w S fp hst => (fY o _).quiet1 (aF 0 rfl) hst)) ?_
 refine an (q := true) rfl (bc (zs := [.string .empty, .int .i64 0, .int .i64 0, .int .i64 0, .string .empty, .bool false]) (by kernel_rfl) rfl (fun b1_4 => ?_))
 refine aHN ?_
 refine an rfl (aV 2 tk85 rfl rfl rfl rfl ?_)
 refine aHK ?_
 refine aNn (aSR ?_)
 refine aU rfl (qFA (off := 2) rfl) ?_
 refine aU rfl (ah 1 tk3 rfl rfl rfl) ?_
 refine aU rfl (bC (by kernel_rfl) rfl (fun w S fp hst => (ph _).quiet0 hst)) ?_
 refine aA rfl (aNs (aSR ?_))
 refine aU rfl (qFA (off := 2) rfl) ?_
 refine aU rfl (ah 1 tk3 rfl rfl rfl) ?_
 refine aU rfl (bC (by kernel_rfl) rfl (fun w S fp hst => (dS _ _ _).quiet0 hst)) ?_
 refine aU rfl (bZ rfl) (aM rfl ?_)
 refine aG rfl rfl (fun hc => qFA (off := 3) rfl) ?_
 refine aG rfl rfl (fun hc => ah 1 tk3 (ae rfl hc) rfl rfl) ?_
 refine aG rfl rfl (fun hc => qFA (off := 2) rfl) ?_
 refine aG rfl rfl (fun hc => ah 0 tk51 (ae rfl hc) rfl rfl) (aG rfl rfl (fun hc => aZ Tryz.underlying51 (ae rfl hc)) (aG rfl rfl (fun hc => lD (ae rfl hc) rfl) ?_))
 refine aG rfl rfl (fun hc => bC (by kernel_rfl) (aS (ae rfl hc) (aS (ae rfl rfl) (aS (ae rfl hc) rfl))) (fun w S fp hst => (dS _ _ _).quiet0 hst)) ?_
 refine aG rfl rfl (fun hc => bZ (ae rfl hc)) (aU rfl (bY rfl rfl (fun h => gf rfl h)) (aM rfl ?_))
 refine aG rfl rfl (fun hc => qFA (off := 4) rfl) ?_
 refine aG rfl rfl (fun hc => ah 1 tk3 (ae rfl hc) rfl rfl) ?_
 refine aG rfl rfl (fun hc => bC (by kernel_rfl) (aS (ae rfl hc) (aS (ae rfl rfl) (aS (ae rfl rfl) rfl))) (fun w S fp hst => (dS _ _ _).quiet0 hst)) ?_
 refine aG rfl rfl (fun hc => bZ (ae rfl hc)) (aU rfl (bY rfl rfl (fun h => gf rfl h)) (aM rfl ?_))
 refine aG rfl rfl (fun hc => qFA (off := 1) rfl) ?_
 refine aG rfl rfl (fun hc => ah 1 tk3 (ae rfl hc) rfl rfl) (aG rfl rfl (fun hc => bw (ae rfl hc) rfl) (aU rfl (bY rfl rfl (fun h => gf rfl h)) (aM rfl ?_)))
 refine aG rfl rfl (fun hc => qFA (off := 1) rfl) ?_
 refine aG rfl rfl (fun hc => ah 1 tk3 (ae rfl hc) rfl rfl) ?_
 refine aG rfl rfl (fun hc => qFA (off := 3) rfl) ?_
 refine aG rfl rfl (fun hc => ah 2 tk3 (ae rfl hc) rfl rfl) (aG rfl rfl (fun hc => aD rfl) (aG rfl rfl (fun hc => lD (ae rfl hc) (ae rfl hc)) (aG rfl rfl (fun hc => cN (ae rfl hc) (ae rfl hc)) (aU rfl (bY rfl rfl (fun h => gf rfl h)) (aM rfl ?_)))))
 refine aG rfl rfl (fun hc => qFA (off := 1) rfl) ?_
 refine aG rfl rfl (fun hc => ah 1 tk3 (ae rfl hc) rfl rfl) (aG rfl rfl (fun hc => aD rfl) ?_)
 refine aG rfl rfl (fun hc => fF (ae rfl hc) (ae rfl hc) (by exact xx _)) ?_
 refine aG rfl rfl (fun hc => dB (ae rfl hc) rfl) (aU rfl (bY rfl rfl (fun h => gf rfl h)) (aNn ?_))
 refine al _ rfl (fun h1 => ?_) (fun h1 => ?_)
 ·skip
  refine aSR (aA rfl (aNn (aJ (aO ?_))))
  refine br [] [] rfl Tryz.results111 rfl ?_ (.inr rfl)
  exact ⟨⟨rfl, rfl⟩, _, rfl, fun _ => trivial⟩
 ·skip
  refine aq (az (aH (aSR ?_)))
  refine aU rfl (qFA (off := 2) rfl) ?_
  refine aU rfl (ah 1 tk3 rfl rfl rfl) ?_
  refine aU rfl (bC (by kernel_rfl) rfl (fun w S fp hst => (yb _).quiet0 hst)) ?_
  refine aU rfl (bZ rfl) (aNn ?_)
  refine al _ rfl (fun h2 => ?_) (fun h2 => ?_)
  ·skip
   refine aSR ?_
   refine aU rfl (qFA (off := 1) rfl) ?_
   refine aU rfl (ah 2 tk3 rfl rfl rfl) (aU rfl (bx rfl rfl) (aM rfl ?_))
   refine aG rfl rfl (fun hc => qFA (off := 2) rfl) ?_
   refine aG rfl rfl (fun hc => ah 2 tk3 (ae rfl hc) rfl rfl) (aG rfl rfl (fun hc => aD rfl) (aG rfl rfl (fun hc => eu (ae rfl hc) (ae rfl hc)) (aU rfl (bJ rfl rfl (fun h => gt rfl h)) (aA rfl (aNn (aJ (aO ?_)))))))
   refine br [] [] rfl Tryz.results111 rfl ?_ (.inr rfl)
   exact ⟨⟨rfl, rfl⟩, _, rfl, fun _ => trivial⟩
  ·skip
   refine aq (az (aH (aSR ?_)))
   refine aU rfl (qFA (off := 1) rfl) ?_
   refine aU rfl (ah 2 tk3 rfl rfl rfl) (aU rfl (dB rfl rfl) (aNn ?_))
   refine al _ rfl (fun h3 => ?_) (fun h3 => ?_)
   ·skip
    refine aSR (aA rfl (aNn (aJ (aO ?_))))
    refine br [] [] rfl Tryz.results111 rfl ?_ (.inr rfl)
    exact ⟨⟨rfl, rfl⟩, _, rfl, fun _ => trivial⟩
   ·skip
    refine aq (az (aSR ?_))
    refine aU rfl (qFA (off := 4) rfl) ?_
    refine aU rfl (ah 2 tk9 rfl rfl rfl) ?_
    refine aU rfl (qFA (off := 1) rfl) ?_
    refine aU rfl (ah 1 tk3 rfl rfl rfl) ?_
    refine an (q := true) rfl (bH [] [] (by kernel_rfl) rfl rfl rfl rfl (x5 _ hbl _) ?_)
    rintro _ _ _ ⟨rfl, rfl, ia, ib, ic, id_, ie, iok, rfl⟩
    refine aST ?_
    refine aM rfl (aU rfl (bD rfl rfl) (aU rfl (bD rfl rfl) ?_))
    refine an (q := true) rfl (bc (zs := [.int .i64 0, .int .i64 0, .int .i64 0, .int .i64 0, .int .i64 0]) (by kernel_rfl) rfl (fun b9_8 => ?_))
    refine aHN ?_
    refine an rfl (aV 3 tk233 rfl rfl rfl rfl ?_)
    refine aHK ?_
    refine aA rfl (aNn (aSR (aM rfl (aM rfl ?_))))
    refine aG rfl rfl (fun hc => qFA (off := 2) rfl) ?_
    refine aG rfl rfl (fun hc => ah 1 tk3 (ae rfl hc) rfl rfl) ?_
    refine aG rfl rfl (fun hc => qFA (off := 0) rfl) ?_
    refine aG rfl rfl (fun hc => ah 3 tk3 (ae rfl hc) rfl rfl) ?_
    refine bT (caps := []) [] (false) (by kernel_rfl) _ rfl rfl (fun _ => rfl) (fun hc => (aS (ae rfl hc) (aS (ae rfl hc) rfl))) (fun hc => by rw [List.append_nil]; exact xY _ _) (fun c1 hc1 => ?_)
    refine aU rfl (bJ rfl rfl (fun h => gt rfl h)) (aA rfl (aNn (aJ ?_)))
    refine br [] [] rfl Tryz.results111 rfl ?_ (.inr rfl)
    exact ⟨⟨rfl, rfl⟩, _, rfl, fun _ => trivial⟩
theorem xS (o : ax) : Con Tryz.prog 55 [o.val] [o.ok] [] (YB True) := by
 refine Con.enter Tryz.func55 rfl (by simp [Tryz.ntmps55]) ?_
 show awp _ _ _ _ ⟨[(0, true, _)], _, _⟩
 refine bA (ax.f_rels (.of (aF 0 rfl))) (fun hlen => ?_)
 refine aSR ?_
 refine an (q := true) rfl (cx rfl rfl rfl (fun b0_0 => ?_))
 refine aHN ?_
 refine aA rfl (aNs (aSR (aA rfl (cn ?_))))
 refine az (aI (aT [1, 3] [0] [0] (fun (k : Nat) st => k ≤ o.rels.l.length ∧ st = ⟨[(1, true, .pointer (some ⟨b0_0, 0, none⟩)), (3, true, .int .i64 k)], [o.ok], [Box b0_0 61 o.vs]⟩) (fun k => o.rels.l.length - k) rfl (⟨0, Nat.zero_le _, rfl⟩) ?_))
 rintro k st ⟨hk, rfl⟩
 refine aH (aSR (aM rfl ?_))
 refine aU rfl (qFA (off := 3) rfl) ?_
 refine aU rfl (ah 0 tk52 rfl rfl rfl) (aU rfl (aZ Tryz.underlying52 rfl) (aU rfl (bw rfl rfl) (aNn ?_)))
 refine al _ rfl (fun h1 => ?_) (fun h1 => ?_)
 ·skip
  have hk' : k < o.rels.l.length := by simp at h1; omega
  obtain ⟨x, hx⟩ : ∃ x, o.rels.l[k]? = some x := ⟨_, List.getElem?_eq_getElem hk'⟩
  refine aq (az (aH (aI (aSR ?_))))
  refine aU rfl (qFA (off := 3) rfl) ?_
  refine aU rfl (ah 0 tk52 rfl rfl rfl) (aM rfl ?_)
  refine cJ true rfl rfl (fun _ => av Tryz.underlying52 tk182 rfl ((ax.f_rels (.of (aF 0 rfl)))) rfl (aQ hx) rfl rfl) (fun h => absurd h (by decide)) (fun ⟨b4_3, o4_3⟩ => ?_)
  refine aU rfl (aP (o := 0) tk182 rfl (aF 0 rfl) rfl rfl) ?_
  refine an (q := true) rfl (bc (zs := [.int .i64 0, .int .i64 0, .int .i64 0, .int .i64 0, .int .i64 0]) (by kernel_rfl) rfl (fun b4_5 => ?_))
  refine aHN ?_
  refine an rfl (aV 1 tk182 rfl rfl rfl rfl ?_)
  refine aHK ?_
  refine aNs (aSR (aU rfl (ah 0 tk61 rfl rfl rfl) (aU rfl (ah 1 tk182 rfl rfl rfl) ?_)))
  refine bT (caps := []) [0] (false) (by kernel_rfl) true rfl rfl (fun _ => rfl) (fun hc => rfl) (fun hc => by rw [List.append_nil]; exact yt o x) (fun c1 hc1 => ?_)
  refine aU rfl (bZ rfl) (aNn ?_)
  refine al _ rfl (fun h2 => ?_) (fun h2 => ?_)
  ·skip
   refine aSR (aA rfl (aNn (aJ (aO (bu (aO (aO (bu (aO ?_)))))))))
   refine br [] [] rfl Tryz.results55 rfl ?_ (.inr rfl)
   exact ⟨⟨rfl, rfl⟩, _, rfl, fun _ => trivial⟩
  ·skip
   refine aq (az (aH ?_))
   refine bp [] (by kernel_rfl) ?_
   show aB _ _ _ _ _ 47 #[false, false, false, false, false, false, false, false, false, false, false, false, false, false, false, false, false, false, false, false, false, false, false, false, false, false, false, false, false, false, false, false, false, false, false, false, false, false, false, false, false, false, false, false, false, false, false] _
   refine bV 0 rfl rfl (aD rfl) ?_
   refine bV 1 rfl rfl (cN rfl rfl) ?_
   refine bV 2 rfl rfl (aD rfl) ?_
   refine bW 3 rfl rfl rfl (fun hc => qFA (off := 3) rfl) ?_
   refine bW 4 rfl rfl rfl (fun hc => ah 0 tk52 (ae rfl hc) rfl rfl) ?_
   refine bW 5 rfl rfl rfl (fun hc => aD rfl) ?_
   refine bW 6 rfl rfl rfl (fun hc => ei (ae rfl hc) rfl (by (first | omega | (simp at hc; omega)))) ?_
   refine dC 7 rfl (by kernel_rfl) _ rfl rfl (fun hc => av Tryz.underlying52 tk182 (ae rfl hc) ((ax.f_rels (.of (aF 1 rfl)))) (ae rfl hc) (bI (i := (k : Int) - 1) (by simp at hc; omega) (by simp at hc; omega)) (by simp at hc; omega) rfl) (fun _ => ⟨(0, 0)⟩) (fun ⟨b7_7, o7_7⟩ => ?_)
   refine bW 8 rfl rfl rfl (fun hc => qFA (off := 0) (ae rfl hc)) ?_
   refine bW 9 rfl rfl rfl (fun hc => aP (o := 0) tk3 (ae rfl hc) (aF 0 rfl) hc rfl) ?_
   refine bW 10 rfl rfl rfl (fun hc => qFA (off := 0) rfl) ?_
   refine bW 11 rfl rfl rfl (fun hc => ah 1 tk3 (ae rfl hc) rfl rfl) ?_
   refine bW 12 rfl rfl rfl (fun hc => cN (ae rfl hc) (ae rfl hc)) ?_
   refine bW 13 rfl rfl rfl (fun hc => aD (ae rfl hc)) ?_
   refine bW 14 rfl rfl rfl (fun hc => qFA (off := 3) rfl) ?_
   refine bW 15 rfl rfl rfl (fun hc => ah 0 tk52 (ae rfl hc) rfl rfl) ?_
   refine bW 16 rfl rfl rfl (fun hc => aD rfl) ?_
   refine bW 17 rfl rfl rfl (fun hc => ei (ae rfl hc) rfl (by (first | omega | (simp at hc; omega)))) ?_
   refine dC 18 rfl (by kernel_rfl) _ rfl rfl (fun hc => av Tryz.underlying52 tk182 (ae rfl hc) ((ax.f_rels (.of (aF 2 rfl)))) (ae rfl hc) (bI (i := (k : Int) - 1) (by simp at hc; omega) (by simp at hc; omega)) (by simp at hc; omega) rfl) (fun _ => ⟨(0, 0)⟩) (fun ⟨b7_18, o7_18⟩ => ?_)
   refine bW 19 rfl rfl rfl (fun hc => qFA (off := 0) (ae rfl hc)) ?_
   refine bW 20 rfl rfl rfl (fun hc => aP (o := 0) tk3 (ae rfl hc) (aF 0 rfl) hc rfl) ?_
   refine bW 21 rfl rfl rfl (fun hc => qFA (off := 0) rfl) ?_
   refine bW 22 rfl rfl rfl (fun hc => ah 1 tk3 (ae rfl hc) rfl rfl) ?_
   refine bW 23 rfl rfl rfl (fun hc => bx (ae rfl hc) (ae rfl hc)) ?_
   refine bW 24 rfl rfl rfl (fun hc => aD (ae rfl hc)) ?_
   refine bW 25 rfl rfl rfl (fun hc => qFA (off := 3) rfl) ?_
   refine bW 26 rfl rfl rfl (fun hc => ah 0 tk52 (ae rfl hc) rfl rfl) ?_
   refine bW 27 rfl rfl rfl (fun hc => aD rfl) ?_
   refine bW 28 rfl rfl rfl (fun hc => ei (ae rfl hc) rfl (by (first | omega | (simp at hc; omega)))) ?_
   refine dC 29 rfl (by kernel_rfl) _ rfl rfl (fun hc => av Tryz.underlying52 tk182 (ae rfl hc) ((ax.f_rels (.of (aF 3 rfl)))) (ae rfl hc) (bI (i := (k : Int) - 1) (by simp at hc; omega) (by simp at hc; omega)) (by simp at hc; omega) rfl) (fun _ => ⟨(0, 0)⟩) (fun ⟨b7_29, o7_29⟩ => ?_)
   refine bW 30 rfl rfl rfl (fun hc => qFA (off := 1) (ae rfl hc)) ?_
   refine bW 31 rfl rfl rfl (fun hc => aP (o := 1) tk3 (ae rfl hc) (aF 0 rfl) hc rfl) ?_
   refine bW 32 rfl rfl rfl (fun hc => qFA (off := 3) rfl) ?_
   refine bW 33 rfl rfl rfl (fun hc => ah 0 tk52 (ae rfl hc) rfl rfl) ?_
   refine bW 34 rfl rfl rfl (fun hc => aD rfl) ?_
   refine bW 35 rfl rfl rfl (fun hc => ei (ae rfl hc) rfl (by (first | omega | (simp at hc; omega)))) ?_
   refine dC 36 rfl (by kernel_rfl) _ rfl rfl (fun hc => av Tryz.underlying52 tk182 (ae rfl hc) ((ax.f_rels (.of (aF 4 rfl)))) (ae rfl hc) (bI (i := (k : Int) - 1) (by simp at hc; omega) (by simp at hc; omega)) (by simp at hc; omega) rfl) (fun _ => ⟨(0, 0)⟩) (fun ⟨b7_36, o7_36⟩ => ?_)
   refine bW 37 rfl rfl rfl (fun hc => qFA (off := 2) (ae rfl hc)) ?_
   refine bW 38 rfl rfl rfl (fun hc => aP (o := 2) tk3 (ae rfl hc) (aF 0 rfl) hc rfl) ?_
   refine bW 39 rfl rfl rfl (fun hc => bC (by kernel_rfl) (aS (ae rfl hc) rfl) (fun w S fp hst => (ph _).quiet0 hst)) ?_
   refine bW 40 rfl rfl rfl (fun hc => p9 (ae rfl hc) (ae rfl hc)) ?_
   refine bW 41 rfl rfl rfl (fun hc => qFA (off := 1) rfl) ?_
   refine bW 42 rfl rfl rfl (fun hc => ah 1 tk3 (ae rfl hc) rfl rfl) ?_
   refine bW 43 rfl rfl rfl (fun hc => cN (ae rfl hc) (ae rfl hc)) ?_
   refine bW 44 rfl rfl rfl (fun hc => bJ (ae rfl hc) rfl (fun h => gt hc h)) ?_
   refine bW 45 rfl rfl rfl (fun hc => bY (ae rfl hc) rfl (fun h => gf hc h)) ?_
   refine bV 46 rfl rfl (bJ rfl rfl (fun h => gt rfl h)) ?_
   refine bO (by kernel_rfl) ?_
   refine az ?_
   refine al _ rfl (fun h3 => ?_) (fun h3 => ?_)
   ·skip
    refine aSR (aA rfl (aNn (aJ (bu (aO (aO (bu (aO ?_))))))))
    refine br [] [] rfl Tryz.results55 rfl ?_ (.inr rfl)
    exact ⟨⟨rfl, rfl⟩, _, rfl, fun _ => trivial⟩
   ·skip
    refine aq (bB (az (aj (aM rfl ?_))))
    refine aU rfl (bd rfl rfl (by omega)) ?_
    refine aA rfl (aNn ?_)
    refine ⟨[1, 3], [0], [0], rfl, ?_⟩
    exact ⟨k + 1, ⟨by omega, rfl⟩, by omega⟩
 ·skip
  refine aX (aY (aY (bf (az (aSR (aA rfl (aNn (aJ ?_))))))))
  refine br [] [] rfl Tryz.results55 rfl ?_ (.inr rfl)
  exact ⟨⟨rfl, rfl⟩, _, rfl, fun _ => trivial⟩
theorem aap {l : List Bool} {i : Nat} (h : l[i]? = some false) : (l.set i true).count true = l.count true + 1 := by
 obtain ⟨hi, h2⟩ := List.getElem?_eq_some_iff.1 h
 rw [List.count_set hi, h2]; simp
def abG (o : ax) (g : du) : Prop := g.secs.l.length ≤ o.secs.l.length ∧ ∀ z ∈ g.secs.l, 0 ≤ z ∧ z < o.secs.l.length
theorem tV (o : ax) (hs : o.secs.l.length ≤ 1000) : Con Tryz.prog 56 [o.val] [o.ok] [] (YB ((∀ g ∈ o.groups.l, abG o g) ∧ o.groups.l.length ≤ o.secs.l.length)) := by
 refine Con.enter Tryz.func56 rfl (by simp [Tryz.ntmps56]) ?_
 show awp _ _ _ _ ⟨[(0, true, _)], _, _⟩
 refine bA (ax.f_groups (.of (aF 0 rfl))) (fun hlen => ?_)
 refine bA (ax.f_secs (.of (aF 0 rfl))) (fun hlen2 => ?_)
 refine aSR ?_
 refine an (q := true) rfl (cx rfl rfl rfl (fun b0_0 => ?_))
 refine aHN ?_
 refine aA rfl (aNn (aSR ?_))
 refine aU rfl (qFA (off := 1) rfl) ?_
 refine aU rfl (ah 0 tk50 rfl rfl rfl) (aU rfl (aZ Tryz.underlying50 rfl) ?_)
 refine an (q := true) rfl (iC (m := o.secs.l.length) (zs := [.bool false]) el68 (by kernel_rfl) rfl (by decide) (eJ rfl (rfl)) (eJ rfl (rfl)) (by omega) rfl (fun v1_3 => ?_))
 refine aHN ?_
 refine aA rfl (aNs (aSR (aA rfl (aNn (aI ?_)))))
 refine aT [1, 3, 4] [0] [0, 1] (fun (q : Nat × List Bool) st => (q.1 ≤ o.groups.l.length ∧ q.2.length = o.secs.l.length ∧ (∀ g ∈ o.groups.l.take q.1, abG o g) ∧ q.1 ≤ q.2.count true) ∧ st = ⟨[(1, true, .pointer (some ⟨b0_0, 0, none⟩)), (3, true, .slice v1_3 o.secs.l.length o.secs.l.length), (4, true, .int .i64 q.1)], [o.ok], [Box b0_0 61 o.vs, bg (.slice v1_3 o.secs.l.length o.secs.l.length) 4 1 (q.2.map fun b : Bool => [D.v (.bool b)])]⟩) (fun q => o.groups.l.length - q.1) rfl (⟨(0, List.replicate o.secs.l.length false), ⟨Nat.zero_le _, by simp, (fun g hg => by cases hg), Nat.zero_le _⟩, by rw [List.map_replicate]; rfl⟩) ?_
 rintro ⟨k, us⟩ st ⟨⟨hk, hus, hG, hct⟩, rfl⟩
 dsimp only at hk hus hG hct ⊢
 refine aH (aSR (aM rfl ?_))
 refine aU rfl (qFA (off := 4) rfl) ?_
 refine aU rfl (ah 0 tk53 rfl rfl rfl) (aU rfl (aZ Tryz.underlying53 rfl) (aU rfl (bw rfl rfl) (aNn ?_)))
 refine al _ rfl (fun h1 => ?_) (fun h1 => ?_)
 ·skip
  have hk' : k < o.groups.l.length := by simp at h1; omega
  obtain ⟨x, hx⟩ : ∃ x, o.groups.l[k]? = some x := ⟨_, List.getElem?_eq_getElem hk'⟩
  refine aq (az (aH (aI (aSR ?_))))
  refine aU rfl (qFA (off := 4) rfl) ?_
  refine aU rfl (ah 0 tk53 rfl rfl rfl) (aM rfl ?_)
  refine cJ true rfl rfl (fun _ => av Tryz.underlying53 tk92 rfl ((ax.f_groups (.of (aF 0 rfl)))) rfl (aQ hx) rfl rfl) (fun h => absurd h (by decide)) (fun ⟨b5_3, o5_3⟩ => ?_)
  refine aU rfl (aP (o := 0) tk92 rfl (aF 0 rfl) rfl rfl) ?_
  refine an (q := true) rfl (bc (zs := [.string .empty, .slice none 0 0]) (by kernel_rfl) rfl (fun b5_5 => ?_))
  refine aHN ?_
  refine an rfl (aV 2 tk92 rfl rfl rfl rfl ?_)
  refine aHK ?_
  refine aNs (aH ?_)
  refine fI (du.f_name (Ent.all (ax.f_groupsA (.of (aF 1 rfl))) hx)) (fun hnl => ?_)
  refine bA (du.f_secs (Ent.all (ax.f_groupsA (.of (aF 1 rfl))) hx)) (fun hgl => ?_)
  refine aj ?_
  refine aU rfl (qFA (off := 0) rfl) ?_
  refine aU rfl (ah 2 tk9 rfl rfl rfl) ?_
  refine bT (caps := []) [] (false) (by kernel_rfl) true rfl rfl (fun _ => rfl) (fun hc => rfl) (fun hc => by rw [List.append_nil]; exact gz _ hnl) (fun c1 hc1 => ?_)
  refine aU rfl (bZ rfl) (aM rfl ?_)
  refine aG rfl rfl (fun hc => qFA (off := 1) rfl) ?_
  refine aG rfl rfl (fun hc => ah 2 tk90 (ae rfl hc) rfl rfl) (aG rfl rfl (fun hc => aZ Tryz.underlying90 (ae rfl hc)) (aG rfl rfl (fun hc => bx (ae rfl hc) rfl) (aU rfl (bY rfl rfl (fun h => gf rfl h)) (aNn ?_))))
  refine al _ rfl (fun h2 => ?_) (fun h2 => ?_)
  ·skip
   refine aSR (aA rfl (aNn (aJ (aO (bu (aO (aO (bu (aO ?_)))))))))
   refine br [] [] rfl Tryz.results56 rfl ?_ (.inr rfl)
   exact ⟨⟨rfl, rfl⟩, _, rfl, fun h => by cases h⟩
  ·skip
   have hne : x.secs.l.length ≠ 0 := by simp at h2; intro h0; exact h2.2 (List.eq_nil_of_length_eq_zero h0)
   refine aq (az (aH (aSR (aA rfl (aNn ?_)))))
   refine aI (aT [1, 3, 4, 5, 6] [0] [0, 1, 2] (fun (j : Nat) st => j ≤ k ∧ st = ⟨[(1, true, .pointer (some ⟨b0_0, 0, none⟩)), (3, true, .slice v1_3 o.secs.l.length o.secs.l.length), (4, true, .int .i64 k), (5, true, .pointer (some ⟨b5_5, 0, none⟩)), (6, true, .int .i64 j)], [o.ok], [Box b0_0 61 o.vs, bg (.slice v1_3 o.secs.l.length o.secs.l.length) 4 1 (us.map fun b : Bool => [D.v (.bool b)]), Box b5_5 92 x.vs]⟩) (fun j => k - j) rfl (⟨0, Nat.zero_le _, rfl⟩) ?_)
   rintro j st ⟨hj, rfl⟩
   refine aH (aSR (aM rfl (aM rfl (aU rfl (bw rfl rfl) (aNn ?_)))))
   refine al _ rfl (fun h3 => ?_) (fun h3 => ?_)
   ·skip
    have hj' : j < k := by simp at h3; omega
    obtain ⟨y, hy⟩ : ∃ y, o.groups.l[j]? = some y := ⟨_, List.getElem?_eq_getElem (by omega)⟩
    refine aq (az (aH (aI (aH ?_))))
    refine bp [] (by kernel_rfl) ?_
    show aB _ _ _ _ _ 9 #[false, false, false, false, false, false, false, false, false] _
    refine bV 0 rfl rfl (qFA (off := 4) rfl) ?_
    refine bV 1 rfl rfl (ah 0 tk53 rfl rfl rfl) ?_
    refine bV 2 rfl rfl (aD rfl) ?_
    refine dC 3 rfl (by kernel_rfl) true rfl rfl (fun _ => av Tryz.underlying53 tk92 rfl ((ax.f_groups (.of (aF 0 rfl)))) rfl (aQ hy) rfl rfl) (fun h => absurd h (by decide)) (fun ⟨b11_3, o11_3⟩ => ?_)
    refine bV 4 rfl rfl (qFA (off := 0) rfl) ?_
    refine bV 5 rfl rfl (aP (o := 0) tk9 rfl (aF 0 rfl) rfl rfl) ?_
    refine bV 6 rfl rfl (qFA (off := 0) rfl) ?_
    refine bV 7 rfl rfl (ah 2 tk9 rfl rfl rfl) ?_
    refine bV 8 rfl rfl (eE rfl rfl) ?_
    refine bO (by kernel_rfl) ?_
    refine az ?_
    refine al _ rfl (fun h4 => ?_) (fun h4 => ?_)
    ·skip
     refine aSR (aA rfl (aNn (aJ (bu (aO (aO (bu (aO (bu (aO (aO (bu (aO ?_)))))))))))))
     refine br [] [] rfl Tryz.results56 rfl ?_ (.inr rfl)
     exact ⟨⟨rfl, rfl⟩, _, rfl, fun h => by cases h⟩
    ·skip
     refine aq (bB (az (aj (aM rfl ?_))))
     refine aU rfl (bd rfl rfl (by omega)) ?_
     refine aA rfl (aNn ?_)
     refine ⟨[1, 3, 4, 5, 6], [0], [0, 1, 2], rfl, ?_⟩
     exact ⟨j + 1, ⟨by omega, rfl⟩, by omega⟩
   ·skip
    refine aX (aY (aY (bf (az (aSR (aA rfl (aNn (aI ?_))))))))
    refine aT [1, 3, 4, 5, 7] [0] [0, 1, 2] (fun (q : Nat × List Bool) st => (q.1 ≤ x.secs.l.length ∧ q.2.length = o.secs.l.length ∧ (∀ z ∈ x.secs.l.take q.1, 0 ≤ z ∧ z < o.secs.l.length) ∧ (∀ (i : Nat) (a b : Int), i + 1 < q.1 → x.secs.l[i]? = some a → x.secs.l[i + 1]? = some b → a < b) ∧ k + q.1 ≤ q.2.count true) ∧ st = ⟨[(1, true, .pointer (some ⟨b0_0, 0, none⟩)), (3, true, .slice v1_3 o.secs.l.length o.secs.l.length), (4, true, .int .i64 k), (5, true, .pointer (some ⟨b5_5, 0, none⟩)), (7, true, .int .i64 q.1)], [o.ok], [Box b0_0 61 o.vs, bg (.slice v1_3 o.secs.l.length o.secs.l.length) 4 1 (q.2.map fun b : Bool => [D.v (.bool b)]), Box b5_5 92 x.vs]⟩) (fun q => x.secs.l.length - q.1) rfl (⟨(0, us), ⟨Nat.zero_le _, hus, fun z hz => (by cases hz), (fun i a b h => by omega), hct⟩, rfl⟩) ?_
    rintro ⟨j2, us2⟩ st ⟨⟨hj2, hus2, hR, hA, hct2⟩, rfl⟩
    dsimp only at hj2 hus2 hR hA hct2 ⊢
    refine aH (aSR (aM rfl ?_))
    refine aU rfl (qFA (off := 1) rfl) ?_
    refine aU rfl (ah 2 tk90 rfl rfl rfl) (aU rfl (aZ Tryz.underlying90 rfl) (aU rfl (bw rfl rfl) (aNn ?_)))
    refine al _ rfl (fun h5 => ?_) (fun h5 => ?_)
    ·skip
     have hj2' : j2 < x.secs.l.length := by simp at h5; omega
     obtain ⟨z, hz⟩ : ∃ z, x.secs.l[j2]? = some z := ⟨_, List.getElem?_eq_getElem hj2'⟩
     refine aq (az (aH (aI (aH (aH ?_)))))
     refine bp [] (by kernel_rfl) ?_
     show aB _ _ _ _ _ 29 #[false, false, false, false, false, false, false, false, false, false, false, false, false, false, false, false, false, false, false, false, false, false, false, false, false, false, false, false, false] _
     refine bV 0 rfl rfl (qFA (off := 1) rfl) ?_
     refine bV 1 rfl rfl (ah 2 tk90 rfl rfl rfl) ?_
     refine bV 2 rfl rfl (aD rfl) ?_
     refine dC 3 rfl (by kernel_rfl) true rfl rfl (fun _ => av Tryz.underlying90 tk3 rfl ((du.f_secs (Ent.all (ax.f_groupsA (.of (aF 0 rfl))) hx))) rfl (aQ hz) rfl rfl) (fun h => absurd h (by decide)) (fun ⟨b16_3, o16_3⟩ => ?_)
     refine bV 4 rfl rfl (aP (o := 0) tk3 rfl (aF 0 rfl) rfl rfl) ?_
     refine bV 5 rfl rfl (qFA (off := 1) rfl) ?_
     refine bV 6 rfl rfl (ah 0 tk50 rfl rfl rfl) ?_
     refine bV 7 rfl rfl (aZ Tryz.underlying50 rfl) ?_
     refine bV 8 rfl rfl (ei rfl rfl (by omega)) ?_
     refine bV 9 rfl rfl (bC (by kernel_rfl) rfl (fun w S fp hst => (dS _ _ _).quiet0 hst)) ?_
     refine bV 10 rfl rfl (bZ rfl) ?_
     refine bV 11 rfl rfl (aD rfl) ?_
     refine bW 12 rfl rfl rfl (fun hc => aD rfl) ?_
     refine bW 13 rfl rfl rfl (fun hc => cN (ae rfl hc) rfl) ?_
     refine bW 14 rfl rfl rfl (fun hc => aD (ae rfl hc)) ?_
     refine bW 15 rfl rfl rfl (fun hc => qFA (off := 1) rfl) ?_
     refine bW 16 rfl rfl rfl (fun hc => ah 2 tk90 (ae rfl hc) rfl rfl) ?_
     refine bW 17 rfl rfl rfl (fun hc => aD rfl) ?_
     refine bW 18 rfl rfl rfl (fun hc => ei (ae rfl hc) rfl (by (first | omega | (simp at hc; omega)))) ?_
     refine dC 19 rfl (by kernel_rfl) _ rfl rfl (fun hc => av Tryz.underlying90 tk3 (ae rfl hc) ((du.f_secs (Ent.all (ax.f_groupsA (.of (aF 1 rfl))) hx))) (ae rfl hc) (bI (i := (j2 : Int) - 1) (by simp at hc; omega) (by simp at hc; omega)) (by simp at hc; omega) rfl) (fun _ => ⟨(0, 0)⟩) (fun ⟨b16_19, o16_19⟩ => ?_)
     refine bW 20 rfl rfl rfl (fun hc => aP (o := 0) tk3 (ae rfl hc) (aF 0 rfl) hc rfl) ?_
     refine bW 21 rfl rfl rfl (fun hc => qFA (off := 1) rfl) ?_
     refine bW 22 rfl rfl rfl (fun hc => ah 2 tk90 (ae rfl hc) rfl rfl) ?_
     refine bW 23 rfl rfl rfl (fun hc => aD rfl) ?_
     refine dC 24 rfl (by kernel_rfl) _ rfl rfl (fun hc => av Tryz.underlying90 tk3 (ae rfl hc) ((du.f_secs (Ent.all (ax.f_groupsA (.of (aF 2 rfl))) hx))) (ae rfl hc) (aQ hz) rfl rfl) (fun _ => ⟨(0, 0)⟩) (fun ⟨b16_24, o16_24⟩ => ?_)
     refine bW 25 rfl rfl rfl (fun hc => aP (o := 0) tk3 (ae rfl hc) (aF 0 rfl) hc rfl) ?_
     refine bW 26 rfl rfl rfl (fun hc => eu (ae rfl hc) (ae rfl hc)) ?_
     refine bW 27 rfl rfl rfl (fun hc => bJ (ae rfl hc) rfl (fun h => gt hc h)) ?_
     refine bV 28 rfl rfl (bY rfl rfl (fun h => gf rfl h)) ?_
     refine bO (by kernel_rfl) ?_
     refine az ?_
     refine al _ rfl (fun h6 => ?_) (fun h6 => ?_)
     ·skip
      refine aSR (aA rfl (aNn (aJ (aO (bu (aO (aO (bu (bu (aO (aO (bu (aO ?_)))))))))))))
      refine br [] [] rfl Tryz.results56 rfl ?_ (.inr rfl)
      exact ⟨⟨rfl, rfl⟩, _, rfl, fun h => by cases h⟩
     ·skip
      have hzr : (0 ≤ z ∧ z < o.secs.l.length) ∧ (0 < j2 → elt x.secs.l ((j2 : Int) - 1) < z) := by
        simp at h6; omega
      have hasc : ∀ (i : Nat) (a b : Int), i + 1 < j2 + 1 → x.secs.l[i]? = some a → x.secs.l[i + 1]? = some b → a < b := fun i a b hi ha hb => by
        by_cases hij : i + 1 = j2
        · subst hij
          rw [hz] at hb
          have h9 := hzr.2 (by omega)
          rw [show (((i + 1 : Nat) : Int) - 1) = (i : Int) by omega] at h9
          unfold elt at h9
          rw [List.getD_eq_getElem?_getD, Int.toNat_natCast, ha] at h9
          rw [← Option.some.inj hb]; exact h9
        · exact hA i a b (by omega) ha hb
      obtain ⟨z0, rfl⟩ := Int.eq_ofNat_of_zero_le hzr.1.1
      obtain ⟨bb, hbb⟩ : ∃ bb, us2[z0]? = some bb := ⟨_, List.getElem?_eq_getElem (by omega)⟩
      refine aq (az (aH (aSR (aM rfl ?_))))
      refine aU rfl (qFA (off := 1) rfl) ?_
      refine aU rfl (ah 2 tk90 rfl rfl rfl) (aM rfl ?_)
      refine cJ true rfl rfl (fun _ => av Tryz.underlying90 tk3 rfl ((du.f_secs (Ent.all (ax.f_groupsA (.of (aF 3 rfl))) hx))) rfl (aQ hz) rfl rfl) (fun h => absurd h (by decide)) (fun ⟨b18_4, o18_4⟩ => ?_)
      refine aU rfl (aP (o := 0) tk3 rfl (aF 0 rfl) rfl rfl) ?_
      refine aU rfl (fM 1 z0 el68 rfl rfl rfl rfl (by rw [List.length_map]; omega)) ?_
      refine aU rfl (eF 1 z0 0 tk4 rfl rfl (aQ hbb) rfl rfl) (aNn ?_)
      refine al _ rfl (fun h7 => ?_) (fun h7 => ?_)
      ·skip
       refine aSR (aA rfl (aNn (aJ (aO (bu (aO (aO (bu (bu (aO (aO (bu (aO ?_)))))))))))))
       refine br [] [] rfl Tryz.results56 rfl ?_ (.inr rfl)
       exact ⟨⟨rfl, rfl⟩, _, rfl, fun h => by cases h⟩
      ·skip
       have hbf : bb = false := by simpa using h7
       subst hbf
       refine aq (az (aj (aM rfl ?_)))
       refine aU rfl (qFA (off := 1) rfl) ?_
       refine aU rfl (ah 2 tk90 rfl rfl rfl) (aM rfl ?_)
       refine cJ true rfl rfl (fun _ => av Tryz.underlying90 tk3 rfl ((du.f_secs (Ent.all (ax.f_groupsA (.of (aF 4 rfl))) hx))) rfl (aQ hz) rfl rfl) (fun h => absurd h (by decide)) (fun ⟨b20_4, o20_4⟩ => ?_)
       refine aU rfl (aP (o := 0) tk3 rfl (aF 0 rfl) rfl rfl) ?_
       refine aU rfl (fM 1 z0 el68 rfl rfl rfl rfl (by rw [List.length_map]; omega)) ?_
       refine an (q := false) rfl (eK 1 z0 0 tk4 rfl rfl rfl (aQ hbb) rfl (.v rfl .nil) rfl (by decide) ?_)
       refine cn (bB (az (aj (aM rfl ?_))))
       refine aU rfl (bd rfl rfl (by omega)) ?_
       refine aA rfl (aNn ?_)
       refine ⟨[1, 3, 4, 5, 7], [0], [0, 1, 2], rfl, ?_⟩
       refine ⟨(j2 + 1, us2.set z0 true), ⟨⟨by dsimp only; omega, by dsimp only; rw [List.length_set]; exact hus2, fun z2 hz2 => ?_, hasc, by dsimp only; rw [aap hbb]; omega⟩, by dsimp only; rw [List.map_set]; rfl⟩, by dsimp only; omega⟩
       dsimp only at hz2
       rw [List.take_add_one, hz, List.mem_append] at hz2
       rcases hz2 with hz2 | hz2
       · exact hR z2 hz2
       · simp at hz2; subst hz2; exact hzr.1
    ·skip
     refine aX (aY (aY (bf (bB (az (aj (aM rfl ?_)))))))
     refine aU rfl (bd rfl rfl (by omega)) ?_
     refine aA rfl (aNn ?_)
     refine ⟨[1, 3, 4], [0], [0, 1], rfl, ?_⟩
     refine ⟨(k + 1, us2), ⟨⟨by dsimp only; omega, hus2, fun g2 hg2 => ?_, by have hj8 : x.secs.l.length ≤ j2 := (by simp at h5; omega); dsimp only; omega⟩, rfl⟩, by dsimp only; omega⟩
     dsimp only at hg2
     rw [List.take_add_one, hx, List.mem_append] at hg2
     rcases hg2 with hg2 | hg2
     · exact hG g2 hg2
     · simp at hg2; rw [hg2]
       have hj9 : x.secs.l.length ≤ j2 := by simp at h5; omega
       rw [List.take_of_length_le hj9] at hR
       refine ⟨yU (fun i a b ha hb => hA i a b ?_ ha hb) hR, hR⟩
       have := (List.getElem?_eq_some_iff.1 hb).1
       omega
 ·skip
  refine aX (aY (aY (bf (az (aSR (aA rfl (aNn (aJ ?_))))))))
  refine br [] [] rfl Tryz.results56 rfl ?_ (.inr rfl)
  refine ⟨⟨rfl, rfl⟩, _, rfl, fun _ => ?_⟩
  rw [List.take_of_length_le (by simp at h1; omega)] at hG
  exact ⟨hG, by have := List.count_le_length (a := true) (l := us); simp at h1; omega⟩
theorem uO (o : ax) : Con Tryz.prog 57 [o.val] [o.ok] [] (YB True) := by
 refine Con.enter Tryz.func57 rfl (by simp [Tryz.ntmps57]) ?_
 show awp _ _ _ _ ⟨[(0, true, _)], _, _⟩
 refine bA (ax.f_inits (.of (aF 0 rfl))) (fun hlen => ?_)
 refine aSR ?_
 refine an (q := true) rfl (cx rfl rfl rfl (fun b0_0 => ?_))
 refine aHN ?_
 refine aA rfl (aNs (aSR (aA rfl (cn ?_))))
 refine az (aI (aT [1, 3] [0] [0] (fun (k : Nat) st => k ≤ o.inits.l.length ∧ st = ⟨[(1, true, .pointer (some ⟨b0_0, 0, none⟩)), (3, true, .int .i64 k)], [o.ok], [Box b0_0 61 o.vs]⟩) (fun k => o.inits.l.length - k) rfl (⟨0, Nat.zero_le _, rfl⟩) ?_))
 rintro k st ⟨hk, rfl⟩
 refine aH (aSR (aM rfl ?_))
 refine aU rfl (qFA (off := 5) rfl) ?_
 refine aU rfl (ah 0 tk54 rfl rfl rfl) (aU rfl (aZ Tryz.underlying54 rfl) (aU rfl (bw rfl rfl) (aNn ?_)))
 refine al _ rfl (fun h1 => ?_) (fun h1 => ?_)
 ·skip
  have hk' : k < o.inits.l.length := by simp at h1; omega
  obtain ⟨x, hx⟩ : ∃ x, o.inits.l[k]? = some x := ⟨_, List.getElem?_eq_getElem hk'⟩
  refine aq (az (aH (aI (aH ?_))))
  refine bp [] (by kernel_rfl) ?_
  show aB _ _ _ _ _ 19 #[false, false, false, false, false, false, false, false, false, false, false, false, false, false, false, false, false, false, false] _
  refine bV 0 rfl rfl (ah 0 tk61 rfl rfl rfl) ?_
  refine bV 1 rfl rfl (qFA (off := 5) rfl) ?_
  refine bV 2 rfl rfl (ah 0 tk54 rfl rfl rfl) ?_
  refine bV 3 rfl rfl (aD rfl) ?_
  refine dC 4 rfl (by kernel_rfl) true rfl rfl (fun _ => av Tryz.underlying54 tk195 rfl ((ax.f_inits (.of (aF 0 rfl)))) rfl (aQ hx) rfl rfl) (fun h => absurd h (by decide)) (fun ⟨b4_4, o4_4⟩ => ?_)
  refine bV 5 rfl rfl (qFA (off := 0) rfl) ?_
  refine bV 6 rfl rfl (aP (o := 0) tk3 rfl (aF 0 rfl) rfl rfl) ?_
  refine lj (caps := []) 7 rfl (by kernel_rfl) [0] (false) (by kernel_rfl) true rfl rfl (fun _ => rfl) (fun hc => rfl) (fun hc => by rw [List.append_nil]; exact jD o _ _) (fun c1 hc1 => ?_)
  refine bV 8 rfl rfl (bZ rfl) ?_
  refine bV 9 rfl rfl (aD rfl) ?_
  refine bW 10 rfl rfl rfl (fun hc => qFA (off := 5) rfl) ?_
  refine bW 11 rfl rfl rfl (fun hc => ah 0 tk54 (ae rfl hc) rfl rfl) ?_
  refine bW 12 rfl rfl rfl (fun hc => aD rfl) ?_
  refine dC 13 rfl (by kernel_rfl) _ rfl rfl (fun hc => av Tryz.underlying54 tk195 (ae rfl hc) ((ax.f_inits (.of (aF 1 rfl)))) (ae rfl hc) (aQ hx) rfl rfl) (fun _ => ⟨(0, 0)⟩) (fun ⟨b4_13, o4_13⟩ => ?_)
  refine bW 14 rfl rfl rfl (fun hc => qFA (off := 1) (ae rfl hc)) ?_
  refine bW 15 rfl rfl rfl (fun hc => aP (o := 1) tk3 (ae rfl hc) (aF 0 rfl) hc rfl) ?_
  refine bW 16 rfl rfl rfl (fun hc => bC (by kernel_rfl) (aS (ae rfl hc) (aS (ae rfl rfl) (aS (ae rfl rfl) rfl))) (fun w S fp hst => (dS _ _ _).quiet0 hst)) ?_
  refine bW 17 rfl rfl rfl (fun hc => bZ (ae rfl hc)) ?_
  refine bV 18 rfl rfl (bY rfl rfl (fun h => gf rfl h)) ?_
  refine bO (by kernel_rfl) ?_
  refine az ?_
  refine al _ rfl (fun h2 => ?_) (fun h2 => ?_)
  ·skip
   refine aSR (aA rfl (aNn (aJ (bu (aO (aO (bu (aO ?_))))))))
   refine br [] [] rfl Tryz.results57 rfl ?_ (.inr rfl)
   exact ⟨⟨rfl, rfl⟩, _, rfl, fun _ => trivial⟩
  ·skip
   refine aq (bB (az (aj (aM rfl ?_))))
   refine aU rfl (bd rfl rfl (by omega)) ?_
   refine aA rfl (aNn ?_)
   refine ⟨[1, 3], [0], [0], rfl, ?_⟩
   exact ⟨k + 1, ⟨by omega, rfl⟩, by omega⟩
 ·skip
  refine aX (aY (aY (bf (az (aSR (aA rfl (aNn (aJ ?_))))))))
  refine br [] [] rfl Tryz.results57 rfl ?_ (.inr rfl)
  exact ⟨⟨rfl, rfl⟩, _, rfl, fun _ => trivial⟩
theorem vH (o : ax) : Con Tryz.prog 58 [o.val] [o.ok] [] (YB True) := by
 refine Con.enter Tryz.func58 rfl (by simp [Tryz.ntmps58]) ?_
 show awp _ _ _ _ ⟨[(0, true, _)], _, _⟩
 refine bA (ax.f_lines (.of (aF 0 rfl))) (fun hlen => ?_)
 refine aSR ?_
 refine an (q := true) rfl (cx rfl rfl rfl (fun b0_0 => ?_))
 refine aHN ?_
 refine aA rfl (aNs (aSR (aA rfl (cn ?_))))
 refine az (aI (aT [1, 3] [0] [0] (fun (k : Nat) st => k ≤ o.lines.l.length ∧ st = ⟨[(1, true, .pointer (some ⟨b0_0, 0, none⟩)), (3, true, .int .i64 k)], [o.ok], [Box b0_0 61 o.vs]⟩) (fun k => o.lines.l.length - k) rfl (⟨0, Nat.zero_le _, rfl⟩) ?_))
 rintro k st ⟨hk, rfl⟩
 refine aH (aSR (aM rfl ?_))
 refine aU rfl (qFA (off := 6) rfl) ?_
 refine aU rfl (ah 0 tk55 rfl rfl rfl) (aU rfl (aZ Tryz.underlying55 rfl) (aU rfl (bw rfl rfl) (aNn ?_)))
 refine al _ rfl (fun h1 => ?_) (fun h1 => ?_)
 ·skip
  have hk' : k < o.lines.l.length := by simp at h1; omega
  obtain ⟨x, hx⟩ : ∃ x, o.lines.l[k]? = some x := ⟨_, List.getElem?_eq_getElem hk'⟩
  refine aq (az (aH (aI (aSR ?_))))
  refine aU rfl (qFA (off := 6) rfl) ?_
  refine aU rfl (ah 0 tk55 rfl rfl rfl) (aM rfl ?_)
  refine cJ true rfl rfl (fun _ => av Tryz.underlying55 tk197 rfl ((ax.f_lines (.of (aF 0 rfl)))) rfl (aQ hx) rfl rfl) (fun h => absurd h (by decide)) (fun ⟨b4_3, o4_3⟩ => ?_)
  refine aU rfl (aP (o := 0) tk197 rfl (aF 0 rfl) rfl rfl) ?_
  refine an (q := true) rfl (bc (zs := [.int .i64 0, .int .i64 0, .string .empty, .int .i64 0]) (by kernel_rfl) rfl (fun b4_5 => ?_))
  refine aHN ?_
  refine an rfl (aV 1 tk197 rfl rfl rfl rfl ?_)
  refine aHK ?_
  refine aNs ?_
  refine fI (gN.f_file (Ent.all (ax.f_linesA (.of (aF 1 rfl))) hx)) (fun hfl => ?_)
  refine aj (aU rfl (ah 0 tk61 rfl rfl rfl) ?_)
  refine aU rfl (qFA (off := 0) rfl) ?_
  refine aU rfl (ah 1 tk3 rfl rfl rfl) ?_
  refine aU rfl (bC (by kernel_rfl) rfl (fun w S fp hst => (fY o _).quiet1 (aF 1 rfl) hst)) ?_
  refine an (q := true) rfl (bc (zs := [.string .empty, .int .i64 0, .int .i64 0, .int .i64 0, .string .empty, .bool false]) (by kernel_rfl) rfl (fun b5_4 => ?_))
  refine aHN ?_
  refine an rfl (aV 2 tk85 rfl rfl rfl rfl ?_)
  refine aHK ?_
  refine aNs (aSR ?_)
  refine aU rfl (qFA (off := 1) rfl) ?_
  refine aU rfl (ah 2 tk3 rfl rfl rfl) (aU rfl (dB rfl rfl) (aM rfl ?_))
  refine aG rfl rfl (fun hc => qFA (off := 1) rfl) ?_
  refine aG rfl rfl (fun hc => ah 1 tk3 (ae rfl hc) rfl rfl) ?_
  refine aG rfl rfl (fun hc => qFA (off := 3) rfl) ?_
  refine aG rfl rfl (fun hc => ah 2 tk3 (ae rfl hc) rfl rfl) (aG rfl rfl (fun hc => lD (ae rfl hc) rfl) ?_)
  refine aG rfl rfl (fun hc => bC (by kernel_rfl) (aS (ae rfl hc) (aS (ae rfl rfl) (aS (ae rfl hc) rfl))) (fun w S fp hst => (dS _ _ _).quiet0 hst)) ?_
  refine aG rfl rfl (fun hc => bZ (ae rfl hc)) (aU rfl (bY rfl rfl (fun h => gf rfl h)) (aM rfl ?_))
  refine aG rfl rfl (fun hc => qFA (off := 1) rfl) ?_
  refine aG rfl rfl (fun hc => ah 1 tk3 (ae rfl hc) rfl rfl) ?_
  refine aG rfl rfl (fun hc => fF (ae rfl hc) rfl (by decide)) ?_
  refine aG rfl rfl (fun hc => dB (ae rfl hc) rfl) (aU rfl (bY rfl rfl (fun h => gf rfl h)) (aM rfl ?_))
  refine aG rfl rfl (fun hc => qFA (off := 2) rfl) ?_
  refine aG rfl rfl (fun hc => ah 1 tk9 (ae rfl hc) rfl rfl) ?_
  refine bT (caps := []) [] (false) (by kernel_rfl) _ rfl rfl (fun _ => rfl) (fun hc => (aS (ae rfl hc) rfl)) (fun hc => by rw [List.append_nil]; exact pI _ hfl) (fun c1 hc1 => ?_)
  refine aG rfl rfl (fun hc => bZ (ae rfl hc)) (aU rfl (bY rfl rfl (fun h => gf rfl h)) (aM rfl ?_))
  refine aG rfl rfl (fun hc => qFA (off := 3) rfl) ?_
  refine aG rfl rfl (fun hc => ah 1 tk3 (ae rfl hc) rfl rfl) ?_
  refine aG rfl rfl (fun hc => bC (by kernel_rfl) (aS (ae rfl hc) (aS (ae rfl rfl) (aS (ae rfl rfl) rfl))) (fun w S fp hst => (dS _ _ _).quiet0 hst)) ?_
  refine aG rfl rfl (fun hc => bZ (ae rfl hc)) (aU rfl (bY rfl rfl (fun h => gf rfl h)) (aNn ?_))
  refine al _ rfl (fun h2 => ?_) (fun h2 => ?_)
  ·skip
   refine aSR (aA rfl (aNn (aJ (aO (bu (aO (aO (bu (aO ?_)))))))))
   refine br [] [] rfl Tryz.results58 rfl ?_ (.inr rfl)
   exact ⟨⟨rfl, rfl⟩, _, rfl, fun _ => trivial⟩
  ·skip
   refine aq (az (aH ?_))
   refine bp [] (by kernel_rfl) ?_
   show aB _ _ _ _ _ 38 #[false, false, false, false, false, false, false, false, false, false, false, false, false, false, false, false, false, false, false, false, false, false, false, false, false, false, false, false, false, false, false, false, false, false, false, false, false, false] _
   refine bV 0 rfl rfl (aD rfl) ?_
   refine bV 1 rfl rfl (cN rfl rfl) ?_
   refine bV 2 rfl rfl (aD rfl) ?_
   refine bW 3 rfl rfl rfl (fun hc => qFA (off := 6) rfl) ?_
   refine bW 4 rfl rfl rfl (fun hc => ah 0 tk55 (ae rfl hc) rfl rfl) ?_
   refine bW 5 rfl rfl rfl (fun hc => aD rfl) ?_
   refine bW 6 rfl rfl rfl (fun hc => ei (ae rfl hc) rfl (by (first | omega | (simp at hc; omega)))) ?_
   refine dC 7 rfl (by kernel_rfl) _ rfl rfl (fun hc => av Tryz.underlying55 tk197 (ae rfl hc) ((ax.f_lines (.of (aF 1 rfl)))) (ae rfl hc) (bI (i := (k : Int) - 1) (by simp at hc; omega) (by simp at hc; omega)) (by simp at hc; omega) rfl) (fun _ => ⟨(0, 0)⟩) (fun ⟨b8_7, o8_7⟩ => ?_)
   refine bW 8 rfl rfl rfl (fun hc => qFA (off := 0) (ae rfl hc)) ?_
   refine bW 9 rfl rfl rfl (fun hc => aP (o := 0) tk3 (ae rfl hc) (aF 0 rfl) hc rfl) ?_
   refine bW 10 rfl rfl rfl (fun hc => qFA (off := 0) rfl) ?_
   refine bW 11 rfl rfl rfl (fun hc => ah 1 tk3 (ae rfl hc) rfl rfl) ?_
   refine bW 12 rfl rfl rfl (fun hc => cN (ae rfl hc) (ae rfl hc)) ?_
   refine bW 13 rfl rfl rfl (fun hc => aD (ae rfl hc)) ?_
   refine bW 14 rfl rfl rfl (fun hc => qFA (off := 6) rfl) ?_
   refine bW 15 rfl rfl rfl (fun hc => ah 0 tk55 (ae rfl hc) rfl rfl) ?_
   refine bW 16 rfl rfl rfl (fun hc => aD rfl) ?_
   refine bW 17 rfl rfl rfl (fun hc => ei (ae rfl hc) rfl (by (first | omega | (simp at hc; omega)))) ?_
   refine dC 18 rfl (by kernel_rfl) _ rfl rfl (fun hc => av Tryz.underlying55 tk197 (ae rfl hc) ((ax.f_lines (.of (aF 2 rfl)))) (ae rfl hc) (bI (i := (k : Int) - 1) (by simp at hc; omega) (by simp at hc; omega)) (by simp at hc; omega) rfl) (fun _ => ⟨(0, 0)⟩) (fun ⟨b8_18, o8_18⟩ => ?_)
   refine bW 19 rfl rfl rfl (fun hc => qFA (off := 0) (ae rfl hc)) ?_
   refine bW 20 rfl rfl rfl (fun hc => aP (o := 0) tk3 (ae rfl hc) (aF 0 rfl) hc rfl) ?_
   refine bW 21 rfl rfl rfl (fun hc => qFA (off := 0) rfl) ?_
   refine bW 22 rfl rfl rfl (fun hc => ah 1 tk3 (ae rfl hc) rfl rfl) ?_
   refine bW 23 rfl rfl rfl (fun hc => bx (ae rfl hc) (ae rfl hc)) ?_
   refine bW 24 rfl rfl rfl (fun hc => aD (ae rfl hc)) ?_
   refine bW 25 rfl rfl rfl (fun hc => qFA (off := 6) rfl) ?_
   refine bW 26 rfl rfl rfl (fun hc => ah 0 tk55 (ae rfl hc) rfl rfl) ?_
   refine bW 27 rfl rfl rfl (fun hc => aD rfl) ?_
   refine bW 28 rfl rfl rfl (fun hc => ei (ae rfl hc) rfl (by (first | omega | (simp at hc; omega)))) ?_
   refine dC 29 rfl (by kernel_rfl) _ rfl rfl (fun hc => av Tryz.underlying55 tk197 (ae rfl hc) ((ax.f_lines (.of (aF 3 rfl)))) (ae rfl hc) (bI (i := (k : Int) - 1) (by simp at hc; omega) (by simp at hc; omega)) (by simp at hc; omega) rfl) (fun _ => ⟨(0, 0)⟩) (fun ⟨b8_29, o8_29⟩ => ?_)
   refine bW 30 rfl rfl rfl (fun hc => qFA (off := 1) (ae rfl hc)) ?_
   refine bW 31 rfl rfl rfl (fun hc => aP (o := 1) tk3 (ae rfl hc) (aF 0 rfl) hc rfl) ?_
   refine bW 32 rfl rfl rfl (fun hc => qFA (off := 1) rfl) ?_
   refine bW 33 rfl rfl rfl (fun hc => ah 1 tk3 (ae rfl hc) rfl rfl) ?_
   refine bW 34 rfl rfl rfl (fun hc => eu (ae rfl hc) (ae rfl hc)) ?_
   refine bW 35 rfl rfl rfl (fun hc => bJ (ae rfl hc) rfl (fun h => gt hc h)) ?_
   refine bW 36 rfl rfl rfl (fun hc => bY (ae rfl hc) rfl (fun h => gf hc h)) ?_
   refine bV 37 rfl rfl (bJ rfl rfl (fun h => gt rfl h)) ?_
   refine bO (by kernel_rfl) ?_
   refine az ?_
   refine al _ rfl (fun h3 => ?_) (fun h3 => ?_)
   ·skip
    refine aSR (aA rfl (aNn (aJ (bu (aO (aO (bu (aO ?_))))))))
    refine br [] [] rfl Tryz.results58 rfl ?_ (.inr rfl)
    exact ⟨⟨rfl, rfl⟩, _, rfl, fun _ => trivial⟩
   ·skip
    refine aq (bB (az (aj (aM rfl ?_))))
    refine aU rfl (bd rfl rfl (by omega)) ?_
    refine aA rfl (aNn ?_)
    refine ⟨[1, 3], [0], [0], rfl, ?_⟩
    exact ⟨k + 1, ⟨by omega, rfl⟩, by omega⟩
 ·skip
  refine aX (aY (aY (bf (az (aSR (aA rfl (aNn (aJ ?_))))))))
  refine br [] [] rfl Tryz.results58 rfl ?_ (.inr rfl)
  exact ⟨⟨rfl, rfl⟩, _, rfl, fun _ => trivial⟩
theorem lW (o : ax) (a b c : Int) : Con Tryz.prog 116 [o.val, .int .i64 a, .int .i64 b, .int .i64 c] [o.ok] [] (YB True) := by
 refine Con.enter Tryz.func116 rfl (by simp [Tryz.ntmps116]) ?_
 show awp _ _ _ _ ⟨[(0, true, _), (1, true, _), (2, true, _), (3, true, _)], _, _⟩
 refine aSR ?_
 refine an (q := true) rfl (cx rfl rfl rfl (fun b0_0 => ?_))
 refine aHN ?_
 refine aA rfl (aNn (aSR (aU rfl (ah 0 tk61 rfl rfl rfl) (aM rfl ?_))))
 refine aU rfl (bC (by kernel_rfl) rfl (fun w S fp hst => (fY o _).quiet1 (aF 0 rfl) hst)) ?_
 refine an (q := true) rfl (bc (zs := [.string .empty, .int .i64 0, .int .i64 0, .int .i64 0, .string .empty, .bool false]) (by kernel_rfl) rfl (fun b1_3 => ?_))
 refine aHN ?_
 refine an rfl (aV 1 tk85 rfl rfl rfl rfl ?_)
 refine aHK ?_
 refine aNn (aSR ?_)
 refine aU rfl (qFA (off := 1) rfl) ?_
 refine aU rfl (ah 1 tk3 rfl rfl rfl) (aU rfl (bx rfl rfl) (aM rfl (aG rfl rfl (fun hc => aD rfl) (aG rfl rfl (fun hc => eu (ae rfl hc) rfl) (aU rfl (bJ rfl rfl (fun h => gt rfl h)) (aM rfl (aG rfl rfl (fun hc => aD rfl) (aG rfl rfl (fun hc => aD rfl) (aG rfl rfl (fun hc => bw (ae rfl hc) (ae rfl hc)) (aU rfl (bJ rfl rfl (fun h => gt rfl h)) (aM rfl (aG rfl rfl (fun hc => aD rfl) ?_))))))))))))
 refine aG rfl rfl (fun hc => qFA (off := 3) rfl) ?_
 refine aG rfl rfl (fun hc => ah 1 tk3 (ae rfl hc) rfl rfl) (aG rfl rfl (fun hc => jt (ae rfl hc) (ae rfl hc)) (aU rfl (bJ rfl rfl (fun h => gt rfl h)) (aM rfl (aG rfl rfl (fun hc => aD rfl) ?_))))
 refine aG rfl rfl (fun hc => fF (ae rfl hc) rfl (by decide)) ?_
 refine aG rfl rfl (fun hc => bx (ae rfl hc) rfl) (aU rfl (bJ rfl rfl (fun h => gt rfl h)) (aM rfl (aG rfl rfl (fun hc => aD rfl) ?_)))
 refine aG rfl rfl (fun hc => fF (ae rfl hc) rfl (by decide)) ?_
 refine aG rfl rfl (fun hc => bx (ae rfl hc) rfl) (aU rfl (bJ rfl rfl (fun h => gt rfl h)) (aA rfl (aNn (aJ ?_))))
 refine br [] [] rfl Tryz.results116 rfl ?_ (.inr rfl)
 exact ⟨⟨rfl, rfl⟩, _, rfl, fun _ => trivial⟩
theorem qP (o : ax) : Con Tryz.prog 59 [o.val] [o.ok] [] (YB True) := by
 refine Con.enter Tryz.func59 rfl (by simp [Tryz.ntmps59]) ?_
 show awp _ _ _ _ ⟨[(0, true, _)], _, _⟩
 refine bA (ax.f_inlines (.of (aF 0 rfl))) (fun hlen => ?_)
 refine aSR ?_
 refine an (q := true) rfl (cx rfl rfl rfl (fun b0_0 => ?_))
 refine aHN ?_
 refine aA rfl (aNs (aSR (aA rfl (cn ?_))))
 refine az (aI (aT [1, 3] [0] [0] (fun (k : Nat) st => k ≤ o.inlines.l.length ∧ st = ⟨[(1, true, .pointer (some ⟨b0_0, 0, none⟩)), (3, true, .int .i64 k)], [o.ok], [Box b0_0 61 o.vs]⟩) (fun k => o.inlines.l.length - k) rfl (⟨0, Nat.zero_le _, rfl⟩) ?_))
 rintro k st ⟨hk, rfl⟩
 refine aH (aSR (aM rfl ?_))
 refine aU rfl (qFA (off := 7) rfl) ?_
 refine aU rfl (ah 0 tk56 rfl rfl rfl) (aU rfl (aZ Tryz.underlying56 rfl) (aU rfl (bw rfl rfl) (aNn ?_)))
 refine al _ rfl (fun h1 => ?_) (fun h1 => ?_)
 ·skip
  have hk' : k < o.inlines.l.length := by simp at h1; omega
  obtain ⟨x, hx⟩ : ∃ x, o.inlines.l[k]? = some x := ⟨_, List.getElem?_eq_getElem hk'⟩
  refine aq (az (aH (aI (aSR ?_))))
  refine aU rfl (qFA (off := 7) rfl) ?_
  refine aU rfl (ah 0 tk56 rfl rfl rfl) (aM rfl ?_)
  refine cJ true rfl rfl (fun _ => av Tryz.underlying56 tk200 rfl ((ax.f_inlines (.of (aF 0 rfl)))) rfl (aQ hx) rfl rfl) (fun h => absurd h (by decide)) (fun ⟨b4_3, o4_3⟩ => ?_)
  refine aU rfl (aP (o := 0) tk200 rfl (aF 0 rfl) rfl rfl) ?_
  refine an (q := true) rfl (bc (zs := [.int .i64 0, .int .i64 0, .int .i64 0, .string .empty, .string .empty, .int .i64 0]) (by kernel_rfl) rfl (fun b4_5 => ?_))
  refine aHN ?_
  refine an rfl (aV 1 tk200 rfl rfl rfl rfl ?_)
  refine aHK ?_
  refine aNs (aH ?_)
  refine fI (dN.f_name (Ent.all (ax.f_inlinesA (.of (aF 1 rfl))) hx)) (fun hnl => ?_)
  refine fI (dN.f_file (Ent.all (ax.f_inlinesA (.of (aF 1 rfl))) hx)) (fun hfl => ?_)
  refine aj (aU rfl (ah 0 tk61 rfl rfl rfl) ?_)
  refine aU rfl (qFA (off := 0) rfl) ?_
  refine aU rfl (ah 1 tk3 rfl rfl rfl) ?_
  refine aU rfl (qFA (off := 1) rfl) ?_
  refine aU rfl (ah 1 tk3 rfl rfl rfl) ?_
  refine aU rfl (qFA (off := 2) rfl) ?_
  refine aU rfl (ah 1 tk3 rfl rfl rfl) ?_
  refine bT (caps := []) [0] (false) (by kernel_rfl) true rfl rfl (fun _ => rfl) (fun hc => rfl) (fun hc => by rw [List.append_nil]; exact lW o _ _ _) (fun c1 hc1 => ?_)
  refine aU rfl (bZ rfl) (aM rfl ?_)
  refine aG rfl rfl (fun hc => qFA (off := 3) rfl) ?_
  refine aG rfl rfl (fun hc => ah 1 tk9 (ae rfl hc) rfl rfl) ?_
  refine bT (caps := []) [] (false) (by kernel_rfl) _ rfl rfl (fun _ => rfl) (fun hc => (aS (ae rfl hc) rfl)) (fun hc => by rw [List.append_nil]; exact gz _ hnl) (fun c2 hc2 => ?_)
  refine aG rfl rfl (fun hc => bZ (ae rfl hc)) (aU rfl (bY rfl rfl (fun h => gf rfl h)) (aM rfl ?_))
  refine aG rfl rfl (fun hc => qFA (off := 4) rfl) ?_
  refine aG rfl rfl (fun hc => ah 1 tk9 (ae rfl hc) rfl rfl) ?_
  refine bT (caps := []) [] (false) (by kernel_rfl) _ rfl rfl (fun _ => rfl) (fun hc => (aS (ae rfl hc) rfl)) (fun hc => by rw [List.append_nil]; exact pI _ hfl) (fun c3 hc3 => ?_)
  refine aG rfl rfl (fun hc => bZ (ae rfl hc)) (aU rfl (bY rfl rfl (fun h => gf rfl h)) (aM rfl ?_))
  refine aG rfl rfl (fun hc => qFA (off := 5) rfl) ?_
  refine aG rfl rfl (fun hc => ah 1 tk3 (ae rfl hc) rfl rfl) ?_
  refine aG rfl rfl (fun hc => bC (by kernel_rfl) (aS (ae rfl hc) (aS (ae rfl rfl) (aS (ae rfl rfl) rfl))) (fun w S fp hst => (dS _ _ _).quiet0 hst)) ?_
  refine aG rfl rfl (fun hc => bZ (ae rfl hc)) (aU rfl (bY rfl rfl (fun h => gf rfl h)) (aNn ?_))
  refine al _ rfl (fun h2 => ?_) (fun h2 => ?_)
  ·skip
   refine aSR (aA rfl (aNn (aJ (aO (bu (aO (aO (bu (aO ?_)))))))))
   refine br [] [] rfl Tryz.results59 rfl ?_ (.inr rfl)
   exact ⟨⟨rfl, rfl⟩, _, rfl, fun _ => trivial⟩
  ·skip
   refine aq (az (aSR (aA rfl (aNn (aI ?_)))))
   refine aT [1, 3, 4, 5] [0] [0, 1] (fun (j : Nat) st => j ≤ k ∧ st = ⟨[(1, true, .pointer (some ⟨b0_0, 0, none⟩)), (3, true, .int .i64 k), (4, true, .pointer (some ⟨b4_5, 0, none⟩)), (5, true, .int .i64 j)], [o.ok], [Box b0_0 61 o.vs, Box b4_5 200 x.vs]⟩) (fun j => k - j) rfl (⟨0, Nat.zero_le _, rfl⟩) ?_
   rintro j st ⟨hj, rfl⟩
   refine aH (aSR (aM rfl (aM rfl (aU rfl (bw rfl rfl) (aNn ?_)))))
   refine al _ rfl (fun h3 => ?_) (fun h3 => ?_)
   ·skip
    have hj' : j < k := by simp at h3; omega
    obtain ⟨y, hy⟩ : ∃ y, o.inlines.l[j]? = some y := ⟨_, List.getElem?_eq_getElem (by omega)⟩
    refine aq (az (aH (aI (aSR ?_))))
    refine aU rfl (qFA (off := 7) rfl) ?_
    refine aU rfl (ah 0 tk56 rfl rfl rfl) (aM rfl ?_)
    refine cJ true rfl rfl (fun _ => av Tryz.underlying56 tk200 rfl ((ax.f_inlines (.of (aF 0 rfl)))) rfl (aQ hy) rfl rfl) (fun h => absurd h (by decide)) (fun ⟨b10_3, o10_3⟩ => ?_)
    refine aU rfl (aP (o := 0) tk200 rfl (aF 0 rfl) rfl rfl) ?_
    refine an (q := true) rfl (bc (zs := [.int .i64 0, .int .i64 0, .int .i64 0, .string .empty, .string .empty, .int .i64 0]) (by kernel_rfl) rfl (fun b10_5 => ?_))
    refine aHN ?_
    refine an rfl (aV 2 tk200 rfl rfl rfl rfl ?_)
    refine aHK ?_
    refine aNs (aSR ?_)
    refine aU rfl (qFA (off := 0) rfl) ?_
    refine aU rfl (ah 2 tk3 rfl rfl rfl) ?_
    refine aU rfl (qFA (off := 0) rfl) ?_
    refine aU rfl (ah 1 tk3 rfl rfl rfl) (aU rfl (cN rfl rfl) (aNn ?_))
    refine al _ rfl (fun h4 => ?_) (fun h4 => ?_)
    ·skip
     refine aSR (aA rfl (aNn (aJ (aO (bu (aO (aO (bu (bu (aO (aO (bu (aO ?_)))))))))))))
     refine br [] [] rfl Tryz.results59 rfl ?_ (.inr rfl)
     exact ⟨⟨rfl, rfl⟩, _, rfl, fun _ => trivial⟩
    ·skip
     refine aq (az (aH (aSR ?_)))
     refine aU rfl (qFA (off := 0) rfl) ?_
     refine aU rfl (ah 2 tk3 rfl rfl rfl) ?_
     refine aU rfl (qFA (off := 0) rfl) ?_
     refine aU rfl (ah 1 tk3 rfl rfl rfl) (aU rfl (bw rfl rfl) (aNn ?_))
     refine al _ rfl (fun h5 => ?_) (fun h5 => ?_)
     ·skip
      refine aX (aY (bf (az (aj (aM rfl ?_)))))
      refine aU rfl (bd rfl rfl (by omega)) ?_
      refine aA rfl (aNn ?_)
      refine ⟨[1, 3, 4, 5], [0], [0, 1], rfl, ?_⟩
      exact ⟨j + 1, ⟨by omega, rfl⟩, by omega⟩
     ·skip
      refine aq (az (aSR ?_))
      refine aU rfl (qFA (off := 1) rfl) ?_
      refine aU rfl (ah 2 tk3 rfl rfl rfl) ?_
      refine aU rfl (qFA (off := 1) rfl) ?_
      refine aU rfl (ah 1 tk3 rfl rfl rfl) (aU rfl (cN rfl rfl) (aM rfl ?_))
      refine aG rfl rfl (fun hc => qFA (off := 1) rfl) ?_
      refine aG rfl rfl (fun hc => ah 2 tk3 (ae rfl hc) rfl rfl) ?_
      refine aG rfl rfl (fun hc => qFA (off := 1) rfl) ?_
      refine aG rfl rfl (fun hc => ah 1 tk3 (ae rfl hc) rfl rfl) (aG rfl rfl (fun hc => bx (ae rfl hc) (ae rfl hc)) (aG rfl rfl (fun hc => aD (ae rfl hc)) ?_))
      refine aG rfl rfl (fun hc => qFA (off := 2) rfl) ?_
      refine aG rfl rfl (fun hc => ah 2 tk3 (ae rfl hc) rfl rfl) ?_
      refine aG rfl rfl (fun hc => qFA (off := 2) rfl) ?_
      refine aG rfl rfl (fun hc => ah 1 tk3 (ae rfl hc) rfl rfl) (aG rfl rfl (fun hc => bw (ae rfl hc) (ae rfl hc)) (aG rfl rfl (fun hc => bJ (ae rfl hc) rfl (fun h => gt hc h)) (aU rfl (bY rfl rfl (fun h => gf rfl h)) (aM rfl ?_))))
      refine aG rfl rfl (fun hc => qFA (off := 2) rfl) ?_
      refine aG rfl rfl (fun hc => ah 2 tk3 (ae rfl hc) rfl rfl) ?_
      refine aG rfl rfl (fun hc => qFA (off := 1) rfl) ?_
      refine aG rfl rfl (fun hc => ah 1 tk3 (ae rfl hc) rfl rfl) (aG rfl rfl (fun hc => cN (ae rfl hc) (ae rfl hc)) (aG rfl rfl (fun hc => aD (ae rfl hc)) ?_))
      refine aG rfl rfl (fun hc => qFA (off := 2) rfl) ?_
      refine aG rfl rfl (fun hc => ah 2 tk3 (ae rfl hc) rfl rfl) ?_
      refine aG rfl rfl (fun hc => qFA (off := 2) rfl) ?_
      refine aG rfl rfl (fun hc => ah 1 tk3 (ae rfl hc) rfl rfl) (aG rfl rfl (fun hc => bw (ae rfl hc) (ae rfl hc)) (aG rfl rfl (fun hc => bJ (ae rfl hc) rfl (fun h => gt hc h)) (aU rfl (bY rfl rfl (fun h => gf rfl h)) (aNn ?_))))
      refine al _ rfl (fun h6 => ?_) (fun h6 => ?_)
      ·skip
       refine aSR (aA rfl (aNn (aJ (bu (aO (aO (bu (bu (aO (aO (bu (aO ?_))))))))))))
       refine br [] [] rfl Tryz.results59 rfl ?_ (.inr rfl)
       exact ⟨⟨rfl, rfl⟩, _, rfl, fun _ => trivial⟩
      ·skip
       refine aq (bB (az (aj (aM rfl ?_))))
       refine aU rfl (bd rfl rfl (by omega)) ?_
       refine aA rfl (aNn ?_)
       refine ⟨[1, 3, 4, 5], [0], [0, 1], rfl, ?_⟩
       exact ⟨j + 1, ⟨by omega, rfl⟩, by omega⟩
   ·skip
    refine aX (aY (aY (bf (bB (az (aj (aM rfl ?_)))))))
    refine aU rfl (bd rfl rfl (by omega)) ?_
    refine aA rfl (aNn ?_)
    refine ⟨[1, 3], [0], [0], rfl, ?_⟩
    exact ⟨k + 1, ⟨by omega, rfl⟩, by omega⟩
 ·skip
  refine aX (aY (aY (bf (az (aSR (aA rfl (aNn (aJ ?_))))))))
  refine br [] [] rfl Tryz.results59 rfl ?_ (.inr rfl)
  exact ⟨⟨rfl, rfl⟩, _, rfl, fun _ => trivial⟩
theorem yR (o : ax) (x : iV) : Con Tryz.prog 117 [o.val, x.val] [o.ok, x.ok] [] (YB True) := by
 refine Con.enter Tryz.func117 rfl (by simp [Tryz.ntmps117]) ?_
 show awp _ _ _ _ ⟨[(0, true, _), (1, true, _)], _, _⟩
 refine fI (iV.f_name (.of (aF 1 rfl))) (fun hnl => ?_)
 refine aSR ?_
 refine an (q := true) rfl (cx rfl rfl rfl (fun b0_0 => ?_))
 refine aHN ?_
 refine an (q := true) rfl (cx rfl rfl rfl (fun b0_1 => ?_))
 refine aHN ?_
 refine aA rfl (aNs (aSR (aU rfl (ah 0 tk61 rfl rfl rfl) ?_)))
 refine aU rfl (qFA (off := 0) rfl) ?_
 refine aU rfl (ah 1 tk3 rfl rfl rfl) ?_
 refine aU rfl (qFA (off := 1) rfl) ?_
 refine aU rfl (ah 1 tk3 rfl rfl rfl) ?_
 refine aU rfl (qFA (off := 2) rfl) ?_
 refine aU rfl (ah 1 tk3 rfl rfl rfl) ?_
 refine bT (caps := []) [1] (false) (by kernel_rfl) true rfl rfl (fun _ => rfl) (fun hc => rfl) (fun hc => by rw [List.append_nil]; exact lW o _ _ _) (fun c1 hc1 => ?_)
 refine aU rfl (bZ rfl) (aM rfl ?_)
 refine aG rfl rfl (fun hc => qFA (off := 3) rfl) ?_
 refine aG rfl rfl (fun hc => ah 1 tk9 (ae rfl hc) rfl rfl) ?_
 refine bT (caps := []) [] (false) (by kernel_rfl) _ rfl rfl (fun _ => rfl) (fun hc => (aS (ae rfl hc) rfl)) (fun hc => by rw [List.append_nil]; exact gz _ hnl) (fun c2 hc2 => ?_)
 refine aG rfl rfl (fun hc => bZ (ae rfl hc)) (aU rfl (bY rfl rfl (fun h => gf rfl h)) (aNn ?_))
 refine al _ rfl (fun h1 => ?_) (fun h1 => ?_)
 ·skip
  refine aSR (aA rfl (aNn (aJ (aO ?_))))
  refine br [] [] rfl Tryz.results117 rfl ?_ (.inr rfl)
  exact ⟨⟨rfl, rfl⟩, _, rfl, fun _ => trivial⟩
 ·skip
  refine aq (az (aH (aSR ?_)))
  refine aU rfl (qFA (off := 4) rfl) ?_
  refine aU rfl (ah 1 tk3 rfl rfl rfl) (aU rfl (bx rfl rfl) (aNn ?_))
  refine al _ rfl (fun h2 => ?_) (fun h2 => ?_)
  ·skip
   refine aSR ?_
   refine aU rfl (qFA (off := 5) rfl) ?_
   refine aU rfl (ah 1 tk3 rfl rfl rfl) ?_
   refine aU rfl (bC (by kernel_rfl) rfl (fun w S fp hst => (dS _ _ _).quiet0 hst)) ?_
   refine aA rfl (aNn (aJ (aO ?_)))
   refine br [] [] rfl Tryz.results117 rfl ?_ (.inr rfl)
   exact ⟨⟨rfl, rfl⟩, _, rfl, fun _ => trivial⟩
  ·skip
   refine aq (az (aH (aSR ?_)))
   refine aU rfl (qFA (off := 4) rfl) ?_
   refine aU rfl (ah 1 tk3 rfl rfl rfl) (aU rfl (bx rfl rfl) (aNn ?_))
   refine al _ rfl (fun h3 => ?_) (fun h3 => ?_)
   ·skip
    refine aSR ?_
    refine aU rfl (qFA (off := 5) rfl) ?_
    refine aU rfl (ah 1 tk3 rfl rfl rfl) ?_
    refine aU rfl (bC (by kernel_rfl) rfl (fun w S fp hst => (dS _ _ _).quiet0 hst)) ?_
    refine aM rfl ?_
    refine aG rfl rfl (fun hc => qFA (off := 5) rfl) ?_
    refine aG rfl rfl (fun hc => ah 1 tk3 (ae rfl hc) rfl rfl) ?_
    refine aG rfl rfl (fun hc => fF (ae rfl hc) rfl (by decide)) ?_
    refine aG rfl rfl (fun hc => bx (ae rfl hc) rfl) (aU rfl (bJ rfl rfl (fun h => gt rfl h)) (aA rfl (aNn (aJ (aO ?_)))))
    refine br [] [] rfl Tryz.results117 rfl ?_ (.inr rfl)
    exact ⟨⟨rfl, rfl⟩, _, rfl, fun _ => trivial⟩
   ·skip
    refine aq (az (aSR ?_))
    refine aU rfl (qFA (off := 4) rfl) ?_
    refine aU rfl (ah 1 tk3 rfl rfl rfl) (aU rfl (bx rfl rfl) (aM rfl (aG rfl rfl (fun hc => ah 0 tk61 rfl rfl rfl) ?_)))
    refine aG rfl rfl (fun hc => qFA (off := 5) rfl) ?_
    refine aG rfl rfl (fun hc => ah 1 tk3 (ae rfl hc) rfl rfl) ?_
    refine bT (caps := []) [1] (false) (by kernel_rfl) _ rfl rfl (fun _ => rfl) (fun hc => (aS (ae rfl hc) (aS (ae rfl hc) (aS (ae rfl rfl) rfl)))) (fun hc => by rw [List.append_nil]; exact jD o _ _) (fun c3 hc3 => ?_)
    refine aU rfl (bJ rfl rfl (fun h => gt rfl h)) (aA rfl (aNn (aJ ?_)))
    refine br [] [] rfl Tryz.results117 rfl ?_ (.inr rfl)
    exact ⟨⟨rfl, rfl⟩, _, rfl, fun _ => trivial⟩
theorem rV (x y : iV) : Con Tryz.prog 118 [x.val, y.val] [] [] (YB True) := by
 refine Con.enter Tryz.func118 rfl (by simp [Tryz.ntmps118]) ?_
 show awp _ _ _ _ ⟨[(0, true, _), (1, true, _)], _, _⟩
 refine aSR ?_
 refine an (q := true) rfl (cx rfl rfl rfl (fun b0_0 => ?_))
 refine aHN ?_
 refine an (q := true) rfl (cx rfl rfl rfl (fun b0_1 => ?_))
 refine aHN ?_
 refine aA rfl (aNs (aSR ?_))
 refine aU rfl (qFA (off := 0) rfl) ?_
 refine aU rfl (ah 0 tk3 rfl rfl rfl) ?_
 refine aU rfl (qFA (off := 0) rfl) ?_
 refine aU rfl (ah 1 tk3 rfl rfl rfl) (aU rfl (dB rfl rfl) (aNn ?_))
 refine al _ rfl (fun h1 => ?_) (fun h1 => ?_)
 ·skip
  refine aSR ?_
  refine aU rfl (qFA (off := 0) rfl) ?_
  refine aU rfl (ah 0 tk3 rfl rfl rfl) ?_
  refine aU rfl (qFA (off := 0) rfl) ?_
  refine aU rfl (ah 1 tk3 rfl rfl rfl) (aU rfl (bw rfl rfl) (aA rfl (aNn (aJ (aO ?_)))))
  refine br [] [] rfl Tryz.results118 rfl ?_ (.inr rfl)
  exact ⟨⟨rfl, rfl⟩, _, rfl, fun _ => trivial⟩
 ·skip
  refine aq (az (aH (aSR ?_)))
  refine aU rfl (qFA (off := 1) rfl) ?_
  refine aU rfl (ah 0 tk3 rfl rfl rfl) ?_
  refine aU rfl (qFA (off := 1) rfl) ?_
  refine aU rfl (ah 1 tk3 rfl rfl rfl) (aU rfl (dB rfl rfl) (aNn ?_))
  refine al _ rfl (fun h2 => ?_) (fun h2 => ?_)
  ·skip
   refine aSR ?_
   refine aU rfl (qFA (off := 1) rfl) ?_
   refine aU rfl (ah 0 tk3 rfl rfl rfl) ?_
   refine aU rfl (qFA (off := 1) rfl) ?_
   refine aU rfl (ah 1 tk3 rfl rfl rfl) (aU rfl (bw rfl rfl) (aA rfl (aNn (aJ (aO ?_)))))
   refine br [] [] rfl Tryz.results118 rfl ?_ (.inr rfl)
   exact ⟨⟨rfl, rfl⟩, _, rfl, fun _ => trivial⟩
  ·skip
   refine aq (az (aH (aSR ?_)))
   refine aU rfl (qFA (off := 2) rfl) ?_
   refine aU rfl (ah 0 tk3 rfl rfl rfl) ?_
   refine aU rfl (qFA (off := 2) rfl) ?_
   refine aU rfl (ah 1 tk3 rfl rfl rfl) (aU rfl (dB rfl rfl) (aNn ?_))
   refine al _ rfl (fun h3 => ?_) (fun h3 => ?_)
   ·skip
    refine aSR ?_
    refine aU rfl (qFA (off := 2) rfl) ?_
    refine aU rfl (ah 0 tk3 rfl rfl rfl) ?_
    refine aU rfl (qFA (off := 2) rfl) ?_
    refine aU rfl (ah 1 tk3 rfl rfl rfl) (aU rfl (bw rfl rfl) (aA rfl (aNn (aJ (aO ?_)))))
    refine br [] [] rfl Tryz.results118 rfl ?_ (.inr rfl)
    exact ⟨⟨rfl, rfl⟩, _, rfl, fun _ => trivial⟩
   ·skip
    refine aq (az (aSR ?_))
    refine aU rfl (qFA (off := 3) rfl) ?_
    refine aU rfl (ah 0 tk9 rfl rfl rfl) ?_
    refine aU rfl (qFA (off := 3) rfl) ?_
    refine aU rfl (ah 1 tk9 rfl rfl rfl) (aU rfl (zF rfl rfl) (aA rfl (aNn (aJ ?_))))
    refine br [] [] rfl Tryz.results118 rfl ?_ (.inr rfl)
    exact ⟨⟨rfl, rfl⟩, _, rfl, fun _ => trivial⟩
theorem xv (o : ax) : Con Tryz.prog 60 [o.val] [o.ok] [] (YB True) := by
 refine Con.enter Tryz.func60 rfl (by simp [Tryz.ntmps60]) ?_
 show awp _ _ _ _ ⟨[(0, true, _)], _, _⟩
 refine bA (ax.f_vars (.of (aF 0 rfl))) (fun hlen => ?_)
 refine aSR ?_
 refine an (q := true) rfl (cx rfl rfl rfl (fun b0_0 => ?_))
 refine aHN ?_
 refine aA rfl (aNs (aSR (aA rfl (cn ?_))))
 refine az (aI (aT [1, 3] [0] [0] (fun (k : Nat) st => k ≤ o.vars.l.length ∧ st = ⟨[(1, true, .pointer (some ⟨b0_0, 0, none⟩)), (3, true, .int .i64 k)], [o.ok], [Box b0_0 61 o.vs]⟩) (fun k => o.vars.l.length - k) rfl (⟨0, Nat.zero_le _, rfl⟩) ?_))
 rintro k st ⟨hk, rfl⟩
 refine aH (aSR (aM rfl ?_))
 refine aU rfl (qFA (off := 8) rfl) ?_
 refine aU rfl (ah 0 tk57 rfl rfl rfl) (aU rfl (aZ Tryz.underlying57 rfl) (aU rfl (bw rfl rfl) (aNn ?_)))
 refine al _ rfl (fun h1 => ?_) (fun h1 => ?_)
 ·skip
  have hk' : k < o.vars.l.length := by simp at h1; omega
  obtain ⟨x, hx⟩ : ∃ x, o.vars.l[k]? = some x := ⟨_, List.getElem?_eq_getElem hk'⟩
  refine aq (az (aH (aI (aH ?_))))
  refine bp [] (by kernel_rfl) ?_
  show aB _ _ _ _ _ 27 #[false, false, false, false, false, false, false, false, false, false, false, false, false, false, false, false, false, false, false, false, false, false, false, false, false, false, false] _
  refine bV 0 rfl rfl (ah 0 tk61 rfl rfl rfl) ?_
  refine bV 1 rfl rfl (qFA (off := 8) rfl) ?_
  refine bV 2 rfl rfl (ah 0 tk57 rfl rfl rfl) ?_
  refine bV 3 rfl rfl (aD rfl) ?_
  refine dC 4 rfl (by kernel_rfl) true rfl rfl (fun _ => av Tryz.underlying57 tk204 rfl ((ax.f_vars (.of (aF 0 rfl)))) rfl (aQ hx) rfl rfl) (fun h => absurd h (by decide)) (fun ⟨b4_4, o4_4⟩ => ?_)
  refine bV 5 rfl rfl (aP (o := 0) tk204 rfl (aF 0 rfl) rfl rfl) ?_
  refine lj (caps := []) 6 rfl (by kernel_rfl) [0] (false) (by kernel_rfl) true rfl rfl (fun _ => rfl) (fun hc => rfl) (fun hc => by rw [List.append_nil]; exact (yR o x).pre (rD (.of (aF 0 rfl)) (Ent.all (ax.f_varsA (.of (aF 0 rfl))) hx))) (fun c1 hc1 => ?_)
  refine bV 7 rfl rfl (bZ rfl) ?_
  refine bV 8 rfl rfl (aD rfl) ?_
  refine bW 9 rfl rfl rfl (fun hc => aD rfl) ?_
  refine bW 10 rfl rfl rfl (fun hc => cN (ae rfl hc) rfl) ?_
  refine bW 11 rfl rfl rfl (fun hc => aD (ae rfl hc)) ?_
  refine bW 12 rfl rfl rfl (fun hc => qFA (off := 8) rfl) ?_
  refine bW 13 rfl rfl rfl (fun hc => ah 0 tk57 (ae rfl hc) rfl rfl) ?_
  refine bW 14 rfl rfl rfl (fun hc => aD rfl) ?_
  refine bW 15 rfl rfl rfl (fun hc => ei (ae rfl hc) rfl (by (first | omega | (simp at hc; omega)))) ?_
  refine dC 16 rfl (by kernel_rfl) _ rfl rfl (fun hc => av Tryz.underlying57 tk204 (ae rfl hc) ((ax.f_vars (.of (aF 1 rfl)))) (ae rfl hc) (bI (i := (k : Int) - 1) (by simp at hc; omega) (by simp at hc; omega)) (by simp at hc; omega) rfl) (fun _ => ⟨(0, 0)⟩) (fun ⟨b4_16, o4_16⟩ => ?_)
  refine bW 17 rfl rfl rfl (fun hc => aP (o := 0) tk204 (ae rfl hc) (aF 0 rfl) hc rfl) ?_
  refine bW 18 rfl rfl rfl (fun hc => qFA (off := 8) rfl) ?_
  refine bW 19 rfl rfl rfl (fun hc => ah 0 tk57 (ae rfl hc) rfl rfl) ?_
  refine bW 20 rfl rfl rfl (fun hc => aD rfl) ?_
  refine dC 21 rfl (by kernel_rfl) _ rfl rfl (fun hc => av Tryz.underlying57 tk204 (ae rfl hc) ((ax.f_vars (.of (aF 2 rfl)))) (ae rfl hc) (aQ hx) rfl rfl) (fun _ => ⟨(0, 0)⟩) (fun ⟨b4_21, o4_21⟩ => ?_)
  refine bW 22 rfl rfl rfl (fun hc => aP (o := 0) tk204 (ae rfl hc) (aF 0 rfl) hc rfl) ?_
  refine lj (caps := []) 23 rfl (by kernel_rfl) [] (false) (by kernel_rfl) _ rfl rfl (fun _ => rfl) (fun hc => (aS (ae rfl hc) (aS (ae rfl hc) rfl))) (fun hc => by rw [List.append_nil]; exact rV _ _) (fun c2 hc2 => ?_)
  refine bW 24 rfl rfl rfl (fun hc => bZ (ae rfl hc)) ?_
  refine bW 25 rfl rfl rfl (fun hc => bJ (ae rfl hc) rfl (fun h => gt hc h)) ?_
  refine bV 26 rfl rfl (bY rfl rfl (fun h => gf rfl h)) ?_
  refine bO (by kernel_rfl) ?_
  refine az ?_
  refine al _ rfl (fun h2 => ?_) (fun h2 => ?_)
  ·skip
   refine aSR (aA rfl (aNn (aJ (bu (aO (aO (bu (aO ?_))))))))
   refine br [] [] rfl Tryz.results60 rfl ?_ (.inr rfl)
   exact ⟨⟨rfl, rfl⟩, _, rfl, fun _ => trivial⟩
  ·skip
   refine aq (bB (az (aj (aM rfl ?_))))
   refine aU rfl (bd rfl rfl (by omega)) ?_
   refine aA rfl (aNn ?_)
   refine ⟨[1, 3], [0], [0], rfl, ?_⟩
   exact ⟨k + 1, ⟨by omega, rfl⟩, by omega⟩
 ·skip
  refine aX (aY (aY (bf (az (aSR (aA rfl (aNn (aJ ?_))))))))
  refine br [] [] rfl Tryz.results60 rfl ?_ (.inr rfl)
  exact ⟨⟨rfl, rfl⟩, _, rfl, fun _ => trivial⟩
theorem uv (o : ax) : Con Tryz.prog 61 [o.val] [o.ok] [] (YB True) := by
 refine Con.enter Tryz.func61 rfl (by simp [Tryz.ntmps61]) ?_
 show awp _ _ _ _ ⟨[(0, true, _)], _, _⟩
 refine bA (ax.f_depths (.of (aF 0 rfl))) (fun hlen => ?_)
 refine aSR ?_
 refine an (q := true) rfl (cx rfl rfl rfl (fun b0_0 => ?_))
 refine aHN ?_
 refine aA rfl (aNs (aSR (aA rfl (cn ?_))))
 refine az (aI (aT [1, 3] [0] [0] (fun (k : Nat) st => k ≤ o.depths.l.length ∧ st = ⟨[(1, true, .pointer (some ⟨b0_0, 0, none⟩)), (3, true, .int .i64 k)], [o.ok], [Box b0_0 61 o.vs]⟩) (fun k => o.depths.l.length - k) rfl (⟨0, Nat.zero_le _, rfl⟩) ?_))
 rintro k st ⟨hk, rfl⟩
 refine aH (aSR (aM rfl ?_))
 refine aU rfl (qFA (off := 9) rfl) ?_
 refine aU rfl (ah 0 tk58 rfl rfl rfl) (aU rfl (aZ Tryz.underlying58 rfl) (aU rfl (bw rfl rfl) (aNn ?_)))
 refine al _ rfl (fun h1 => ?_) (fun h1 => ?_)
 ·skip
  have hk' : k < o.depths.l.length := by simp at h1; omega
  obtain ⟨x, hx⟩ : ∃ x, o.depths.l[k]? = some x := ⟨_, List.getElem?_eq_getElem hk'⟩
  refine aq (az (aH (aI (aSR ?_))))
  refine aU rfl (qFA (off := 9) rfl) ?_
  refine aU rfl (ah 0 tk58 rfl rfl rfl) (aM rfl ?_)
  refine cJ true rfl rfl (fun _ => av Tryz.underlying58 tk207 rfl ((ax.f_depths (.of (aF 0 rfl)))) rfl (aQ hx) rfl rfl) (fun h => absurd h (by decide)) (fun ⟨b4_3, o4_3⟩ => ?_)
  refine aU rfl (aP (o := 0) tk207 rfl (aF 0 rfl) rfl rfl) ?_
  refine an (q := true) rfl (bc (zs := [.int .i64 0, .int .i64 0, .int .i64 0, .int .i64 0]) (by kernel_rfl) rfl (fun b4_5 => ?_))
  refine aHN ?_
  refine an rfl (aV 1 tk207 rfl rfl rfl rfl ?_)
  refine aHK ?_
  refine aNs (aSR (aU rfl (ah 0 tk61 rfl rfl rfl) ?_))
  refine aU rfl (qFA (off := 0) rfl) ?_
  refine aU rfl (ah 1 tk3 rfl rfl rfl) ?_
  refine aU rfl (qFA (off := 1) rfl) ?_
  refine aU rfl (ah 1 tk3 rfl rfl rfl) ?_
  refine aU rfl (qFA (off := 2) rfl) ?_
  refine aU rfl (ah 1 tk3 rfl rfl rfl) ?_
  refine bT (caps := []) [0] (false) (by kernel_rfl) true rfl rfl (fun _ => rfl) (fun hc => rfl) (fun hc => by rw [List.append_nil]; exact lW o _ _ _) (fun c1 hc1 => ?_)
  refine aU rfl (bZ rfl) (aM rfl ?_)
  refine aG rfl rfl (fun hc => qFA (off := 3) rfl) ?_
  refine aG rfl rfl (fun hc => ah 1 tk3 (ae rfl hc) rfl rfl) ?_
  refine aG rfl rfl (fun hc => bC (by kernel_rfl) (aS (ae rfl hc) (aS (ae rfl rfl) (aS (ae rfl rfl) rfl))) (fun w S fp hst => (dS _ _ _).quiet0 hst)) ?_
  refine aG rfl rfl (fun hc => bZ (ae rfl hc)) (aU rfl (bY rfl rfl (fun h => gf rfl h)) (aM rfl ?_))
  refine aG rfl rfl (fun hc => qFA (off := 3) rfl) ?_
  refine aG rfl rfl (fun hc => ah 1 tk3 (ae rfl hc) rfl rfl) ?_
  refine aG rfl rfl (fun hc => fF (ae rfl hc) rfl (by decide)) ?_
  refine aG rfl rfl (fun hc => dB (ae rfl hc) rfl) (aU rfl (bY rfl rfl (fun h => gf rfl h)) (aNn ?_))
  refine al _ rfl (fun h2 => ?_) (fun h2 => ?_)
  ·skip
   refine aSR (aA rfl (aNn (aJ (aO (bu (aO (aO (bu (aO ?_)))))))))
   refine br [] [] rfl Tryz.results61 rfl ?_ (.inr rfl)
   exact ⟨⟨rfl, rfl⟩, _, rfl, fun _ => trivial⟩
  ·skip
   refine aq (az (aH ?_))
   refine bp [] (by kernel_rfl) ?_
   show aB _ _ _ _ _ 38 #[false, false, false, false, false, false, false, false, false, false, false, false, false, false, false, false, false, false, false, false, false, false, false, false, false, false, false, false, false, false, false, false, false, false, false, false, false, false] _
   refine bV 0 rfl rfl (aD rfl) ?_
   refine bV 1 rfl rfl (cN rfl rfl) ?_
   refine bV 2 rfl rfl (aD rfl) ?_
   refine bW 3 rfl rfl rfl (fun hc => qFA (off := 9) rfl) ?_
   refine bW 4 rfl rfl rfl (fun hc => ah 0 tk58 (ae rfl hc) rfl rfl) ?_
   refine bW 5 rfl rfl rfl (fun hc => aD rfl) ?_
   refine bW 6 rfl rfl rfl (fun hc => ei (ae rfl hc) rfl (by (first | omega | (simp at hc; omega)))) ?_
   refine dC 7 rfl (by kernel_rfl) _ rfl rfl (fun hc => av Tryz.underlying58 tk207 (ae rfl hc) ((ax.f_depths (.of (aF 1 rfl)))) (ae rfl hc) (bI (i := (k : Int) - 1) (by simp at hc; omega) (by simp at hc; omega)) (by simp at hc; omega) rfl) (fun _ => ⟨(0, 0)⟩) (fun ⟨b7_7, o7_7⟩ => ?_)
   refine bW 8 rfl rfl rfl (fun hc => qFA (off := 0) (ae rfl hc)) ?_
   refine bW 9 rfl rfl rfl (fun hc => aP (o := 0) tk3 (ae rfl hc) (aF 0 rfl) hc rfl) ?_
   refine bW 10 rfl rfl rfl (fun hc => qFA (off := 0) rfl) ?_
   refine bW 11 rfl rfl rfl (fun hc => ah 1 tk3 (ae rfl hc) rfl rfl) ?_
   refine bW 12 rfl rfl rfl (fun hc => cN (ae rfl hc) (ae rfl hc)) ?_
   refine bW 13 rfl rfl rfl (fun hc => aD (ae rfl hc)) ?_
   refine bW 14 rfl rfl rfl (fun hc => qFA (off := 9) rfl) ?_
   refine bW 15 rfl rfl rfl (fun hc => ah 0 tk58 (ae rfl hc) rfl rfl) ?_
   refine bW 16 rfl rfl rfl (fun hc => aD rfl) ?_
   refine bW 17 rfl rfl rfl (fun hc => ei (ae rfl hc) rfl (by (first | omega | (simp at hc; omega)))) ?_
   refine dC 18 rfl (by kernel_rfl) _ rfl rfl (fun hc => av Tryz.underlying58 tk207 (ae rfl hc) ((ax.f_depths (.of (aF 2 rfl)))) (ae rfl hc) (bI (i := (k : Int) - 1) (by simp at hc; omega) (by simp at hc; omega)) (by simp at hc; omega) rfl) (fun _ => ⟨(0, 0)⟩) (fun ⟨b7_18, o7_18⟩ => ?_)
   refine bW 19 rfl rfl rfl (fun hc => qFA (off := 0) (ae rfl hc)) ?_
   refine bW 20 rfl rfl rfl (fun hc => aP (o := 0) tk3 (ae rfl hc) (aF 0 rfl) hc rfl) ?_
   refine bW 21 rfl rfl rfl (fun hc => qFA (off := 0) rfl) ?_
   refine bW 22 rfl rfl rfl (fun hc => ah 1 tk3 (ae rfl hc) rfl rfl) ?_
   refine bW 23 rfl rfl rfl (fun hc => bx (ae rfl hc) (ae rfl hc)) ?_
   refine bW 24 rfl rfl rfl (fun hc => aD (ae rfl hc)) ?_
   refine bW 25 rfl rfl rfl (fun hc => qFA (off := 9) rfl) ?_
   refine bW 26 rfl rfl rfl (fun hc => ah 0 tk58 (ae rfl hc) rfl rfl) ?_
   refine bW 27 rfl rfl rfl (fun hc => aD rfl) ?_
   refine bW 28 rfl rfl rfl (fun hc => ei (ae rfl hc) rfl (by (first | omega | (simp at hc; omega)))) ?_
   refine dC 29 rfl (by kernel_rfl) _ rfl rfl (fun hc => av Tryz.underlying58 tk207 (ae rfl hc) ((ax.f_depths (.of (aF 3 rfl)))) (ae rfl hc) (bI (i := (k : Int) - 1) (by simp at hc; omega) (by simp at hc; omega)) (by simp at hc; omega) rfl) (fun _ => ⟨(0, 0)⟩) (fun ⟨b7_29, o7_29⟩ => ?_)
   refine bW 30 rfl rfl rfl (fun hc => qFA (off := 2) (ae rfl hc)) ?_
   refine bW 31 rfl rfl rfl (fun hc => aP (o := 2) tk3 (ae rfl hc) (aF 0 rfl) hc rfl) ?_
   refine bW 32 rfl rfl rfl (fun hc => qFA (off := 1) rfl) ?_
   refine bW 33 rfl rfl rfl (fun hc => ah 1 tk3 (ae rfl hc) rfl rfl) ?_
   refine bW 34 rfl rfl rfl (fun hc => cN (ae rfl hc) (ae rfl hc)) ?_
   refine bW 35 rfl rfl rfl (fun hc => bJ (ae rfl hc) rfl (fun h => gt hc h)) ?_
   refine bW 36 rfl rfl rfl (fun hc => bY (ae rfl hc) rfl (fun h => gf hc h)) ?_
   refine bV 37 rfl rfl (bJ rfl rfl (fun h => gt rfl h)) ?_
   refine bO (by kernel_rfl) ?_
   refine az ?_
   refine al _ rfl (fun h3 => ?_) (fun h3 => ?_)
   ·skip
    refine aSR (aA rfl (aNn (aJ (bu (aO (aO (bu (aO ?_))))))))
    refine br [] [] rfl Tryz.results61 rfl ?_ (.inr rfl)
    exact ⟨⟨rfl, rfl⟩, _, rfl, fun _ => trivial⟩
   ·skip
    refine aq (bB (az (aj (aM rfl ?_))))
    refine aU rfl (bd rfl rfl (by omega)) ?_
    refine aA rfl (aNn ?_)
    refine ⟨[1, 3], [0], [0], rfl, ?_⟩
    exact ⟨k + 1, ⟨by omega, rfl⟩, by omega⟩
 ·skip
  refine aX (aY (aY (bf (az (aSR (aA rfl (aNn (aJ ?_))))))))
  refine br [] [] rfl Tryz.results61 rfl ?_ (.inr rfl)
  exact ⟨⟨rfl, rfl⟩, _, rfl, fun _ => trivial⟩
theorem tA (l : Sl iE) (n : Int) : Con Tryz.prog 119 [l.val, .int .i64 n] [ShF iE.row l] [] (YB True) := by
 refine Con.enter Tryz.func119 rfl (by simp [Tryz.ntmps119]) ?_
 show awp _ _ _ _ ⟨[(0, true, _), (1, true, _)], _, _⟩
 refine bA (.of (aF 0 rfl)) (fun hlen => ?_)
 refine aSR (aA rfl (aNs (aSR ?_)))
 refine aA rfl (aNn (aI (aT [0, 1, 5] [0] [] (fun (k : Nat) st => k ≤ l.l.length ∧ st = ⟨[(0, true, l.val), (1, true, .int .i64 n), (5, true, .int .i64 k)], [ShF iE.row l], []⟩) (fun k => l.l.length - k) rfl (⟨0, Nat.zero_le _, rfl⟩) ?_)))
 rintro k st ⟨hk, rfl⟩
 refine aH (aSR (aM rfl (aM rfl (aU rfl (aZ Tryz.underlying208 rfl) (aU rfl (bw rfl rfl) (aNn ?_))))))
 refine al _ rfl (fun h1 => ?_) (fun h1 => ?_)
 ·skip
  have hk' : k < l.l.length := by simp at h1; omega
  obtain ⟨x, hx⟩ : ∃ x, l.l[k]? = some x := ⟨_, List.getElem?_eq_getElem hk'⟩
  refine aq (az (aH (aI (aSR (aM rfl (aM rfl ?_))))))
  refine cJ true rfl rfl (fun _ => av Tryz.underlying208 tk264 rfl ((.of (aF 0 rfl))) rfl (aQ hx) rfl rfl) (fun h => absurd h (by decide)) (fun ⟨b4_2, o4_2⟩ => ?_)
  refine aU rfl (aP (o := 0) tk264 rfl (aF 0 rfl) rfl rfl) ?_
  refine an (q := true) rfl (bc (zs := [.int .i64 0, .int .i64 0, .int .i64 0]) (by kernel_rfl) rfl (fun b4_4 => ?_))
  refine aHN ?_
  refine an rfl (aV 0 tk264 rfl rfl rfl rfl ?_)
  refine aHK ?_
  refine aNs (aSR ?_)
  refine aU rfl (qFA (off := 0) rfl) ?_
  refine aU rfl (ah 0 tk3 rfl rfl rfl) (aU rfl (bw rfl rfl) (aM rfl ?_))
  refine aG rfl rfl (fun hc => qFA (off := 2) rfl) ?_
  refine aG rfl rfl (fun hc => ah 0 tk3 (ae rfl hc) rfl rfl) (aG rfl rfl (fun hc => bw (ae rfl hc) rfl) (aU rfl (bY rfl rfl (fun h => gf rfl h)) (aM rfl ?_)))
  refine aG rfl rfl (fun hc => qFA (off := 1) rfl) ?_
  refine aG rfl rfl (fun hc => ah 0 tk3 (ae rfl hc) rfl rfl) (aG rfl rfl (fun hc => bw (ae rfl hc) rfl) (aU rfl (bY rfl rfl (fun h => gf rfl h)) (aM rfl ?_)))
  refine aG rfl rfl (fun hc => qFA (off := 1) rfl) ?_
  refine aG rfl rfl (fun hc => ah 0 tk3 (ae rfl hc) rfl rfl) (aG rfl rfl (fun hc => cN (ae rfl hc) rfl) (aU rfl (bY rfl rfl (fun h => gf rfl h)) (aM rfl ?_)))
  refine aG rfl rfl (fun hc => qFA (off := 0) rfl) ?_
  refine aG rfl rfl (fun hc => ah 0 tk3 (ae rfl hc) rfl rfl) ?_
  refine aG rfl rfl (fun hc => qFA (off := 1) rfl) ?_
  refine aG rfl rfl (fun hc => ah 0 tk3 (ae rfl hc) rfl rfl) (aG rfl rfl (fun hc => lD rfl (ae rfl hc)) (aG rfl rfl (fun hc => cN (ae rfl hc) (ae rfl hc)) (aU rfl (bY rfl rfl (fun h => gf rfl h)) (aM rfl ?_))))
  refine aG rfl rfl (fun hc => qFA (off := 2) rfl) ?_
  refine aG rfl rfl (fun hc => ah 0 tk3 (ae rfl hc) rfl rfl) (aG rfl rfl (fun hc => aD rfl) ?_)
  refine aG rfl rfl (fun hc => qFA (off := 1) rfl) ?_
  refine aG rfl rfl (fun hc => ah 0 tk3 (ae rfl hc) rfl rfl) (aG rfl rfl (fun hc => lD (ae rfl hc) (ae rfl hc)) (aG rfl rfl (fun hc => cN (ae rfl hc) (ae rfl hc)) (aU rfl (bY rfl rfl (fun h => gf rfl h)) (aNn ?_))))
  refine al _ rfl (fun h2 => ?_) (fun h2 => ?_)
  ·skip
   refine aSR (aA rfl (aNn (aJ (aO (bu (aO (aO (bu (aO ?_)))))))))
   refine br [] [] rfl Tryz.results119 rfl ?_ (.inr rfl)
   exact ⟨⟨rfl, rfl⟩, _, rfl, fun _ => trivial⟩
  ·skip
   refine aq (az (aH ?_))
   refine bp [] (by kernel_rfl) ?_
   show aB _ _ _ _ _ 20 #[false, false, false, false, false, false, false, false, false, false, false, false, false, false, false, false, false, false, false, false] _
   refine bV 0 rfl rfl (aD rfl) ?_
   refine bV 1 rfl rfl (cN rfl rfl) ?_
   refine bV 2 rfl rfl (aD rfl) ?_
   refine bW 3 rfl rfl rfl (fun hc => aD rfl) ?_
   refine bW 4 rfl rfl rfl (fun hc => aD rfl) ?_
   refine bW 5 rfl rfl rfl (fun hc => ei (ae rfl hc) rfl (by (first | omega | (simp at hc; omega)))) ?_
   refine dC 6 rfl (by kernel_rfl) _ rfl rfl (fun hc => av Tryz.underlying208 tk264 (ae rfl hc) ((.of (aF 1 rfl))) (ae rfl hc) (bI (i := (k : Int) - 1) (by simp at hc; omega) (by simp at hc; omega)) (by simp at hc; omega) rfl) (fun _ => ⟨(0, 0)⟩) (fun ⟨b7_6, o7_6⟩ => ?_)
   refine bW 7 rfl rfl rfl (fun hc => qFA (off := 2) (ae rfl hc)) ?_
   refine bW 8 rfl rfl rfl (fun hc => aP (o := 2) tk3 (ae rfl hc) (aF 0 rfl) hc rfl) ?_
   refine bW 9 rfl rfl rfl (fun hc => aD rfl) ?_
   refine bW 10 rfl rfl rfl (fun hc => aD rfl) ?_
   refine bW 11 rfl rfl rfl (fun hc => ei (ae rfl hc) rfl (by (first | omega | (simp at hc; omega)))) ?_
   refine dC 12 rfl (by kernel_rfl) _ rfl rfl (fun hc => av Tryz.underlying208 tk264 (ae rfl hc) ((.of (aF 2 rfl))) (ae rfl hc) (bI (i := (k : Int) - 1) (by simp at hc; omega) (by simp at hc; omega)) (by simp at hc; omega) rfl) (fun _ => ⟨(0, 0)⟩) (fun ⟨b7_12, o7_12⟩ => ?_)
   refine bW 13 rfl rfl rfl (fun hc => qFA (off := 1) (ae rfl hc)) ?_
   refine bW 14 rfl rfl rfl (fun hc => aP (o := 1) tk3 (ae rfl hc) (aF 0 rfl) hc rfl) ?_
   refine bW 15 rfl rfl rfl (fun hc => p9 (ae rfl hc) (ae rfl hc)) ?_
   refine bW 16 rfl rfl rfl (fun hc => qFA (off := 2) rfl) ?_
   refine bW 17 rfl rfl rfl (fun hc => ah 0 tk3 (ae rfl hc) rfl rfl) ?_
   refine bW 18 rfl rfl rfl (fun hc => cN (ae rfl hc) (ae rfl hc)) ?_
   refine bV 19 rfl rfl (bJ rfl rfl (fun h => gt rfl h)) ?_
   refine bO (by kernel_rfl) ?_
   refine az ?_
   refine al _ rfl (fun h3 => ?_) (fun h3 => ?_)
   ·skip
    refine aSR (aA rfl (aNn (aJ (bu (aO (aO (bu (aO ?_))))))))
    refine br [] [] rfl Tryz.results119 rfl ?_ (.inr rfl)
    exact ⟨⟨rfl, rfl⟩, _, rfl, fun _ => trivial⟩
   ·skip
    refine aq (bB (az (aj (aM rfl ?_))))
    refine aU rfl (bd rfl rfl (by omega)) ?_
    refine aA rfl (aNn ?_)
    refine ⟨[0, 1, 5], [0], [], rfl, ?_⟩
    exact ⟨k + 1, ⟨by omega, rfl⟩, by omega⟩
 ·skip
  refine aX (aY (aY (bf (az (aSR (aA rfl (aNn (aJ ?_))))))))
  refine br [] [] rfl Tryz.results119 rfl ?_ (.inr rfl)
  exact ⟨⟨rfl, rfl⟩, _, rfl, fun _ => trivial⟩
theorem pr (o : ax) : Con Tryz.prog 62 [o.val] [o.ok] [] (YB True) := by
 refine Con.enter Tryz.func62 rfl (by simp [Tryz.ntmps62]) ?_
 show awp _ _ _ _ ⟨[(0, true, _)], _, _⟩
 refine bA (ax.f_converts (.of (aF 0 rfl))) (fun hlen => ?_)
 refine aSR ?_
 refine an (q := true) rfl (cx rfl rfl rfl (fun b0_0 => ?_))
 refine aHN ?_
 refine aA rfl (aNs (aSR (aA rfl (cn ?_))))
 refine az (aI (aT [1, 3] [0] [0] (fun (k : Nat) st => k ≤ o.converts.l.length ∧ st = ⟨[(1, true, .pointer (some ⟨b0_0, 0, none⟩)), (3, true, .int .i64 k)], [o.ok], [Box b0_0 61 o.vs]⟩) (fun k => o.converts.l.length - k) rfl (⟨0, Nat.zero_le _, rfl⟩) ?_))
 rintro k st ⟨hk, rfl⟩
 refine aH (aSR (aM rfl ?_))
 refine aU rfl (qFA (off := 10) rfl) ?_
 refine aU rfl (ah 0 tk59 rfl rfl rfl) (aU rfl (aZ Tryz.underlying59 rfl) (aU rfl (bw rfl rfl) (aNn ?_)))
 refine al _ rfl (fun h1 => ?_) (fun h1 => ?_)
 ·skip
  have hk' : k < o.converts.l.length := by simp at h1; omega
  obtain ⟨x, hx⟩ : ∃ x, o.converts.l[k]? = some x := ⟨_, List.getElem?_eq_getElem hk'⟩
  refine aq (az (aH (aI (aSR ?_))))
  refine aU rfl (qFA (off := 10) rfl) ?_
  refine aU rfl (ah 0 tk59 rfl rfl rfl) (aM rfl ?_)
  refine cJ true rfl rfl (fun _ => av Tryz.underlying59 tk210 rfl ((ax.f_converts (.of (aF 0 rfl)))) rfl (aQ hx) rfl rfl) (fun h => absurd h (by decide)) (fun ⟨b4_3, o4_3⟩ => ?_)
  refine aU rfl (aP (o := 0) tk210 rfl (aF 0 rfl) rfl rfl) ?_
  refine an (q := true) rfl (bc (zs := [.int .i64 0, .string .empty, .slice none 0 0, .int .i64 0]) (by kernel_rfl) rfl (fun b4_5 => ?_))
  refine aHN ?_
  refine an rfl (aV 1 tk210 rfl rfl rfl rfl ?_)
  refine aHK ?_
  refine aNn (aSR (aU rfl (ah 0 tk61 rfl rfl rfl) ?_))
  refine aU rfl (qFA (off := 0) rfl) ?_
  refine aU rfl (ah 1 tk3 rfl rfl rfl) ?_
  refine aU rfl (bC (by kernel_rfl) rfl (fun w S fp hst => (fY o _).quiet1 (aF 1 rfl) hst)) ?_
  refine an (q := true) rfl (bc (zs := [.string .empty, .int .i64 0, .int .i64 0, .int .i64 0, .string .empty, .bool false]) (by kernel_rfl) rfl (fun b5_4 => ?_))
  refine aHN ?_
  refine an rfl (aV 2 tk85 rfl rfl rfl rfl ?_)
  refine aHK ?_
  refine aNn (aSR ?_)
  refine aU rfl (qFA (off := 3) rfl) ?_
  refine aU rfl (ah 1 tk3 rfl rfl rfl) (aU rfl (bx rfl rfl) (aM rfl (aG rfl rfl (fun hc => ah 0 tk61 rfl rfl rfl) ?_)))
  refine aG rfl rfl (fun hc => qFA (off := 3) rfl) ?_
  refine aG rfl rfl (fun hc => ah 1 tk3 (ae rfl hc) rfl rfl) ?_
  refine bT (caps := []) [0] (false) (by kernel_rfl) _ rfl rfl (fun _ => rfl) (fun hc => (aS (ae rfl hc) (aS (ae rfl hc) (aS (ae rfl rfl) rfl)))) (fun hc => by rw [List.append_nil]; exact jD o _ _) (fun c1 hc1 => ?_)
  refine aU rfl (bY rfl rfl (fun h => gf rfl h)) (aA rfl (aNs (aSR ?_)))
  refine aU rfl (qFA (off := 1) rfl) ?_
  refine aU rfl (ah 2 tk3 rfl rfl rfl) (aU rfl (dB rfl rfl) (aM rfl ?_))
  refine aG rfl rfl (fun hc => qFA (off := 1) rfl) ?_
  refine aG rfl rfl (fun hc => ah 1 tk9 (ae rfl hc) rfl rfl) (aG rfl rfl (fun hc => eA Tryz.underlying9 (ae rfl hc)) (aG rfl rfl (fun hc => dB (ae rfl hc) rfl) (aU rfl (bY rfl rfl (fun h => gf rfl h)) (aM rfl (aG rfl rfl (fun hc => aD rfl) (aG rfl rfl (fun hc => bZ (ae rfl hc)) (aU rfl (bY rfl rfl (fun h => gf rfl h)) (aM rfl ?_))))))))
  refine aG rfl rfl (fun hc => qFA (off := 2) rfl) ?_
  refine aG rfl rfl (fun hc => ah 1 tk208 (ae rfl hc) rfl rfl) ?_
  refine aG rfl rfl (fun hc => qFA (off := 3) rfl) ?_
  refine aG rfl rfl (fun hc => ah 2 tk3 (ae rfl hc) rfl rfl) ?_
  refine bT (caps := []) [0] (false) (by kernel_rfl) _ rfl rfl (fun _ => rfl) (fun hc => (aS (ae rfl hc) (aS (ae rfl hc) rfl))) (fun hc => by rw [List.append_nil]; exact (tA x.pieces _).pre (fun p hp => (List.mem_singleton.1 hp) ▸ dx.f_pieces (Ent.all (ax.f_convertsA (.of (aF 0 rfl))) hx))) (fun c2 hc2 => ?_)
  refine aG rfl rfl (fun hc => bZ (ae rfl hc)) (aU rfl (bY rfl rfl (fun h => gf rfl h)) (aNn ?_))
  refine al _ rfl (fun h2 => ?_) (fun h2 => ?_)
  ·skip
   refine aSR (aA rfl (aNn (aJ (aO (bu (aO (aO (bu (aO ?_)))))))))
   refine br [] [] rfl Tryz.results62 rfl ?_ (.inr rfl)
   exact ⟨⟨rfl, rfl⟩, _, rfl, fun _ => trivial⟩
  ·skip
   refine aq (az (aH ?_))
   refine bp [] (by kernel_rfl) ?_
   show aB _ _ _ _ _ 38 #[false, false, false, false, false, false, false, false, false, false, false, false, false, false, false, false, false, false, false, false, false, false, false, false, false, false, false, false, false, false, false, false, false, false, false, false, false, false] _
   refine bV 0 rfl rfl (aD rfl) ?_
   refine bV 1 rfl rfl (cN rfl rfl) ?_
   refine bV 2 rfl rfl (aD rfl) ?_
   refine bW 3 rfl rfl rfl (fun hc => qFA (off := 10) rfl) ?_
   refine bW 4 rfl rfl rfl (fun hc => ah 0 tk59 (ae rfl hc) rfl rfl) ?_
   refine bW 5 rfl rfl rfl (fun hc => aD rfl) ?_
   refine bW 6 rfl rfl rfl (fun hc => ei (ae rfl hc) rfl (by (first | omega | (simp at hc; omega)))) ?_
   refine dC 7 rfl (by kernel_rfl) _ rfl rfl (fun hc => av Tryz.underlying59 tk210 (ae rfl hc) ((ax.f_converts (.of (aF 1 rfl)))) (ae rfl hc) (bI (i := (k : Int) - 1) (by simp at hc; omega) (by simp at hc; omega)) (by simp at hc; omega) rfl) (fun _ => ⟨(0, 0)⟩) (fun ⟨b9_7, o9_7⟩ => ?_)
   refine bW 8 rfl rfl rfl (fun hc => qFA (off := 0) (ae rfl hc)) ?_
   refine bW 9 rfl rfl rfl (fun hc => aP (o := 0) tk3 (ae rfl hc) (aF 0 rfl) hc rfl) ?_
   refine bW 10 rfl rfl rfl (fun hc => qFA (off := 0) rfl) ?_
   refine bW 11 rfl rfl rfl (fun hc => ah 1 tk3 (ae rfl hc) rfl rfl) ?_
   refine bW 12 rfl rfl rfl (fun hc => cN (ae rfl hc) (ae rfl hc)) ?_
   refine bW 13 rfl rfl rfl (fun hc => aD (ae rfl hc)) ?_
   refine bW 14 rfl rfl rfl (fun hc => qFA (off := 10) rfl) ?_
   refine bW 15 rfl rfl rfl (fun hc => ah 0 tk59 (ae rfl hc) rfl rfl) ?_
   refine bW 16 rfl rfl rfl (fun hc => aD rfl) ?_
   refine bW 17 rfl rfl rfl (fun hc => ei (ae rfl hc) rfl (by (first | omega | (simp at hc; omega)))) ?_
   refine dC 18 rfl (by kernel_rfl) _ rfl rfl (fun hc => av Tryz.underlying59 tk210 (ae rfl hc) ((ax.f_converts (.of (aF 2 rfl)))) (ae rfl hc) (bI (i := (k : Int) - 1) (by simp at hc; omega) (by simp at hc; omega)) (by simp at hc; omega) rfl) (fun _ => ⟨(0, 0)⟩) (fun ⟨b9_18, o9_18⟩ => ?_)
   refine bW 19 rfl rfl rfl (fun hc => qFA (off := 0) (ae rfl hc)) ?_
   refine bW 20 rfl rfl rfl (fun hc => aP (o := 0) tk3 (ae rfl hc) (aF 0 rfl) hc rfl) ?_
   refine bW 21 rfl rfl rfl (fun hc => qFA (off := 0) rfl) ?_
   refine bW 22 rfl rfl rfl (fun hc => ah 1 tk3 (ae rfl hc) rfl rfl) ?_
   refine bW 23 rfl rfl rfl (fun hc => bx (ae rfl hc) (ae rfl hc)) ?_
   refine bW 24 rfl rfl rfl (fun hc => aD (ae rfl hc)) ?_
   refine bW 25 rfl rfl rfl (fun hc => qFA (off := 10) rfl) ?_
   refine bW 26 rfl rfl rfl (fun hc => ah 0 tk59 (ae rfl hc) rfl rfl) ?_
   refine bW 27 rfl rfl rfl (fun hc => aD rfl) ?_
   refine bW 28 rfl rfl rfl (fun hc => ei (ae rfl hc) rfl (by (first | omega | (simp at hc; omega)))) ?_
   refine dC 29 rfl (by kernel_rfl) _ rfl rfl (fun hc => av Tryz.underlying59 tk210 (ae rfl hc) ((ax.f_converts (.of (aF 3 rfl)))) (ae rfl hc) (bI (i := (k : Int) - 1) (by simp at hc; omega) (by simp at hc; omega)) (by simp at hc; omega) rfl) (fun _ => ⟨(0, 0)⟩) (fun ⟨b9_29, o9_29⟩ => ?_)
   refine bW 30 rfl rfl rfl (fun hc => qFA (off := 1) (ae rfl hc)) ?_
   refine bW 31 rfl rfl rfl (fun hc => aP (o := 1) tk9 (ae rfl hc) (aF 0 rfl) hc rfl) ?_
   refine bW 32 rfl rfl rfl (fun hc => qFA (off := 1) rfl) ?_
   refine bW 33 rfl rfl rfl (fun hc => ah 1 tk9 (ae rfl hc) rfl rfl) ?_
   refine bW 34 rfl rfl rfl (fun hc => aby (ae rfl hc) (ae rfl hc)) ?_
   refine bW 35 rfl rfl rfl (fun hc => bJ (ae rfl hc) rfl (fun h => gt hc h)) ?_
   refine bW 36 rfl rfl rfl (fun hc => bY (ae rfl hc) rfl (fun h => gf hc h)) ?_
   refine bV 37 rfl rfl (bJ rfl rfl (fun h => gt rfl h)) ?_
   refine bO (by kernel_rfl) ?_
   refine az ?_
   refine al _ rfl (fun h3 => ?_) (fun h3 => ?_)
   ·skip
    refine aSR (aA rfl (aNn (aJ (bu (aO (aO (bu (aO ?_))))))))
    refine br [] [] rfl Tryz.results62 rfl ?_ (.inr rfl)
    exact ⟨⟨rfl, rfl⟩, _, rfl, fun _ => trivial⟩
   ·skip
    refine aq (bB (az (aj (aM rfl ?_))))
    refine aU rfl (bd rfl rfl (by omega)) ?_
    refine aA rfl (aNn ?_)
    refine ⟨[1, 3], [0], [0], rfl, ?_⟩
    exact ⟨k + 1, ⟨by omega, rfl⟩, by omega⟩
 ·skip
  refine aX (aY (aY (bf (az (aSR (aA rfl (aNn (aJ ?_))))))))
  refine br [] [] rfl Tryz.results62 rfl ?_ (.inr rfl)
  exact ⟨⟨rfl, rfl⟩, _, rfl, fun _ => trivial⟩
structure uw (o : ax) : Prop where
 secs : ∀ s ∈ o.secs.l, s.bytes.size ≤ 1048576
 syms : ∀ s ∈ o.syms.l, ((s.sec = -1 ∧ s.bind ≠ 0) ∨ (0 ≤ s.sec ∧ s.sec < o.secs.l.length)) ∧ s.vis ≤ 2
 groups : ∀ g ∈ o.groups.l, abG o g
 few : o.groups.l.length ≤ o.secs.l.length
theorem uM (o : ax) (hs : o.secs.l.length ≤ 1000) : Con Tryz.prog 26 [o.val] [o.ok] [] (YB (uw o)) := by
 refine Con.enter Tryz.func26 rfl (by simp [Tryz.ntmps26]) ?_
 show awp _ _ _ _ ⟨[(0, true, _)], _, _⟩
 refine fI (ax.f_name (.of (aF 0 rfl))) (fun hnl => ?_)
 refine aSR ?_
 refine an (q := true) rfl (cx rfl rfl rfl (fun b0_0 => ?_))
 refine aHN ?_
 refine aA rfl (aNn (aSR ?_))
 refine aU rfl (qFA (off := 0) rfl) ?_
 refine aU rfl (ah 0 tk9 rfl rfl rfl) ?_
 refine bT (caps := []) [] (false) (by kernel_rfl) true rfl rfl (fun _ => rfl) (fun hc => rfl) (fun hc => by rw [List.append_nil]; exact gz _ hnl) (fun c0 hc0 => ?_)
 refine aM rfl (aG rfl rfl (fun hc => ah 0 tk61 rfl rfl rfl) ?_)
 refine bT (caps := []) [0] (false) (by kernel_rfl) _ rfl rfl (fun _ => rfl) (fun hc => (aS (ae rfl hc) rfl)) (fun hc => by rw [List.append_nil]; exact xN o) (fun c1 hc1 => ?_)
 refine aU rfl (bJ rfl rfl (fun h => gt rfl h)) (aM rfl (aG rfl rfl (fun hc => ah 0 tk61 rfl rfl rfl) ?_))
 refine bT (caps := []) [0] (false) (by kernel_rfl) _ rfl rfl (fun _ => rfl) (fun hc => (aS (ae rfl hc) rfl)) (fun hc => by rw [List.append_nil]; exact xg o) (fun c2 hc2 => ?_)
 refine aU rfl (bJ rfl rfl (fun h => gt rfl h)) (aM rfl (aG rfl rfl (fun hc => ah 0 tk61 rfl rfl rfl) ?_))
 refine bT (caps := []) [0] (false) (by kernel_rfl) _ rfl rfl (fun _ => rfl) (fun hc => (aS (ae rfl hc) rfl)) (fun hc => by rw [List.append_nil]; exact xS o) (fun c3 hc3 => ?_)
 refine aU rfl (bJ rfl rfl (fun h => gt rfl h)) (aM rfl (aG rfl rfl (fun hc => ah 0 tk61 rfl rfl rfl) ?_))
 refine bT (caps := []) [0] (false) (by kernel_rfl) _ rfl rfl (fun _ => rfl) (fun hc => (aS (ae rfl hc) rfl)) (fun hc => by rw [List.append_nil]; exact tV o hs) (fun c4 hc4 => ?_)
 refine aU rfl (bJ rfl rfl (fun h => gt rfl h)) (aM rfl (aG rfl rfl (fun hc => ah 0 tk61 rfl rfl rfl) ?_))
 refine bT (caps := []) [0] (false) (by kernel_rfl) _ rfl rfl (fun _ => rfl) (fun hc => (aS (ae rfl hc) rfl)) (fun hc => by rw [List.append_nil]; exact uO o) (fun c5 hc5 => ?_)
 refine aU rfl (bJ rfl rfl (fun h => gt rfl h)) (aM rfl (aG rfl rfl (fun hc => ah 0 tk61 rfl rfl rfl) ?_))
 refine bT (caps := []) [0] (false) (by kernel_rfl) _ rfl rfl (fun _ => rfl) (fun hc => (aS (ae rfl hc) rfl)) (fun hc => by rw [List.append_nil]; exact vH o) (fun c6 hc6 => ?_)
 refine aU rfl (bJ rfl rfl (fun h => gt rfl h)) (aM rfl (aG rfl rfl (fun hc => ah 0 tk61 rfl rfl rfl) ?_))
 refine bT (caps := []) [0] (false) (by kernel_rfl) _ rfl rfl (fun _ => rfl) (fun hc => (aS (ae rfl hc) rfl)) (fun hc => by rw [List.append_nil]; exact qP o) (fun c7 hc7 => ?_)
 refine aU rfl (bJ rfl rfl (fun h => gt rfl h)) (aM rfl (aG rfl rfl (fun hc => ah 0 tk61 rfl rfl rfl) ?_))
 refine bT (caps := []) [0] (false) (by kernel_rfl) _ rfl rfl (fun _ => rfl) (fun hc => (aS (ae rfl hc) rfl)) (fun hc => by rw [List.append_nil]; exact xv o) (fun c8 hc8 => ?_)
 refine aU rfl (bJ rfl rfl (fun h => gt rfl h)) (aM rfl (aG rfl rfl (fun hc => ah 0 tk61 rfl rfl rfl) ?_))
 refine bT (caps := []) [0] (false) (by kernel_rfl) _ rfl rfl (fun _ => rfl) (fun hc => (aS (ae rfl hc) rfl)) (fun hc => by rw [List.append_nil]; exact uv o) (fun c9 hc9 => ?_)
 refine aU rfl (bJ rfl rfl (fun h => gt rfl h)) (aM rfl (aG rfl rfl (fun hc => ah 0 tk61 rfl rfl rfl) ?_))
 refine bT (caps := []) [0] (false) (by kernel_rfl) _ rfl rfl (fun _ => rfl) (fun hc => (aS (ae rfl hc) rfl)) (fun hc => by rw [List.append_nil]; exact pr o) (fun c10 hc10 => ?_)
 refine aU rfl (bJ rfl rfl (fun h => gt rfl h)) (aA rfl (aNn (aJ ?_)))
 refine br [] [] rfl Tryz.results26 rfl ?_ (.inr rfl)
 refine ⟨⟨rfl, rfl⟩, _, rfl, fun hb => ?_⟩
 simp only [Bool.and_eq_true] at hb
 obtain ⟨⟨⟨⟨⟨⟨⟨⟨⟨⟨a0, a1⟩, a2⟩, a3⟩, a4⟩, _⟩, _⟩, _⟩, _⟩, _⟩, _⟩ := hb
 subst a0 a1 a2 a3
 exact ⟨hc1 rfl rfl, hc2 rfl rfl, (hc4 rfl a4).1, (hc4 rfl a4).2⟩
end Go.Proofs.YtgmiihmahaahiaaGreatDoor

