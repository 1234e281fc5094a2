/- Parts of the proof, in build order. No condition. -/
import Derived.Test.YtgmiihmahaahiaaGreatDoorQd06
import Derived.Test.YtgmiihmahaahiaaGreatDoorQd03
set_option linter.unusedSimpArgs false
set_option linter.unusedVariables false
set_option maxHeartbeats 1000000
set_option maxRecDepth 20000
namespace Go.Proofs.YtgmiihmahaahiaaGreatDoor
open Go.RowKit Go.Lp Go.Sy
open Go.Proofs.Tryz
attribute [local irreducible] aL aB awp aC fwp
theorem dS (a b c : Int) : Con Tryz.prog 108 [.int .i64 a, .int .i64 b, .int .i64 c] [] [] (fun r _ _ => r = .bool (decide (a ≥ b) && decide (a ≤ c))) := by
 refine Con.enter Tryz.func108 rfl (by simp [Tryz.ntmps108]) ?_
 show awp _ _ _ _ ⟨[(0, true, _), (1, true, _), (2, true, _)], _, _⟩
 refine aSR (aA rfl (aNn (aSR (aM rfl (aM rfl (aU rfl (eu rfl rfl) (aM rfl (aG rfl rfl (fun hc => aD rfl) (aG rfl rfl (fun hc => aD rfl) (aG rfl rfl (fun hc => jt (ae rfl hc) (ae rfl hc)) (aU rfl (bJ rfl rfl (fun h => gt rfl h)) (aA rfl (aNn (aJ ?_))))))))))))))
 refine br [] [] rfl Tryz.results108 rfl ?_ (.inr rfl)
 rfl
theorem nU (n : Int) : Con Tryz.prog 109 [.int .i64 n] [] [] (YB True) := by
 refine Con.enter Tryz.func109 rfl (by simp [Tryz.ntmps109]) ?_
 show awp _ _ _ _ ⟨[(0, true, _)], _, _⟩
 refine aSR (aA rfl (aNs (aSR (aA rfl (aNn (aI ?_))))))
 refine aT [0, 3] [] [] (fun (k : Nat) st => (1 ≤ k ∧ k ≤ 512) ∧ st = ⟨[(0, true, .int .i64 n), (3, true, .int .i64 k)], [], []⟩) (fun k => 513 - k) rfl (⟨1, ⟨by omega, by omega⟩, rfl⟩) ?_
 rintro k st ⟨⟨hk1, hk⟩, rfl⟩
 refine aH (aSR (aM rfl (aU rfl (jt rfl rfl) (aNn ?_))))
 refine al _ rfl (fun h1 => ?_) (fun h1 => ?_)
 ·skip
  have hk' : k ≤ 256 := by simp at h1; omega
  refine aq (az (aH (aI (aSR (aM rfl (aM rfl (aU rfl (bx rfl rfl) (aNn ?_))))))))
  refine al _ rfl (fun h2 => ?_) (fun h2 => ?_)
  ·skip
   refine aSR (aA rfl (aNn (aJ (bu (aO (aO (bu (aO ?_))))))))
   refine br [] [] rfl Tryz.results109 rfl ?_ (.inr rfl)
   exact ⟨⟨rfl, rfl⟩, _, rfl, fun _ => trivial⟩
  ·skip
   refine aq (bB (az (aj (aM rfl ?_))))
   refine aU rfl (mo rfl rfl (by omega)) ?_
   refine aA rfl (aNn ?_)
   refine ⟨[0, 3], [], [], rfl, ?_⟩
   exact ⟨2 * k, ⟨⟨by omega, by omega⟩, rfl⟩, by omega⟩
 ·skip
  refine aX (aY (aY (bf (az (aSR (aA rfl (aNn (aJ ?_))))))))
  refine br [] [] rfl Tryz.results109 rfl ?_ (.inr rfl)
  exact ⟨⟨rfl, rfl⟩, _, rfl, fun _ => trivial⟩
theorem gz (s : ByteArray) (hs : s.size ≤ maxLen) : Con Tryz.prog 52 [.string s] [] [] (YB True) := by
 have hs' : s.size ≤ 9223372036854775807 := hs
 refine Con.enter Tryz.func52 rfl (by simp [Tryz.ntmps52]) ?_
 show awp _ _ _ _ ⟨[(0, true, _)], _, _⟩
 refine aSR (aA rfl (aNs (aSR ?_)))
 refine aA rfl (aNn (aI (aT [0, 3] [] [] (fun (k : Nat) st => k ≤ s.size ∧ st = ⟨[(0, true, .string s), (3, true, .int .i64 k)], [], []⟩) (fun k => s.size - k) rfl (⟨0, Nat.zero_le _, rfl⟩) ?_)))
 rintro k st ⟨hk, rfl⟩
 refine aH (aSR (aM rfl (aM rfl (aU rfl (eA Tryz.underlying9 rfl) (aU rfl (bw rfl rfl) (aNn ?_))))))
 refine al _ rfl (fun h1 => ?_) (fun h1 => ?_)
 ·skip
  have hk' : k < s.size := by simpa using h1
  obtain ⟨u, hu⟩ : ∃ u, s.data.toList[k]? = some u := ⟨_, List.getElem?_eq_getElem (by simpa using hk')⟩
  refine aq (az (aH (aI (aSR (aM rfl (aM rfl (aU rfl (ej (k) Tryz.underlying9 rfl rfl (rfl) (hu)) (aU rfl (bw rfl rfl) (aM rfl (aG rfl rfl (fun hc => aD rfl) (aG rfl rfl (fun hc => aD rfl) (aG rfl rfl (fun hc => ej (k) Tryz.underlying9 (ae rfl hc) (ae rfl hc) (rfl) (hu)) (aG rfl rfl (fun hc => cN (ae rfl hc) rfl) (aU rfl (bY rfl rfl (fun h => gf rfl h)) (aNn ?_)))))))))))))))
  refine al _ rfl (fun h2 => ?_) (fun h2 => ?_)
  ·skip
   refine aSR (aA rfl (aNn (aJ (bu (aO (aO (bu (aO ?_))))))))
   refine br [] [] rfl Tryz.results52 rfl ?_ (.inr rfl)
   exact ⟨⟨rfl, rfl⟩, _, rfl, fun _ => trivial⟩
  ·skip
   refine aq (bB (az (aj (aM rfl ?_))))
   refine aU rfl (bd rfl rfl (by omega)) ?_
   refine aA rfl (aNn ?_)
   refine ⟨[0, 3], [], [], rfl, ?_⟩
   exact ⟨k + 1, ⟨by omega, rfl⟩, by omega⟩
 ·skip
  refine aX (aY (aY (bf (az (aSR (aM rfl (aU rfl (eA Tryz.underlying9 rfl) (aU rfl (eu rfl rfl) (aM rfl (aG rfl rfl (fun hc => aD rfl) (aG rfl rfl (fun hc => eA Tryz.underlying9 (ae rfl hc)) (aG rfl rfl (fun hc => jt (ae rfl hc) rfl) (aU rfl (bJ rfl rfl (fun h => gt rfl h)) (aA rfl (aNn (aJ ?_))))))))))))))))
  refine br [] [] rfl Tryz.results52 rfl ?_ (.inr rfl)
  exact ⟨⟨rfl, rfl⟩, _, rfl, fun _ => trivial⟩
theorem pI (s : ByteArray) (hs : s.size ≤ maxLen) : Con Tryz.prog 115 [.string s] [] [] (YB True) := by
 have hs' : s.size ≤ 9223372036854775807 := hs
 refine Con.enter Tryz.func115 rfl (by simp [Tryz.ntmps115]) ?_
 show awp _ _ _ _ ⟨[(0, true, _)], _, _⟩
 refine aSR (aA rfl (aNs (aSR (aM rfl (aU rfl (eA Tryz.underlying9 rfl) (aU rfl (bw rfl rfl) (aM rfl (aG rfl rfl (fun hc => aD rfl) (aG rfl rfl (fun hc => eA Tryz.underlying9 (ae rfl hc)) (aG rfl rfl (fun hc => cN (ae rfl hc) rfl) (aU rfl (bY rfl rfl (fun h => gf rfl h)) (aNn ?_))))))))))))
 refine al _ rfl (fun h1 => ?_) (fun h1 => ?_)
 ·skip
  refine aSR (aA rfl (aNn (aJ (aO ?_))))
  refine br [] [] rfl Tryz.results115 rfl ?_ (.inr rfl)
  exact ⟨⟨rfl, rfl⟩, _, rfl, fun _ => trivial⟩
 ·skip
  refine aq (az (aH (aSR (aA rfl (aNn ?_)))))
  refine aI (aT [0, 3] [] [] (fun (k : Nat) st => k ≤ s.size ∧ st = ⟨[(0, true, .string s), (3, true, .int .i64 k)], [], []⟩) (fun k => s.size - k) rfl (⟨0, Nat.zero_le _, rfl⟩) ?_)
  rintro k st ⟨hk, rfl⟩
  refine aH (aSR (aM rfl (aM rfl (aU rfl (eA Tryz.underlying9 rfl) (aU rfl (bw rfl rfl) (aNn ?_))))))
  refine al _ rfl (fun h2 => ?_) (fun h2 => ?_)
  ·skip
   have hk' : k < s.size := by simpa using h2
   obtain ⟨u, hu⟩ : ∃ u, s.data.toList[k]? = some u := ⟨_, List.getElem?_eq_getElem (by simpa using hk')⟩
   refine aq (az (aH (aI (aSR (aM rfl (aM rfl (aU rfl (ej (k) Tryz.underlying9 rfl rfl (rfl) (hu)) (aU rfl (bw rfl rfl) (aM rfl (aG rfl rfl (fun hc => aD rfl) (aG rfl rfl (fun hc => aD rfl) (aG rfl rfl (fun hc => ej (k) Tryz.underlying9 (ae rfl hc) (ae rfl hc) (rfl) (hu)) (aG rfl rfl (fun hc => cN (ae rfl hc) rfl) (aU rfl (bY rfl rfl (fun h => gf rfl h)) ?_))))))))))))))
   refine aM rfl (aG rfl rfl (fun hc => aD rfl) (aG rfl rfl (fun hc => aD rfl) (aG rfl rfl (fun hc => ej (k) Tryz.underlying9 (ae rfl hc) (ae rfl hc) (rfl) (hu)) (aG rfl rfl (fun hc => bx (ae rfl hc) rfl) (aU rfl (bY rfl rfl (fun h => gf rfl h)) (aM rfl (aG rfl rfl (fun hc => aD rfl) (aG rfl rfl (fun hc => aD rfl) (aG rfl rfl (fun hc => ej (k) Tryz.underlying9 (ae rfl hc) (ae rfl hc) (rfl) (hu)) (aG rfl rfl (fun hc => bx (ae rfl hc) rfl) (aU rfl (bY rfl rfl (fun h => gf rfl h)) (aNn ?_))))))))))))
   refine al _ rfl (fun h3 => ?_) (fun h3 => ?_)
   ·skip
    refine aSR (aA rfl (aNn (aJ (bu (aO (aO (bu (aO ?_))))))))
    refine br [] [] rfl Tryz.results115 rfl ?_ (.inr rfl)
    exact ⟨⟨rfl, rfl⟩, _, rfl, fun _ => trivial⟩
   ·skip
    refine aq (bB (az (aj (aM rfl ?_))))
    refine aU rfl (bd rfl rfl (by omega)) ?_
    refine aA rfl (aNn ?_)
    refine ⟨[0, 3], [], [], rfl, ?_⟩
    exact ⟨k + 1, ⟨by omega, rfl⟩, by omega⟩
  ·skip
   refine aX (aY (aY (bf (az (aSR (aA rfl (aNn (aJ ?_))))))))
   refine br [] [] rfl Tryz.results115 rfl ?_ (.inr rfl)
   exact ⟨⟨rfl, rfl⟩, _, rfl, fun _ => trivial⟩
def vU (o : ax) (i : Int) : cG := if 0 ≤ i ∧ i < o.secs.l.length then elt o.secs.l i else ⟨.empty, -1, 0, 0, .empty, false⟩
theorem aau {ps : List Per} {o : ax} (h : Ent ps o.ok) (i : Int) : Ent ps (vU o i).ok := by
 unfold vU
 split
 · rename_i hi
   exact Ent.all (ax.f_secsA h) (iQ (l := o.secs.l) (i := i) (by omega) (by omega))
 · exact fun _ _ _ => ⟨by show (0 : Nat) ≤ maxLen; unfold maxLen; omega, by show (0 : Nat) ≤ maxLen; unfold maxLen; omega⟩
theorem ye {o : ax} {i : Int} (h : (vU o i).kind ≠ -1) : 0 ≤ i ∧ i < o.secs.l.length := by
 unfold vU at h
 by_cases hi : 0 ≤ i ∧ i < o.secs.l.length
 · exact hi
 · rw [if_neg hi] at h; exact absurd rfl h
theorem fY (o : ax) (i : Int) : Con Tryz.prog 114 [o.val, .int .i64 i] [o.ok] [] (fun r _ _ => r = (vU o i).val) := by
 refine Con.enter Tryz.func114 rfl (by simp [Tryz.ntmps114]) ?_
 show awp _ _ _ _ ⟨[(0, true, _), (1, true, _)], _, _⟩
 refine bA (ax.f_secs (.of (aF 0 rfl))) (fun hlen => ?_)
 refine aSR ?_
 refine an (q := true) rfl (cx rfl rfl rfl (fun b0_0 => ?_))
 refine aHN ?_
 refine an (q := true) rfl (bc (zs := [.string .empty, .int .i64 0, .int .i64 0, .int .i64 0, .string .empty, .bool false]) (by kernel_rfl) rfl (fun b0_1 => ?_))
 refine aHN ?_
 refine aNs (aSR (aM rfl ?_))
 refine aU rfl (qFA (off := 1) rfl) ?_
 refine aU rfl (ah 0 tk50 rfl rfl rfl) (aU rfl (aZ Tryz.underlying50 rfl) ?_)
 refine aU rfl (ei rfl rfl (by omega)) ?_
 refine aU rfl (bC (by kernel_rfl) rfl (fun w S fp hst => (dS _ _ _).quiet0 hst)) ?_
 refine aU rfl (bZ rfl) (aNn ?_)
 refine al _ rfl (fun h1 => ?_) (fun h1 => ?_)
 ·skip
  refine aSR ?_
  refine aU rfl (dz (l := [(1, .const (.int .i64 (-1)))]) (zs := [.string .empty, .int .i64 0, .int .i64 0, .int .i64 0, .string .empty, .bool false]) (pl := [(0, 1), (1, 1), (2, 1), (3, 1), (4, 1), (5, 1)]) (by kernel_rfl) (by kernel_rfl) (by kernel_rfl) rfl rfl rfl) ?_
  refine an rfl (aV 1 tk85 rfl rfl rfl rfl ?_)
  refine aHK ?_
  refine aNn (aJ (aO ?_))
  refine nV [] [] rfl Tryz.results114 (cV 1 tk85 rfl rfl rfl) ?_ (.inr rfl)
  unfold vU
  rw [if_neg (by simp at h1; omega)]
 ·skip
  have hi : 0 ≤ i ∧ i < o.secs.l.length := by simp at h1; omega
  refine aq (az (aSR ?_))
  refine aU rfl (qFA (off := 1) rfl) ?_
  refine aU rfl (ah 0 tk50 rfl rfl rfl) (aM rfl ?_)
  refine cJ true rfl rfl (fun _ => av Tryz.underlying50 tk85 rfl ((ax.f_secs (.of (aF 0 rfl)))) rfl (bI (i := i) (by omega) (by omega)) (by omega) rfl) (fun h => absurd h (by decide)) (fun ⟨b3_3, o3_3⟩ => ?_)
  refine aU rfl (aP (o := 0) tk85 rfl (aF 0 rfl) rfl rfl) ?_
  refine an rfl (aV 1 tk85 rfl rfl rfl rfl ?_)
  refine aHK ?_
  refine aNn (aJ ?_)
  refine nV [] [] rfl Tryz.results114 (cV 1 tk85 rfl rfl rfl) ?_ (.inr rfl)
  unfold vU
  rw [if_pos hi]
theorem jD (o : ax) (i k : Int) : Con Tryz.prog 113 [o.val, .int .i64 i, .int .i64 k] [o.ok] [] (YB True) := by
 refine Con.enter Tryz.func113 rfl (by simp [Tryz.ntmps113]) ?_
 show awp _ _ _ _ ⟨[(0, true, _), (1, true, _), (2, true, _)], _, _⟩
 refine bA (ax.f_syms (.of (aF 0 rfl))) (fun hlen => ?_)
 refine aSR ?_
 refine an (q := true) rfl (cx rfl rfl rfl (fun b0_0 => ?_))
 refine aHN ?_
 refine aA rfl (aNs (aSR (aM rfl ?_)))
 refine aU rfl (qFA (off := 2) rfl) ?_
 refine aU rfl (ah 0 tk51 rfl rfl rfl) (aU rfl (aZ Tryz.underlying51 rfl) ?_)
 refine aU rfl (ei rfl rfl (by omega)) ?_
 refine aU rfl (bC (by kernel_rfl) rfl (fun w S fp hst => (dS _ _ _).quiet0 hst)) ?_
 refine aU rfl (bZ rfl) (aNn ?_)
 refine al _ rfl (fun h1 => ?_) (fun h1 => ?_)
 ·skip
  refine aSR (aA rfl (aNn (aJ (aO ?_))))
  refine br [] [] rfl Tryz.results113 rfl ?_ (.inr rfl)
  exact ⟨⟨rfl, rfl⟩, _, rfl, fun _ => trivial⟩
 ·skip
  have hi : 0 ≤ i ∧ i < o.syms.l.length := by simp at h1; omega
  refine aq (az (aSR ?_))
  refine aU rfl (qFA (off := 2) rfl) ?_
  refine aU rfl (ah 0 tk51 rfl rfl rfl) (aM rfl ?_)
  refine cJ true rfl rfl (fun _ => av Tryz.underlying51 tk63 rfl ((ax.f_syms (.of (aF 0 rfl)))) rfl (bI (i := i) (by omega) (by omega)) (by omega) rfl) (fun h => absurd h (by decide)) (fun ⟨b3_3, o3_3⟩ => ?_)
  refine aU rfl (qFA (off := 5) rfl) ?_
  refine aU rfl (aP (o := 5) tk3 rfl (aF 0 rfl) rfl rfl) (aM rfl (aU rfl (bx rfl rfl) (aA rfl (aNn (aJ ?_)))))
  refine br [] [] rfl Tryz.results113 rfl ?_ (.inr rfl)
  exact ⟨⟨rfl, rfl⟩, _, rfl, fun _ => trivial⟩
theorem ph (k : Int) : Con Tryz.prog 112 [.int .i64 k] [] [] (fun r _ _ => r = .int .i64 (gK k)) := by
 refine Con.enter Tryz.func112 rfl (by simp [Tryz.ntmps112]) ?_
 show awp _ _ _ _ ⟨[(0, true, _)], _, _⟩
 refine aSR (aA rfl (aNs (aSR (aM rfl (aU rfl (bx rfl rfl) (aNn ?_))))))
 refine al _ rfl (fun h1 => ?_) (fun h1 => ?_)
 ·skip
  refine aSR (aA rfl (aNn (aJ (aO ?_))))
  refine br [] [] rfl Tryz.results112 rfl ?_ (.inr rfl)
  have : k = 2 := by simpa using h1
  subst this; rfl
 ·skip
  refine aq (az (aH (aSR (aM rfl (aU rfl (bx rfl rfl) (aNn ?_))))))
  refine al _ rfl (fun h2 => ?_) (fun h2 => ?_)
  ·skip
   refine aSR (aA rfl (aNn (aJ (aO ?_))))
   refine br [] [] rfl Tryz.results112 rfl ?_ (.inr rfl)
   have a1 : ¬ k = 2 := by simpa using h1
   have : k = 3 := by simpa using h2
   subst this; rfl
  ·skip
   refine aq (az (aSR (aA rfl (aNn (aJ ?_)))))
   refine br [] [] rfl Tryz.results112 rfl ?_ (.inr rfl)
   have a1 : ¬ k = 2 := by simpa using h1
   have a2 : ¬ k = 3 := by simpa using h2
   unfold gK; rw [if_neg a1, if_neg a2]
theorem xY (k op : Int) : Con Tryz.prog 214 [.int .i64 k, .int .i64 op] [] [] (YB True) := by
 refine Con.enter Tryz.func214 rfl (by simp [Tryz.ntmps214]) ?_
 show awp _ _ _ _ ⟨[(0, true, _), (1, true, _)], _, _⟩
 refine aSR (aA rfl (aNs (aSR (aM rfl (aNn (aI (aSR (aU rfl (bx rfl rfl) (aA rfl (aNn ?_))))))))))
 refine al _ rfl (fun h1 => ?_) (fun h1 => ?_)
 ·skip
  refine aSR (aM rfl (aU rfl (bx rfl rfl) (aM rfl (aG rfl rfl (fun hc => aD rfl) (aG rfl rfl (fun hc => bx (ae rfl hc) rfl) (aU rfl (bY rfl rfl (fun h => gf rfl h)) (aM rfl (aG rfl rfl (fun hc => aD rfl) (aG rfl rfl (fun hc => bx (ae rfl hc) rfl) (aU rfl (bY rfl rfl (fun h => gf rfl h)) (aM rfl (aG rfl rfl (fun hc => aD rfl) (aG rfl rfl (fun hc => bx (ae rfl hc) rfl) (aU rfl (bY rfl rfl (fun h => gf rfl h)) ?_))))))))))))))
  refine aA rfl (aNn (aJ (bu (aO ?_))))
  refine br [] [] rfl Tryz.results214 rfl ?_ (.inr rfl)
  exact ⟨⟨rfl, rfl⟩, _, rfl, fun _ => trivial⟩
 ·skip
  refine aSR (aU rfl (bx rfl rfl) (aA rfl (aNn ?_)))
  refine al _ rfl (fun h2 => ?_) (fun h2 => ?_)
  ·skip
   refine aSR (aM rfl (aU rfl (bx rfl rfl) (aA rfl (aNn (aJ (bu (aO ?_)))))))
   refine br [] [] rfl Tryz.results214 rfl ?_ (.inr rfl)
   exact ⟨⟨rfl, rfl⟩, _, rfl, fun _ => trivial⟩
  ·skip
   refine aSR (aU rfl (bx rfl rfl) (aA rfl (aNn ?_)))
   refine al _ rfl (fun h3 => ?_) (fun h3 => ?_)
   ·skip
    refine aSR (aM rfl (aU rfl (bx rfl rfl) (aM rfl (aG rfl rfl (fun hc => aD rfl) (aG rfl rfl (fun hc => bx (ae rfl hc) rfl) (aU rfl (bY rfl rfl (fun h => gf rfl h)) (aA rfl (aNn (aJ (bu (aO ?_)))))))))))
    refine br [] [] rfl Tryz.results214 rfl ?_ (.inr rfl)
    exact ⟨⟨rfl, rfl⟩, _, rfl, fun _ => trivial⟩
   ·skip
    refine aSR (aU rfl (bx rfl rfl) (aA rfl (aNn ?_)))
    refine al _ rfl (fun h4 => ?_) (fun h4 => ?_)
    ·skip
     refine aSR (aM rfl (aU rfl (bx rfl rfl) (aA rfl (aNn (aJ (bu (aO ?_)))))))
     refine br [] [] rfl Tryz.results214 rfl ?_ (.inr rfl)
     exact ⟨⟨rfl, rfl⟩, _, rfl, fun _ => trivial⟩
    ·skip
     refine aSR (aU rfl (bx rfl rfl) (aA rfl (aNn ?_)))
     refine al _ rfl (fun h5 => ?_) (fun h5 => ?_)
     ·skip
      refine aSR (aM rfl (aU rfl (bx rfl rfl) (aA rfl (aNn (aJ (bu (aO ?_)))))))
      refine br [] [] rfl Tryz.results214 rfl ?_ (.inr rfl)
      exact ⟨⟨rfl, rfl⟩, _, rfl, fun _ => trivial⟩
     ·skip
      refine aq (bB (az (aSR (aM rfl (aU rfl (bx rfl rfl) (aM rfl (aG rfl rfl (fun hc => aD rfl) (aG rfl rfl (fun hc => bx (ae rfl hc) rfl) (aG rfl rfl (fun hc => aD (ae rfl hc)) (aG rfl rfl (fun hc => aD rfl) (aG rfl rfl (fun hc => bx (ae rfl hc) rfl) (aG rfl rfl (fun hc => bY (ae rfl hc) rfl (fun h => gf hc h)) (aU rfl (bJ rfl rfl (fun h => gt rfl h)) (aA rfl (aNn (aJ ?_))))))))))))))))
      refine br [] [] rfl Tryz.results214 rfl ?_ (.inr rfl)
      exact ⟨⟨rfl, rfl⟩, _, rfl, fun _ => trivial⟩
theorem yb (k : Int) : Con Tryz.prog 212 [.int .i64 k] [] [] (fun r _ _ => r = .bool (decide (k ≥ 5) && decide (k ≤ 10))) := by
 refine Con.enter Tryz.func212 rfl (by simp [Tryz.ntmps212]) ?_
 show awp _ _ _ _ ⟨[(0, true, _)], _, _⟩
 refine aSR (aA rfl (aNn (aSR (aM rfl ?_))))
 refine aU rfl (bC (by kernel_rfl) rfl (fun w S fp hst => (dS _ _ _).quiet0 hst)) ?_
 refine aA rfl (aNn (aJ ?_))
 refine br [] [] rfl Tryz.results212 rfl ?_ (.inr rfl)
 rfl
abbrev abP (a b c d e : Int) : Value := .agg #[.int .i64 a, .int .i64 b, .int .i64 c, .int .i64 d, .int .i64 e]
theorem wY (k : Int) : Con Tryz.prog 290 [.int .i64 k] [] [] fun r ps hp => hp = [] ∧ ∃ l : Sl Int, r = l.val ∧ ps = [ShF gJ l] := by
 refine Con.conv (R := fun r ps hp => ps = [] ∧ ((r = .slice none 0 0 ∧ hp = []) ∨ ∃ (ad : Option Addr) (zs : List Int), r = .slice ad zs.length zs.length ∧ hp = [bg (.slice ad zs.length zs.length) 3 1 (zs.map gJ)])) ?_ fun _ _ _ ⟨h1, h⟩ => ?_
 rotate_left
 · subst h1
   rcases h with ⟨h2, h3⟩ | ⟨ad, zs, h2, h3⟩
   · subst h2 h3
     refine ⟨_, _, StE.ents (ps' := [ShF gJ ⟨none, 0, []⟩]) fun p hp => ?_, rfl, ⟨none, 0, []⟩, rfl, rfl⟩
     rw [List.mem_singleton.1 hp]
     exact fun _ _ _ => .e none 0 (by unfold maxLen; omega)
   · subst h2 h3
     exact ⟨_, _, (StE.share 0 (ShF gJ ⟨ad, zs.length, zs⟩) rfl fun _ _ _ h => eO h).trans (StE.keep [0] [] rfl), rfl, ⟨ad, zs.length, zs⟩, rfl, rfl⟩
 refine Con.enter Tryz.func290 rfl (by simp [Tryz.ntmps290]) ?_
 show awp _ _ _ _ ⟨[(0, true, _)], _, _⟩
 refine aSR (aA rfl (aNs (aSR (aM rfl (aNn (aI (aH ?_)))))))
 refine fB (X := Bool) (fun q => ⟨[(3, true, .int .i64 k), (4, true, .bool q)], [], []⟩) ?_ ?_
 ·skip
  refine aSR (aU rfl (bx rfl rfl) (aA rfl (aNn ?_)))
  refine al _ rfl (fun h1 => ?_) (fun h1 => ?_)
  ·skip
   refine aq (az ?_)
   exact ⟨[3, 4], [], [], _, rfl, rfl⟩
  ·skip
   refine aSR (aU rfl (bx rfl rfl) (aA rfl (aNn ?_)))
   refine al _ rfl (fun h2 => ?_) (fun h2 => ?_)
   ·skip
    refine aq (az ?_)
    exact ⟨[3, 4], [], [], _, rfl, rfl⟩
   ·skip
    refine aSR (aU rfl (bx rfl rfl) (aA rfl (aNn ?_)))
    refine al _ rfl (fun h3 => ?_) (fun h3 => ?_)
    ·skip
     refine aq (az ?_)
     exact ⟨[3, 4], [], [], _, rfl, rfl⟩
    ·skip
     refine aSR (aU rfl (bx rfl rfl) (aA rfl (aNn ?_)))
     refine al _ rfl (fun h4 => ?_) (fun h4 => ?_)
     ·skip
      refine aq (az ?_)
      exact ⟨[3, 4], [], [], _, rfl, rfl⟩
     ·skip
      refine aj (aU rfl (bx rfl rfl) (aA rfl (aNn ?_)))
      exact ⟨[3, 4], [], [], _, rfl, rfl⟩
 ·skip
  rintro q1
  refine al _ rfl (fun h5 => ?_) (fun h5 => ?_)
  ·skip
   refine aSR ?_
   refine an (q := true) rfl (cB (zs := [.int .i64 0]) (l := [(0, .const (.int .i64 1)), (1, .const (.int .i64 4))]) el90 (by kernel_rfl) (by decide) (by decide) (by decide) rfl rfl rfl (.more rfl (.v rfl .nil) (.more rfl (.v rfl .nil) .nil)) rfl rfl (fun v7_0 => ?_))
   refine aHN ?_
   refine aA rfl (aNn (aJ (bu (aO ?_))))
   refine br [] [0] rfl Tryz.results290 rfl ?_ (.inr rfl)
   exact ⟨rfl, .inr ⟨v7_0, [1, 4], rfl, rfl⟩⟩
  ·skip
   refine aH ?_
   refine fB (X := Bool) (fun q => ⟨[(3, true, .int .i64 k), (11, true, .bool q)], [], []⟩) ?_ ?_
   ·skip
    refine aSR (aU rfl (bx rfl rfl) (aA rfl (aNn ?_)))
    refine al _ rfl (fun h6 => ?_) (fun h6 => ?_)
    ·skip
     refine aq (az ?_)
     exact ⟨[3, 11], [], [], _, rfl, rfl⟩
    ·skip
     refine aj (aU rfl (bx rfl rfl) (aA rfl (aNn ?_)))
     exact ⟨[3, 11], [], [], _, rfl, rfl⟩
   ·skip
    rintro q2
    refine al _ rfl (fun h7 => ?_) (fun h7 => ?_)
    ·skip
     refine aSR ?_
     refine an (q := true) rfl (cB (zs := [.int .i64 0]) (l := [(0, .const (.int .i64 1)), (1, .const (.int .i64 2))]) el90 (by kernel_rfl) (by decide) (by decide) (by decide) rfl rfl rfl (.more rfl (.v rfl .nil) (.more rfl (.v rfl .nil) .nil)) rfl rfl (fun v10_0 => ?_))
     refine aHN ?_
     refine aA rfl (aNn (aJ (bu (aO ?_))))
     refine br [] [0] rfl Tryz.results290 rfl ?_ (.inr rfl)
     exact ⟨rfl, .inr ⟨v10_0, [1, 2], rfl, rfl⟩⟩
    ·skip
     refine aH ?_
     refine fB (X := Bool) (fun q => ⟨[(3, true, .int .i64 k), (15, true, .bool q)], [], []⟩) ?_ ?_
     ·skip
      refine aSR (aU rfl (bx rfl rfl) (aA rfl (aNn ?_)))
      refine al _ rfl (fun h8 => ?_) (fun h8 => ?_)
      ·skip
       refine aq (az ?_)
       exact ⟨[3, 15], [], [], _, rfl, rfl⟩
      ·skip
       refine aSR (aU rfl (bx rfl rfl) (aA rfl (aNn ?_)))
       refine al _ rfl (fun h9 => ?_) (fun h9 => ?_)
       ·skip
        refine aq (az ?_)
        exact ⟨[3, 15], [], [], _, rfl, rfl⟩
       ·skip
        refine aSR (aU rfl (bx rfl rfl) (aA rfl (aNn ?_)))
        refine al _ rfl (fun h10 => ?_) (fun h10 => ?_)
        ·skip
         refine aq (az ?_)
         exact ⟨[3, 15], [], [], _, rfl, rfl⟩
        ·skip
         refine aSR (aU rfl (bx rfl rfl) (aA rfl (aNn ?_)))
         refine al _ rfl (fun h11 => ?_) (fun h11 => ?_)
         ·skip
          refine aq (az ?_)
          exact ⟨[3, 15], [], [], _, rfl, rfl⟩
         ·skip
          refine aSR (aU rfl (bx rfl rfl) (aA rfl (aNn ?_)))
          refine al _ rfl (fun h12 => ?_) (fun h12 => ?_)
          ·skip
           refine aq (az ?_)
           exact ⟨[3, 15], [], [], _, rfl, rfl⟩
          ·skip
           refine aSR (aU rfl (bx rfl rfl) (aA rfl (aNn ?_)))
           refine al _ rfl (fun h13 => ?_) (fun h13 => ?_)
           ·skip
            refine aq (az ?_)
            exact ⟨[3, 15], [], [], _, rfl, rfl⟩
           ·skip
            refine aj (aU rfl (bx rfl rfl) (aA rfl (aNn ?_)))
            exact ⟨[3, 15], [], [], _, rfl, rfl⟩
     ·skip
      rintro q3
      refine al _ rfl (fun h14 => ?_) (fun h14 => ?_)
      ·skip
       refine aSR ?_
       refine an (q := true) rfl (cB (zs := [.int .i64 0]) (l := [(0, .const (.int .i64 1)), (1, .const (.int .i64 2)), (2, .const (.int .i64 3))]) el90 (by kernel_rfl) (by decide) (by decide) (by decide) rfl rfl rfl (.more rfl (.v rfl .nil) (.more rfl (.v rfl .nil) (.more rfl (.v rfl .nil) .nil))) rfl rfl (fun v18_0 => ?_))
       refine aHN ?_
       refine aA rfl (aNn (aJ (bu (aO ?_))))
       refine br [] [0] rfl Tryz.results290 rfl ?_ (.inr rfl)
       exact ⟨rfl, .inr ⟨v18_0, [1, 2, 3], rfl, rfl⟩⟩
      ·skip
       refine aH ?_
       refine fB (X := Bool) (fun q => ⟨[(3, true, .int .i64 k), (24, true, .bool q)], [], []⟩) ?_ ?_
       ·skip
        refine aSR (aU rfl (bx rfl rfl) (aA rfl (aNn ?_)))
        refine al _ rfl (fun h15 => ?_) (fun h15 => ?_)
        ·skip
         refine aq (az ?_)
         exact ⟨[3, 24], [], [], _, rfl, rfl⟩
        ·skip
         refine aSR (aU rfl (bx rfl rfl) (aA rfl (aNn ?_)))
         refine al _ rfl (fun h16 => ?_) (fun h16 => ?_)
         ·skip
          refine aq (az ?_)
          exact ⟨[3, 24], [], [], _, rfl, rfl⟩
         ·skip
          refine aSR (aU rfl (bx rfl rfl) (aA rfl (aNn ?_)))
          refine al _ rfl (fun h17 => ?_) (fun h17 => ?_)
          ·skip
           refine aq (az ?_)
           exact ⟨[3, 24], [], [], _, rfl, rfl⟩
          ·skip
           refine aSR (aU rfl (bx rfl rfl) (aA rfl (aNn ?_)))
           refine al _ rfl (fun h18 => ?_) (fun h18 => ?_)
           ·skip
            refine aq (az ?_)
            exact ⟨[3, 24], [], [], _, rfl, rfl⟩
           ·skip
            refine aj (aU rfl (bx rfl rfl) (aA rfl (aNn ?_)))
            exact ⟨[3, 24], [], [], _, rfl, rfl⟩
       ·skip
        rintro q4
        refine al _ rfl (fun h19 => ?_) (fun h19 => ?_)
        ·skip
         refine aSR ?_
         refine an (q := true) rfl (cB (zs := [.int .i64 0]) (l := [(0, .const (.int .i64 1)), (1, .const (.int .i64 2)), (2, .const (.int .i64 4))]) el90 (by kernel_rfl) (by decide) (by decide) (by decide) rfl rfl rfl (.more rfl (.v rfl .nil) (.more rfl (.v rfl .nil) (.more rfl (.v rfl .nil) .nil))) rfl rfl (fun v24_0 => ?_))
         refine aHN ?_
         refine aA rfl (aNn (aJ (bu (aO ?_))))
         refine br [] [0] rfl Tryz.results290 rfl ?_ (.inr rfl)
         exact ⟨rfl, .inr ⟨v24_0, [1, 2, 4], rfl, rfl⟩⟩
        ·skip
         refine aH ?_
         refine fB (X := Bool) (fun q => ⟨[(3, true, .int .i64 k), (31, true, .bool q)], [], []⟩) ?_ ?_
         ·skip
          refine aSR (aU rfl (bx rfl rfl) (aA rfl (aNn ?_)))
          refine al _ rfl (fun h20 => ?_) (fun h20 => ?_)
          ·skip
           refine aq (az ?_)
           exact ⟨[3, 31], [], [], _, rfl, rfl⟩
          ·skip
           refine aSR (aU rfl (bx rfl rfl) (aA rfl (aNn ?_)))
           refine al _ rfl (fun h21 => ?_) (fun h21 => ?_)
           ·skip
            refine aq (az ?_)
            exact ⟨[3, 31], [], [], _, rfl, rfl⟩
           ·skip
            refine aSR (aU rfl (bx rfl rfl) (aA rfl (aNn ?_)))
            refine al _ rfl (fun h22 => ?_) (fun h22 => ?_)
            ·skip
             refine aq (az ?_)
             exact ⟨[3, 31], [], [], _, rfl, rfl⟩
            ·skip
             refine aSR (aU rfl (bx rfl rfl) (aA rfl (aNn ?_)))
             refine al _ rfl (fun h23 => ?_) (fun h23 => ?_)
             ·skip
              refine aq (az ?_)
              exact ⟨[3, 31], [], [], _, rfl, rfl⟩
             ·skip
              refine aj (aU rfl (bx rfl rfl) (aA rfl (aNn ?_)))
              exact ⟨[3, 31], [], [], _, rfl, rfl⟩
         ·skip
          rintro q5
          refine al _ rfl (fun h24 => ?_) (fun h24 => ?_)
          ·skip
           refine aSR ?_
           refine an (q := true) rfl (cB (zs := [.int .i64 0]) (l := [(0, .const (.int .i64 4))]) el90 (by kernel_rfl) (by decide) (by decide) (by decide) rfl rfl rfl (.more rfl (.v rfl .nil) .nil) rfl rfl (fun v30_0 => ?_))
           refine aHN ?_
           refine aA rfl (aNn (aJ (bu (aO ?_))))
           refine br [] [0] rfl Tryz.results290 rfl ?_ (.inr rfl)
           exact ⟨rfl, .inr ⟨v30_0, [4], rfl, rfl⟩⟩
          ·skip
           refine aH ?_
           refine fB (X := Bool) (fun q => ⟨[(3, true, .int .i64 k), (38, true, .bool q)], [], []⟩) ?_ ?_
           ·skip
            refine aSR (aU rfl (bx rfl rfl) (aA rfl (aNn ?_)))
            refine al _ rfl (fun h25 => ?_) (fun h25 => ?_)
            ·skip
             refine aq (az ?_)
             exact ⟨[3, 38], [], [], _, rfl, rfl⟩
            ·skip
             refine aSR (aU rfl (bx rfl rfl) (aA rfl (aNn ?_)))
             refine al _ rfl (fun h26 => ?_) (fun h26 => ?_)
             ·skip
              refine aq (az ?_)
              exact ⟨[3, 38], [], [], _, rfl, rfl⟩
             ·skip
              refine aj (aU rfl (bx rfl rfl) (aA rfl (aNn ?_)))
              exact ⟨[3, 38], [], [], _, rfl, rfl⟩
           ·skip
            rintro q6
            refine al _ rfl (fun h27 => ?_) (fun h27 => ?_)
            ·skip
             refine aSR ?_
             refine an (q := true) rfl (cB (zs := [.int .i64 0]) (l := [(0, .const (.int .i64 1))]) el90 (by kernel_rfl) (by decide) (by decide) (by decide) rfl rfl rfl (.more rfl (.v rfl .nil) .nil) rfl rfl (fun v34_0 => ?_))
             refine aHN ?_
             refine aA rfl (aNn (aJ (bu (aO ?_))))
             refine br [] [0] rfl Tryz.results290 rfl ?_ (.inr rfl)
             exact ⟨rfl, .inr ⟨v34_0, [1], rfl, rfl⟩⟩
            ·skip
             refine aq (bB (az (aSR (aA rfl (aNn (aJ ?_))))))
             refine br [] [] rfl Tryz.results290 rfl ?_ (.inr rfl)
             exact ⟨rfl, .inl ⟨rfl, rfl⟩⟩
theorem yj (a b c d e k : Int) : Con Tryz.prog 291 [abP a b c d e, .int .i64 k] [] [] (YN (fun z : Int => .int .i64 z) fun _ => True) := by
 refine Con.enter Tryz.func291 rfl (by simp [Tryz.ntmps291]) ?_
 show awp _ _ _ _ ⟨[(0, true, _), (1, true, _)], _, _⟩
 refine aSR ?_
 refine an (q := true) rfl (cx rfl rfl rfl (fun b0_0 => ?_))
 refine aHN ?_
 refine aA rfl (aNs (aSR (aM rfl (aNn (aI (aSR (aU rfl (bx rfl rfl) (aA rfl (aNn ?_)))))))))
 refine al _ rfl (fun h1 => ?_) (fun h1 => ?_)
 ·skip
  refine aSR ?_
  refine aU rfl (qFA (off := 1) rfl) ?_
  refine aU rfl (ah 0 tk3 rfl rfl rfl) (aA rfl (aNn (aJ (bu (aO ?_)))))
  refine br [] [] rfl Tryz.results291 rfl ?_ (.inr rfl)
  exact ⟨⟨rfl, rfl⟩, _, rfl, trivial⟩
 ·skip
  refine aSR (aU rfl (bx rfl rfl) (aA rfl (aNn ?_)))
  refine al _ rfl (fun h2 => ?_) (fun h2 => ?_)
  ·skip
   refine aSR ?_
   refine aU rfl (qFA (off := 2) rfl) ?_
   refine aU rfl (ah 0 tk3 rfl rfl rfl) (aA rfl (aNn (aJ (bu (aO ?_)))))
   refine br [] [] rfl Tryz.results291 rfl ?_ (.inr rfl)
   exact ⟨⟨rfl, rfl⟩, _, rfl, trivial⟩
  ·skip
   refine aSR (aU rfl (bx rfl rfl) (aA rfl (aNn ?_)))
   refine al _ rfl (fun h3 => ?_) (fun h3 => ?_)
   ·skip
    refine aSR ?_
    refine aU rfl (qFA (off := 3) rfl) ?_
    refine aU rfl (ah 0 tk3 rfl rfl rfl) (aA rfl (aNn (aJ (bu (aO ?_)))))
    refine br [] [] rfl Tryz.results291 rfl ?_ (.inr rfl)
    exact ⟨⟨rfl, rfl⟩, _, rfl, trivial⟩
   ·skip
    refine aq (bB (az (aSR ?_)))
    refine aU rfl (qFA (off := 4) rfl) ?_
    refine aU rfl (ah 0 tk3 rfl rfl rfl) (aA rfl (aNn (aJ ?_)))
    refine br [] [] rfl Tryz.results291 rfl ?_ (.inr rfl)
    exact ⟨⟨rfl, rfl⟩, _, rfl, trivial⟩
theorem w8 (l : Sl Int) (z : Int) : Con Tryz.prog 292 [l.val, .int .i64 z] [ShF gJ l] [] (YB True) := by
 refine Con.enter Tryz.func292 rfl (by simp [Tryz.ntmps292]) ?_
 show awp _ _ _ _ ⟨[(0, true, _), (1, true, _)], _, _⟩
 refine bA (.of (aF 0 rfl)) (fun hlen => ?_)
 refine aSR (aA rfl (aNs (aSR ?_)))
 refine aA rfl (aNn (aI (aT [0, 1, 5] [0] [] (fun (k : Nat) s => k ≤ l.l.length ∧ s = ⟨[(0, true, l.val), (1, true, .int .i64 z), (5, true, .int .i64 k)], [ShF gJ l], []⟩) (fun k => l.l.length - k) rfl (⟨0, Nat.zero_le _, rfl⟩) ?_)))
 rintro k s ⟨hk, rfl⟩
 refine aH (aSR (aM rfl (aM rfl (aU rfl (aZ Tryz.underlying90 rfl) (aU rfl (bw rfl rfl) (aNn ?_))))))
 refine al _ rfl (fun h1 => ?_) (fun h1 => ?_)
 ·skip
  have hk' : k < l.l.length := by simpa using h1
  obtain ⟨a, ha⟩ : ∃ a, l.l[k]? = some a := ⟨l.l[k]'hk', by simp⟩
  refine aq (az (aH (aI (aSR (aM rfl (aM rfl ?_))))))
  refine cJ true rfl rfl (fun _ => av Tryz.underlying90 tk3 rfl ((.of (aF 0 rfl))) rfl (aQ ha) rfl rfl) (fun h => absurd h (by decide)) (fun ⟨b4_2, o4_2⟩ => ?_)
  refine aU rfl (aP (o := 0) tk3 rfl (aF 0 rfl) rfl rfl) (aM rfl (aU rfl (bx rfl rfl) (aNn ?_)))
  refine al _ rfl (fun h2 => ?_) (fun h2 => ?_)
  ·skip
   refine aSR (aA rfl (aNn (aJ (bu (aO (aO (bu (aO ?_))))))))
   refine br [] [] rfl Tryz.results292 rfl ?_ (.inr rfl)
   exact ⟨⟨rfl, rfl⟩, _, rfl, fun _ => trivial⟩
  ·skip
   refine aq (bB (az (aj (aM rfl ?_))))
   refine aU rfl (bd rfl rfl (by omega)) ?_
   refine aA rfl (aNn ?_)
   refine ⟨[0, 1, 5], [0], [], rfl, ?_⟩
   exact ⟨k + 1, ⟨by omega, rfl⟩, by omega⟩
 ·skip
  refine aX (aY (aY (bf (az (aSR (aA rfl (aNn (aJ ?_))))))))
  refine br [] [] rfl Tryz.results292 rfl ?_ (.inr rfl)
  exact ⟨⟨rfl, rfl⟩, _, rfl, fun _ => trivial⟩
theorem ux (a b c d e : Int) : Con Tryz.prog 267 [abP a b c d e] [] [] (YB True) := by
 refine Con.enter Tryz.func267 rfl (by simp [Tryz.ntmps267]) ?_
 show awp _ _ _ _ ⟨[(0, true, _)], _, _⟩
 refine aSR ?_
 refine an (q := true) rfl (cx rfl rfl rfl (fun b0_0 => ?_))
 refine aHN ?_
 refine aA rfl (aNs (aSR ?_))
 refine aU rfl (qFA (off := 0) rfl) ?_
 refine aU rfl (ah 0 tk3 rfl rfl rfl) (aU rfl (bw rfl rfl) (aM rfl ?_))
 refine aG rfl rfl (fun hc => qFA (off := 0) rfl) ?_
 refine aG rfl rfl (fun hc => ah 0 tk3 (ae rfl hc) rfl rfl) (aG rfl rfl (fun hc => cN (ae rfl hc) rfl) (aU rfl (bY rfl rfl (fun h => gf rfl h)) (aNn ?_)))
 refine al _ rfl (fun h1 => ?_) (fun h1 => ?_)
 ·skip
  refine aSR (aA rfl (aNn (aJ (aO ?_))))
  refine br [] [] rfl Tryz.results267 rfl ?_ (.inr rfl)
  exact ⟨⟨rfl, rfl⟩, _, rfl, fun _ => trivial⟩
 ·skip
  refine aq (az (aSR ?_))
  refine aU rfl (qFA (off := 0) rfl) ?_
  refine aU rfl (ah 0 tk3 rfl rfl rfl) ?_
  refine an (q := true) rfl (bH [] [] (by kernel_rfl) rfl rfl rfl rfl (wY _) ?_)
  rintro _ _ _ ⟨rfl, ol, rfl, rfl⟩
  refine aST ?_
  refine aA rfl (aNs (aSR (aA rfl (aNn (aI ?_)))))
  refine aT [1, 3, 4] [0] [0] (fun (k : Nat) s => (1 ≤ k ∧ k ≤ 5) ∧ s = ⟨[(1, true, .pointer (some ⟨b0_0, 0, none⟩)), (3, true, ol.val), (4, true, .int .i64 k)], [ShF gJ ol], [Box b0_0 233 [.int .i64 a, .int .i64 b, .int .i64 c, .int .i64 d, .int .i64 e]]⟩) (fun k => 5 - k) rfl (⟨1, ⟨by omega, by omega⟩, rfl⟩) ?_
  rintro k s ⟨⟨hk1, hk⟩, rfl⟩
  refine aH (aSR (aM rfl (aU rfl (jt rfl rfl) (aNn ?_))))
  refine al _ rfl (fun h2 => ?_) (fun h2 => ?_)
  ·skip
   have hk' : k ≤ 4 := by simp at h2; omega
   refine aq (az (aH (aI (aSR (aU rfl (ah 0 tk233 rfl rfl rfl) (aM rfl ?_))))))
   refine bT (caps := []) [] ((0 : Int)) (by kernel_rfl) true rfl rfl (fun _ => rfl) (fun hc => rfl) (fun hc => by rw [List.append_nil]; exact yj _ _ _ _ _ _) (fun c1 hc1 => ?_)
   refine aA rfl (aNn (aSR (aM rfl (aM rfl ?_))))
   refine bT (caps := []) [0] (false) (by kernel_rfl) true rfl rfl (fun _ => rfl) (fun hc => rfl) (fun hc => by rw [List.append_nil]; exact w8 ol _) (fun c2 hc2 => ?_)
   refine aU rfl (bZ rfl) (aM rfl (aG rfl rfl (fun hc => aD rfl) (aG rfl rfl (fun hc => dB (ae rfl hc) rfl) (aU rfl (bJ rfl rfl (fun h => gt rfl h)) (aM rfl (aG rfl rfl (fun hc => aD rfl) (aG rfl rfl (fun hc => bw (ae rfl hc) rfl) (aG rfl rfl (fun hc => aD (ae rfl hc)) (aG rfl rfl (fun hc => aD rfl) (aG rfl rfl (fun hc => bw (ae rfl hc) rfl) (aG rfl rfl (fun hc => aD (ae rfl hc)) (aG rfl rfl (fun hc => aD rfl) (aG rfl rfl (fun hc => cN (ae rfl hc) rfl) (aG rfl rfl (fun hc => bY (ae rfl hc) rfl (fun h => gf hc h)) (aG rfl rfl (fun hc => bJ (ae rfl hc) rfl (fun h => gt hc h)) (aU rfl (bY rfl rfl (fun h => gf rfl h)) (aNn ?_)))))))))))))))))
   refine al _ rfl (fun h3 => ?_) (fun h3 => ?_)
   ·skip
    refine aSR (aA rfl (aNn (aJ (bu (aO (aO (bu (aO ?_))))))))
    refine br [] [] rfl Tryz.results267 rfl ?_ (.inr rfl)
    exact ⟨⟨rfl, rfl⟩, _, rfl, fun _ => trivial⟩
   ·skip
    refine aq (bB (az (aj (aM rfl ?_))))
    refine aU rfl (bd rfl rfl (by omega)) ?_
    refine aA rfl (aNn ?_)
    refine ⟨[1, 3, 4], [0], [0], rfl, ?_⟩
    exact ⟨k + 1, ⟨⟨by omega, by omega⟩, rfl⟩, by omega⟩
  ·skip
   refine aX (aY (aY (bf (az (aH (aSR ?_))))))
   refine aU rfl (qFA (off := 0) rfl) ?_
   refine aU rfl (ah 0 tk3 rfl rfl rfl) (aNn (aI (aH ?_)))
   refine fB (X := Bool) (fun q => ⟨[(1, true, .pointer (some ⟨b0_0, 0, none⟩)), (45, true, .int .i64 a), (46, true, .bool q)], [ShF gJ ol], [Box b0_0 233 [.int .i64 a, .int .i64 b, .int .i64 c, .int .i64 d, .int .i64 e]]⟩) ?_ ?_
   ·skip
    refine aSR (aU rfl (bx rfl rfl) (aA rfl (aNn ?_)))
    refine al _ rfl (fun h4 => ?_) (fun h4 => ?_)
    ·skip
     refine aq (az ?_)
     exact ⟨[1, 45, 46], [0], [0], _, rfl, rfl⟩
    ·skip
     refine aSR (aU rfl (bx rfl rfl) (aA rfl (aNn ?_)))
     refine al _ rfl (fun h5 => ?_) (fun h5 => ?_)
     ·skip
      refine aq (az ?_)
      exact ⟨[1, 45, 46], [0], [0], _, rfl, rfl⟩
     ·skip
      refine aSR (aU rfl (bx rfl rfl) (aA rfl (aNn ?_)))
      refine al _ rfl (fun h6 => ?_) (fun h6 => ?_)
      ·skip
       refine aq (az ?_)
       exact ⟨[1, 45, 46], [0], [0], _, rfl, rfl⟩
      ·skip
       refine aSR (aU rfl (bx rfl rfl) (aA rfl (aNn ?_)))
       refine al _ rfl (fun h7 => ?_) (fun h7 => ?_)
       ·skip
        refine aq (az ?_)
        exact ⟨[1, 45, 46], [0], [0], _, rfl, rfl⟩
       ·skip
        refine aj (aU rfl (bx rfl rfl) (aA rfl (aNn ?_)))
        exact ⟨[1, 45, 46], [0], [0], _, rfl, rfl⟩
   ·skip
    rintro q1
    refine al _ rfl (fun h8 => ?_) (fun h8 => ?_)
    ·skip
     refine aSR ?_
     refine aU rfl (qFA (off := 4) rfl) ?_
     refine aU rfl (ah 0 tk3 rfl rfl rfl) ?_
     refine aU rfl (fF rfl rfl (by decide)) ?_
     refine aU rfl (dB rfl rfl) (aNn ?_)
     refine al _ rfl (fun h9 => ?_) (fun h9 => ?_)
     ·skip
      refine aSR (aA rfl (aNn (aJ (bu (aO ?_)))))
      refine br [] [] rfl Tryz.results267 rfl ?_ (.inr rfl)
      exact ⟨⟨rfl, rfl⟩, _, rfl, fun _ => trivial⟩
     ·skip
      refine aq (bB (az (aSR ?_)))
      refine aU rfl (qFA (off := 4) rfl) ?_
      refine aU rfl (ah 0 tk3 rfl rfl rfl) (aU rfl (eu rfl rfl) (aM rfl ?_))
      refine aG rfl rfl (fun hc => qFA (off := 4) rfl) ?_
      refine aG rfl rfl (fun hc => ah 0 tk3 (ae rfl hc) rfl rfl) (aG rfl rfl (fun hc => jt (ae rfl hc) rfl) (aU rfl (bJ rfl rfl (fun h => gt rfl h)) (aA rfl (aNn (aJ ?_)))))
      refine br [] [] rfl Tryz.results267 rfl ?_ (.inr rfl)
      exact ⟨⟨rfl, rfl⟩, _, rfl, fun _ => trivial⟩
    ·skip
     refine aSR (aU rfl (bx rfl rfl) (aA rfl (aNn ?_)))
     refine al _ rfl (fun h10 => ?_) (fun h10 => ?_)
     ·skip
      refine aSR ?_
      refine aU rfl (qFA (off := 4) rfl) ?_
      refine aU rfl (ah 0 tk3 rfl rfl rfl) ?_
      refine aU rfl (fF rfl rfl (by decide)) ?_
      refine aU rfl (dB rfl rfl) (aM rfl ?_)
      refine aG rfl rfl (fun hc => qFA (off := 4) rfl) ?_
      refine aG rfl rfl (fun hc => ah 0 tk3 (ae rfl hc) rfl rfl) (aG rfl rfl (fun hc => bw (ae rfl hc) rfl) (aU rfl (bY rfl rfl (fun h => gf rfl h)) (aM rfl ?_)))
      refine aG rfl rfl (fun hc => qFA (off := 4) rfl) ?_
      refine aG rfl rfl (fun hc => ah 0 tk3 (ae rfl hc) rfl rfl) (aG rfl rfl (fun hc => cN (ae rfl hc) rfl) (aU rfl (bY rfl rfl (fun h => gf rfl h)) (aNn ?_)))
      refine al _ rfl (fun h11 => ?_) (fun h11 => ?_)
      ·skip
       refine aSR (aA rfl (aNn (aJ (bu (aO ?_)))))
       refine br [] [] rfl Tryz.results267 rfl ?_ (.inr rfl)
       exact ⟨⟨rfl, rfl⟩, _, rfl, fun _ => trivial⟩
      ·skip
       refine aq (bB (az (aSR ?_)))
       refine aU rfl (qFA (off := 4) rfl) ?_
       refine aU rfl (ah 0 tk3 rfl rfl rfl) (aU rfl (eu rfl rfl) (aM rfl ?_))
       refine aG rfl rfl (fun hc => qFA (off := 4) rfl) ?_
       refine aG rfl rfl (fun hc => ah 0 tk3 (ae rfl hc) rfl rfl) (aG rfl rfl (fun hc => jt (ae rfl hc) rfl) (aU rfl (bJ rfl rfl (fun h => gt rfl h)) (aA rfl (aNn (aJ ?_)))))
       refine br [] [] rfl Tryz.results267 rfl ?_ (.inr rfl)
       exact ⟨⟨rfl, rfl⟩, _, rfl, fun _ => trivial⟩
     ·skip
      refine aSR (aU rfl (bx rfl rfl) (aA rfl (aNn ?_)))
      refine al _ rfl (fun h12 => ?_) (fun h12 => ?_)
      ·skip
       refine aSR ?_
       refine aU rfl (qFA (off := 4) rfl) ?_
       refine aU rfl (ah 0 tk3 rfl rfl rfl) (aU rfl (eu rfl rfl) (aM rfl ?_))
       refine aG rfl rfl (fun hc => qFA (off := 4) rfl) ?_
       refine aG rfl rfl (fun hc => ah 0 tk3 (ae rfl hc) rfl rfl) (aG rfl rfl (fun hc => jt (ae rfl hc) rfl) (aU rfl (bJ rfl rfl (fun h => gt rfl h)) (aA rfl (aNn (aJ (bu (aO ?_)))))))
       refine br [] [] rfl Tryz.results267 rfl ?_ (.inr rfl)
       exact ⟨⟨rfl, rfl⟩, _, rfl, fun _ => trivial⟩
      ·skip
       refine aq (bB (az (aSR ?_)))
       refine aU rfl (qFA (off := 4) rfl) ?_
       refine aU rfl (ah 0 tk3 rfl rfl rfl) (aU rfl (eu rfl rfl) (aM rfl ?_))
       refine aG rfl rfl (fun hc => qFA (off := 4) rfl) ?_
       refine aG rfl rfl (fun hc => ah 0 tk3 (ae rfl hc) rfl rfl) (aG rfl rfl (fun hc => jt (ae rfl hc) rfl) (aU rfl (bJ rfl rfl (fun h => gt rfl h)) (aA rfl (aNn (aJ ?_)))))
       refine br [] [] rfl Tryz.results267 rfl ?_ (.inr rfl)
       exact ⟨⟨rfl, rfl⟩, _, rfl, fun _ => trivial⟩
theorem x5 (s : ByteArray) (hs : s.size ≤ maxLen) (at_ : Int) : Con Tryz.prog 213 [.string s, .int .i64 at_] [] [] (fun r ps hp => ps = [] ∧ hp = [] ∧ ∃ (a b c d e : Int) (ok : Bool), r = .tuple #[abP a b c d e, .bool ok]) := by
 have hs' : s.size ≤ 9223372036854775807 := hs
 have hu : ∀ z : Int, 0 ≤ z → z < s.size → ∃ (k0 : Nat) (u : UInt8), z = k0 ∧ s.data.toList[k0]? = some u := fun z h0 h1 => by
   obtain ⟨k0, rfl⟩ := Int.eq_ofNat_of_zero_le h0
   exact ⟨k0, _, rfl, List.getElem?_eq_getElem (by show k0 < s.data.toList.length; simp; show k0 < s.size; omega)⟩
 refine Con.enter Tryz.func213 rfl (by simp [Tryz.ntmps213]) ?_
 show awp _ _ _ _ ⟨[(0, true, _), (1, true, _)], _, _⟩
 refine aSR ?_
 refine an (q := true) rfl (bc (zs := [.int .i64 0, .int .i64 0, .int .i64 0, .int .i64 0, .int .i64 0]) (by kernel_rfl) rfl (fun b0_0 => ?_))
 refine aHN ?_
 refine aA rfl (aNs (aSR (aM rfl (aU rfl (bw rfl rfl) (aM rfl (aG rfl rfl (fun hc => aD rfl) (aG rfl rfl (fun hc => aD rfl) (aG rfl rfl (fun hc => eA Tryz.underlying9 (ae rfl hc)) (aG rfl rfl (fun hc => cN (ae rfl hc) (ae rfl hc)) (aU rfl (bY rfl rfl (fun h => gf rfl h)) (aNn ?_)))))))))))
 refine al _ rfl (fun h1 => ?_) (fun h1 => ?_)
 ·skip
  refine aSR ?_
  refine aU rfl (dz (l := []) (zs := [.int .i64 0, .int .i64 0, .int .i64 0, .int .i64 0, .int .i64 0]) (pl := [(0, 1), (1, 1), (2, 1), (3, 1), (4, 1)]) (by kernel_rfl) (by kernel_rfl) (by kernel_rfl) rfl rfl rfl) ?_
  refine an rfl (aV 0 tk233 rfl rfl rfl rfl ?_)
  refine aHK ?_
  refine aA rfl (aNn (aJ (aO ?_)))
  refine fS [] [] rfl Tryz.results213 (cV 0 tk233 rfl rfl rfl) (dV rfl) ?_ (.inr rfl)
  exact ⟨rfl, rfl, _, _, _, _, _, _, rfl⟩
 ·skip
  have hat0 : 0 ≤ at_ ∧ at_ ≤ s.size := by simp at h1; omega
  refine aq (az (aH (aSR (aM rfl (aU rfl (eA Tryz.underlying9 rfl) (aM rfl ?_))))))
  refine aU rfl (ei rfl rfl (by omega)) ?_
  refine aU rfl (bw rfl rfl) (aNn ?_)
  refine al _ rfl (fun h2 => ?_) (fun h2 => ?_)
  ·skip
   refine aSR ?_
   refine aU rfl (dz (l := []) (zs := [.int .i64 0, .int .i64 0, .int .i64 0, .int .i64 0, .int .i64 0]) (pl := [(0, 1), (1, 1), (2, 1), (3, 1), (4, 1)]) (by kernel_rfl) (by kernel_rfl) (by kernel_rfl) rfl rfl rfl) ?_
   refine an rfl (aV 0 tk233 rfl rfl rfl rfl ?_)
   refine aHK ?_
   refine aA rfl (aNn (aJ (aO ?_)))
   refine fS [] [] rfl Tryz.results213 (cV 0 tk233 rfl rfl rfl) (dV rfl) ?_ (.inr rfl)
   exact ⟨rfl, rfl, _, _, _, _, _, _, rfl⟩
  ·skip
   have hat : 0 ≤ at_ ∧ at_ + 8 ≤ s.size := by simp at h1 h2; omega
   obtain ⟨k0, u0, e0, hu0⟩ := hu at_ (by omega) (by omega)
   obtain ⟨k1, u1, e1, hu1⟩ := hu (at_ + 1) (by omega) (by omega)
   obtain ⟨k2, u2, e2, hu2⟩ := hu (at_ + 2) (by omega) (by omega)
   obtain ⟨k3, u3, e3, hu3⟩ := hu (at_ + 3) (by omega) (by omega)
   obtain ⟨k4, u4, e4, hu4⟩ := hu (at_ + 4) (by omega) (by omega)
   obtain ⟨k5, u5, e5, hu5⟩ := hu (at_ + 5) (by omega) (by omega)
   obtain ⟨k6, u6, e6, hu6⟩ := hu (at_ + 6) (by omega) (by omega)
   obtain ⟨k7, u7, e7, hu7⟩ := hu (at_ + 7) (by omega) (by omega)
   refine aq (az (aH ?_))
   refine bp [] (by kernel_rfl) ?_
   show aB _ _ _ _ _ 27 #[false, false, false, false, false, false, false, false, false, false, false, false, false, false, false, false, false, false, false, false, false, false, false, false, false, false, false] _
   refine bV 0 rfl rfl (aD rfl) ?_
   refine bV 1 rfl rfl (aD rfl) ?_
   refine bV 2 rfl rfl (bd rfl rfl (by omega)) ?_
   refine bV 3 rfl rfl (ej (k4) Tryz.underlying9 rfl rfl (e4) (hu4)) ?_
   refine bV 4 rfl rfl (dh (by kernel_rfl) Tryz.underlying3 rfl) ?_
   refine bV 5 rfl rfl (aD rfl) ?_
   refine bV 6 rfl rfl (aD rfl) ?_
   refine bV 7 rfl rfl (bd rfl rfl (by omega)) ?_
   refine bV 8 rfl rfl (ej (k5) Tryz.underlying9 rfl rfl (e5) (hu5)) ?_
   refine bV 9 rfl rfl (dh (by kernel_rfl) Tryz.underlying3 rfl) ?_
   refine bV 10 rfl rfl (wt rfl rfl) ?_
   refine bV 11 rfl rfl (p9 rfl rfl) ?_
   refine bV 12 rfl rfl (aD rfl) ?_
   refine bV 13 rfl rfl (aD rfl) ?_
   refine bV 14 rfl rfl (bd rfl rfl (by omega)) ?_
   refine bV 15 rfl rfl (ej (k6) Tryz.underlying9 rfl rfl (e6) (hu6)) ?_
   refine bV 16 rfl rfl (dh (by kernel_rfl) Tryz.underlying3 rfl) ?_
   refine bV 17 rfl rfl (wt rfl rfl) ?_
   refine bV 18 rfl rfl (p9 rfl rfl) ?_
   refine bV 19 rfl rfl (aD rfl) ?_
   refine bV 20 rfl rfl (aD rfl) ?_
   refine bV 21 rfl rfl (bd rfl rfl (by omega)) ?_
   refine bV 22 rfl rfl (ej (k7) Tryz.underlying9 rfl rfl (e7) (hu7)) ?_
   refine bV 23 rfl rfl (dh (by kernel_rfl) Tryz.underlying3 rfl) ?_
   refine bV 24 rfl rfl (wt rfl rfl) ?_
   refine bV 25 rfl rfl (p9 rfl rfl) ?_
   refine bV 26 rfl rfl (cz rfl) ?_
   refine bO (by kernel_rfl) ?_
   refine az (aH ?_)
   refine fB (X := Int) (fun z => ⟨[(0, true, .string s), (1, true, .int .i64 at_), (4, true, .pointer (some ⟨b0_0, 0, none⟩)), (6, true, .int .i64 z)], [], [Box b0_0 233 [.int .i64 0, .int .i64 0, .int .i64 0, .int .i64 0, .int .i64 0]]⟩) ?_ ?_
   ·skip
    refine aSR (aM rfl (aU rfl (eu rfl rfl) (aNn ?_)))
    refine al _ rfl (fun h3 => ?_) (fun h3 => ?_)
    ·skip
     refine aj (aM rfl (aU rfl (lD rfl rfl) (aA rfl (aNn ?_))))
     exact ⟨[0, 1, 4, 6], [], [0], _, rfl, rfl⟩
    ·skip
     refine aq (az ?_)
     exact ⟨[0, 1, 4, 6], [], [0], _, rfl, rfl⟩
   ·skip
    rintro zz
    refine aH ?_
    refine bp [22] (by kernel_rfl) ?_
    show aB _ _ _ _ _ 23 #[false, false, false, false, false, false, false, false, false, false, false, false, false, false, false, false, false, false, false, false, false, false, false] _
    refine bV 0 rfl rfl (aD rfl) ?_
    refine bV 1 rfl rfl (aD rfl) ?_
    refine bV 2 rfl rfl (ej (k0) Tryz.underlying9 rfl rfl (e0) (hu0)) ?_
    refine bV 3 rfl rfl (dh (by kernel_rfl) Tryz.underlying3 rfl) ?_
    refine bV 4 rfl rfl (aD rfl) ?_
    refine bV 5 rfl rfl (aD rfl) ?_
    refine bV 6 rfl rfl (bd rfl rfl (by omega)) ?_
    refine bV 7 rfl rfl (ej (k1) Tryz.underlying9 rfl rfl (e1) (hu1)) ?_
    refine bV 8 rfl rfl (dh (by kernel_rfl) Tryz.underlying3 rfl) ?_
    refine bV 9 rfl rfl (aD rfl) ?_
    refine bV 10 rfl rfl (aD rfl) ?_
    refine bV 11 rfl rfl (bd rfl rfl (by omega)) ?_
    refine bV 12 rfl rfl (ej (k2) Tryz.underlying9 rfl rfl (e2) (hu2)) ?_
    refine bV 13 rfl rfl (dh (by kernel_rfl) Tryz.underlying3 rfl) ?_
    refine bV 14 rfl rfl (aD rfl) ?_
    refine bV 15 rfl rfl (aD rfl) ?_
    refine bV 16 rfl rfl (bd rfl rfl (by omega)) ?_
    refine bV 17 rfl rfl (ej (k3) Tryz.underlying9 rfl rfl (e3) (hu3)) ?_
    refine bV 18 rfl rfl (dh (by kernel_rfl) Tryz.underlying3 rfl) ?_
    refine bV 19 rfl rfl (aD rfl) ?_
    refine bV 20 rfl rfl (dz (l := [(0, .tmp 56), (1, .tmp 61), (2, .tmp 66), (3, .tmp 71), (4, .tmp 72)]) (zs := [.int .i64 0, .int .i64 0, .int .i64 0, .int .i64 0, .int .i64 0]) (pl := [(0, 1), (1, 1), (2, 1), (3, 1), (4, 1)]) (by kernel_rfl) (by kernel_rfl) (by kernel_rfl) rfl rfl rfl) ?_
    refine cg (q := true) 21 rfl (by kernel_rfl) rfl rfl (bc (zs := [.int .i64 0, .int .i64 0, .int .i64 0, .int .i64 0, .int .i64 0]) (by kernel_rfl) rfl (fun b8_21 => ?_))
    refine bST rfl ?_
    refine cg 22 rfl (by kernel_rfl) rfl rfl (aV 1 tk233 rfl rfl rfl rfl ?_)
    refine bST rfl ?_
    refine bO (by kernel_rfl) ?_
    refine az (aH (aSR (aU rfl (ah 1 tk233 rfl rfl rfl) ?_)))
    refine bT (caps := []) [] (false) (by kernel_rfl) true rfl rfl (fun _ => rfl) (fun hc => rfl) (fun hc => by rw [List.append_nil]; exact ux _ _ _ _ _) (fun c1 hc1 => ?_)
    refine aU rfl (bZ rfl) (aNn ?_)
    refine al _ rfl (fun h4 => ?_) (fun h4 => ?_)
    ·skip
     refine aSR ?_
     refine aU rfl (dz (l := []) (zs := [.int .i64 0, .int .i64 0, .int .i64 0, .int .i64 0, .int .i64 0]) (pl := [(0, 1), (1, 1), (2, 1), (3, 1), (4, 1)]) (by kernel_rfl) (by kernel_rfl) (by kernel_rfl) rfl rfl rfl) ?_
     refine an rfl (aV 0 tk233 rfl rfl rfl rfl ?_)
     refine aHK ?_
     refine aA rfl (aNn (aJ (aO ?_)))
     refine fS [] [] rfl Tryz.results213 (cV 0 tk233 rfl rfl rfl) (dV rfl) ?_ (.inr rfl)
     exact ⟨rfl, rfl, _, _, _, _, _, _, rfl⟩
    ·skip
     refine aq (az (aSR (aU rfl (ah 1 tk233 rfl rfl rfl) ?_)))
     refine an rfl (aV 0 tk233 rfl rfl rfl rfl ?_)
     refine aHK ?_
     refine aA rfl (aNn (aJ ?_))
     refine fS [] [] rfl Tryz.results213 (cV 0 tk233 rfl rfl rfl) (dV rfl) ?_ (.inr rfl)
     exact ⟨rfl, rfl, _, _, _, _, _, _, rfl⟩
theorem xN (o : ax) : Con Tryz.prog 53 [o.val] [o.ok] [] (YB (∀ s ∈ o.secs.l, s.bytes.size ≤ 1048576)) := by
 refine Con.enter Tryz.func53 rfl (by simp [Tryz.ntmps53]) ?_
 show awp _ _ _ _ ⟨[(0, true, _)], _, _⟩
 refine bA (ax.f_secs (.of (aF 0 rfl))) (fun hlen => ?_)
 refine aSR ?_
 refine an (q := true) rfl (cx rfl rfl rfl (fun b0_0 => ?_))
 refine aHN ?_
 refine aA rfl (aNs (aSR (aA rfl (aNn (aI ?_)))))
 refine aT [1, 3] [0] [0] (fun (k : Nat) st => (k ≤ o.secs.l.length ∧ ∀ s ∈ o.secs.l.take k, s.bytes.size ≤ 1048576) ∧ st = ⟨[(1, true, .pointer (some ⟨b0_0, 0, none⟩)), (3, true, .int .i64 k)], [o.ok], [Box b0_0 61 o.vs]⟩) (fun k => o.secs.l.length - k) rfl (⟨0, ⟨Nat.zero_le _, fun s hs => by cases hs⟩, rfl⟩) ?_
 rintro k st ⟨⟨hk, hS⟩, rfl⟩
 refine aH (aSR (aM rfl ?_))
 refine aU rfl (qFA (off := 1) rfl) ?_
 refine aU rfl (ah 0 tk50 rfl rfl rfl) (aU rfl (aZ Tryz.underlying50 rfl) (aU rfl (bw rfl rfl) (aNn ?_)))
 refine al _ rfl (fun h1 => ?_) (fun h1 => ?_)
 ·skip
  have hk' : k < o.secs.l.length := by simp at h1; omega
  obtain ⟨s, hs⟩ : ∃ s, o.secs.l[k]? = some s := ⟨_, List.getElem?_eq_getElem hk'⟩
  refine aq (az (aH (aI (aSR ?_))))
  refine aU rfl (qFA (off := 1) rfl) ?_
  refine aU rfl (ah 0 tk50 rfl rfl rfl) (aM rfl ?_)
  refine cJ true rfl rfl (fun _ => av Tryz.underlying50 tk85 rfl ((ax.f_secs (.of (aF 0 rfl)))) rfl (aQ hs) rfl rfl) (fun h => absurd h (by decide)) (fun ⟨b4_3, o4_3⟩ => ?_)
  refine aU rfl (aP (o := 0) tk85 rfl (aF 0 rfl) rfl rfl) ?_
  refine an (q := true) rfl (bc (zs := [.string .empty, .int .i64 0, .int .i64 0, .int .i64 0, .string .empty, .bool false]) (by kernel_rfl) rfl (fun b4_5 => ?_))
  refine aHN ?_
  refine an rfl (aV 1 tk85 rfl rfl rfl rfl ?_)
  refine aHK ?_
  refine aNs ?_
  refine fI (cG.f_name (Ent.all (ax.f_secsA (.of (aF 1 rfl))) hs)) (fun hnl => ?_)
  refine aj ?_
  refine aU rfl (qFA (off := 3) rfl) ?_
  refine aU rfl (ah 1 tk3 rfl rfl rfl) (aA rfl (aNs ?_))
  refine fB (X := {z : Int // z = 0 ∨ z = s.size}) (fun z => ⟨[(1, true, .pointer (some ⟨b0_0, 0, none⟩)), (3, true, .int .i64 k), (4, true, .pointer (some ⟨b4_5, 0, none⟩)), (5, true, .int .i64 z.1)], [o.ok], [Box b0_0 61 o.vs, Box b4_5 85 s.vs]⟩) ?_ ?_
  ·skip
   refine aSR ?_
   refine aU rfl (qFA (off := 1) rfl) ?_
   refine aU rfl (ah 1 tk3 rfl rfl rfl) (aU rfl (bx rfl rfl) (aM rfl ?_))
   refine aG rfl rfl (fun hc => qFA (off := 1) rfl) ?_
   refine aG rfl rfl (fun hc => ah 1 tk3 (ae rfl hc) rfl rfl) (aG rfl rfl (fun hc => bx (ae rfl hc) rfl) (aU rfl (bY rfl rfl (fun h => gf rfl h)) (aNn ?_)))
   refine al _ rfl (fun h2 => ?_) (fun h2 => ?_)
   ·skip
    refine aj (aA rfl (aNn ?_))
    first
    | exact ⟨[1, 3, 4, 5], [0], [0, 1], ⟨0, .inl rfl⟩, rfl, rfl⟩
    | exact ⟨[1, 3, 4, 5], [0], [0, 1], ⟨s.size, .inr rfl⟩, rfl, rfl⟩
   ·skip
    refine aq (az ?_)
    first
    | exact ⟨[1, 3, 4, 5], [0], [0, 1], ⟨0, .inl rfl⟩, rfl, rfl⟩
    | exact ⟨[1, 3, 4, 5], [0], [0, 1], ⟨s.size, .inr rfl⟩, rfl, rfl⟩
  ·skip
   rintro ⟨z, hz⟩
   dsimp only
   refine aH (aSR ?_)
   refine aU rfl (qFA (off := 0) rfl) ?_
   refine aU rfl (ah 1 tk9 rfl rfl rfl) ?_
   refine bT (caps := []) [] (false) (by kernel_rfl) true rfl rfl (fun _ => rfl) (fun hc => rfl) (fun hc => by rw [List.append_nil]; exact gz _ hnl) (fun c1 hc1 => ?_)
   refine aU rfl (bZ rfl) (aM rfl ?_)
   refine aG rfl rfl (fun hc => qFA (off := 1) rfl) ?_
   refine aG rfl rfl (fun hc => ah 1 tk3 (ae rfl hc) rfl rfl) ?_
   refine aG rfl rfl (fun hc => bC (by kernel_rfl) (aS (ae rfl hc) (aS (ae rfl rfl) (aS (ae rfl rfl) rfl))) (fun w S fp hst => (dS _ _ _).quiet0 hst)) ?_
   refine aG rfl rfl (fun hc => bZ (ae rfl hc)) (aU rfl (bY rfl rfl (fun h => gf rfl h)) (aM rfl ?_))
   refine aG rfl rfl (fun hc => qFA (off := 2) rfl) ?_
   refine aG rfl rfl (fun hc => ah 1 tk3 (ae rfl hc) rfl rfl) ?_
   refine bT (caps := []) [] (false) (by kernel_rfl) _ rfl rfl (fun _ => rfl) (fun hc => (aS (ae rfl hc) rfl)) (fun hc => by rw [List.append_nil]; exact nU _) (fun c2 hc2 => ?_)
   refine aG rfl rfl (fun hc => bZ (ae rfl hc)) (aU rfl (bY rfl rfl (fun h => gf rfl h)) (aM rfl ?_))
   refine aG rfl rfl (fun hc => qFA (off := 3) rfl) ?_
   refine aG rfl rfl (fun hc => ah 1 tk3 (ae rfl hc) rfl rfl) ?_
   refine aG rfl rfl (fun hc => bC (by kernel_rfl) (aS (ae rfl hc) (aS (ae rfl rfl) (aS (ae rfl rfl) rfl))) (fun w S fp hst => (dS _ _ _).quiet0 hst)) ?_
   refine aG rfl rfl (fun hc => bZ (ae rfl hc)) (aU rfl (bY rfl rfl (fun h => gf rfl h)) (aM rfl ?_))
   refine aG rfl rfl (fun hc => qFA (off := 4) rfl) ?_
   refine aG rfl rfl (fun hc => ah 1 tk9 (ae rfl hc) rfl rfl) (aG rfl rfl (fun hc => eA Tryz.underlying9 (ae rfl hc)) (aG rfl rfl (fun hc => aD rfl) (aG rfl rfl (fun hc => dB (ae rfl hc) (ae rfl hc)) (aU rfl (bY rfl rfl (fun h => gf rfl h)) (aNn ?_)))))
   refine al _ rfl (fun h3 => ?_) (fun h3 => ?_)
   ·skip
    refine aSR (aA rfl (aNn (aJ (aO (bu (aO (aO (bu (aO ?_)))))))))
    refine br [] [] rfl Tryz.results53 rfl ?_ (.inr rfl)
    exact ⟨⟨rfl, rfl⟩, _, rfl, fun h => by cases h⟩
   ·skip
    have hby : s.bytes.size ≤ 1048576 := by
      simp at h3; omega
    refine aq (az (aH (aSR ?_)))
    refine aU rfl (qFA (off := 1) rfl) ?_
    refine aU rfl (ah 1 tk3 rfl rfl rfl) (aU rfl (bx rfl rfl) (aM rfl ?_))
    refine aG rfl rfl (fun hc => qFA (off := 2) rfl) ?_
    refine aG rfl rfl (fun hc => ah 1 tk3 (ae rfl hc) rfl rfl) (aG rfl rfl (fun hc => bw (ae rfl hc) rfl) (aG rfl rfl (fun hc => aD (ae rfl hc)) ?_))
    refine aG rfl rfl (fun hc => qFA (off := 3) rfl) ?_
    refine aG rfl rfl (fun hc => ah 1 tk3 (ae rfl hc) rfl rfl) ?_
    refine aG rfl rfl (fun hc => fF (ae rfl hc) rfl (by decide)) ?_
    refine aG rfl rfl (fun hc => dB (ae rfl hc) rfl) (aG rfl rfl (fun hc => bY (ae rfl hc) rfl (fun h => gf hc h)) (aU rfl (bJ rfl rfl (fun h => gt rfl h)) (aNn ?_)))
    refine al _ rfl (fun h4 => ?_) (fun h4 => ?_)
    ·skip
     refine aSR (aA rfl (aNn (aJ (aO (bu (aO (aO (bu (aO ?_)))))))))
     refine br [] [] rfl Tryz.results53 rfl ?_ (.inr rfl)
     exact ⟨⟨rfl, rfl⟩, _, rfl, fun h => by cases h⟩
    ·skip
     refine aq (az (aSR (aA rfl (aNn (aI ?_)))))
     refine aT [1, 3, 4, 6] [0] [0, 1] (fun (j : Nat) st => j ≤ k ∧ st = ⟨[(1, true, .pointer (some ⟨b0_0, 0, none⟩)), (3, true, .int .i64 k), (4, true, .pointer (some ⟨b4_5, 0, none⟩)), (6, true, .int .i64 j)], [o.ok], [Box b0_0 61 o.vs, Box b4_5 85 s.vs]⟩) (fun j => k - j) rfl (⟨0, Nat.zero_le _, rfl⟩) ?_
     rintro j st ⟨hj, rfl⟩
     refine aH (aSR (aM rfl (aM rfl (aU rfl (bw rfl rfl) (aNn ?_)))))
     refine al _ rfl (fun h5 => ?_) (fun h5 => ?_)
     ·skip
      have hj' : j < k := by simp at h5; omega
      obtain ⟨y, hy⟩ : ∃ y, o.secs.l[j]? = some y := ⟨_, List.getElem?_eq_getElem (by omega)⟩
      refine aq (az (aH (aI (aH ?_))))
      refine bp [] (by kernel_rfl) ?_
      show aB _ _ _ _ _ 9 #[false, false, false, false, false, false, false, false, false] _
      refine bV 0 rfl rfl (qFA (off := 1) rfl) ?_
      refine bV 1 rfl rfl (ah 0 tk50 rfl rfl rfl) ?_
      refine bV 2 rfl rfl (aD rfl) ?_
      refine dC 3 rfl (by kernel_rfl) true rfl rfl (fun _ => av Tryz.underlying50 tk85 rfl ((ax.f_secs (.of (aF 0 rfl)))) rfl (aQ hy) rfl rfl) (fun h => absurd h (by decide)) (fun ⟨b15_3, o15_3⟩ => ?_)
      refine bV 4 rfl rfl (qFA (off := 0) rfl) ?_
      refine bV 5 rfl rfl (aP (o := 0) tk9 rfl (aF 0 rfl) rfl rfl) ?_
      refine bV 6 rfl rfl (qFA (off := 0) rfl) ?_
      refine bV 7 rfl rfl (ah 1 tk9 rfl rfl rfl) ?_
      refine bV 8 rfl rfl (eE rfl rfl) ?_
      refine bO (by kernel_rfl) ?_
      refine az ?_
      refine al _ rfl (fun h6 => ?_) (fun h6 => ?_)
      ·skip
       refine aSR (aA rfl (aNn (aJ (bu (aO (aO (bu (bu (aO (aO (bu (aO ?_))))))))))))
       refine br [] [] rfl Tryz.results53 rfl ?_ (.inr rfl)
       exact ⟨⟨rfl, rfl⟩, _, rfl, fun h => by cases h⟩
      ·skip
       refine aq (bB (az (aj (aM rfl ?_))))
       refine aU rfl (bd rfl rfl (by omega)) ?_
       refine aA rfl (aNn ?_)
       refine ⟨[1, 3, 4, 6], [0], [0, 1], rfl, ?_⟩
       exact ⟨j + 1, ⟨by omega, rfl⟩, by omega⟩
     ·skip
      refine aX (aY (aY (bf (bB (az (aj (aM rfl ?_)))))))
      refine aU rfl (bd rfl rfl (by omega)) ?_
      refine aA rfl (aNn ?_)
      refine ⟨[1, 3], [0], [0], rfl, ?_⟩
      refine ⟨k + 1, ⟨⟨by omega, fun s2 hs2 => ?_⟩, rfl⟩, by omega⟩
      rw [List.take_add_one, hs, List.mem_append] at hs2
      rcases hs2 with hs2 | hs2
      · exact hS s2 hs2
      · simp at hs2; subst hs2; exact hby
 ·skip
  refine aX (aY (aY (bf (az (aSR ?_)))))
  refine aU rfl (qFA (off := 1) rfl) ?_
  refine aU rfl (ah 0 tk50 rfl rfl rfl) (aU rfl (aZ Tryz.underlying50 rfl) (aU rfl (jt rfl rfl) (aA rfl (aNn (aJ ?_)))))
  refine br [] [] rfl Tryz.results53 rfl ?_ (.inr rfl)
  refine ⟨⟨rfl, rfl⟩, _, rfl, fun _ => ?_⟩
  rw [List.take_of_length_le (by simp at h1; omega)] at hS; exact hS
theorem zi (o : ax) (s : bE) : Con Tryz.prog 110 [o.val, s.val] [o.ok, s.ok] [] (YB (((s.sec = -1 ∧ s.bind ≠ 0) ∨ (0 ≤ s.sec ∧ s.sec < o.secs.l.length)) ∧ s.vis ≤ 2)) := by
 refine Con.enter Tryz.func110 rfl (by simp [Tryz.ntmps110]) ?_
 show awp _ _ _ _ ⟨[(0, true, _), (1, true, _)], _, _⟩
 refine fI (bE.f_name (.of (aF 1 rfl))) (fun hnl => ?_)
 refine fI (bE.f_version (.of (aF 1 rfl))) (fun hvl => ?_)
 refine aSR ?_
 refine an (q := true) rfl (cx rfl rfl rfl (fun b0_0 => ?_))
 refine aHN ?_
 refine an (q := true) rfl (cx rfl rfl rfl (fun b0_1 => ?_))
 refine aHN ?_
 refine aA rfl (aNn (aSR ?_))
 refine aU rfl (qFA (off := 1) rfl) ?_
 refine aU rfl (ah 1 tk9 rfl rfl rfl) (aU rfl (eE rfl rfl) (aM rfl ?_))
 refine aG rfl rfl (fun hc => qFA (off := 1) rfl) ?_
 refine aG rfl rfl (fun hc => ah 1 tk9 (ae rfl hc) rfl rfl) ?_
 refine bT (caps := []) [] (false) (by kernel_rfl) _ rfl rfl (fun _ => rfl) (fun hc => (aS (ae rfl hc) rfl)) (fun hc => by rw [List.append_nil]; exact gz _ hvl) (fun c1 hc1 => ?_)
 refine aU rfl (bY rfl rfl (fun h => gf rfl h)) (aA rfl (aNs (aSR ?_)))
 refine aU rfl (qFA (off := 0) rfl) ?_
 refine aU rfl (ah 1 tk9 rfl rfl rfl) ?_
 refine bT (caps := []) [] (false) (by kernel_rfl) true rfl rfl (fun _ => rfl) (fun hc => rfl) (fun hc => by rw [List.append_nil]; exact gz _ hnl) (fun c2 hc2 => ?_)
 refine aU rfl (bZ rfl) (aM rfl (aG rfl rfl (fun hc => aD rfl) (aG rfl rfl (fun hc => bZ (ae rfl hc)) (aU rfl (bY rfl rfl (fun h => gf rfl h)) (aM rfl ?_)))))
 refine aG rfl rfl (fun hc => qFA (off := 3) rfl) ?_
 refine aG rfl rfl (fun hc => ah 1 tk3 (ae rfl hc) rfl rfl) ?_
 refine aG rfl rfl (fun hc => bC (by kernel_rfl) (aS (ae rfl hc) (aS (ae rfl rfl) (aS (ae rfl rfl) rfl))) (fun w S fp hst => (dS _ _ _).quiet0 hst)) ?_
 refine aG rfl rfl (fun hc => bZ (ae rfl hc)) (aU rfl (bY rfl rfl (fun h => gf rfl h)) (aM rfl ?_))
 refine aG rfl rfl (fun hc => qFA (off := 4) rfl) ?_
 refine aG rfl rfl (fun hc => ah 1 tk3 (ae rfl hc) rfl rfl) ?_
 refine aG rfl rfl (fun hc => bC (by kernel_rfl) (aS (ae rfl hc) (aS (ae rfl rfl) (aS (ae rfl rfl) rfl))) (fun w S fp hst => (dS _ _ _).quiet0 hst)) ?_
 refine aG rfl rfl (fun hc => bZ (ae rfl hc)) (aU rfl (bY rfl rfl (fun h => gf rfl h)) (aM rfl ?_))
 refine aG rfl rfl (fun hc => qFA (off := 5) rfl) ?_
 refine aG rfl rfl (fun hc => ah 1 tk3 (ae rfl hc) rfl rfl) ?_
 refine aG rfl rfl (fun hc => bC (by kernel_rfl) (aS (ae rfl hc) (aS (ae rfl rfl) (aS (ae rfl rfl) rfl))) (fun w S fp hst => (dS _ _ _).quiet0 hst)) ?_
 refine aG rfl rfl (fun hc => bZ (ae rfl hc)) (aU rfl (bY rfl rfl (fun h => gf rfl h)) (aM rfl ?_))
 refine aG rfl rfl (fun hc => qFA (off := 7) rfl) ?_
 refine aG rfl rfl (fun hc => ah 1 tk3 (ae rfl hc) rfl rfl) (aG rfl rfl (fun hc => bw (ae rfl hc) rfl) (aU rfl (bY rfl rfl (fun h => gf rfl h)) (aM rfl ?_)))
 refine aG rfl rfl (fun hc => qFA (off := 8) rfl) ?_
 refine aG rfl rfl (fun hc => ah 1 tk3 (ae rfl hc) rfl rfl) (aG rfl rfl (fun hc => bw (ae rfl hc) rfl) (aU rfl (bY rfl rfl (fun h => gf rfl h)) (aNn ?_)))
 refine al _ rfl (fun h1 => ?_) (fun h1 => ?_)
 ·skip
  refine aSR (aA rfl (aNn (aJ (aO ?_))))
  refine br [] [] rfl Tryz.results110 rfl ?_ (.inr rfl)
  exact ⟨⟨rfl, rfl⟩, _, rfl, fun h => by cases h⟩
 ·skip
  have hv : s.vis ≤ 2 := by simp at h1; omega
  refine aq (az (aH (aSR ?_)))
  refine aU rfl (qFA (off := 3) rfl) ?_
  refine aU rfl (ah 1 tk3 rfl rfl rfl) (aU rfl (bx rfl rfl) (aNn ?_))
  refine al _ rfl (fun h2 => ?_) (fun h2 => ?_)
  ·skip
   refine aSR ?_
   refine aU rfl (qFA (off := 6) rfl) ?_
   refine aU rfl (ah 1 tk3 rfl rfl rfl) (aU rfl (bx rfl rfl) (aM rfl ?_))
   refine aG rfl rfl (fun hc => qFA (off := 5) rfl) ?_
   refine aG rfl rfl (fun hc => ah 1 tk3 (ae rfl hc) rfl rfl) (aG rfl rfl (fun hc => bx (ae rfl hc) rfl) (aU rfl (bJ rfl rfl (fun h => gt rfl h)) (aM rfl ?_)))
   refine aG rfl rfl (fun hc => qFA (off := 1) rfl) ?_
   refine aG rfl rfl (fun hc => ah 1 tk9 (ae rfl hc) rfl rfl) (aG rfl rfl (fun hc => eE (ae rfl hc) rfl) (aU rfl (bJ rfl rfl (fun h => gt rfl h)) (aM rfl ?_)))
   refine aG rfl rfl (fun hc => qFA (off := 2) rfl) ?_
   refine aG rfl rfl (fun hc => ah 1 tk4 (ae rfl hc) rfl rfl) (aG rfl rfl (fun hc => bZ (ae rfl hc)) (aU rfl (bJ rfl rfl (fun h => gt rfl h)) (aM rfl ?_)))
   refine aG rfl rfl (fun hc => qFA (off := 7) rfl) ?_
   refine aG rfl rfl (fun hc => ah 1 tk3 (ae rfl hc) rfl rfl) (aG rfl rfl (fun hc => bx (ae rfl hc) rfl) (aU rfl (bJ rfl rfl (fun h => gt rfl h)) (aM rfl ?_)))
   refine aG rfl rfl (fun hc => qFA (off := 8) rfl) ?_
   refine aG rfl rfl (fun hc => ah 1 tk3 (ae rfl hc) rfl rfl) ?_
   refine aG rfl rfl (fun hc => bC (by kernel_rfl) (aS (ae rfl hc) (aS (ae rfl rfl) (aS (ae rfl rfl) rfl))) (fun w S fp hst => (dS _ _ _).quiet0 hst)) ?_
   refine aU rfl (bJ rfl rfl (fun h => gt rfl h)) (aM rfl ?_)
   refine aG rfl rfl (fun hc => qFA (off := 9) rfl) ?_
   refine aG rfl rfl (fun hc => ah 1 tk3 (ae rfl hc) rfl rfl) ?_
   refine bT (caps := []) [] (false) (by kernel_rfl) _ rfl rfl (fun _ => rfl) (fun hc => (aS (ae rfl hc) rfl)) (fun hc => by rw [List.append_nil]; exact nU _) (fun c3 hc3 => ?_)
   refine aU rfl (bJ rfl rfl (fun h => gt rfl h)) (aA rfl (aNn (aJ (aO ?_))))
   refine br [] [] rfl Tryz.results110 rfl ?_ (.inr rfl)
   refine ⟨⟨rfl, rfl⟩, _, rfl, fun hb => ⟨.inl ?_, hv⟩⟩
   simp at hb h2; omega
  ·skip
   refine aq (az (aH (aSR ?_)))
   refine aU rfl (qFA (off := 6) rfl) ?_
   refine aU rfl (ah 1 tk3 rfl rfl rfl) (aU rfl (bx rfl rfl) (aNn ?_))
   refine al _ rfl (fun h3 => ?_) (fun h3 => ?_)
   ·skip
    refine aSR ?_
    refine aU rfl (qFA (off := 3) rfl) ?_
    refine aU rfl (ah 1 tk3 rfl rfl rfl) (aU rfl (dB rfl rfl) (aM rfl ?_))
    refine aG rfl rfl (fun hc => qFA (off := 2) rfl) ?_
    refine aG rfl rfl (fun hc => ah 1 tk4 (ae rfl hc) rfl rfl) (aG rfl rfl (fun hc => bZ (ae rfl hc)) (aU rfl (bJ rfl rfl (fun h => gt rfl h)) (aM rfl ?_)))
    refine aG rfl rfl (fun hc => qFA (off := 7) rfl) ?_
    refine aG rfl rfl (fun hc => ah 1 tk3 (ae rfl hc) rfl rfl) (aG rfl rfl (fun hc => bx (ae rfl hc) rfl) (aU rfl (bJ rfl rfl (fun h => gt rfl h)) (aM rfl ?_)))
    refine aG rfl rfl (fun hc => qFA (off := 8) rfl) ?_
    refine aG rfl rfl (fun hc => ah 1 tk3 (ae rfl hc) rfl rfl) (aG rfl rfl (fun hc => bx (ae rfl hc) rfl) (aU rfl (bJ rfl rfl (fun h => gt rfl h)) (aM rfl ?_)))
    refine aG rfl rfl (fun hc => qFA (off := 9) rfl) ?_
    refine aG rfl rfl (fun hc => ah 1 tk3 (ae rfl hc) rfl rfl) (aG rfl rfl (fun hc => bx (ae rfl hc) rfl) (aU rfl (bJ rfl rfl (fun h => gt rfl h)) (aA rfl (aNn (aJ (aO ?_))))))
    refine br [] [] rfl Tryz.results110 rfl ?_ (.inr rfl)
    refine ⟨⟨rfl, rfl⟩, _, rfl, fun hb => ⟨.inl ?_, hv⟩⟩
    simp at hb h3; omega
   ·skip
    refine aq (az (aSR (aU rfl (ah 0 tk61 rfl rfl rfl) ?_)))
    refine aU rfl (qFA (off := 6) rfl) ?_
    refine aU rfl (ah 1 tk3 rfl rfl rfl) ?_
    refine aU rfl (bC (by kernel_rfl) rfl (fun w S fp hst => (fY o _).quiet1 (aF 0 rfl) hst)) ?_
    refine an (q := true) rfl (bc (zs := [.string .empty, .int .i64 0, .int .i64 0, .int .i64 0, .string .empty, .bool false]) (by kernel_rfl) rfl (fun b8_4 => ?_))
    refine aHN ?_
    refine an rfl (aV 2 tk85 rfl rfl rfl rfl ?_)
    refine aHK ?_
    refine aNn (aSR ?_)
    refine aU rfl (qFA (off := 5) rfl) ?_
    refine aU rfl (ah 1 tk3 rfl rfl rfl) (aU rfl (bx rfl rfl) (aM rfl ?_))
    refine aG rfl rfl (fun hc => qFA (off := 1) rfl) ?_
    refine aG rfl rfl (fun hc => ah 2 tk3 (ae rfl hc) rfl rfl) (aG rfl rfl (fun hc => bx (ae rfl hc) rfl) (aU rfl (bJ rfl rfl (fun h => gt rfl h)) (aM rfl ?_)))
    refine aG rfl rfl (fun hc => qFA (off := 5) rfl) ?_
    refine aG rfl rfl (fun hc => ah 1 tk3 (ae rfl hc) rfl rfl) (aG rfl rfl (fun hc => bx (ae rfl hc) rfl) (aG rfl rfl (fun hc => aD (ae rfl hc)) ?_))
    refine aG rfl rfl (fun hc => qFA (off := 1) rfl) ?_
    refine aG rfl rfl (fun hc => ah 2 tk3 (ae rfl hc) rfl rfl) (aG rfl rfl (fun hc => bx (ae rfl hc) rfl) (aG rfl rfl (fun hc => aD (ae rfl hc)) ?_))
    refine aG rfl rfl (fun hc => qFA (off := 1) rfl) ?_
    refine aG rfl rfl (fun hc => ah 2 tk3 (ae rfl hc) rfl rfl) (aG rfl rfl (fun hc => bx (ae rfl hc) rfl) (aG rfl rfl (fun hc => bY (ae rfl hc) rfl (fun h => gf hc h)) (aG rfl rfl (fun hc => bJ (ae rfl hc) rfl (fun h => gt hc h)) (aU rfl (bY rfl rfl (fun h => gf rfl h)) (aM rfl ?_)))))
    refine aG rfl rfl (fun hc => qFA (off := 5) rfl) ?_
    refine aG rfl rfl (fun hc => ah 1 tk3 (ae rfl hc) rfl rfl) (aG rfl rfl (fun hc => bx (ae rfl hc) rfl) (aG rfl rfl (fun hc => aD (ae rfl hc)) ?_))
    refine aG rfl rfl (fun hc => qFA (off := 1) rfl) ?_
    refine aG rfl rfl (fun hc => ah 2 tk3 (ae rfl hc) rfl rfl) (aG rfl rfl (fun hc => bx (ae rfl hc) rfl) (aG rfl rfl (fun hc => aD (ae rfl hc)) ?_))
    refine aG rfl rfl (fun hc => qFA (off := 1) rfl) ?_
    refine aG rfl rfl (fun hc => ah 2 tk3 (ae rfl hc) rfl rfl) (aG rfl rfl (fun hc => bx (ae rfl hc) rfl) (aG rfl rfl (fun hc => bY (ae rfl hc) rfl (fun h => gf hc h)) (aG rfl rfl (fun hc => bJ (ae rfl hc) rfl (fun h => gt hc h)) (aU rfl (bY rfl rfl (fun h => gf rfl h)) (aA rfl (aNs (aSR (aM rfl (aU rfl (bZ rfl) (aM rfl ?_))))))))))
    refine aG rfl rfl (fun hc => qFA (off := 9) rfl) ?_
    refine aG rfl rfl (fun hc => ah 1 tk3 (ae rfl hc) rfl rfl) (aG rfl rfl (fun hc => dB (ae rfl hc) rfl) (aU rfl (bY rfl rfl (fun h => gf rfl h)) (aM rfl ?_)))
    refine aG rfl rfl (fun hc => qFA (off := 2) rfl) ?_
    refine aG rfl rfl (fun hc => ah 1 tk4 (ae rfl hc) rfl rfl) (aG rfl rfl (fun hc => aD (ae rfl hc)) ?_)
    refine aG rfl rfl (fun hc => qFA (off := 1) rfl) ?_
    refine aG rfl rfl (fun hc => ah 1 tk9 (ae rfl hc) rfl rfl) (aG rfl rfl (fun hc => eE (ae rfl hc) rfl) (aG rfl rfl (fun hc => bJ (ae rfl hc) rfl (fun h => gt hc h)) (aU rfl (bY rfl rfl (fun h => gf rfl h)) (aM rfl ?_))))
    refine aG rfl rfl (fun hc => qFA (off := 7) rfl) ?_
    refine aG rfl rfl (fun hc => ah 1 tk3 (ae rfl hc) rfl rfl) ?_
    refine aG rfl rfl (fun hc => qFA (off := 3) rfl) ?_
    refine aG rfl rfl (fun hc => ah 2 tk3 (ae rfl hc) rfl rfl) (aG rfl rfl (fun hc => cN (ae rfl hc) (ae rfl hc)) (aU rfl (bY rfl rfl (fun h => gf rfl h)) (aM rfl ?_)))
    refine aG rfl rfl (fun hc => qFA (off := 8) rfl) ?_
    refine aG rfl rfl (fun hc => ah 1 tk3 (ae rfl hc) rfl rfl) ?_
    refine aG rfl rfl (fun hc => qFA (off := 3) rfl) ?_
    refine aG rfl rfl (fun hc => ah 2 tk3 (ae rfl hc) rfl rfl) ?_
    refine aG rfl rfl (fun hc => qFA (off := 7) rfl) ?_
    refine aG rfl rfl (fun hc => ah 1 tk3 (ae rfl hc) rfl rfl) (aG rfl rfl (fun hc => lD (ae rfl hc) (ae rfl hc)) (aG rfl rfl (fun hc => cN (ae rfl hc) (ae rfl hc)) (aU rfl (bY rfl rfl (fun h => gf rfl h)) (aM rfl ?_))))
    refine aG rfl rfl (fun hc => qFA (off := 5) rfl) ?_
    refine aG rfl rfl (fun hc => ah 1 tk3 (ae rfl hc) rfl rfl) (aG rfl rfl (fun hc => bx (ae rfl hc) rfl) (aG rfl rfl (fun hc => aD (ae rfl hc)) ?_))
    refine aG rfl rfl (fun hc => qFA (off := 7) rfl) ?_
    refine aG rfl rfl (fun hc => ah 1 tk3 (ae rfl hc) rfl rfl) ?_
    refine aG rfl rfl (fun hc => fF (ae rfl hc) rfl (by decide)) ?_
    refine aG rfl rfl (fun hc => dB (ae rfl hc) rfl) (aG rfl rfl (fun hc => bJ (ae rfl hc) rfl (fun h => gt hc h)) (aU rfl (bY rfl rfl (fun h => gf rfl h)) (aNn ?_)))
    refine al _ rfl (fun h4 => ?_) (fun h4 => ?_)
    ·skip
     refine aSR (aA rfl (aNn (aJ (aO ?_))))
     refine br [] [] rfl Tryz.results110 rfl ?_ (.inr rfl)
     exact ⟨⟨rfl, rfl⟩, _, rfl, fun h => by cases h⟩
    ·skip
     refine aq (az (aSR ?_))
     refine aU rfl (qFA (off := 3) rfl) ?_
     refine aU rfl (ah 1 tk3 rfl rfl rfl) (aU rfl (dB rfl rfl) (aM rfl ?_))
     refine aG rfl rfl (fun hc => qFA (off := 1) rfl) ?_
     refine aG rfl rfl (fun hc => ah 1 tk9 (ae rfl hc) rfl rfl) (aG rfl rfl (fun hc => eE (ae rfl hc) rfl) (aG rfl rfl (fun hc => aD (ae rfl hc)) ?_))
     refine aG rfl rfl (fun hc => qFA (off := 4) rfl) ?_
     refine aG rfl rfl (fun hc => ah 1 tk3 (ae rfl hc) rfl rfl) (aG rfl rfl (fun hc => bx (ae rfl hc) rfl) (aG rfl rfl (fun hc => bJ (ae rfl hc) rfl (fun h => gt hc h)) (aU rfl (bY rfl rfl (fun h => gf rfl h)) (aA rfl (aNn (aJ ?_))))))
     refine br [] [] rfl Tryz.results110 rfl ?_ (.inr rfl)
     refine ⟨⟨rfl, rfl⟩, _, rfl, fun hb => ⟨.inr (ye fun hk => ?_), hv⟩⟩
     rw [hk] at h4; simp at h4
theorem xg (o : ax) : Con Tryz.prog 54 [o.val] [o.ok] [] (YB (∀ s ∈ o.syms.l, ((s.sec = -1 ∧ s.bind ≠ 0) ∨ (0 ≤ s.sec ∧ s.sec < o.secs.l.length)) ∧ s.vis ≤ 2)) := by
 refine Con.enter Tryz.func54 rfl (by simp [Tryz.ntmps54]) ?_
 show awp _ _ _ _ ⟨[(0, true, _)], _, _⟩
 refine bA (ax.f_syms (.of (aF 0 rfl))) (fun hlen => ?_)
 refine aSR ?_
 refine an (q := true) rfl (cx rfl rfl rfl (fun b0_0 => ?_))
 refine aHN ?_
 refine aA rfl (aNs (aSR (aA rfl (aNn (aI ?_)))))
 refine aT [1, 3] [0] [0] (fun (k : Nat) st => (k ≤ o.syms.l.length ∧ ∀ s ∈ o.syms.l.take k, ((s.sec = -1 ∧ s.bind ≠ 0) ∨ (0 ≤ s.sec ∧ s.sec < o.secs.l.length)) ∧ s.vis ≤ 2) ∧ st = ⟨[(1, true, .pointer (some ⟨b0_0, 0, none⟩)), (3, true, .int .i64 k)], [o.ok], [Box b0_0 61 o.vs]⟩) (fun k => o.syms.l.length - k) rfl (⟨0, ⟨Nat.zero_le _, fun s hs => by cases hs⟩, rfl⟩) ?_
 rintro k st ⟨⟨hk, hS⟩, rfl⟩
 refine aH (aSR (aM rfl ?_))
 refine aU rfl (qFA (off := 2) rfl) ?_
 refine aU rfl (ah 0 tk51 rfl rfl rfl) (aU rfl (aZ Tryz.underlying51 rfl) (aU rfl (bw rfl rfl) (aNn ?_)))
 refine al _ rfl (fun h1 => ?_) (fun h1 => ?_)
 ·skip
  have hk' : k < o.syms.l.length := by simp at h1; omega
  obtain ⟨s, hs⟩ : ∃ s, o.syms.l[k]? = some s := ⟨_, List.getElem?_eq_getElem hk'⟩
  refine aq (az (aH (aI (aSR ?_))))
  refine aU rfl (qFA (off := 2) rfl) ?_
  refine aU rfl (ah 0 tk51 rfl rfl rfl) (aM rfl ?_)
  refine cJ true rfl rfl (fun _ => av Tryz.underlying51 tk63 rfl ((ax.f_syms (.of (aF 0 rfl)))) rfl (aQ hs) rfl rfl) (fun h => absurd h (by decide)) (fun ⟨b4_3, o4_3⟩ => ?_)
  refine aU rfl (aP (o := 0) tk63 rfl (aF 0 rfl) rfl rfl) ?_
  refine an (q := true) rfl (bc (zs := [.string .empty, .string .empty, .bool false, .int .i64 0, .int .i64 0, .int .i64 0, .int .i64 0, .int .i64 0, .int .i64 0, .int .i64 0]) (by kernel_rfl) rfl (fun b4_5 => ?_))
  refine aHN ?_
  refine an rfl (aV 1 tk63 rfl rfl rfl rfl ?_)
  refine aHK ?_
  refine aNs (aSR (aU rfl (ah 0 tk61 rfl rfl rfl) (aU rfl (ah 1 tk63 rfl rfl rfl) ?_)))
  refine bT (caps := []) [0] (false) (by kernel_rfl) true rfl rfl (fun _ => rfl) (fun hc => rfl) (fun hc => by rw [List.append_nil]; exact (zi o s).pre (rD (.of (aF 0 rfl)) (Ent.all (ax.f_symsA (.of (aF 0 rfl))) hs))) (fun c1 hc1 => ?_)
  refine aU rfl (bZ rfl) (aNn ?_)
  refine al _ rfl (fun h2 => ?_) (fun h2 => ?_)
  ·skip
   refine aSR (aA rfl (aNn (aJ (aO (bu (aO (aO (bu (aO ?_)))))))))
   refine br [] [] rfl Tryz.results54 rfl ?_ (.inr rfl)
   exact ⟨⟨rfl, rfl⟩, _, rfl, fun h => by cases h⟩
  ·skip
   have hsy := hc1 rfl (by simpa using h2)
   refine aq (az (aSR (aA rfl (aNn (aI ?_)))))
   refine aT [1, 3, 4, 5] [0] [0, 1] (fun (j : Nat) st => j ≤ k ∧ st = ⟨[(1, true, .pointer (some ⟨b0_0, 0, none⟩)), (3, true, .int .i64 k), (4, true, .pointer (some ⟨b4_5, 0, none⟩)), (5, true, .int .i64 j)], [o.ok], [Box b0_0 61 o.vs, Box b4_5 63 s.vs]⟩) (fun j => k - j) rfl (⟨0, Nat.zero_le _, rfl⟩) ?_
   rintro j st ⟨hj, rfl⟩
   refine aH (aSR (aM rfl (aM rfl (aU rfl (bw rfl rfl) (aNn ?_)))))
   refine al _ rfl (fun h3 => ?_) (fun h3 => ?_)
   ·skip
    have hj' : j < k := by simp at h3; omega
    obtain ⟨y, hy⟩ : ∃ y, o.syms.l[j]? = some y := ⟨_, List.getElem?_eq_getElem (by omega)⟩
    refine aq (az (aH (aI (aH ?_))))
    refine bp [] (by kernel_rfl) ?_
    show aB _ _ _ _ _ 20 #[false, false, false, false, false, false, false, false, false, false, false, false, false, false, false, false, false, false, false, false] _
    refine bV 0 rfl rfl (qFA (off := 2) rfl) ?_
    refine bV 1 rfl rfl (ah 0 tk51 rfl rfl rfl) ?_
    refine bV 2 rfl rfl (aD rfl) ?_
    refine dC 3 rfl (by kernel_rfl) true rfl rfl (fun _ => av Tryz.underlying51 tk63 rfl ((ax.f_syms (.of (aF 0 rfl)))) rfl (aQ hy) rfl rfl) (fun h => absurd h (by decide)) (fun ⟨b10_3, o10_3⟩ => ?_)
    refine bV 4 rfl rfl (qFA (off := 0) rfl) ?_
    refine bV 5 rfl rfl (aP (o := 0) tk9 rfl (aF 0 rfl) rfl rfl) ?_
    refine bV 6 rfl rfl (qFA (off := 0) rfl) ?_
    refine bV 7 rfl rfl (ah 1 tk9 rfl rfl rfl) ?_
    refine bV 8 rfl rfl (eE rfl rfl) ?_
    refine bV 9 rfl rfl (aD rfl) ?_
    refine bW 10 rfl rfl rfl (fun hc => qFA (off := 2) rfl) ?_
    refine bW 11 rfl rfl rfl (fun hc => ah 0 tk51 (ae rfl hc) rfl rfl) ?_
    refine bW 12 rfl rfl rfl (fun hc => aD rfl) ?_
    refine dC 13 rfl (by kernel_rfl) _ rfl rfl (fun hc => av Tryz.underlying51 tk63 (ae rfl hc) ((ax.f_syms (.of (aF 1 rfl)))) (ae rfl hc) (aQ hy) rfl rfl) (fun _ => ⟨(0, 0)⟩) (fun ⟨b10_13, o10_13⟩ => ?_)
    refine bW 14 rfl rfl rfl (fun hc => qFA (off := 1) (ae rfl hc)) ?_
    refine bW 15 rfl rfl rfl (fun hc => aP (o := 1) tk9 (ae rfl hc) (aF 0 rfl) hc rfl) ?_
    refine bW 16 rfl rfl rfl (fun hc => qFA (off := 1) rfl) ?_
    refine bW 17 rfl rfl rfl (fun hc => ah 1 tk9 (ae rfl hc) rfl rfl) ?_
    refine bW 18 rfl rfl rfl (fun hc => eE (ae rfl hc) (ae rfl hc)) ?_
    refine bV 19 rfl rfl (bJ rfl rfl (fun h => gt rfl h)) ?_
    refine bO (by kernel_rfl) ?_
    refine az ?_
    refine al _ rfl (fun h4 => ?_) (fun h4 => ?_)
    ·skip
     refine aSR (aA rfl (aNn (aJ (bu (aO (aO (bu (bu (aO (aO (bu (aO ?_))))))))))))
     refine br [] [] rfl Tryz.results54 rfl ?_ (.inr rfl)
     exact ⟨⟨rfl, rfl⟩, _, rfl, fun h => by cases h⟩
    ·skip
     refine aq (bB (az (aj (aM rfl ?_))))
     refine aU rfl (bd rfl rfl (by omega)) ?_
     refine aA rfl (aNn ?_)
     refine ⟨[1, 3, 4, 5], [0], [0, 1], rfl, ?_⟩
     exact ⟨j + 1, ⟨by omega, rfl⟩, by omega⟩
   ·skip
    refine aX (aY (aY (bf (bB (az (aj (aM rfl ?_)))))))
    refine aU rfl (bd rfl rfl (by omega)) ?_
    refine aA rfl (aNn ?_)
    refine ⟨[1, 3], [0], [0], rfl, ?_⟩
    refine ⟨k + 1, ⟨⟨by omega, fun s2 hs2 => ?_⟩, rfl⟩, by omega⟩
    rw [List.take_add_one, hs, List.mem_append] at hs2
    rcases hs2 with hs2 | hs2
    · exact hS s2 hs2
    · simp at hs2; subst hs2; exact hsy
 ·skip
  refine aX (aY (aY (bf (az (aSR ?_)))))
  refine aU rfl (qFA (off := 2) rfl) ?_
  refine aU rfl (ah 0 tk51 rfl rfl rfl) (aU rfl (aZ Tryz.underlying51 rfl) (aU rfl (jt rfl rfl) (aA rfl (aNn (aJ ?_)))))
  refine br [] [] rfl Tryz.results54 rfl ?_ (.inr rfl)
  refine ⟨⟨rfl, rfl⟩, _, rfl, fun _ => ?_⟩
  rw [List.take_of_length_le (by simp at h1; omega)] at hS; exact hS
end Go.Proofs.YtgmiihmahaahiaaGreatDoor

