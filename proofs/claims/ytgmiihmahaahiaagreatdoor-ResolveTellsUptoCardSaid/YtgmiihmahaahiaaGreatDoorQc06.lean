/- Parts of the proof, in build order. No condition. -/
import Derived.Test.YtgmiihmahaahiaaGreatDoorQc04
import Derived.Test.YtgmiihmahaahiaaGreatDoorQc05
import Derived.Test.YtgmiihmahaahiaaGreatDoorQc03
import Derived.Test.YtgmiihmahaahiaaGreatDoorQc02
import Derived.Sort.Walk0
import Derived.Maps.Range
import Derived.ChangeKeysEq
set_option linter.unusedSimpArgs false
set_option linter.unusedVariables false
set_option maxHeartbeats 1000000
set_option maxRecDepth 20000
namespace Go.Proofs.YtgmiihmahaahiaaGreatDoor
open Go.RowKit Go.Lp Go.Sy
open Go.Proofs.Tryz
attribute [local irreducible] aL aB awp aC fwp
theorem kyS : ek Tryz.prog 9 dK := vN Tryz.underlying9
theorem kyI : ek Tryz.prog 3 eI := zB Tryz.underlying3
theorem kyP : ek Tryz.prog 230 cj := va Tryz.underlying230 (by kernel_rfl) (by kernel_rfl) Tryz.underlying9
theorem kC (l : Sl bH) (F : FuncId) (caps : List Value) (p : Per) (hF : bE Tryz.prog F = true) (h : ∀ a ∈ l.l, Con Tryz.prog F (a.val :: caps) [p] [] (YN dK fun _ => True)) : Con Tryz.prog 131 [l.val, .func (.func F) #[] caps.toArray] [ShF bH.row l, p] []
   (YB True) := by
 refine Con.enter Tryz.func131 rfl (by simp [Tryz.ntmps131]) ?_
 show awp _ _ _ _ ⟨[(0, true, _), (1, true, _)], _, _⟩
 refine bd (.of (an 0 rfl)) (fun hlen => ?_)
 refine aSR (aA rfl (aNn (aSR ?_)))
 refine aj (q := true) rfl (dY (dK) (vBo) rfl (fun b1_0 => ?_))
 refine aHN ?_
 refine aA rfl (aNs (aSR (aM rfl (aU rfl (aZ Tryz.underlying50 rfl) ?_))))
 refine aM rfl (aNn (aw (aP [0, 1, 5, 9, 10, 11] [1, 0] [0] (fun (x : Nat × (ByteArray → Option Bool)) s => x.1 ≤ l.l.length ∧ s = ⟨[(0, true, l.val), (1, true, .func (.func F) #[] caps.toArray), (5, true, .map (some b1_0)), (9, true, l.val), (10, true, .int .i64 l.l.length), (11, true, .int .i64 x.1)], [ShF bH.row l, p], [dg b1_0 dK vBo x.2]⟩) (fun x => l.l.length - x.1) rfl (⟨(0, fun _ => none), Nat.zero_le _, rfl⟩) ?_)))
 rintro ⟨k, m⟩ s ⟨hk, rfl⟩
 dsimp only at hk
 refine aSR (aU rfl (bt rfl rfl) (aNs ?_))
 refine ah _ rfl (fun h1 => ?_) (fun h1 => ?_)
 ·skip
  have hk' : k < l.l.length := by simpa using h1
  obtain ⟨a, ha⟩ : ∃ a, l.l[k]? = some a := ⟨l.l[k]'hk', by simp⟩
  refine au (av (az (aw (aSR ?_))))
  refine ck true rfl rfl (fun _ => ai Tryz.underlying50 tk85 rfl ((.of (an 0 rfl))) rfl (aJ ha) rfl rfl) (fun h => absurd h (by decide)) (fun ⟨b4_0, o4_0⟩ => ?_)
  refine aU rfl (aF (o := 0) tk85 rfl (an 0 rfl) rfl rfl) ?_
  refine aj (q := true) rfl (bp (zs := [.string .empty, .int .i64 0, .int .i64 0, .int .i64 0, .string .empty, .bool false]) (by kernel_rfl) rfl (fun b4_2 => ?_))
  refine aHN ?_
  refine aj rfl (aT 1 tk85 rfl rfl rfl rfl ?_)
  refine aHK ?_
  refine aNs (aSR (aM rfl (aM rfl (aU rfl (ab 1 tk85 rfl rfl rfl) ?_))))
  refine aQ [0] (default) hF true rfl rfl (fun _ => rfl) (fun hc => rfl) (fun hc => h a (List.mem_of_getElem? ha)) (fun k1 hk1 => ?_)
  refine aU rfl (gk (k := k1) (v0 := false) 0 Tryz.underlying125 (kyS) (by kernel_rfl) rfl rfl rfl) ?_
  refine aNn ?_
  refine ah _ rfl (fun h2 => ?_) (fun h2 => ?_)
  ·skip
   refine aSR (aA rfl (aNn (aq (aK (bj (aK (aK (bj (aK ?_)))))))))
   refine aV [] [] rfl Tryz.results131 rfl ?_ (.inr rfl)
   exact ⟨⟨rfl, rfl⟩, _, rfl, fun _ => trivial⟩
  ·skip
   refine au (av (ae (aM rfl (aM rfl (aU rfl (ab 1 tk85 rfl rfl rfl) ?_)))))
   refine aQ [0] (default) hF true rfl rfl (fun _ => rfl) (fun hc => rfl) (fun hc => h a (List.mem_of_getElem? ha)) (fun k2 hk2 => ?_)
   refine aj rfl (cY (k := k2) (v := true) 0 Tryz.underlying125 (kyS) rfl rfl rfl rfl ?_)
   refine aHK ?_
   refine cr (bu (av (ae ?_)))
   refine aU rfl (bf rfl rfl (by omega)) ?_
   refine aM rfl (aNn ?_)
   refine ⟨[0, 1, 5, 9, 10, 11], [1, 0], [0], rfl, ?_⟩
   exact ⟨(k + 1, cC m k2 true), ⟨by dsimp only; omega, rfl⟩, by dsimp only; omega⟩
 ·skip
  refine aR (aS (aS (aY (av (aSR (aA rfl (aNn (aq ?_))))))))
  refine aV [] [] rfl Tryz.results131 rfl ?_ (.inr rfl)
  exact ⟨⟨rfl, rfl⟩, _, rfl, fun _ => trivial⟩
theorem k5 (l : Sl bg) (F : FuncId) (caps : List Value) (p : Per) (hF : bE Tryz.prog F = true) (h : ∀ a ∈ l.l, Con Tryz.prog F (a.val :: caps) [p] [] (YN cj fun _ => True)) : Con Tryz.prog 137 [l.val, .func (.func F) #[] caps.toArray] [ShF bg.row l, p] []
   (YB True) := by
 refine Con.enter Tryz.func137 rfl (by simp [Tryz.ntmps137]) ?_
 show awp _ _ _ _ ⟨[(0, true, _), (1, true, _)], _, _⟩
 refine bd (.of (an 0 rfl)) (fun hlen => ?_)
 refine aSR (aA rfl (aNn (aSR ?_)))
 refine aj (q := true) rfl (dY (cj) (vBo) rfl (fun b1_0 => ?_))
 refine aHN ?_
 refine aA rfl (aNs (aSR (aM rfl (aU rfl (aZ Tryz.underlying51 rfl) ?_))))
 refine aM rfl (aNn (aw (aP [0, 1, 5, 9, 10, 11] [1, 0] [0] (fun (x : Nat × (ByteArray × ByteArray → Option Bool)) s => x.1 ≤ l.l.length ∧ s = ⟨[(0, true, l.val), (1, true, .func (.func F) #[] caps.toArray), (5, true, .map (some b1_0)), (9, true, l.val), (10, true, .int .i64 l.l.length), (11, true, .int .i64 x.1)], [ShF bg.row l, p], [dg b1_0 cj vBo x.2]⟩) (fun x => l.l.length - x.1) rfl (⟨(0, fun _ => none), Nat.zero_le _, rfl⟩) ?_)))
 rintro ⟨k, m⟩ s ⟨hk, rfl⟩
 dsimp only at hk
 refine aSR (aU rfl (bt rfl rfl) (aNs ?_))
 refine ah _ rfl (fun h1 => ?_) (fun h1 => ?_)
 ·skip
  have hk' : k < l.l.length := by simpa using h1
  obtain ⟨a, ha⟩ : ∃ a, l.l[k]? = some a := ⟨l.l[k]'hk', by simp⟩
  refine au (av (az (aw (aSR ?_))))
  refine ck true rfl rfl (fun _ => ai Tryz.underlying51 tk63 rfl ((.of (an 0 rfl))) rfl (aJ ha) rfl rfl) (fun h => absurd h (by decide)) (fun ⟨b4_0, o4_0⟩ => ?_)
  refine aU rfl (aF (o := 0) tk63 rfl (an 0 rfl) rfl rfl) ?_
  refine aj (q := true) rfl (bp (zs := [.string .empty, .string .empty, .bool false, .int .i64 0, .int .i64 0, .int .i64 0, .int .i64 0, .int .i64 0, .int .i64 0, .int .i64 0]) (by kernel_rfl) rfl (fun b4_2 => ?_))
  refine aHN ?_
  refine aj rfl (aT 1 tk63 rfl rfl rfl rfl ?_)
  refine aHK ?_
  refine aNs (aSR (aM rfl (aM rfl (aU rfl (ab 1 tk63 rfl rfl rfl) ?_))))
  refine aQ [0] (default) hF true rfl rfl (fun _ => rfl) (fun hc => rfl) (fun hc => h a (List.mem_of_getElem? ha)) (fun k1 hk1 => ?_)
  refine aU rfl (gk (k := k1) (v0 := false) 0 Tryz.underlying306 (kyP) (by kernel_rfl) rfl rfl rfl) ?_
  refine aNn ?_
  refine ah _ rfl (fun h2 => ?_) (fun h2 => ?_)
  ·skip
   refine aSR (aA rfl (aNn (aq (aK (bj (aK (aK (bj (aK ?_)))))))))
   refine aV [] [] rfl Tryz.results137 rfl ?_ (.inr rfl)
   exact ⟨⟨rfl, rfl⟩, _, rfl, fun _ => trivial⟩
  ·skip
   refine au (av (ae (aM rfl (aM rfl (aU rfl (ab 1 tk63 rfl rfl rfl) ?_)))))
   refine aQ [0] (default) hF true rfl rfl (fun _ => rfl) (fun hc => rfl) (fun hc => h a (List.mem_of_getElem? ha)) (fun k2 hk2 => ?_)
   refine aj rfl (cY (k := k2) (v := true) 0 Tryz.underlying306 (kyP) rfl rfl rfl rfl ?_)
   refine aHK ?_
   refine cr (bu (av (ae ?_)))
   refine aU rfl (bf rfl rfl (by omega)) ?_
   refine aM rfl (aNn ?_)
   refine ⟨[0, 1, 5, 9, 10, 11], [1, 0], [0], rfl, ?_⟩
   exact ⟨(k + 1, cC m k2 true), ⟨by dsimp only; omega, rfl⟩, by dsimp only; omega⟩
 ·skip
  refine aR (aS (aS (aY (av (aSR (aA rfl (aNn (aq ?_))))))))
  refine aV [] [] rfl Tryz.results137 rfl ?_ (.inr rfl)
  exact ⟨⟨rfl, rfl⟩, _, rfl, fun _ => trivial⟩
theorem me (l : Sl cS) (F : FuncId) (caps : List Value) (p : Per) (hF : bE Tryz.prog F = true) (h : ∀ a ∈ l.l, Con Tryz.prog F (a.val :: caps) [p] [] (YN dK fun _ => True)) : Con Tryz.prog 151 [l.val, .func (.func F) #[] caps.toArray] [ShF cS.row l, p] []
   (YB True) := by
 refine Con.enter Tryz.func151 rfl (by simp [Tryz.ntmps151]) ?_
 show awp _ _ _ _ ⟨[(0, true, _), (1, true, _)], _, _⟩
 refine bd (.of (an 0 rfl)) (fun hlen => ?_)
 refine aSR (aA rfl (aNn (aSR ?_)))
 refine aj (q := true) rfl (dY (dK) (vBo) rfl (fun b1_0 => ?_))
 refine aHN ?_
 refine aA rfl (aNs (aSR (aM rfl (aU rfl (aZ Tryz.underlying53 rfl) ?_))))
 refine aM rfl (aNn (aw (aP [0, 1, 5, 9, 10, 11] [1, 0] [0] (fun (x : Nat × (ByteArray → Option Bool)) s => x.1 ≤ l.l.length ∧ s = ⟨[(0, true, l.val), (1, true, .func (.func F) #[] caps.toArray), (5, true, .map (some b1_0)), (9, true, l.val), (10, true, .int .i64 l.l.length), (11, true, .int .i64 x.1)], [ShF cS.row l, p], [dg b1_0 dK vBo x.2]⟩) (fun x => l.l.length - x.1) rfl (⟨(0, fun _ => none), Nat.zero_le _, rfl⟩) ?_)))
 rintro ⟨k, m⟩ s ⟨hk, rfl⟩
 dsimp only at hk
 refine aSR (aU rfl (bt rfl rfl) (aNs ?_))
 refine ah _ rfl (fun h1 => ?_) (fun h1 => ?_)
 ·skip
  have hk' : k < l.l.length := by simpa using h1
  obtain ⟨a, ha⟩ : ∃ a, l.l[k]? = some a := ⟨l.l[k]'hk', by simp⟩
  refine au (av (az (aw (aSR ?_))))
  refine ck true rfl rfl (fun _ => ai Tryz.underlying53 tk92 rfl ((.of (an 0 rfl))) rfl (aJ ha) rfl rfl) (fun h => absurd h (by decide)) (fun ⟨b4_0, o4_0⟩ => ?_)
  refine aU rfl (aF (o := 0) tk92 rfl (an 0 rfl) rfl rfl) ?_
  refine aj (q := true) rfl (bp (zs := [.string .empty, .slice none 0 0]) (by kernel_rfl) rfl (fun b4_2 => ?_))
  refine aHN ?_
  refine aj rfl (aT 1 tk92 rfl rfl rfl rfl ?_)
  refine aHK ?_
  refine aNs (aSR (aM rfl (aM rfl (aU rfl (ab 1 tk92 rfl rfl rfl) ?_))))
  refine aQ [0] (default) hF true rfl rfl (fun _ => rfl) (fun hc => rfl) (fun hc => h a (List.mem_of_getElem? ha)) (fun k1 hk1 => ?_)
  refine aU rfl (gk (k := k1) (v0 := false) 0 Tryz.underlying125 (kyS) (by kernel_rfl) rfl rfl rfl) ?_
  refine aNn ?_
  refine ah _ rfl (fun h2 => ?_) (fun h2 => ?_)
  ·skip
   refine aSR (aA rfl (aNn (aq (aK (bj (aK (aK (bj (aK ?_)))))))))
   refine aV [] [] rfl Tryz.results151 rfl ?_ (.inr rfl)
   exact ⟨⟨rfl, rfl⟩, _, rfl, fun _ => trivial⟩
  ·skip
   refine au (av (ae (aM rfl (aM rfl (aU rfl (ab 1 tk92 rfl rfl rfl) ?_)))))
   refine aQ [0] (default) hF true rfl rfl (fun _ => rfl) (fun hc => rfl) (fun hc => h a (List.mem_of_getElem? ha)) (fun k2 hk2 => ?_)
   refine aj rfl (cY (k := k2) (v := true) 0 Tryz.underlying125 (kyS) rfl rfl rfl rfl ?_)
   refine aHK ?_
   refine cr (bu (av (ae ?_)))
   refine aU rfl (bf rfl rfl (by omega)) ?_
   refine aM rfl (aNn ?_)
   refine ⟨[0, 1, 5, 9, 10, 11], [1, 0], [0], rfl, ?_⟩
   exact ⟨(k + 1, cC m k2 true), ⟨by dsimp only; omega, rfl⟩, by dsimp only; omega⟩
 ·skip
  refine aR (aS (aS (aY (av (aSR (aA rfl (aNn (aq ?_))))))))
  refine aV [] [] rfl Tryz.results151 rfl ?_ (.inr rfl)
  exact ⟨⟨rfl, rfl⟩, _, rfl, fun _ => trivial⟩
theorem pf (l : Sl Int) (F : FuncId) (caps : List Value) (p : Per) (hF : bE Tryz.prog F = true) (h : ∀ a ∈ l.l, Con Tryz.prog F ((eI a) :: caps) [p] [] (YN eI fun _ => True)) : Con Tryz.prog 153 [l.val, .func (.func F) #[] caps.toArray] [ShF (fun z : Int => [D.v (eI z)]) l, p] []
   (YB True) := by
 refine Con.enter Tryz.func153 rfl (by simp [Tryz.ntmps153]) ?_
 show awp _ _ _ _ ⟨[(0, true, _), (1, true, _)], _, _⟩
 refine bd (.of (an 0 rfl)) (fun hlen => ?_)
 refine aSR (aA rfl (aNn (aSR ?_)))
 refine aj (q := true) rfl (dY (eI) (vBo) rfl (fun b1_0 => ?_))
 refine aHN ?_
 refine aA rfl (aNs (aSR (aM rfl (aU rfl (aZ Tryz.underlying90 rfl) ?_))))
 refine aM rfl (aNn (aw (aP [0, 1, 5, 9, 10, 11] [1, 0] [0] (fun (x : Nat × (Int → Option Bool)) s => x.1 ≤ l.l.length ∧ s = ⟨[(0, true, l.val), (1, true, .func (.func F) #[] caps.toArray), (5, true, .map (some b1_0)), (9, true, l.val), (10, true, .int .i64 l.l.length), (11, true, .int .i64 x.1)], [ShF (fun z : Int => [D.v (eI z)]) l, p], [dg b1_0 eI vBo x.2]⟩) (fun x => l.l.length - x.1) rfl (⟨(0, fun _ => none), Nat.zero_le _, rfl⟩) ?_)))
 rintro ⟨k, m⟩ s ⟨hk, rfl⟩
 dsimp only at hk
 refine aSR (aU rfl (bt rfl rfl) (aNs ?_))
 refine ah _ rfl (fun h1 => ?_) (fun h1 => ?_)
 ·skip
  have hk' : k < l.l.length := by simpa using h1
  obtain ⟨a, ha⟩ : ∃ a, l.l[k]? = some a := ⟨l.l[k]'hk', by simp⟩
  refine au (av (az (aw (aSR ?_))))
  refine ck true rfl rfl (fun _ => ai Tryz.underlying90 tk3 rfl ((.of (an 0 rfl))) rfl (aJ ha) rfl rfl) (fun h => absurd h (by decide)) (fun ⟨b4_0, o4_0⟩ => ?_)
  refine aU rfl (aF (o := 0) tk3 rfl (an 0 rfl) rfl rfl) (aA rfl (aNs (aSR (aM rfl (aM rfl (aM rfl ?_))))))
  refine aQ [0] (default) hF true rfl rfl (fun _ => rfl) (fun hc => rfl) (fun hc => h a (List.mem_of_getElem? ha)) (fun k1 hk1 => ?_)
  refine aU rfl (gk (k := k1) (v0 := false) 0 Tryz.underlying310 (kyI) (by kernel_rfl) rfl rfl rfl) ?_
  refine aNn ?_
  refine ah _ rfl (fun h2 => ?_) (fun h2 => ?_)
  ·skip
   refine aSR (aA rfl (aNn (aq (aK (bj (aK (aK (bj (aK ?_)))))))))
   refine aV [] [] rfl Tryz.results153 rfl ?_ (.inr rfl)
   exact ⟨⟨rfl, rfl⟩, _, rfl, fun _ => trivial⟩
  ·skip
   refine au (av (ae (aM rfl (aM rfl (aM rfl ?_)))))
   refine aQ [0] (default) hF true rfl rfl (fun _ => rfl) (fun hc => rfl) (fun hc => h a (List.mem_of_getElem? ha)) (fun k2 hk2 => ?_)
   refine aj rfl (cY (k := k2) (v := true) 0 Tryz.underlying310 (kyI) rfl rfl rfl rfl ?_)
   refine aHK ?_
   refine cr (bu (av (ae ?_)))
   refine aU rfl (bf rfl rfl (by omega)) ?_
   refine aM rfl (aNn ?_)
   refine ⟨[0, 1, 5, 9, 10, 11], [1, 0], [0], rfl, ?_⟩
   exact ⟨(k + 1, cC m k2 true), ⟨by dsimp only; omega, rfl⟩, by dsimp only; omega⟩
 ·skip
  refine aR (aS (aS (aY (av (aSR (aA rfl (aNn (aq ?_))))))))
  refine aV [] [] rfl Tryz.results153 rfl ?_ (.inr rfl)
  exact ⟨⟨rfl, rfl⟩, _, rfl, fun _ => trivial⟩
end Go.Proofs.YtgmiihmahaahiaaGreatDoor

namespace Go.Proofs.YtgmiihmahaahiaaGreatDoor
open Go.RowKit Go.Lp Go.Sy
open Go.Proofs.Tryz
attribute [local irreducible] aL aB awp aC fwp

theorem cB (n u : Int) : Con Tryz.prog 128 [.int .i64 n, .int .i64 u] [] [] (fun r _ _ => r = .bool (decide (n ≥ 0) && decide (n < u))) := by
 refine Con.enter Tryz.func128 rfl (by simp [Tryz.ntmps128]) ?_
 show awp _ _ _ _ ⟨[(0, true, _), (1, true, _)], _, _⟩
 refine aSR (aA rfl (aNn (aSR (aM rfl (aU rfl (cL rfl rfl) (aM rfl (aG rfl rfl (fun hc => ar rfl) (aG rfl rfl (fun hc => ar rfl) (aG rfl rfl (fun hc => bt (aa rfl hc) (aa rfl hc)) (aU rfl (bn rfl rfl (fun h => gt rfl h)) (aA rfl (aNn (aq ?_)))))))))))))
 refine aV [] [] rfl Tryz.results128 rfl ?_ (.inr rfl)
 rfl
theorem jZ (n : Int) : Con Tryz.prog 129 [.int .i64 n] [] [] (YB True) := by
 refine Con.enter Tryz.func129 rfl (by simp [Tryz.ntmps129]) ?_
 show awp _ _ _ _ ⟨[(0, true, _)], _, _⟩
 refine aSR (aA rfl (aNn (aSR (aM rfl (aU rfl (cL rfl rfl) (aM rfl (aG rfl rfl (fun hc => ar rfl) (aG rfl rfl (fun hc => eE (aa rfl hc) rfl) (aU rfl (bn rfl rfl (fun h => gt rfl h)) (aM rfl (aG rfl rfl (fun hc => ar rfl) (aG rfl rfl (fun hc => ar rfl) ?_))))))))))))
 refine aG rfl rfl (fun hc => dX (aa rfl hc) rfl (by (first | omega | (simp at hc; omega)))) ?_
 refine aG rfl rfl (fun hc => sf (aa rfl hc) (aa rfl hc)) (aG rfl rfl (fun hc => bB (aa rfl hc) rfl) (aU rfl (bn rfl rfl (fun h => gt rfl h)) (aA rfl (aNn (aq ?_)))))
 refine aV [] [] rfl Tryz.results129 rfl ?_ (.inr rfl)
 exact ⟨⟨rfl, rfl⟩, _, rfl, fun _ => trivial⟩
theorem eY (s : ByteArray) (hs : s.size ≤ maxLen) : Con Tryz.prog 77 [.string s] [] [] (YB True) := by
 have hs' : s.size ≤ 9223372036854775807 := hs
 refine Con.enter Tryz.func77 rfl (by simp [Tryz.ntmps77]) ?_
 show awp _ _ _ _ ⟨[(0, true, _)], _, _⟩
 refine aSR (aA rfl (aNs (aSR ?_)))
 refine aM rfl (aU rfl (dW Tryz.underlying9 rfl) (aM rfl (aNn (aw (aP [0, 5, 6] [] [] (fun (k : Nat) st => k ≤ s.size ∧ st = ⟨[(0, true, .string s), (5, true, .int .i64 s.size), (6, true, .int .i64 k)], [], []⟩) (fun k => s.size - k) rfl (⟨0, Nat.zero_le _, rfl⟩) ?_)))))
 rintro k st ⟨hk, rfl⟩
 refine aSR (aU rfl (bt rfl rfl) (aNs ?_))
 refine ah _ rfl (fun h1 => ?_) (fun h1 => ?_)
 ·skip
  have hk' : k < s.size := by simpa using h1
  obtain ⟨u, hu⟩ : ∃ u, s.data.toList[k]? = some u := ⟨_, List.getElem?_eq_getElem (by simpa using hk')⟩
  refine au (av (az (aw (aSR (aM rfl (aA rfl (aNn (aSR (aM rfl (aM rfl (aU rfl (eo (k) Tryz.underlying9 rfl rfl (rfl) (hu)) (aU rfl (bt rfl rfl) ?_))))))))))))
  refine aM rfl (aG rfl rfl (fun hc => ar rfl) (aG rfl rfl (fun hc => ar rfl) (aG rfl rfl (fun hc => eo (k) Tryz.underlying9 (aa rfl hc) (aa rfl hc) (rfl) (hu)) (aG rfl rfl (fun hc => du (aa rfl hc) rfl) (aU rfl (ct rfl rfl (fun h => gf rfl h)) (aNn ?_))))))
  refine ah _ rfl (fun h2 => ?_) (fun h2 => ?_)
  ·skip
   refine aSR (aA rfl (aNn (aq (bj (aK (aK (bj (aK ?_))))))))
   refine aV [] [] rfl Tryz.results77 rfl ?_ (.inr rfl)
   exact ⟨⟨rfl, rfl⟩, _, rfl, fun _ => trivial⟩
  ·skip
   refine au (bu (av (ae ?_)))
   refine aU rfl (bf rfl rfl (by omega)) ?_
   refine aM rfl (aNn ?_)
   refine ⟨[0, 5, 6], [], [], rfl, ?_⟩
   exact ⟨k + 1, ⟨by omega, rfl⟩, by omega⟩
 ·skip
  refine aR (aS (aS (aY (av (aSR (aM rfl (aU rfl (oY rfl rfl) (aM rfl (aG rfl rfl (fun hc => ar rfl) (aG rfl rfl (fun hc => dW Tryz.underlying9 (aa rfl hc)) (aG rfl rfl (fun hc => eE (aa rfl hc) rfl) (aU rfl (bn rfl rfl (fun h => gt rfl h)) (aA rfl (aNn (aq ?_)))))))))))))))
  refine aV [] [] rfl Tryz.results77 rfl ?_ (.inr rfl)
  exact ⟨⟨rfl, rfl⟩, _, rfl, fun _ => trivial⟩
theorem nV (s : ByteArray) (hs : s.size ≤ maxLen) : Con Tryz.prog 159 [.string s] [] [] (YB True) := by
 have hs' : s.size ≤ 9223372036854775807 := hs
 refine Con.enter Tryz.func159 rfl (by simp [Tryz.ntmps159]) ?_
 show awp _ _ _ _ ⟨[(0, true, _)], _, _⟩
 refine aSR (aA rfl (aNs (aSR ?_)))
 refine aM rfl (aU rfl (dW Tryz.underlying9 rfl) (aM rfl (aNn (aw (aP [0, 5, 6] [] [] (fun (k : Nat) st => k ≤ s.size ∧ st = ⟨[(0, true, .string s), (5, true, .int .i64 s.size), (6, true, .int .i64 k)], [], []⟩) (fun k => s.size - k) rfl (⟨0, Nat.zero_le _, rfl⟩) ?_)))))
 rintro k st ⟨hk, rfl⟩
 refine aSR (aU rfl (bt rfl rfl) (aNs ?_))
 refine ah _ rfl (fun h1 => ?_) (fun h1 => ?_)
 ·skip
  have hk' : k < s.size := by simpa using h1
  obtain ⟨u, hu⟩ : ∃ u, s.data.toList[k]? = some u := ⟨_, List.getElem?_eq_getElem (by simpa using hk')⟩
  refine au (av (az (aw (aSR (aM rfl (aA rfl (aNn (aSR (aM rfl (aM rfl (aU rfl (eo (k) Tryz.underlying9 rfl rfl (rfl) (hu)) (aU rfl (bt rfl rfl) ?_))))))))))))
  refine aM rfl (aG rfl rfl (fun hc => ar rfl) (aG rfl rfl (fun hc => ar rfl) (aG rfl rfl (fun hc => eo (k) Tryz.underlying9 (aa rfl hc) (aa rfl hc) (rfl) (hu)) (aG rfl rfl (fun hc => du (aa rfl hc) rfl) (aU rfl (ct rfl rfl (fun h => gf rfl h)) (aM rfl (aG rfl rfl (fun hc => ar rfl) (aG rfl rfl (fun hc => ar rfl) (aG rfl rfl (fun hc => eo (k) Tryz.underlying9 (aa rfl hc) (aa rfl hc) (rfl) (hu)) (aG rfl rfl (fun hc => bB (aa rfl hc) rfl) (aU rfl (ct rfl rfl (fun h => gf rfl h)) (aM rfl (aG rfl rfl (fun hc => ar rfl) (aG rfl rfl (fun hc => ar rfl) (aG rfl rfl (fun hc => eo (k) Tryz.underlying9 (aa rfl hc) (aa rfl hc) (rfl) (hu)) (aG rfl rfl (fun hc => bB (aa rfl hc) rfl) (aU rfl (ct rfl rfl (fun h => gf rfl h)) (aNn ?_))))))))))))))))))
  refine ah _ rfl (fun h2 => ?_) (fun h2 => ?_)
  ·skip
   refine aSR (aA rfl (aNn (aq (bj (aK (aK (bj (aK ?_))))))))
   refine aV [] [] rfl Tryz.results159 rfl ?_ (.inr rfl)
   exact ⟨⟨rfl, rfl⟩, _, rfl, fun _ => trivial⟩
  ·skip
   refine au (bu (av (ae ?_)))
   refine aU rfl (bf rfl rfl (by omega)) ?_
   refine aM rfl (aNn ?_)
   refine ⟨[0, 5, 6], [], [], rfl, ?_⟩
   exact ⟨k + 1, ⟨by omega, rfl⟩, by omega⟩
 ·skip
  refine aR (aS (aS (aY (av (aSR (aM rfl (aU rfl (oY rfl rfl) (aM rfl (aG rfl rfl (fun hc => ar rfl) (aG rfl rfl (fun hc => dW Tryz.underlying9 (aa rfl hc)) (aG rfl rfl (fun hc => eE (aa rfl hc) rfl) (aU rfl (bn rfl rfl (fun h => gt rfl h)) (aA rfl (aNn (aq ?_)))))))))))))))
  refine aV [] [] rfl Tryz.results159 rfl ?_ (.inr rfl)
  exact ⟨⟨rfl, rfl⟩, _, rfl, fun _ => trivial⟩
def gI (k : Int) : Int := if k = 2 then 4 else if k = 3 then 2 else 8
theorem jj (k : Int) : Con Tryz.prog 140 [.int .i64 k] [] [] (fun r _ _ => r = .int .i64 (gI k)) := by
 refine Con.enter Tryz.func140 rfl (by simp [Tryz.ntmps140]) ?_
 show awp _ _ _ _ ⟨[(0, true, _)], _, _⟩
 refine aSR (aA rfl (aNs (aSR (aM rfl (aNn (aw (aSR (aU rfl (bB rfl rfl) (aA rfl (aNn ?_))))))))))
 refine ah _ rfl (fun h1 => ?_) (fun h1 => ?_)
 ·skip
  refine aSR (aA rfl (aNn (aq (bj (aK ?_)))))
  refine aV [] [] rfl Tryz.results140 rfl ?_ (.inr rfl)
  have : k = 2 := by simpa using h1
  subst this; rfl
 ·skip
  refine aSR (aU rfl (bB rfl rfl) (aA rfl (aNn ?_)))
  refine ah _ rfl (fun h2 => ?_) (fun h2 => ?_)
  ·skip
   refine aSR (aA rfl (aNn (aq (bj (aK ?_)))))
   refine aV [] [] rfl Tryz.results140 rfl ?_ (.inr rfl)
   have a1 : ¬ k = 2 := by simpa using h1
   have : k = 3 := by simpa using h2
   subst this; rfl
  ·skip
   refine au (bu (av (aSR (aA rfl (aNn (aq ?_))))))
   refine aV [] [] rfl Tryz.results140 rfl ?_ (.inr rfl)
   have a1 : ¬ k = 2 := by simpa using h1
   have a2 : ¬ k = 3 := by simpa using h2
   unfold gI; rw [if_neg a1, if_neg a2]
theorem rU (l : Sl Int) (z : Int) : Con Tryz.prog 228 [l.val, .int .i64 z] [ShF (fun z : Int => [D.v (eI z)]) l] [] (YN (fun z : Int => .int .i64 z) fun _ => True) := by
 refine Con.enter Tryz.func228 rfl (by simp [Tryz.ntmps228]) ?_
 show awp _ _ _ _ ⟨[(0, true, _), (1, true, _)], _, _⟩
 refine bd (.of (an 0 rfl)) (fun hlen => ?_)
 refine aSR (aA rfl (aNs (aSR ?_)))
 refine aM rfl (aU rfl (aZ Tryz.underlying90 rfl) (aM rfl (aNn (aw (aP [0, 1, 7, 8] [0] [] (fun (k : Nat) s => k ≤ l.l.length ∧ s = ⟨[(0, true, l.val), (1, true, .int .i64 z), (7, true, .int .i64 l.l.length), (8, true, .int .i64 k)], [ShF (fun z : Int => [D.v (eI z)]) l], []⟩) (fun k => l.l.length - k) rfl (⟨0, Nat.zero_le _, rfl⟩) ?_)))))
 rintro k s ⟨hk, rfl⟩
 refine aSR (aU rfl (bt rfl rfl) (aNs ?_))
 refine ah _ rfl (fun h1 => ?_) (fun h1 => ?_)
 ·skip
  have hk' : k < l.l.length := by simpa using h1
  obtain ⟨a, ha⟩ : ∃ a, l.l[k]? = some a := ⟨l.l[k]'hk', by simp⟩
  refine au (av (az (aw (aSR (aM rfl (aA rfl (aNn (aSR (aM rfl (aM rfl (aM rfl ?_)))))))))))
  refine ck true rfl rfl (fun _ => ai Tryz.underlying90 tk3 rfl ((.of (an 0 rfl))) rfl (aJ ha) rfl rfl) (fun h => absurd h (by decide)) (fun ⟨b4_3, o4_3⟩ => ?_)
  refine aU rfl (aF (o := 0) tk3 rfl (an 0 rfl) rfl rfl) (aU rfl (bB rfl rfl) (aNn ?_))
  refine ah _ rfl (fun h2 => ?_) (fun h2 => ?_)
  ·skip
   refine aSR (aM rfl (aA rfl (aNn (aq (bj (aK (aK (bj (aK ?_)))))))))
   refine aV [] [] rfl Tryz.results228 rfl ?_ (.inr rfl)
   exact ⟨⟨rfl, rfl⟩, _, rfl, trivial⟩
  ·skip
   refine au (bu (av (ae ?_)))
   refine aU rfl (bf rfl rfl (by omega)) ?_
   refine aM rfl (aNn ?_)
   refine ⟨[0, 1, 7, 8], [0], [], rfl, ?_⟩
   exact ⟨k + 1, ⟨by omega, rfl⟩, by omega⟩
 ·skip
  refine aR (aS (aS (aY (av (aSR (aA rfl (aNn (aq ?_))))))))
  refine aV [] [] rfl Tryz.results228 rfl ?_ (.inr rfl)
  exact ⟨⟨rfl, rfl⟩, _, rfl, trivial⟩
theorem oo (l : Sl Int) (z : Int) : Con Tryz.prog 143 [l.val, .int .i64 z] [ShF (fun z : Int => [D.v (eI z)]) l] [] (YB True) := by
 refine Con.enter Tryz.func143 rfl (by simp [Tryz.ntmps143]) ?_
 show awp _ _ _ _ ⟨[(0, true, _), (1, true, _)], _, _⟩
 refine aSR (aA rfl (aNn (aSR (aM rfl (aM rfl ?_)))))
 refine aQ (caps := []) [0] (default) (by kernel_rfl) true rfl rfl (fun _ => rfl) (fun hc => rfl) (fun hc => by rw [List.append_nil]; exact rU l z) (fun c hc => ?_)
 refine aU rfl (cL rfl rfl) (aA rfl (aNn (aq ?_)))
 refine aV [] [] rfl Tryz.results143 rfl ?_ (.inr rfl)
 exact ⟨⟨rfl, rfl⟩, _, rfl, fun _ => trivial⟩
theorem jz (o : ax) (l : Sl Int) (sec : Int) : Con Tryz.prog 134 [o.val, .int .i64 sec, l.val] [ShF (fun z : Int => [D.v (eI z)]) l, o.ok] [] (YB (0 ≤ sec ∧ sec < o.secs.l.length)) := by
 refine Con.enter Tryz.func134 rfl (by simp [Tryz.ntmps134]) ?_
 show awp _ _ _ _ ⟨[(0, true, _), (1, true, _), (2, true, _)], _, _⟩
 refine bd (ax.f_secs (.of (an 1 rfl))) (fun hlen => ?_)
 refine aSR ?_
 refine aj (q := true) rfl (bI rfl rfl rfl (fun b0_0 => ?_))
 refine aHN ?_
 refine aA rfl (aNn (aSR (aM rfl ?_)))
 refine aU rfl (qFA (off := 0) rfl) ?_
 refine aU rfl (qFA (off := 1) rfl) ?_
 refine aU rfl (ab 0 tk50 rfl rfl rfl) (aU rfl (aZ Tryz.underlying50 rfl) ?_)
 refine aU rfl (bw (by kernel_rfl) rfl (fun w S fp hst => (cB _ _).quiet0 hst)) ?_
 refine aM rfl (aG rfl rfl (fun hc => ar rfl) ?_)
 refine aG rfl rfl (fun hc => qFA (off := 0) rfl) ?_
 refine aG rfl rfl (fun hc => qFA (off := 1) (aa rfl hc)) ?_
 refine aG rfl rfl (fun hc => ab 0 tk50 (aa rfl hc) rfl rfl) (aG rfl rfl (fun hc => ar rfl) ?_)
 refine ck _ rfl rfl (fun hc => ai Tryz.underlying50 tk85 (aa rfl hc) ((ax.f_secs (.of (an 1 rfl)))) (aa rfl hc) (cR (i := sec) (by simp at hc; omega) (by simp at hc; omega)) (by simp at hc; omega) rfl) (fun _ => ⟨(0, 0)⟩) (fun ⟨b1_12, o1_12⟩ => ?_)
 refine aG rfl rfl (fun hc => qFA (off := 1) (aa rfl hc)) ?_
 refine aG rfl rfl (fun hc => aF (o := 1) tk3 (aa rfl hc) (an 0 rfl) hc rfl) ?_
 refine aQ (caps := []) [1] (false) (by kernel_rfl) _ rfl rfl (fun _ => rfl) (fun hc => (aI (aa rfl hc) (aI (aa rfl hc) rfl))) (fun hc => by rw [List.append_nil]; exact oo l _) (fun c hc => ?_)
 refine aU rfl (bn rfl rfl (fun h => gt rfl h)) (aA rfl (aNn (aq ?_)))
 refine aV [] [] rfl Tryz.results134 rfl ?_ (.inr rfl)
 refine ⟨⟨rfl, rfl⟩, _, rfl, fun hb => ?_⟩
 simp at hb; omega
theorem lR (o : ax) (i kind : Int) : Con Tryz.prog 157 [o.val, .int .i64 i, .int .i64 kind] [o.ok] [] (YB (0 ≤ i ∧ i < o.syms.l.length)) := by
 refine Con.enter Tryz.func157 rfl (by simp [Tryz.ntmps157]) ?_
 show awp _ _ _ _ ⟨[(0, true, _), (1, true, _), (2, true, _)], _, _⟩
 refine bd (ax.f_syms (.of (an 0 rfl))) (fun hlen => ?_)
 refine aSR ?_
 refine aj (q := true) rfl (bI rfl rfl rfl (fun b0_0 => ?_))
 refine aHN ?_
 refine aA rfl (aNn (aSR (aM rfl ?_)))
 refine aU rfl (qFA (off := 0) rfl) ?_
 refine aU rfl (qFA (off := 2) rfl) ?_
 refine aU rfl (ab 0 tk51 rfl rfl rfl) (aU rfl (aZ Tryz.underlying51 rfl) ?_)
 refine aU rfl (bw (by kernel_rfl) rfl (fun w S fp hst => (cB _ _).quiet0 hst)) ?_
 refine aM rfl ?_
 refine aG rfl rfl (fun hc => qFA (off := 0) rfl) ?_
 refine aG rfl rfl (fun hc => qFA (off := 2) (aa rfl hc)) ?_
 refine aG rfl rfl (fun hc => ab 0 tk51 (aa rfl hc) rfl rfl) (aG rfl rfl (fun hc => ar rfl) ?_)
 refine ck _ rfl rfl (fun hc => ai Tryz.underlying51 tk63 (aa rfl hc) ((ax.f_syms (.of (an 0 rfl)))) (aa rfl hc) (cR (i := i) (by simp at hc; omega) (by simp at hc; omega)) (by simp at hc; omega) rfl) (fun _ => ⟨(0, 0)⟩) (fun ⟨b1_11, o1_11⟩ => ?_)
 refine aG rfl rfl (fun hc => qFA (off := 5) (aa rfl hc)) ?_
 refine aG rfl rfl (fun hc => aF (o := 5) tk3 (aa rfl hc) (an 0 rfl) hc rfl) (aG rfl rfl (fun hc => ar rfl) (aG rfl rfl (fun hc => bB (aa rfl hc) (aa rfl hc)) (aU rfl (bn rfl rfl (fun h => gt rfl h)) (aA rfl (aNn (aq ?_))))))
 refine aV [] [] rfl Tryz.results157 rfl ?_ (.inr rfl)
 refine ⟨⟨rfl, rfl⟩, _, rfl, fun hb => ?_⟩
 simp at hb; omega
end Go.Proofs.YtgmiihmahaahiaaGreatDoor

namespace Go.Sy
open Go.RowKit Go.Lp
theorem vI {P : Program} {n : Fr} {ops : Array Oper} {env : Env} {ps : List Per} {hp : List Res} {Q : Exit → Sta → Prop} {rest : List Oper} {v : Value} {T : TypeId} {sz : Nat} {rows : List (List D)} (i : Nat) (hi : hp[i]? = some (bA v T sz rows)) (h : aL P n ops Q rest ⟨env, Sh v (.sl rows) :: ps, hp.set i emp⟩) : aL P n ops Q rest ⟨env, ps, hp⟩ := fun w S fp a hst he hn hd => by
 have hil := (List.getElem?_eq_some_iff.1 hi).1
 have h1 := pS hst i hi
 have htot : ∀ b, tot (fun k => if k = i then (fun _ => False) else fp k) (hp.set i emp).length b → tot fp hp.length b := fun b ⟨j, hj, hb⟩ => by
   dsimp only at hb
   by_cases hji : j = i
   · rw [if_pos hji] at hb; exact hb.elim
   · rw [if_neg hji] at hb; exact ⟨j, by simpa using hj, hb⟩
 have hE : Evo w S (tot fp hp.length) w (fun b => S b ∨ fp i b) := ⟨rfl, rfl, rfl, Nat.le_refl _, Nat.le_refl _, fun _ _ _ => rfl, fun _ h => .inl h, fun b hb => hb.elim .inl fun h => .inr (.inl ⟨i, hil, h⟩)⟩
 exact eJ (fun e a2 w2 hp => hp.trans hE (fun b hb => .inl (htot b hb))) _ _ _ (h w _ _ a h1 he hn hd)
end Go.Sy

namespace Go.Sy
open Go.RowKit Go.Lp
section
variable {P : Program} {n : Fr} {ops : Array Oper} {env : Env} {ps : List Per} {hp : List Res} {Q : Exit → Sta → Prop} {rest : List Oper} {ty : TypeId} {pos : String} {af : Array Edge} {gd : Option (Nat × Bool)}
theorem rD {ps' : List Per} (hf : ∀ p ∈ ps', Ent ps p) (h : aL P n ops Q rest ⟨env, ps', hp⟩) : aL P n ops Q rest ⟨env, ps, hp⟩ := fun w S fp a hst he hn hd =>
 h w S fp a ⟨fun q hq => hf q hq w S hst.per, hst.res, hst.lt, hst.dj, hst.slt⟩ he hn hd
theorem xd {R : Res} (h : aL P n ops Q rest ⟨env, ps, hp⟩) : aL P n ops Q rest ⟨env, ps, hp ++ [R]⟩ := fun w S fp a hst he hn hd => by
 have hst' : St w S fp ps hp := ⟨hst.per, fun i R' hR => hst.res i R' (by rw [List.getElem?_append_left (List.getElem?_eq_some_iff.1 hR).1]; exact hR), fun i hi => hst.lt i (by simp; omega), fun i j hi hj => hst.dj i j (by simp; omega) (by simp; omega), hst.slt⟩
 have hE : Evo w S (tot fp (hp ++ [R]).length) w S := Evo.refl _ _ _
 exact eJ (fun e a2 w2 hp2 => hp2.trans hE (fun b ⟨j, hj, hb⟩ => .inl ⟨j, by have hj2 : j < hp.length := hj; simp; omega, hb⟩)) _ _ _ (h w S fp a hst' he hn hd)
theorem fW {t : Nat} {T E : TypeId} {len : Nat} {l : List (Nat × Operand)} {xs : List Operand} {vs zs cs : List Value} {rows : List (List D)} (hel : elB P T E zs.length = true) (hz : eM P E = some zs) (h0 : 0 < zs.length)
   (hlen : 0 < len) (hsm : len * zs.length ≤ 16777216) (hxs : l.map (·.2) = xs) (c : Bool) (hc : guardOf ops env ⟨some t, .buildSlice T len l.toArray, ty, pos, af, gd⟩ = some c) (hx : c = true → evs env xs = some vs) (hb : bld (fun i => some (i * zs.length, zs.length)) (jd len zs) ((l.map (·.1)).zip vs) = some cs) (hr : RCs ps zs.length cs rows) (hrl : rows.length = len) (ht : fits n.size (some t) = true)
   (h : ∀ ad, aL P n ops Q rest ⟨(t, c, .slice ad len len) :: env, cnd c (Sh (.slice ad len len) (.sl rows)) :: ps, hp⟩) : aL P n ops Q (⟨some t, .buildSlice T len l.toArray, ty, pos, af, gd⟩ :: rest) ⟨env, ps, hp⟩ := by
 cases c with
 | true =>
   refine aj (q := true) hc (cG hel hz h0 hlen hsm hxs (hx rfl) hb hr hrl ht fun ad => ?_)
   refine vI hp.length (by rw [List.getElem?_append_right (Nat.le_refl _), Nat.sub_self]; rfl) ?_
   rw [List.set_append_right _ _ (Nat.le_refl _), Nat.sub_self]
   refine xd (rD (fun p hp => ?_) (h ad))
   rcases List.mem_cons.1 hp with rfl | hp
   · exact fun w S hq _ => hq _ List.mem_cons_self
   · exact .of (List.mem_cons_of_mem _ hp)
 | false =>
   refine l7 (v := .slice none len len) false hc ht (fun h => by cases h) (rD (fun p hp => ?_) (h none))
   rcases List.mem_cons.1 hp with rfl | hp
   · exact fun w S hq h => by cases h
   · exact .of hp
theorem xj {V : List Nat} {k : Nat} {L : Array Bool} {R : Res} (h : aB P n ops V Q k L ⟨env, ps, hp⟩) : aB P n ops V Q k L ⟨env, ps, hp ++ [R]⟩ := fun w S fp a hst he hn hd => by
 have hst' : St w S fp ps hp := ⟨hst.per, fun i R' hR => hst.res i R' (by rw [List.getElem?_append_left (List.getElem?_eq_some_iff.1 hR).1]; exact hR), fun i hi => hst.lt i (by simp; omega), fun i j hi hj => hst.dj i j (by simp; omega) (by simp; omega), hst.slt⟩
 have hE : Evo w S (tot fp (hp ++ [R]).length) w S := Evo.refl _ _ _
 exact gM (fun a2 w2 hp2 => hp2.trans hE (fun b ⟨j, hj, hb⟩ => .inl ⟨j, by have hj2 : j < hp.length := hj; simp; omega, hb⟩)) _ _ _ _ (h w S fp a hst' he hn hd)
theorem uI {V : List Nat} {k : Nat} {L : Array Bool} {v : Value} {T : TypeId} {sz : Nat} {rows : List (List D)} (i : Nat) (hi : hp[i]? = some (bA v T sz rows)) (h : aB P n ops V Q k L ⟨env, Sh v (.sl rows) :: ps, hp.set i emp⟩) : aB P n ops V Q k L ⟨env, ps, hp⟩ := fun w S fp a hst he hn hd => by
 have hil := (List.getElem?_eq_some_iff.1 hi).1
 have h1 := pS hst i hi
 have htot : ∀ b, tot (fun k => if k = i then (fun _ => False) else fp k) (hp.set i emp).length b → tot fp hp.length b := fun b ⟨j, hj, hb⟩ => by
   dsimp only at hb
   by_cases hji : j = i
   · rw [if_pos hji] at hb; exact hb.elim
   · rw [if_neg hji] at hb; exact ⟨j, by simpa using hj, hb⟩
 have hE : Evo w S (tot fp hp.length) w (fun b => S b ∨ fp i b) := ⟨rfl, rfl, rfl, Nat.le_refl _, Nat.le_refl _, fun _ _ _ => rfl, fun _ h => .inl h, fun b hb => hb.elim .inl fun h => .inr (.inl ⟨i, hil, h⟩)⟩
 exact gM (fun a2 w2 hp => hp.trans hE (fun b hb => .inl (htot b hb))) _ _ _ _ (h w _ _ a h1 he hn hd)
theorem ig {V : List Nat} {k : Nat} {L : Array Bool} {t : Nat} {T E : TypeId} {len : Nat} {l : List (Nat × Operand)} {xs : List Operand} {vs zs cs : List Value} {rows : List (List D)} (i : Nat) (hi : ops[i]? = some ⟨some t, .buildSlice T len l.toArray, ty, pos, af, gd⟩) (hr : Region.ready .any ops L = [i]) (hel : elB P T E zs.length = true) (hz : eM P E = some zs) (h0 : 0 < zs.length)
   (hlen : 0 < len) (hsm : len * zs.length ≤ 16777216) (hxs : l.map (·.2) = xs) (hc : guardOf ops env ⟨some t, .buildSlice T len l.toArray, ty, pos, af, gd⟩ = some true) (hx : evs env xs = some vs) (hb : bld (fun i => some (i * zs.length, zs.length)) (jd len zs) ((l.map (·.1)).zip vs) = some cs) (hrc : RCs ps zs.length cs rows) (hrl : rows.length = len) (ht : fits n.size (some t) = true)
   (h : ∀ ad, aB P n ops V Q k (L.setIfInBounds i true) ⟨(t, true, .slice ad len len) :: env, Sh (.slice ad len len) (.sl rows) :: ps, hp⟩) : aB P n ops V Q (k + 1) L ⟨env, ps, hp⟩ := by
 refine bM (q := true) i hi hr rfl hc (cG hel hz h0 hlen hsm hxs hx hb hrc hrl ht fun ad => ?_)
 refine uI hp.length (by rw [List.getElem?_append_right (Nat.le_refl _), Nat.sub_self]; rfl) ?_
 rw [List.set_append_right _ _ (Nat.le_refl _), Nat.sub_self]
 exact xj (h ad)
end
end Go.Sy

namespace Go.Sy
open Go.RowKit Go.Lp
theorem zv {a b : ByteArray} (h : a.toList = b.toList) : a = b := by
 have key : ∀ (x : ByteArray), x.toList = x.data.toList := fun x => by
   have loop : ∀ (n i : Nat) (acc : List UInt8), x.size - i = n → ByteArray.toList.loop x i acc = acc.reverse ++ x.data.toList.drop i := by
     intro n
     induction n with
     | zero =>
       intro i acc h
       unfold ByteArray.toList.loop
       have hle : x.data.size ≤ i := by have : x.size = x.data.size := rfl; omega
       rw [if_neg (by omega), List.drop_eq_nil_of_le (by simpa using hle), List.append_nil]
     | succ n ih =>
       intro i acc h
       unfold ByteArray.toList.loop
       have hlt : i < x.size := by omega
       have hlt' : i < x.data.toList.length := by simpa using hlt
       rw [if_pos hlt, ih (i + 1) _ (by omega), List.drop_eq_getElem_cons hlt']
       have : x.get! i = x.data.toList[i] := by
         show x.data[i]! = _
         rw [getElem!_pos x.data i (by simpa using hlt)]; simp
       rw [this]; simp
   unfold ByteArray.toList
   rw [loop _ 0 [] rfl]; simp
 rw [key, key] at h
 cases a; cases b
 simp only [ByteArray.mk.injEq]
 exact Array.toList_inj.1 h
theorem pg (a b : ByteArray) : (a.toList == b.toList) = decide (a = b) := by
 rw [Bool.eq_iff_iff, beq_iff_eq, decide_eq_true_eq]
 exact ⟨zv, fun h => h ▸ rfl⟩
section
variable {P : Program} {n : Fr} {d : Option Tmp} {ty : TypeId} {pos : String} {af : Array Edge} {gd : Option (Nat × Bool)} {s : Sta} {x y : Operand} {t t' : TypeId} {a b : ByteArray}
theorem cZ (hx : ev s.env x = some (true, .string a)) (hy : ev s.env y = some (true, .string b)) : Quiet P n ⟨d, .binOp .eql t x y t', ty, pos, af, gd⟩ s (.bool (decide (a = b))) := pg a b ▸ sd hx hy
theorem fH (hx : ev s.env x = some (true, .string a)) (hy : ev s.env y = some (true, .string b)) : Quiet P n ⟨d, .binOp .neq t x y t', ty, pos, af, gd⟩ s (.bool (!decide (a = b))) := pg a b ▸ oY hx hy
theorem rL (hx : ev s.env x = some (true, .string a)) (hy : ev s.env y = some (true, .string b)) : Quiet P n ⟨d, .binOp .lss t x y t', ty, pos, af, gd⟩ s (.bool (decide (a.toList < b.toList))) :=
 .run2 hx hy fun ρ w h1 h2 => by
   unfold execOp; dsimp only; rw [h1, h2]
   simp only [eqGuard_at_string, Sem.run_bind, Sem.run_pure, binOp_string_lss, Result.andThen_ok, Go.Proofs.bytesLess_eq]
theorem y8 (hx : ev s.env x = some (true, .string a)) (hy : ev s.env y = some (true, .string b)) : Quiet P n ⟨d, .binOp .gtr t x y t', ty, pos, af, gd⟩ s (.bool (!(decide (a.toList < b.toList) || decide (a = b)))) :=
 .run2 hx hy fun ρ w h1 h2 => by
   unfold execOp; dsimp only; rw [h1, h2]
   simp only [eqGuard_at_string, Sem.run_bind, Sem.run_pure, binOp_string_gtr, Result.andThen_ok, Go.Proofs.bytesLess_eq, pg]
end
end Go.Sy

namespace Go.Sy
open Go.RowKit Go.Lp Go.MapKept
open Go.ChangeMaps (setBlock)
section
variable {α β : Type} {κ : α → Value} {ν : β → Value} {m : α → Option β} {P : Program} {kt : TypeId}
def ItR (b r : Nat) (κ : α → Value) (ν : β → Value) (m : α → Option β) (N : Nat) (seen : List α) : Res :=
 ⟨fun w _ F => (b ≠ r ∧ ∃ (es : Array MapEntry) (clock : Nat) (sb : Array Nat) (L : List MapEntry), w.heap[b]? = some (.map es clock) ∧ kU κ ν m es.toList ∧ Stamped es clock ∧ es.size = N ∧ w.heap[r]? = some (.mapIter (some b) clock sb clock) ∧
     (∀ e ∈ L, e ∈ es.toList) ∧ L.map (·.key) = seen.map κ ∧ sb.toList = (L.map (·.born)).reverse ∧ L.Nodup) ∧ ∀ k, F k ↔ k = b ∨ k = r,
  fun ⟨⟨hne, es, clock, sb, L, h, he, hs, hN, hr, h1, h2, h3, h4⟩, hF⟩ k1 _ _ => ⟨⟨hne, es, clock, sb, L, (k1 b ((hF b).2 (.inl rfl))).trans h, he, hs, hN, (k1 r ((hF r).2 (.inr rfl))).trans hr, h1, h2, h3, h4⟩, hF⟩⟩
variable {n : Fr} {env : Env} {ps : List Per} {hp : List Res} {ty : TypeId} {pos : String} {af : Array Edge} {gd : Option (Nat × Bool)} {K : Sta → Prop} {d : Option Tmp}
theorem ye {t : Nat} {T E : TypeId} {x : Operand} {b : Nat} (i : Nat) (hT : P.underlying T = some (.map kt E)) (hx : ev env x = some (true, .map (some b))) (hi : hp[i]? = some (dg b κ ν m)) (ht : fits n (some t) = true)
   (hK : ∀ r N, K ⟨(t, true, .pointer (some ⟨r, 0, none⟩)) :: env, ps, hp.set i (ItR b r κ ν m N [])⟩) :
   Eff P n ⟨some t, .range T x, ty, pos, af, gd⟩ ⟨env, ps, hp⟩ false K := fun w S fp a hst he hn => by
 have hil := (List.getElem?_eq_some_iff.1 hi).1
 have h1 := he.val hx rfl
 obtain ⟨⟨es, clock, hb, hes, hsm⟩, hF⟩ := hst.res i _ hi
 have hbl := (Array.getElem?_eq_some_iff.1 hb).1
 have : (execOp a.eval ⟨some t, .range T x, ty, pos, af, gd⟩).run P w = .ok (.value (.pointer (some ⟨w.heap.size, 0, none⟩))) (w.alloc (.mapIter (some b) clock #[] clock)) := by
   unfold execOp; dsimp only; rw [h1]
   show ((Instr.range T (.map (some b))).bind fun r => Sem.pure (Next.value r)).run P w = _
   rw [Sem.run_bind', run_range_map w T kt E b es clock hT hb]; rfl
 rw [this]
 have hbel : Below w.heap.size w (w.alloc (.mapIter (some b) clock #[] clock)) := eZ _ _
 refine ⟨_, S, _, hK w.heap.size es.size, hst.change2 hil hbel.size (fun b' hb' _ => hbel.block b' hb') (ItR b w.heap.size κ ν m es.size []) (fun k => k = b ∨ k = w.heap.size)
     ⟨⟨by omega, es, clock, #[], [], by rw [hbel.block b hbl]; exact hb, hes, hsm, rfl, jH _ _, by simp, rfl, rfl, List.nodup_nil⟩, fun _ => Iff.rfl⟩ (fun b' hb' => ?_),
   he.put (g := true) (by rw [hn]; simpa [fits] using ht) _, Evo.of_below _ _ hbel, fun b' hb' => ?_, fun h => by cases h⟩
 · rcases hb' with rfl | rfl
   · exact ⟨.inl ((hF b').2 rfl), by rw [World.size_alloc]; omega⟩
   · exact ⟨.inr (Nat.le_refl _), by rw [World.size_alloc]; omega⟩
 · obtain ⟨j, hj, hb'⟩ := hb'
   have hj' : j < hp.length := by simpa using hj
   by_cases hji : j = i
   · subst hji
     simp only [if_pos] at hb'
     rcases hb' with rfl | rfl
     · exact .inl ⟨j, hj', (hF b').2 rfl⟩
     · exact .inr (Nat.le_refl _)
   · simp only [if_neg hji] at hb'; exact .inl ⟨j, hj', hb'⟩
theorem oV {l : List MapEntry} (h : l.Pairwise fun e e' => e.key ≠ e'.key) {x y : MapEntry} (hx : x ∈ l) (hy : y ∈ l) (he : x.key = y.key) : x = y := entry_eq_of_key h hx hy he
theorem nf {γ : Type} : ∀ {l m : List γ}, l.Nodup → (∀ x ∈ l, x ∈ m) → l.length ≤ m.length
 | [], _, _, _ => Nat.zero_le _
 | a :: l, m, h, hs => by
   classical
   have ha := hs a List.mem_cons_self
   rw [List.nodup_cons] at h
   have h2 : ∀ x ∈ l, x ∈ m.erase a := fun x hx => (List.mem_erase_of_ne (fun (e : x = a) => h.1 (by rw [← e]; exact hx))).2 (hs x (List.mem_cons_of_mem _ hx))
   have := nf h.2 h2
   rw [List.length_erase_of_mem ha] at this
   have hp := List.length_pos_of_mem ha
   simp only [List.length_cons]; omega
theorem zA {t : Nat} {x : Operand} {b r N : Nat} {seen : List α} (i : Nat) (KO : ek P kt κ) (hx : ev env x = some (true, .pointer (some ⟨r, 0, none⟩))) (hi : hp[i]? = some (ItR b r κ ν m N seen)) (ht : fits n (some t) = true)
   (h0 : (∀ a v, m a = some v → a ∈ seen) → K ⟨(t, true, .tuple #[.bool false]) :: env, ps, hp⟩)
   (h1 : ∀ a v, m a = some v → a ∉ seen → seen.length < N → K ⟨(t, true, .tuple #[.bool true, κ a, ν v]) :: env, ps, hp.set i (ItR b r κ ν m N (a :: seen))⟩) :
   Eff P n ⟨some t, .next x false, ty, pos, af, gd⟩ ⟨env, ps, hp⟩ false K := fun w S fp a hst he hn => by
 have hil := (List.getElem?_eq_some_iff.1 hi).1
 have hxv := he.val hx rfl
 obtain ⟨⟨hne, es, clock, sb, L, hb, hes, hsm, hN, hr, hL, hk, hsb, hnd⟩, hF⟩ := hst.res i _ hi
 have hst2 := (stamped_iff es clock).1 hsm
 have hbl := (Array.getElem?_eq_some_iff.1 hb).1
 have hrl := (Array.getElem?_eq_some_iff.1 hr).1
 have hsee : ∀ e ∈ es.toList, sb.contains e.born = true ↔ e ∈ L := fun e hee => by
   rw [Array.contains_iff_mem, ← Array.mem_toList_iff, hsb, List.mem_reverse, List.mem_map]
   constructor
   · rintro ⟨e', h1, h2⟩
     rw [← born_inj hst2.2.1 (hL e' h1) hee h2]; exact h1
   · exact fun h => ⟨e, h, rfl⟩
 have hex : (execOp a.eval ⟨some t, .next x false, ty, pos, af, gd⟩) = (Instr.next (.pointer (some ⟨r, 0, none⟩)) false ty).bind fun r => Sem.pure (Next.value r) := by
   unfold execOp; dsimp only; rw [hxv]; rfl
 rw [hex, Sem.run_bind']
 rcases run_next_at (P := P) w ty r b clock clock sb es clock hr hb hst2.1 (Nat.le_refl _) with ⟨hz, hrun⟩ | ⟨e, hee, w1, hal, hrun⟩
 · rw [hrun]
   refine ⟨_, S, fp, h0 (fun k v hkv => ?_), hst, he.put (g := true) (by rw [hn]; simpa [fits] using ht) _, Evo.refl _ _ _, fun _ h => .inl h, fun h => by cases h⟩
   obtain ⟨e, hem, e1, _⟩ := hes.mem k v hkv
   have hin := (hsee e hem).1 (all_seen es sb hz e hem)
   have : κ k ∈ seen.map κ := by rw [← hk, ← e1]; exact List.mem_map_of_mem hin
   obtain ⟨k', h1, h2⟩ := List.mem_map.1 this
   rw [← KO.inj _ _ h2]; exact h1
 · rw [hrun]
   obtain ⟨hem, hns⟩ := mem_left hee
   obtain ⟨k, v, e1, e2, e3⟩ := hes.of e hem
   have hnL : e ∉ L := fun h => by rw [(hsee e hem).2 h] at hns; cases hns
   have hks : k ∉ seen := fun h => by
     have : κ k ∈ L.map (·.key) := by rw [hk]; exact List.mem_map_of_mem h
     obtain ⟨e', h1, h2⟩ := List.mem_map.1 this
     exact hnL (by rw [← oV hes.apart (hL e' h1) hem (h2.trans e1.symm)]; exact h1)
   have hlen : (e :: L).length ≤ es.toList.length := nf (List.nodup_cons.2 ⟨hnL, hnd⟩) fun x hx => by
     rcases List.mem_cons.1 hx with rfl | hx
     · exact hem
     · exact hL x hx
   have hsl : L.length = seen.length := by simpa using congrArg List.length hk
   have hr1 : w1.heap = w.heap := by rcases hal with rfl | rfl <;> rfl
   have hw : w1.os = w.os ∧ w1.tape = w.tape ∧ w1.output = w.output := by rcases hal with rfl | rfl <;> exact ⟨rfl, rfl, rfl⟩
   have hset := heap_set (o' := .mapIter (some b) clock (sb.push e.born) clock) (w := w1) (hr1 ▸ hr)
   have hsz : (setBlock w1 r (.mapIter (some b) clock (sb.push e.born) clock)).heap.size = w.heap.size := by simp [setBlock, hr1]
   have hold : ∀ b', b' ≠ r → (setBlock w1 r (.mapIter (some b) clock (sb.push e.born) clock)).heap[b']? = w.heap[b']? := fun b' hb' => (hset.2 b' hb').trans (by rw [hr1])
   show ∃ _, _
   rw [e1, e2]
   refine ⟨_, S, fp, h1 k v e3 hks (by simp at hlen; omega), ?_, he.put (g := true) (by rw [hn]; simpa [fits] using ht) _, ⟨hw.1, hw.2.1, hw.2.2, Nat.le_of_eq hsz.symm, iV _ _ _ _ hrun, fun b' _ hb' => hold b' fun hh => hb' ⟨i, hil, by rw [hh]; exact (hF r).2 (.inr rfl)⟩, fun _ h => h, fun _ h => .inl h⟩, fun b' hb' => ?_, fun h => by cases h⟩
   · refine hst.change hil (Nat.le_of_eq hsz.symm) (fun b' _ hb' => hold b' fun hh => hb' (by rw [hh]; exact (hF r).2 (.inr rfl))) _ ⟨⟨hne, es, clock, sb.push e.born, e :: L, by rw [hold b hne]; exact hb, hes, hsm, hN, hset.1, fun x hx => ?_, by simp [hk, e1], by simp [hsb], List.nodup_cons.2 ⟨hnL, hnd⟩⟩, hF⟩
     rcases List.mem_cons.1 hx with rfl | hx
     · exact hem
     · exact hL x hx
   · obtain ⟨j, hj, hb'⟩ := hb'
     exact .inl ⟨j, by simpa using hj, hb'⟩
theorem xQ {x : Operand} {b r N : Nat} {seen : List α} {k : α} {v : β} (i : Nat) (KO : ek P kt κ) (hx : ev env x = some (true, .pointer (some ⟨r, 0, none⟩))) (hi : hp[i]? = some (ItR b r κ ν m N (k :: seen))) (hv : m k = some v) :
   Quiet P n ⟨d, .entry x, ty, pos, af, gd⟩ ⟨env, ps, hp⟩ (.tuple #[κ k, ν v]) := fun w S fp a hst he hn => by
 have hxv := he.val hx rfl
 obtain ⟨⟨hne, es, clock, sb, L, hb, hes, hsm, hN, hr, hL, hk, hsb, hnd⟩, hF⟩ := hst.res i _ hi
 have hst2 := (stamped_iff es clock).1 hsm
 cases L with
 | nil => simp at hk
 | cons e L =>
   simp only [List.map_cons, List.cons.injEq] at hk
   have hem := hL e List.mem_cons_self
   obtain ⟨k', v', e1, e2, e3⟩ := hes.of e hem
   obtain rfl : k' = k := KO.inj _ _ (e1.symm.trans hk.1)
   obtain rfl : v' = v := by rw [hv] at e3; exact (Option.some.inj e3).symm
   have hsb' : sb = ((L.map (·.born)).reverse.toArray).push e.born := by
     apply Array.ext'
     rw [hsb]; simp
   subst hsb'
   have hrun := run_entry_at (P := P) w r b clock _ es clock e hr hb hem hst2.2.1
   have hex : (execOp a.eval ⟨d, .entry x, ty, pos, af, gd⟩) = (Instr.entry (.pointer (some ⟨r, 0, none⟩))).bind fun r => Sem.pure (Next.value r) := by
     unfold execOp; dsimp only; rw [hxv]; rfl
   rw [hex, Sem.run_bind', hrun, e1, e2]; exact bY _ _
theorem zz {b r N : Nat} {seen : List α} {w : World} {S F : bz} (h : (ItR b r κ ν m N seen).holds w S F) : (lD (dg b κ ν m) ⟨fun _ _ F => ∀ k, F k ↔ k = r, fun h _ _ _ => h⟩).holds w S F := by
 obtain ⟨⟨hne, es, clock, sb, L, hb, hes, hsm, _⟩, hF⟩ := h
 exact ⟨fun k => k = b, fun k => k = r, ⟨⟨es, clock, hb, hes, hsm⟩, fun _ => Iff.rfl⟩, fun _ => Iff.rfl, fun k h1 h2 => hne (h1.symm.trans h2), hF⟩
variable {c : Code} {Q : Exit → Sta → Prop}
theorem ur {b r N : Nat} {seen : List α} (i : Nat) (hi : hp[i]? = some (ItR b r κ ν m N seen)) (h : ∀ J, awp P n c Q ⟨env, ps, hp.set i (dg b κ ν m) ++ [J]⟩) : awp P n c Q ⟨env, ps, hp⟩ := by
 have hil := (List.getElem?_eq_some_iff.1 hi).1
 refine fi i _ hi (fun w S F hh => zz hh) (oq i (by rw [List.getElem?_set_self hil]) ?_)
 rw [List.set_set]
 exact h _
end
end Go.Sy

namespace Go.Sy
open Go.RowKit Go.Lp
section
variable {α β : Type}
def cn (m : α → Option (Sl β)) (k : α) : Sl β := (m k).getD ⟨none, 0, []⟩
def lM [DecidableEq α] (m : α → Option β) (k : α) : α → Option β := fun a => if a = k then none else m a
theorem iO [DecidableEq α] (m : α → Option β) (k : α) (v : β) : cC (lM m k) k v = cC m k v := by
 funext a; unfold cC lM; by_cases h : a = k <;> simp [h]
theorem gP [DecidableEq α] (m : α → Option β) (k : α) : lM m k k = none := by simp [lM]
def dS (T : TypeId) (sz : Nat) (row : β → List D) (m : α → Option (Sl β)) : Res :=
 ⟨fun w S F => ∃ fp : α → bz, (∀ k s, m k = some s → (bA s.val T sz (s.l.map row)).holds w S (fp k)) ∧ (∀ k, m k = none → ∀ b, ¬ fp k b) ∧ (∀ k k', k ≠ k' → ∀ b, fp k b → ¬ fp k' b) ∧ ∀ b, F b ↔ ∃ k, fp k b,
  fun ⟨fp, h1, h2, h3, h4⟩ k1 k2 k3 => ⟨fp, fun k s hk => (bA s.val T sz (s.l.map row)).mono (h1 k s hk) (fun b hb => k1 b ((h4 b).2 ⟨k, hb⟩)) k2 k3, h2, h3, h4⟩⟩
variable {T : TypeId} {sz : Nat} {row : β → List D} {m : α → Option (Sl β)} {w : World} {S F : bz}
theorem wg : (dS T sz row fun _ : α => none).holds w S fun _ => False := ⟨fun _ _ => False, ⟨fun _ _ h => (by cases h), fun _ _ _ h => h, fun _ _ _ _ h => h.elim, fun _ => ⟨False.elim, fun ⟨_, h⟩ => h⟩⟩⟩
theorem vg [DecidableEq α] (k : α) (h : (dS T sz row m).holds w S F) : (lD (dS T sz row (lM m k)) (bA (cn m k).val T sz ((cn m k).l.map row))).holds w S F := by
 obtain ⟨fp, h1, h2, h3, h4⟩ := h
 refine ⟨fun b => ∃ k', k' ≠ k ∧ fp k' b, fp k, ⟨fun k' => if k' = k then fun _ => False else fp k', fun k' s hs => ?_, fun k' hk' b hb => ?_, fun k1 k2 hne b hb1 hb2 => ?_, fun b => ?_⟩, ?_, fun b ⟨k', hne, hb⟩ hb2 => h3 k' k hne b hb hb2, fun b => ?_⟩
 · unfold lM at hs
   by_cases hk : k' = k
   · simp only [if_pos hk] at hs; cases hs
   · simp only [if_neg hk] at hs ⊢; exact h1 k' s hs
 · unfold lM at hk'
   try dsimp only at hb
   by_cases hk : k' = k
   · simp only [if_pos hk] at hb
   · simp only [if_neg hk] at hk' hb; exact h2 k' hk' b hb
 · dsimp only at hb1 hb2
   by_cases e1 : k1 = k
   · simp only [if_pos e1] at hb1
   · by_cases e2 : k2 = k
     · simp only [if_pos e2] at hb2
     · simp only [if_neg e1] at hb1; simp only [if_neg e2] at hb2; exact h3 k1 k2 hne b hb1 hb2
 · constructor
   · rintro ⟨k', hne, hb⟩; exact ⟨k', by simp only [if_neg hne]; exact hb⟩
   · rintro ⟨k', hb⟩
     try dsimp only at hb
     by_cases hk : k' = k
     · simp only [if_pos hk] at hb
     · simp only [if_neg hk] at hb; exact ⟨k', hk, hb⟩
 · unfold cn
   cases hk : m k with
   | none => exact .inl ⟨rfl, rfl, h2 k hk⟩
   | some s => exact h1 k s hk
 · rw [h4 b]
   constructor
   · rintro ⟨k', hb⟩
     by_cases hk : k' = k
     · subst hk; exact .inr hb
     · exact .inl ⟨k', hk, hb⟩
   · rintro (⟨k', _, hb⟩ | hb)
     · exact ⟨k', hb⟩
     · exact ⟨k, hb⟩
theorem qQ [DecidableEq α] (k : α) (s : Sl β) (hm : m k = none) (h : (lD (dS T sz row m) (bA s.val T sz (s.l.map row))).holds w S F) : (dS T sz row (cC m k s)).holds w S F := by
 obtain ⟨G, H, ⟨fp, h1, h2, h3, h4⟩, ho, hd, he⟩ := h
 refine ⟨fun k' => if k' = k then H else fp k', fun k' s' hs => ?_, fun k' hk' b hb => ?_, fun k1 k2 hne b hb1 hb2 => ?_, fun b => ?_⟩
 · unfold cC at hs
   by_cases hk : k' = k
   · simp only [if_pos hk] at hs ⊢; obtain rfl := Option.some.inj hs; exact ho
   · simp only [if_neg hk] at hs ⊢; exact h1 k' s' hs
 · unfold cC at hk'
   try dsimp only at hb
   by_cases hk : k' = k
   · simp only [if_pos hk] at hk'; cases hk'
   · simp only [if_neg hk] at hk' hb; exact h2 k' hk' b hb
 · dsimp only at hb1 hb2
   by_cases e1 : k1 = k
   · simp only [if_pos e1] at hb1
     simp only [if_neg (show ¬ k2 = k from fun e => hne (e1.trans e.symm))] at hb2
     exact hd b ((h4 b).2 ⟨k2, hb2⟩) hb1
   · simp only [if_neg e1] at hb1
     by_cases e2 : k2 = k
     · simp only [if_pos e2] at hb2; exact hd b ((h4 b).2 ⟨k1, hb1⟩) hb2
     · simp only [if_neg e2] at hb2; exact h3 k1 k2 hne b hb1 hb2
 · rw [he b]
   constructor
   · rintro (hb | hb)
     · obtain ⟨k', hb⟩ := (h4 b).1 hb
       exact ⟨k', by simp only [if_neg (show ¬ k' = k from fun e => h2 k (hm) b (e ▸ hb))]; exact hb⟩
     · exact ⟨k, by simp only [if_pos rfl]; exact hb⟩
   · rintro ⟨k', hb⟩
     try dsimp only at hb
     by_cases hk : k' = k
     · simp only [if_pos hk] at hb; exact .inr hb
     · simp only [if_neg hk] at hb; exact .inl ((h4 b).2 ⟨k', hb⟩)
def fL (row : β → List D) (m : α → Option (Sl β)) : Per := ⟨fun w S => ∀ k s, m k = some s → (ShF row s).holds w S, fun h h1 h2 k s hk => (ShF row s).mono (h k s hk) h1 h2⟩
theorem Ent.cn {ps : List Per} (h : Ent ps (fL row m)) (k : α) : Ent ps (ShF row (cn m k)) := fun w S hp => by
 unfold Go.Sy.cn
 cases hk : m k with
 | none => exact .e none 0 (by unfold maxLen; omega)
 | some s => exact h w S hp k s hk
theorem lK (h : (dS T sz row m).holds w S F) : (fL row m).holds w fun b => S b ∨ F b := fun k s hk => by
 obtain ⟨fp, h1, _, _, h4⟩ := h
 exact (eF (h1 k s hk)).mono (fun _ _ => rfl) fun b hb => hb.imp id fun h => (h4 b).2 ⟨k, h⟩
variable {P : Program} {n : Fr} {env : Env} {ps : List Per} {hp : List Res} {c : Code} {Q : Exit → Sta → Prop}
theorem iH (α : Type) (T : TypeId) (sz : Nat) (row : β → List D) (h : awp P n c Q ⟨env, ps, hp ++ [dS T sz row fun _ : α => none]⟩) : awp P n c Q ⟨env, ps, hp⟩ := vS _ (fun _ _ => wg) h
theorem fP [DecidableEq α] (i : Nat) (k : α) (hi : hp[i]? = some (dS T sz row m)) (h : awp P n c Q ⟨env, ps, hp.set i (dS T sz row (lM m k)) ++ [bA (cn m k).val T sz ((cn m k).l.map row)]⟩) : awp P n c Q ⟨env, ps, hp⟩ := by
 have hil := (List.getElem?_eq_some_iff.1 hi).1
 refine fi i _ hi (fun w S F hh => vg k hh) (oq i (by rw [List.getElem?_set_self hil]) ?_)
 rw [List.set_set]
 exact h
theorem pd [DecidableEq α] (i j : Nat) (k : α) (s : Sl β) {v : Value} {rows : List (List D)} (hi : hp[i]? = some (dS T sz row m)) (hj : hp[j]? = some (bA v T sz rows)) (hv : v = s.val) (hr : rows = s.l.map row) (hm : m k = none) (hne : (i == j) = false)
   (h : awp P n c Q ⟨env, ps, (hp.set i (dS T sz row (cC m k s))).set j emp⟩) : awp P n c Q ⟨env, ps, hp⟩ := by
 subst hv hr
 have hil := (List.getElem?_eq_some_iff.1 hi).1
 have hne' : i ≠ j := by simpa using hne
 refine xF i j hi hj hne ?_
 refine fi i (dS T sz row (cC m k s)) (R := lD (dS T sz row m) (bA s.val T sz (s.l.map row))) ?_ (fun w S F hh => qQ k s hm hh) ?_
 · rw [List.getElem?_set_ne (Ne.symm hne'), List.getElem?_set_self hil]
 · rw [List.set_comm _ _ (Ne.symm hne'), List.set_set]
   exact h
theorem mJ (i : Nat) (hi : hp[i]? = some (dS T sz row m)) (h : awp P n c Q ⟨env, fL row m :: ps, hp.set i emp⟩) : awp P n c Q ⟨env, ps, hp⟩ := fE i _ hi (fun _ _ _ hh => lK hh) h
end
end Go.Sy

namespace Go.Sy
open Go.RowKit Go.Lp Go.MapKept
section
variable {α β : Type} {κ : α → Value} {ν : β → Value} {m : α → Option β} {P : Program} {kt : TypeId} {n : Fr} {env : Env} {ps : List Per} {hp : List Res} {ty : TypeId} {pos : String} {af : Array Edge} {gd : Option (Nat × Bool)} {d : Option Tmp}
def ShM (b : Nat) (κ : α → Value) (ν : β → Value) (m : α → Option β) : Per :=
 ⟨fun w S => S b ∧ ∃ es clock, w.heap[b]? = some (.map es clock) ∧ kU κ ν m es.toList, fun ⟨hb, es, clock, h, he⟩ h1 h2 => ⟨h2 b hb, es, clock, (h1 b hb).trans h, he⟩⟩
theorem tm {b : Nat} {w : World} {S F : bz} (h : (dg b κ ν m).holds w S F) : (ShM b κ ν m).holds w fun b => S b ∨ F b :=
 let ⟨⟨es, clock, h1, h2, _⟩, hF⟩ := h; ⟨.inr ((hF b).2 rfl), es, clock, h1, h2⟩
theorem fZ {c : Code} {Q : Exit → Sta → Prop} {b : Nat} (i : Nat) (hi : hp[i]? = some (dg b κ ν m)) (h : awp P n c Q ⟨env, ShM b κ ν m :: ps, hp.set i emp⟩) : awp P n c Q ⟨env, ps, hp⟩ := fE i _ hi (fun _ _ _ hh => tm hh) h
theorem oe {T E : TypeId} {x y : Operand} {b : Nat} {k : α} {v0 : β} (ok : Bool) (hT : P.underlying T = some (.map kt E)) (KO : ek P kt κ) (hz : (P.info? E).bind (·.zero) = some (ν v0)) (hx : ev env x = some (true, .map (some b))) (hy : ev env y = some (true, κ k)) (hi : Ent ps (ShM b κ ν m)) :
   Quiet P n ⟨d, .lookup T x y ok, ty, pos, af, gd⟩ ⟨env, ps, hp⟩ (bif ok then .tuple #[ν ((m k).getD v0), .bool (m k).isSome] else ν ((m k).getD v0)) := fun w S fp a hst he hn => by
 have h1 := he.val hx rfl
 have h2 := he.val hy rfl
 obtain ⟨hS, es, clock, hb, hes⟩ := hi w S hst.per
 have hzr : (zeroValue E).run P w = .ok (ν v0) w := by
   cases hE : P.info? E with
   | none => rw [hE] at hz; cases hz
   | some it =>
     rw [hE, Option.bind_some] at hz
     simp [zeroValue, typeInfo, hE, hz]
 have hrun : (Instr.lookup T (.map (some b)) (κ k) ok).run P w = .ok (bif ok then .tuple #[ν ((m k).getD v0), .bool (m k).isSome] else ν ((m k).getD v0)) w := by
   rcases KO.find w k es.toList (fun e he => let ⟨a, _, h, _⟩ := hes.of e he; ⟨a, h⟩) with ⟨f1, f2⟩ | ⟨j, e0, f1, f2, f3⟩
   · have hm : m k = none := by
       cases hmk : m k with
       | none => rfl
       | some u => obtain ⟨e, he, g1, _⟩ := hes.mem k u hmk; exact (f2 e he g1).elim
     rw [hm]
     simp only [Instr.lookup, Sem.run_bind, run_underlying hT, Result.andThen, Go.MapKept.run_getObj_map hb, KO.check, f1, hzr, Sem.run_pure]
     cases ok <;> rfl
   · obtain ⟨a, u, g1, g2, g3⟩ := hes.of e0 (List.mem_of_getElem? f2)
     obtain rfl : a = k := KO.inj _ _ (by rw [← g1, f3])
     rw [g3]
     simp only [Instr.lookup, Sem.run_bind, run_underlying hT, Result.andThen, Go.MapKept.run_getObj_map hb, KO.check, f1, Sem.run_pure, g2]
     cases ok <;> rfl
 have : (execOp a.eval ⟨d, .lookup T x y ok, ty, pos, af, gd⟩).run P w = .ok (.value (bif ok then .tuple #[ν ((m k).getD v0), .bool (m k).isSome] else ν ((m k).getD v0))) w := by
   unfold execOp; dsimp only; rw [h1, h2]
   show ((Instr.lookup T (.map (some b)) (κ k) ok).bind fun r => Sem.pure (Next.value r)).run P w = _
   rw [Sem.run_bind', hrun]; rfl
 rw [this]; exact bY _ _
theorem oQ {T E : TypeId} {x y : Operand} {b : Nat} {k : α} {v0 : β} (hT : P.underlying T = some (.map kt E)) (KO : ek P kt κ) (hz : (P.info? E).bind (·.zero) = some (ν v0)) (hx : ev env x = some (true, .map (some b))) (hy : ev env y = some (true, κ k)) (hi : Ent ps (ShM b κ ν m)) :
   Quiet P n ⟨d, .lookup T x y false, ty, pos, af, gd⟩ ⟨env, ps, hp⟩ (ν ((m k).getD v0)) := oe false hT KO hz hx hy hi
theorem j0 {T E : TypeId} {x y : Operand} {b : Nat} {k : α} {v0 : β} (hT : P.underlying T = some (.map kt E)) (KO : ek P kt κ) (hz : (P.info? E).bind (·.zero) = some (ν v0)) (hx : ev env x = some (true, .map (some b))) (hy : ev env y = some (true, κ k)) (hi : Ent ps (ShM b κ ν m)) :
   Quiet P n ⟨d, .lookup T x y true, ty, pos, af, gd⟩ ⟨env, ps, hp⟩ (.tuple #[ν ((m k).getD v0), .bool (m k).isSome]) := oe true hT KO hz hx hy hi
def ExR {X : Type} (I : X → Prop) (R : X → Res) : Res := ⟨fun w S F => ∃ x, I x ∧ (R x).holds w S F, fun ⟨x, h, hr⟩ h1 h2 h3 => ⟨x, h, (R x).mono hr h1 h2 h3⟩⟩
end
end Go.Sy

namespace Go.Sy
open Go.RowKit Go.Lp Go.MapKept
section
variable {α β : Type} {κ : α → Value} {ν : β → Value} {m : α → Option β} {P : Program} {kt : TypeId} {n : Fr} {env : Env} {ps : List Per} {hp : List Res} {ty : TypeId} {pos : String} {af : Array Edge} {gd : Option (Nat × Bool)} {K : Sta → Prop} {d : Option Tmp}
def y7 (b : Nat) (κ : α → Value) (ν : β → Value) (m : α → Option β) (k : α) (z : Int) : Res :=
 ⟨fun w _ F => (∃ es clock, w.heap[b]? = some (.map es clock) ∧ kU κ ν m es.toList ∧ Stamped es clock ∧ ∃ e ∈ es.toList, e.key = κ k ∧ (e.born : Int) = z) ∧ ∀ k, F k ↔ k = b, fun ⟨⟨es, clock, h, he⟩, hF⟩ h1 _ _ => ⟨⟨es, clock, (h1 b ((hF b).2 rfl)).trans h, he⟩, hF⟩⟩
theorem jG {es : Array MapEntry} {j : Nat} {e0 : MapEntry} {f g : MapEntry → MapEntry} (hj : es.toList[j]? = some e0) (h : f e0 = g e0) : es.modify j f = es.modify j g := by
 apply Array.ext'
 apply List.ext_getElem?
 intro i
 rw [Array.getElem?_toList, Array.getElem?_toList, Array.getElem?_modify, Array.getElem?_modify]
 by_cases hij : j = i
 · subst hij
   rw [if_pos rfl, if_pos rfl, ← Array.getElem?_toList, hj, Option.map_some, Option.map_some, h]
 · rw [if_neg hij, if_neg hij]
theorem Quiet.castV {s : Sta} {o : Oper} {v v' : Value} (h : Quiet P n o s v) (e : v = v') : Quiet P n o s v' := e ▸ h
theorem i6 [DecidableEq α] (m : α → Option β) (k : α) (v w : β) : cC (cC m k v) k w = cC m k w := by
 funext a; unfold cC; by_cases h : a = k <;> simp [h]
theorem tI [DecidableEq α] (m : α → Option β) (k : α) (v : β) : cC m k v k = some v := by unfold cC; simp
theorem tv [DecidableEq α] (m : α → Option β) {k a : α} (v : β) (h : a ≠ k) : cC m k v a = m a := by unfold cC; simp [h]
theorem nY [DecidableEq α] {k : α} {v : β} (h : m k = some v) : cC m k v = m := by
 funext a; unfold cC; split
 · rename_i ha; rw [ha, h]
 · rfl
theorem ir [DecidableEq α] {t : Nat} {T E : TypeId} {x y : Operand} {b : Nat} {k : α} {v0 : β} (i : Nat) (hT : P.underlying T = some (.map kt E)) (KO : ek P kt κ) (hz : (P.info? E).bind (·.zero) = some (ν v0)) (hx : ev env x = some (true, .map (some b))) (hy : ev env y = some (true, κ k)) (hi : hp[i]? = some (dg b κ ν m)) (ht : fits n (some t) = true)
   (hK : ∀ z : Int, K ⟨(t, true, .tuple #[ν ((m k).getD v0), .int .i64 z]) :: env, ps, hp.set i (y7 b κ ν (cC m k ((m k).getD v0)) k z)⟩) : Eff P n ⟨some t, .mapEntry T x y, ty, pos, af, gd⟩ ⟨env, ps, hp⟩ false K := .change i hi fun w S fp a hst he hn ⟨⟨es, clock, hb, hes, hsm⟩, hF⟩ => by
 have h1 := he.val hx rfl
 have h2 := he.val hy rfl
 have hzr : (zeroValue E).run P w = .ok (ν v0) w := by
   cases hE : P.info? E with
   | none => rw [hE] at hz; cases hz
   | some it =>
     rw [hE, Option.bind_some] at hz
     simp [zeroValue, typeInfo, hE, hz]
 have key : ∃ es' clock' z, (Instr.mapEntry T (.map (some b)) (κ k)).run P w = .ok (.tuple #[ν ((m k).getD v0), .int .i64 z]) (w.putObj b (.map es' clock')) ∧ kU κ ν (cC m k ((m k).getD v0)) es'.toList ∧ Stamped es' clock' ∧ ∃ e ∈ es'.toList, e.key = κ k ∧ (e.born : Int) = z := by
   rcases KO.find w k es.toList (fun e he => let ⟨a, _, h, _⟩ := hes.of e he; ⟨a, h⟩) with ⟨f1, f2⟩ | ⟨j, e0, f1, f2, f3⟩
   · have hm : m k = none := by
       cases hmk : m k with
       | none => rfl
       | some u => obtain ⟨e, he, g1, _⟩ := hes.mem k u hmk; exact (f2 e he g1).elim
     rw [hm]
     refine ⟨es.push { key := κ k, val := ν v0, born := clock }, clock + 1, clock, ?_, hes.put KO k v0 f2, stamped_push hsm f2, _, by rw [Array.toList_push]; exact List.mem_append_right _ (List.mem_singleton.2 rfl), rfl, rfl⟩
     simp only [Instr.mapEntry, Sem.run_bind, run_underlying hT, Result.andThen, Go.MapKept.run_getObj_map hb, KO.check, f1, hzr, Go.MapKept.run_setObj_map _ hb, Sem.run_pure]
     rfl
   · obtain ⟨a, u, g1, g2, g3⟩ := hes.of e0 (List.mem_of_getElem? f2)
     obtain rfl : a = k := KO.inj _ _ (by rw [← g1, f3])
     have f2' : es[j]? = some e0 := by rw [← Array.getElem?_toList]; exact f2
     rw [g3, Option.getD_some]
     refine ⟨es.modify j fun e => { e with key := κ a }, clock, e0.born, ?_, ?_, stamped_modify hsm j _ (fun _ _ => rfl) (fun e he h => by rw [f2'] at h; obtain rfl := Option.some.inj h; exact f3.symm), { e0 with key := κ a }, ?_, rfl, rfl⟩
     · simp only [Instr.mapEntry, Sem.run_bind, run_underlying hT, Result.andThen, Go.MapKept.run_getObj_map hb, KO.check, f1, f2', Option.map_some, Option.getD_some, f3, KO.stays, Go.MapKept.run_setObj_map _ hb, Sem.run_pure, g2]
       rfl
     · rw [jG (g := fun e => { e with key := κ a, val := ν u }) f2 (by rw [← g2])]
       exact hes.turn KO a u f2 f3
     · apply List.mem_of_getElem? (i := j)
       rw [Array.getElem?_toList, Array.getElem?_modify, if_pos rfl, f2']; rfl
 obtain ⟨es', clock', z, hrun, hes', hsm', hent⟩ := key
 have : (execOp a.eval ⟨some t, .mapEntry T x y, ty, pos, af, gd⟩).run P w = .ok (.value (.tuple #[ν ((m k).getD v0), .int .i64 z])) (w.putObj b (.map es' clock')) := by
   unfold execOp; dsimp only; rw [h1, h2]
   show ((Instr.mapEntry T (.map (some b)) (κ k)).bind fun r => Sem.pure (Next.value r)).run P w = _
   rw [Sem.run_bind', hrun]; rfl
 rw [this]
 have hbl := (Array.getElem?_eq_some_iff.1 hb).1
 exact ⟨y7 b κ ν (cC m k ((m k).getD v0)) k z, _, hK z, rfl, rfl, he.put (g := true) (by rw [hn]; simpa [fits] using ht) _, ⟨⟨es', clock', World.putObj_heap_same hbl, hes', hsm', hent⟩, hF⟩, rfl, rfl, ⟨rfl, rfl⟩, by rw [World.putObj_size]; exact Nat.le_refl _, fun b' _ hb' => World.putObj_heap_other (fun e => hb' ((hF b').2 e))⟩
theorem vB {es : Array MapEntry} {clock : Nat} (h : Stamped es clock) {i j : Nat} {e f : MapEntry} (hi : es.toList[i]? = some e) (hj : es.toList[j]? = some f) (hb : e.born = f.born) : i = j := by
 have hn := h.2.1
 obtain ⟨l1, e1⟩ := List.getElem?_eq_some_iff.1 hi
 obtain ⟨l2, e2⟩ := List.getElem?_eq_some_iff.1 hj
 have hp := List.pairwise_iff_getElem.1 hn
 have k1 : i < (es.toList.map (·.born)).length := by simpa using l1
 have k2 : j < (es.toList.map (·.born)).length := by simpa using l2
 have q : (es.toList.map (·.born))[i]'k1 = (es.toList.map (·.born))[j]'k2 := by simp only [List.getElem_map]; rw [e1, e2, hb]
 rcases Nat.lt_trichotomy i j with h | h | h
 · exact (hp i j k1 k2 h q).elim
 · exact h
 · exact (hp j i k2 k1 h q.symm).elim
theorem fV [DecidableEq α] {T : TypeId} {x y v' : Operand} {b : Nat} {k : α} {z : Int} {v : β} (i : Nat) (KO : ek P kt κ) (hx : ev env x = some (true, .map (some b))) (hy : ev env y = some (true, .int .i64 z)) (hv : ev env v' = some (true, ν v)) (hi : hp[i]? = some (y7 b κ ν m k z))
   (hK : K ⟨env, ps, hp.set i (dg b κ ν (cC m k v))⟩) : Eff P n ⟨none, .entryStore T x y v', ty, pos, af, gd⟩ ⟨env, ps, hp⟩ false K := .change i hi fun w S fp a hst he hn ⟨⟨es, clock, hb, hes, hsm, e0, hem, hek, heb⟩, hF⟩ => by
 have h1 := he.val hx rfl
 have h2 := he.val hy rfl
 have h3 := he.val hv rfl
 obtain ⟨j, hj⟩ := List.mem_iff_getElem?.1 hem
 have hjl := (List.getElem?_eq_some_iff.1 hj).1
 have hf : es.findIdx? (fun e => (e.born : Int) == z) = some j := by
   rw [Array.findIdx?_eq_some_iff_getElem]
   refine ⟨by simpa using hjl, ?_, fun i' hi' => ?_⟩
   · have : es[j]'(by simpa using hjl) = e0 := by
       have := (List.getElem?_eq_some_iff.1 hj).2
       simpa using this
     rw [this, heb]; simp
   · intro hh
     have hl : i' < es.toList.length := by omega
     have h4 : es.toList[i']? = some (es[i']'(by simpa using hl)) := by simp at hl; simp [hl]
     have := vB hsm h4 hj (by
       have : ((es[i']'(by simpa using hl)).born : Int) = z := by simpa using hh
       omega)
     omega
 have hrun : (Instr.entryStore T (.map (some b)) (.int .i64 z) (ν v)).run P w = .ok () (w.putObj b (.map (es.modify j fun e => { e with val := ν v }) clock)) := by
   have ha : (asInt (.int .i64 z)).run P w = .ok z w := rfl
   simp only [Instr.entryStore, Sem.run_bind, Result.andThen, Go.MapKept.run_getObj_map hb, ha, hf, Go.MapKept.run_setObj_map _ hb]
   rfl
 have : (execOp a.eval ⟨none, .entryStore T x y v', ty, pos, af, gd⟩).run P w = .ok .skip (w.putObj b (.map (es.modify j fun e => { e with val := ν v }) clock)) := by
   unfold execOp; dsimp only; rw [h1, h2, h3]
   show ((Instr.entryStore T (.map (some b)) (.int .i64 z) (ν v)).bind fun _ => Sem.pure Next.skip).run P w = _
   rw [Sem.run_bind', hrun]; rfl
 rw [this]
 have hbl := (Array.getElem?_eq_some_iff.1 hb).1
 refine ⟨dg b κ ν (cC m k v), _, hK, rfl, rfl, he, ⟨⟨_, clock, World.putObj_heap_same hbl, ?_, stamped_modify hsm j _ (fun _ _ => rfl) (fun _ _ _ => rfl)⟩, hF⟩, rfl, rfl, ⟨rfl, rfl⟩, by rw [World.putObj_size]; exact Nat.le_refl _, fun b' _ hb' => World.putObj_heap_other (fun e => hb' ((hF b').2 e))⟩
 rw [jG (g := fun e => { e with key := κ k, val := ν v }) hj (by rw [← hek])]
 exact hes.turn KO k v hj hek
end
end Go.Sy

namespace Go.Sy
open Go.RowKit Go.Lp
section
variable {P : Program} {f : FuncId} {args : List Value} {ps : List Per} {X Y : Type} {I : X → Prop} {I' : Y → Prop} {l : X → List Res} {l' : Y → List Res}
abbrev mQ {X : Type} (I : X → Prop) (l : X → List Res) : Res := ExR I fun x => Bun (l x)
theorem ox (h : ∀ x, I x → Con P f args ps (l x) fun _ ps' hp' => ps' = [] ∧ ∃ y, I' y ∧ hp' = l' y) : Con P f args ps [mQ I l] fun _ ps' hp' => ps' = [] ∧ hp' = [mQ I' l'] := fun w S fp hst => by
 obtain ⟨x, hx, hb⟩ := hst.res 0 _ rfl
 have hst1 : St w S fp ps [Bun (l x)] := ⟨hst.per, fun i R hR => by
   cases i with
   | zero => simp only [List.getElem?_cons_zero, Option.some.injEq] at hR; subst hR; exact hb
   | succ i => simp at hR, hst.lt, hst.dj, hst.slt⟩
 obtain ⟨fp2, k1, k2⟩ := hst1.unbun
 refine (h x hx w S fp2 k1).mono fun e w' ⟨v, ps', hp', S', fp', he, ⟨h1, y, hy, h2⟩, hst', hE, hg⟩ => ?_
 subst h1 h2
 refine ⟨v, [], [mQ I' l'], S', _, he, ⟨rfl, rfl⟩, ⟨fun p hp => (by cases hp), fun i R hR => ?_, hst'.bun.lt, hst'.bun.dj, hst'.slt⟩, hE.wider k2, fun b hb => (hg b ((oM _ b (Bun (l' y))).1 hb)).imp (k2 b) id⟩
 cases i with
 | zero => simp only [List.getElem?_cons_zero, Option.some.injEq] at hR; subst hR; exact ⟨y, hy, hst'.bun.res 0 _ rfl⟩
 | succ i => simp at hR
theorem lE (h : Con P f args ps [mQ I l] fun _ ps' hp' => ps' = [] ∧ hp' = [mQ I' l']) {x : X} (hx : I x) : Con P f args ps (l x) fun _ ps' hp' => ps' = [] ∧ ∃ y, I' y ∧ hp' = l' y := fun w S fp hst => by
 have hst1 : St w S (fun _ => tot fp (l x).length) ps [mQ I l] := ⟨hst.per, fun i R hR => by
   cases i with
   | zero => simp only [List.getElem?_cons_zero, Option.some.injEq] at hR; subst hR; exact ⟨x, hx, hst.bun.res 0 _ rfl⟩
   | succ i => simp at hR, hst.bun.lt, hst.bun.dj, hst.slt⟩
 refine (h w S _ hst1).mono fun e w' ⟨v, ps', hp', S', fp', he, ⟨h1, h2⟩, hst', hE, hg⟩ => ?_
 subst h1 h2
 obtain ⟨y, hy, hb⟩ := hst'.res 0 _ rfl
 have hst2 : St w' S' fp' [] [Bun (l' y)] := ⟨hst'.per, fun i R hR => by
   cases i with
   | zero => simp only [List.getElem?_cons_zero, Option.some.injEq] at hR; subst hR; exact hb
   | succ i => simp at hR, hst'.lt, hst'.dj, hst'.slt⟩
 obtain ⟨fp2, k1, k2⟩ := hst2.unbun
 exact ⟨v, [], l' y, S', fp2, he, ⟨rfl, y, hy, rfl⟩, k1, hE.wider (fun b hb => (oM _ b (mQ I l)).1 hb), fun b hb => (hg b (k2 b hb)).imp (fun h => (oM _ b (mQ I l)).1 h) id⟩
end
end Go.Sy

namespace Go.Sy
open Go.RowKit Go.Lp
def StE (ps : List Per) (hp : List Res) (ps' : List Per) (hp' : List Res) : Prop := ∀ w S fp, St w S fp ps hp → ∃ S' fp', St w S' fp' ps' hp' ∧ (∀ b, S b → S' b) ∧ (∀ b, S' b → S b ∨ tot fp hp.length b) ∧ ∀ b, tot fp' hp'.length b → tot fp hp.length b
section
variable {ps ps1 ps2 : List Per} {hp hp1 hp2 : List Res}
theorem StE.refl : StE ps hp ps hp := fun _ S _ h => ⟨S, _, h, fun _ h => h, fun _ h => .inl h, fun _ h => h⟩
theorem StE.trans (h : StE ps hp ps1 hp1) (k : StE ps1 hp1 ps2 hp2) : StE ps hp ps2 hp2 := fun w S fp hst => by
 obtain ⟨S1, f1, a1, a2, a3, a4⟩ := h w S fp hst
 obtain ⟨S2, f2, b1, b2, b3, b4⟩ := k w S1 f1 a1
 exact ⟨S2, f2, b1, fun b hb => b2 b (a2 b hb), fun b hb => (b3 b hb).elim (a3 b) fun h => .inr (a4 b h), fun b hb => a4 b (b4 b hb)⟩
theorem StE.of {hp' : List Res} {ps' : List Per} (h : ∀ w S fp, St w S fp ps hp → ∃ fp', St w S fp' ps' hp' ∧ ∀ b, tot fp' hp'.length b → tot fp hp.length b) : StE ps hp ps' hp' := fun w S fp hst => by
 obtain ⟨f1, a1, a2⟩ := h w S fp hst
 exact ⟨S, f1, a1, fun _ h => h, fun _ h => .inl h, a2⟩
theorem StE.keep (lp lh : List Nat) (ok : okH hp lh = true) : StE ps hp (fA ps lp) (bX hp lh) := .of fun _ _ _ hst => by
 obtain ⟨h1, h2⟩ := hst.bX lp lh ok
 exact ⟨_, h1, h2⟩
theorem StE.conv (i : Nat) {R : Res} (R' : Res) (hi : hp[i]? = some R) (hc : ∀ w S F, R.holds w S F → R'.holds w S F) : StE ps hp ps (hp.set i R') := .of fun w S fp hst => by
 have hil := (List.getElem?_eq_some_iff.1 hi).1
 exact ⟨fp, hst.change hil (Nat.le_refl _) (fun _ _ _ => rfl) R' (hc _ _ _ (hst.res i R hi)), fun b hb => by rwa [List.length_set] at hb⟩
theorem StE.star (i j : Nat) {R R' : Res} (hi : hp[i]? = some R) (hj : hp[j]? = some R') (hne : (i == j) = false) : StE ps hp ps ((hp.set i (lD R R')).set j emp) := .of fun w S fp hst => by
 have hil := (List.getElem?_eq_some_iff.1 hi).1
 have hjl := (List.getElem?_eq_some_iff.1 hj).1
 refine ⟨_, hst.star hi hj (by simpa using hne), fun b ⟨k, hk, hb⟩ => ?_⟩
 have hk' : k < hp.length := by simpa using hk
 by_cases hki : k = i
 · subst hki
   simp only [if_pos] at hb
   rcases hb with hb | hb
   · exact ⟨k, hil, hb⟩
   · exact ⟨j, hjl, hb⟩
 · by_cases hkj : k = j
   · have hji : ¬ j = i := fun e => by simp [e] at hne
     subst hkj
     simp only [if_neg hki, if_true] at hb
   · simp only [if_neg hki, if_neg hkj] at hb
     exact ⟨k, hk', hb⟩
theorem StE.share (i : Nat) {R : Res} (p : Per) (hi : hp[i]? = some R) (h0 : ∀ w S F, R.holds w S F → p.holds w (fun b => S b ∨ F b)) : StE ps hp (p :: ps) (hp.set i emp) := fun w S fp hst => by
 have hil := (List.getElem?_eq_some_iff.1 hi).1
 refine ⟨_, _, ot hst i hi h0, fun _ h => .inl h, fun b hb => hb.imp id fun h => ⟨i, hil, h⟩, fun b ⟨j, hj, hb⟩ => ?_⟩
 by_cases hji : j = i
 · simp [hji] at hb
 · simp only [if_neg hji] at hb; exact ⟨j, by simpa using hj, hb⟩
theorem StE.put {α β : Type} {T : TypeId} {sz : Nat} {row : β → List D} {m : α → Option (Sl β)} [DecidableEq α] (i j : Nat) (k : α) (s : Sl β) {v : Value} {rows : List (List D)} (hi : hp[i]? = some (dS T sz row m)) (hj : hp[j]? = some (bA v T sz rows)) (hv : v = s.val) (hr : rows = s.l.map row) (hm : m k = none) (hne : (i == j) = false) :
   StE ps hp ps ((hp.set i (dS T sz row (cC m k s))).set j emp) := by
 subst hv hr
 have hil := (List.getElem?_eq_some_iff.1 hi).1
 have hne' : i ≠ j := by simpa using hne
 refine (StE.star i j hi hj hne).trans ?_
 have := StE.conv (ps := ps) (hp := (hp.set i (lD (dS T sz row m) (bA s.val T sz (s.l.map row)))).set j emp) i (R := lD (dS T sz row m) (bA s.val T sz (s.l.map row))) (dS T sz row (cC m k s)) (by rw [List.getElem?_set_ne (Ne.symm hne'), List.getElem?_set_self hil]) (fun w S F hh => qQ k s hm hh)
 rwa [List.set_comm _ _ (Ne.symm hne'), List.set_set] at this
variable {P : Program} {f : FuncId} {args : List Value} {R R' : Value → List Per → List Res → Prop}
theorem Con.conv (h : Con P f args ps hp R) (hr : ∀ v ps' hp', R v ps' hp' → ∃ ps2 hp2, StE ps' hp' ps2 hp2 ∧ R' v ps2 hp2) : Con P f args ps hp R' := fun w S fp hst =>
 (h w S fp hst).mono fun e w' ⟨v, ps', hp', S', fp', he, hR, hst', hE, hg⟩ => by
   obtain ⟨ps2, hp2, hS, hR'⟩ := hr _ _ _ hR
   obtain ⟨S2, f2, a1, a2, a3, a4⟩ := hS w' S' fp' hst'
   refine ⟨v, ps2, hp2, S2, f2, he, hR', a1, ⟨hE.os, hE.tape, hE.output, hE.size, hE.drawn, hE.block, fun b hb => a2 b (hE.more b hb), fun b hb => ?_⟩, fun b hb => hg b (a4 b hb)⟩
   rcases a3 b hb with h1 | h1
   · exact hE.new b h1
   · rcases hg b h1 with h2 | h2
     · exact .inr (.inl h2)
     · exact .inr (.inr h2)
end
end Go.Sy

namespace Go.Sy
open Go.RowKit Go.Lp
section
variable {P : Program}
theorem jB (d : Nat) {e : TypeId} (he : kD P e = true) (hc : P.cellsOf e = 1) (xs ys : Array Value) : ∀ (is : List Nat) (w : World), dP xs is = true → dP ys is = true →
   (Op.eqItems (d + 1) e (P.cellsOf e) xs ys is).run P w = .ok (et xs ys is) w
 | [], w, _, _ => rfl
 | i :: is, w, hx, hy => by
   simp only [dP, List.all_cons, Bool.and_eq_true] at hx hy
   have ih := jB d he hc xs ys is w hx.2 hy.2
   obtain ⟨k, hk⟩ : ∃ k, P.underlying e = some (.int k) := by
     unfold kD at he; split at he
     · exact ⟨_, by assumption⟩
     · cases he
   have hp : P.plainKey e = true := by unfold Program.plainKey; rw [hk]
   have key : ∀ zs : Array Value, (eL zs i).isSome = true → ∃ a, zs[i]? = some (.int .i64 a) ∧ eL zs i = some a := fun zs hz => by
     unfold eL at hz ⊢
     split at hz
     · rename_i a hh; exact ⟨a, hh, rfl⟩
     · cases hz
   obtain ⟨a, ha, ha'⟩ := key xs hx.1
   obtain ⟨b, hb, hb'⟩ := key ys hy.1
   rw [hc] at ih ⊢
   simp only [Op.eqItems, Sem.run_bind, Nat.mul_one, run_part_plain w hp ha, run_part_plain w hp hb, Result.andThen_ok, run_equalIn_int w d e .i64 k a b hk, Sem.run_ite, Sem.run_pure, ih]
   simp only [et, List.all_cons, ha', hb']
   cases h : (a == b) <;> simp
def sX (P : Program) (f : Field) : Option (List Nat) :=
 match P.underlying f.type with
 | some (.int _) => some [f.offset]
 | some (.array n e) => if kD P e && P.cellsOf e == 1 && (P.info? f.type).any (fun i => i.size == n) then some ((List.range n).map (f.offset + ·)) else none
 | _ => none
theorem fh (d : Nat) (xs ys : Array Value) : ∀ (fs : List Field) (os : List Nat) (w : World), fs.all (fun f => decide (f.name ≠ "_")) = true → (fs.mapM (sX P)).map List.flatten = some os → dP xs os = true → dP ys os = true →
   (Op.eqFields (d + 2) xs ys fs).run P w = .ok (et xs ys os) w
 | [], os, w, _, h, _, _ => by
   have : os = [] := by simpa using h.symm
   subst this; rfl
 | f :: fs, os, w, hn, h, hx, hy => by
   simp only [List.all_cons, Bool.and_eq_true, decide_eq_true_eq] at hn
   cases h1 : sX P f with
   | none => simp [List.mapM_cons, h1] at h
   | some o1 =>
     cases h2 : fs.mapM (sX P) with
     | none => simp [List.mapM_cons, h1, h2] at h
     | some o2 =>
       have ho : os = o1 ++ o2.flatten := by simpa [List.mapM_cons, h1, h2] using h.symm
       subst ho
       have hx' : dP xs o1 = true ∧ dP xs o2.flatten = true := by simpa [dP, List.all_append] using hx
       have hy' : dP ys o1 = true ∧ dP ys o2.flatten = true := by simpa [dP, List.all_append] using hy
       have ih := fh d xs ys fs o2.flatten w hn.2 (by rw [h2]; rfl) hx'.2 hy'.2
       have he : et xs ys (o1 ++ o2.flatten) = (et xs ys o1 && et xs ys o2.flatten) := by simp [et, List.all_append]
       have fin : ∀ (a b : Value), (part f.type xs f.offset).run P w = .ok a w → (part f.type ys f.offset).run P w = .ok b w → (Op.equalIn (d + 2) f.type a b).run P w = .ok (et xs ys o1) w → (Op.eqFields (d + 2) xs ys (f :: fs)).run P w = .ok (et xs ys (o1 ++ o2.flatten)) w := fun a b g1 g2 g3 => by
         simp only [Op.eqFields, if_pos hn.1, Sem.run_bind, g1, g2, g3, Result.andThen_ok, Sem.run_ite, Sem.run_pure, ih, he]
         cases et xs ys o1 <;> simp
       unfold sX at h1
       split at h1
       · rename_i k hk
         simp only [Option.some.injEq] at h1
         subst h1
         have hp : P.plainKey f.type = true := by unfold Program.plainKey; rw [hk]
         have key : ∀ zs : Array Value, dP zs [f.offset] = true → ∃ a, zs[f.offset]? = some (.int .i64 a) ∧ eL zs f.offset = some a := fun zs hz => by
           have hz : (eL zs f.offset).isSome = true := by simpa [dP] using hz
           unfold eL at hz ⊢
           split at hz
           · rename_i a hh; exact ⟨a, hh, rfl⟩
           · cases hz
         obtain ⟨a, ha, ha'⟩ := key xs hx'.1
         obtain ⟨b, hb, hb'⟩ := key ys hy'.1
         refine fin _ _ (run_part_plain w hp ha) (run_part_plain w hp hb) ?_
         rw [run_equalIn_int w (d + 1) f.type .i64 k a b hk]
         simp [et, ha', hb']
       · rename_i n e hk
         split at h1
         · rename_i hc
           simp only [Bool.and_eq_true, beq_iff_eq] at hc
           obtain ⟨⟨c1, c2⟩, c3⟩ := hc
           simp only [Option.some.injEq] at h1
           subst h1
           obtain ⟨it, hit, hsz⟩ : ∃ it, P.info? f.type = some it ∧ it.size = n := by
             cases hi : P.info? f.type with
             | none => rw [hi] at c3; cases c3
             | some it => rw [hi] at c3; exact ⟨it, rfl, by simpa using c3⟩
           have hpart : ∀ zs : Array Value, (part f.type zs f.offset).run P w = .ok (.agg (zs.extract f.offset (f.offset + n))) w := fun zs => by
             simp [part, jc hk, xU, cJ hit, hsz, Sem.run_bind, Result.andThen]
           obtain ⟨ie, hie⟩ : ∃ ie, P.info? e = some ie := by
             unfold kD at c1
             split at c1
             · rename_i q hq; exact info_of_underlying hq
             · cases c1
           have hsub : ∀ zs : Array Value, dP zs ((List.range n).map (f.offset + ·)) = true → dP (zs.extract f.offset (f.offset + n)) (List.range n) = true ∧ ∀ i, i < n → eL (zs.extract f.offset (f.offset + n)) i = eL zs (f.offset + i) := fun zs hz => by
             have hii : ∀ i, i < n → eL (zs.extract f.offset (f.offset + n)) i = eL zs (f.offset + i) := fun i hi => by
               have hs : (eL zs (f.offset + i)).isSome = true := by
                 have := List.all_eq_true.1 hz (f.offset + i) (List.mem_map.2 ⟨i, List.mem_range.2 hi, rfl⟩)
                 exact this
               have hlt : f.offset + i < zs.size := by
                 rcases Nat.lt_or_ge (f.offset + i) zs.size with h | h
                 · exact h
                 · unfold eL at hs; rw [Array.getElem?_eq_none h] at hs; cases hs
               unfold eL
               rw [Array.getElem?_extract]
               rw [if_pos (by omega)]
             refine ⟨List.all_eq_true.2 fun i hi => ?_, hii⟩
             rw [hii i (List.mem_range.1 hi)]
             exact List.all_eq_true.1 hz (f.offset + i) (List.mem_map.2 ⟨i, hi, rfl⟩)
           obtain ⟨a1, a2⟩ := hsub xs hx'.1
           obtain ⟨b1, b2⟩ := hsub ys hy'.1
           refine fin _ _ (hpart xs) (hpart ys) ?_
           rw [show d + 2 = (d + 1) + 1 from rfl, run_equalIn_array w (d + 1) _ _ hk hie, jB d c1 c2 _ _ _ w a1 b1]
           congr 1
           unfold et
           rw [List.all_map]
           apply Bool.eq_iff_iff.2
           simp only [List.all_eq_true, List.mem_range, Function.comp]
           constructor
           · intro h i hi; have := h i hi; rwa [a2 i hi, b2 i hi] at this
           · intro h i hi; have := h i hi; rwa [← a2 i hi, ← b2 i hi] at this
         · cases h1
       · cases h1
end
section
variable {P : Program} {n : Fr} {env : Env} {ps : List Per} {hp : List Res} {ty : TypeId} {pos : String} {af : Array Edge} {gd : Option (Nat × Bool)} {d : Option Tmp}
def yM (P : Program) (T : TypeId) : Option (Nat × Nat) := match P.underlying T with
 | some (.array m e) => (P.info? e).map fun i => (i.size, m)
 | _ => none
theorem zG {T : TypeId} {l : List (Nat × Operand)} {xs : List Operand} {vs : List Value} {zs cells : List Value} {sz m : Nat} (hst : yM P T = some (sz, m)) (hz : eM P T = some zs) (hxs : l.map (·.2) = xs) (hx : evs env xs = some vs)
   (hb : bld (fun i => some (i * sz, sz)) zs ((l.map (·.1)).zip vs) = some cells) :
   Quiet P n ⟨d, .build T l.toArray, ty, pos, af, gd⟩ ⟨env, ps, hp⟩ (.agg cells.toArray) := fun w S fp a hs he hn => by
 have hm := fI he xs vs hx
 have hf := jv _ _ _ _ hb
 have hbuilt : P.built T ((l.map (·.1)).zip vs) = some cells.toArray := by
   unfold yM at hst
   unfold eM at hz
   unfold Program.built
   cases hi : P.info? T with
   | none => rw [hi] at hz; cases hz
   | some it =>
     rw [hi] at hz
     cases hzz : it.zero with
     | none => rw [Option.bind_some, hzz] at hz; cases hz
     | some z =>
       rw [Option.bind_some, hzz] at hz
       simp only [Option.map_some, Option.some.injEq] at hz
       cases hu : P.underlying T with
       | none => rw [hu] at hst; cases hst
       | some dd =>
         rw [hu] at hst
         cases dd with
         | array m' e =>
           simp only at hst
           cases hie : P.info? e with
           | none => rw [hie] at hst; cases hst
           | some ie =>
             rw [hie] at hst
             simp only [Option.map_some, Option.some.injEq, Prod.mk.injEq] at hst
             simp only [hzz, hie]
             have e1 : z.cells = zs.toArray := by rw [← hz]
             rw [e1, hst.1]
             simpa using hf
         | _ => cases hst
 have : (execOp a.eval ⟨d, .build T l.toArray, ty, pos, af, gd⟩).run P w = .ok (.value (.agg cells.toArray)) w := by
   have e : (execOp a.eval ⟨d, .build T l.toArray, ty, pos, af, gd⟩) = (Instr.build T (l.toArray.map fun (i, x) => (i, a.eval x))).bind fun r => Sem.pure (Next.value r) := rfl
   have e2 : l.toArray.map (fun (i, x) => (i, a.eval x)) = ((l.map (·.1)).zip vs).toArray := by
     rw [← hm, ← hxs]
     simp only [List.map_toArray, List.map_map]
     congr 1
     rw [List.zip_map']
     rfl
   rw [e, e2, Sem.run_bind', run_build w T _ cells.toArray (by simpa using hbuilt)]; rfl
 rw [this]; exact bY _ _
end
end Go.Sy

