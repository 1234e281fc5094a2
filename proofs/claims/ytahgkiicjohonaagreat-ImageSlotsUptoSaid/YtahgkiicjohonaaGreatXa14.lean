/- Parts of the proof, in build order. No condition. -/
import Derived.Test.YtahgkiicjohonaaGreatXa09
import Derived.Test.YtahgkiicjohonaaGreatXa11
import Derived.Test.YtahgkiicjohonaaGreatXa04
import Derived.Test.YtahgkiicjohonaaGreatXa05
import Derived.Test.YtahgkiicjohonaaGreatXa13
import Derived.Lib.ConvBytes
import Derived.Test.YtahgkiicjohonaaGreatXa10
import Derived.Test.YtahgkiicjohonaaGreatXa03
import Derived.Test.YtahgkiicjohonaaGreatXa06
set_option linter.unusedSimpArgs false
set_option linter.unusedVariables false
set_option maxHeartbeats 1000000
set_option maxRecDepth 20000
namespace Go.Proofs.YtahgkiicjohonaaGreat
open Go.RowKit Go.Lp Go.Sy
def sLt (a b : ByteArray) : Prop := a.toList < b.toList
instance (a b : ByteArray) : Decidable (sLt a b) := by unfold sLt; infer_instance
theorem adp {a b : ByteArray} (h : a.toList = b.toList) : a = b := by
 have key : ∀ (x : ByteArray), x.toList = x.data.toList := fun x => by
   have loop : ∀ (n i : Nat) (acc : List UInt8), x.size - i = n → ByteArray.toList.loop x i acc = acc.reverse ++ x.data.toList.drop i := by
     intro n
     induction n with
     | zero =>
       intro i acc h
       unfold ByteArray.toList.loop
       have hle : x.data.size ≤ i := by have : x.size = x.data.size := rfl; omega
       rw [if_neg (by omega), List.drop_eq_nil_of_le (by simpa using hle), List.append_nil]
     | succ n ih =>
       intro i acc h
       unfold ByteArray.toList.loop
       have hlt : i < x.size := by omega
       have hlt' : i < x.data.toList.length := by simpa using hlt
       rw [if_pos hlt, ih (i + 1) _ (by omega), List.drop_eq_getElem_cons hlt']
       have : x.get! i = x.data.toList[i] := by
         show x.data[i]! = _
         rw [getElem!_pos x.data i (by simpa using hlt)]; simp
       rw [this]; simp
   unfold ByteArray.toList
   rw [loop _ 0 [] rfl]; simp
 rw [key, key] at h
 cases a; cases b
 simp only [ByteArray.mk.injEq]
 exact Array.toList_inj.1 h
theorem xx (a : ByteArray) : ¬ sLt a a := List.lt_irrefl _
theorem aac {a b c : ByteArray} (h1 : sLt a b) (h2 : sLt b c) : sLt a c := List.lt_trans h1 h2
theorem acp (a b : ByteArray) : sLt a b ∨ a = b ∨ sLt b a := by
 unfold sLt
 by_cases h1 : a.toList < b.toList
 · exact .inl h1
 · by_cases h2 : b.toList < a.toList
   · exact .inr (.inr h2)
   · exact .inr (.inl (adp (List.le_antisymm h2 h1)))
theorem zk {a b : ByteArray} (h : sLt a b) : ¬ sLt b a := fun k => xx _ (aac h k)
def sU (a b : Int) : Int := if a < b then -1 else if b < a then 1 else 0
def wb (a b : ByteArray) : Int := if sLt a b then -1 else if sLt b a then 1 else 0
theorem uq (a b : Int) : sU a b < 0 ↔ a < b := by unfold sU; split <;> (try split) <;> omega
open Go.Proofs.Tryz
attribute [local irreducible] aL aB awp aC fwp Quiet
theorem uY (z : Int) : Con Tryz.prog 195 [.int .i64 z] [] [] (fun r _ _ => r = .bool false) := by
 refine EN1 Tryz.func195 rfl (aSR (aA rfl (aNn (aSR (aM rfl (aM rfl (aU rfl (eG rfl rfl) (aA rfl (aNn (az (FZ1 [] Tryz.results195 rfl ?_)))))))))))
 simp
theorem uI (z : ByteArray) : Con Tryz.prog 173 [.string z] [] [] (fun r _ _ => r = .bool false) := by
 refine EN1 Tryz.func173 rfl (aSR (aA rfl (aNn (aSR (aM rfl (aM rfl (aU rfl (xN rfl rfl) (aA rfl (aNn (az (FZ1 [] Tryz.results173 rfl ?_)))))))))))
 simp
theorem u6 (a b : Int) : Con Tryz.prog 171 [.int .i64 a, .int .i64 b] [] [] (fun r _ _ => r = .int .i64 (sU a b)) := by
 refine EN2 Tryz.func171 rfl (aSR (aA rfl (aNn (aSR (aM rfl (aU rfl (Q0 rfl (uY _)) (aA rfl (aNn (aSR (aM rfl (aU rfl (Q0 rfl (uY _)) ?_)))))))))))
 refine aA rfl (aNs (aSR (aM rfl (aNn ?_))))
 refine ao _ rfl (fun h1 => ?_) (fun h1 => ?_)
 ·skip
  exact absurd h1 (by decide)
 ·skip
  refine ar (an (aj (aSR (aM rfl (aNn ?_)))))
  refine ao _ rfl (fun h2 => ?_) (fun h2 => ?_)
  ·skip
   exact absurd h2 (by decide)
  ·skip
   refine ar (an (aj (aSR (aM rfl (aM rfl (aU rfl (bD rfl rfl) (aNn ?_)))))))
   refine ao _ rfl (fun h3 => ?_) (fun h3 => ?_)
   ·skip
    refine aSR (aA rfl (aNn (az (bu (FZ1 [] Tryz.results171 rfl ?_)))))
    have : a < b := by simpa using h3
    unfold sU; rw [if_pos this]
   ·skip
    refine ar (an (aj (aSR (aM rfl (aM rfl (aU rfl (cJ rfl rfl) (aNn ?_)))))))
    refine ao _ rfl (fun h4 => ?_) (fun h4 => ?_)
    ·skip
     refine aSR (aA rfl (aNn (az (bu (FZ1 [] Tryz.results171 rfl ?_)))))
     have a1 : ¬ a < b := by simpa using h3
     have : b < a := by simpa using h4
     unfold sU; rw [if_neg a1, if_pos this]
    ·skip
     refine ar (an (aSR (aA rfl (aNn (az (FZ1 [] Tryz.results171 rfl ?_))))))
     have a1 : ¬ a < b := by simpa using h3
     have a2 : ¬ b < a := by simpa using h4
     unfold sU; rw [if_neg a1, if_neg a2]
theorem uk (a b : ByteArray) : Con Tryz.prog 101 [.string a, .string b] [] [] (fun r _ _ => r = .int .i64 (wb a b)) := by
 refine EN2 Tryz.func101 rfl (aSR (aA rfl (aNn (aSR (aM rfl (aU rfl (Q0 rfl (uI _)) (aA rfl (aNn (aSR (aM rfl (aU rfl (Q0 rfl (uI _)) ?_)))))))))))
 refine aA rfl (aNs (aSR (aM rfl (aNn ?_))))
 refine ao _ rfl (fun h1 => ?_) (fun h1 => ?_)
 ·skip
  exact absurd h1 (by decide)
 ·skip
  refine ar (an (aj (aSR (aM rfl (aNn ?_)))))
  refine ao _ rfl (fun h2 => ?_) (fun h2 => ?_)
  ·skip
   exact absurd h2 (by decide)
  ·skip
   refine ar (an (aj (aSR (aM rfl (aM rfl (aU rfl (adP rfl rfl) (aNn ?_)))))))
   refine ao _ rfl (fun h3 => ?_) (fun h3 => ?_)
   ·skip
    refine aSR (aA rfl (aNn (az (bu (FZ1 [] Tryz.results101 rfl ?_)))))
    have : sLt a b := of_decide_eq_true h3
    unfold wb; rw [if_pos this]
   ·skip
    refine ar (an (aj (aSR (aM rfl (aM rfl (aU rfl (adL rfl rfl) (aNn ?_)))))))
    refine ao _ rfl (fun h4 => ?_) (fun h4 => ?_)
    ·skip
     refine aSR (aA rfl (aNn (az (bu (FZ1 [] Tryz.results101 rfl ?_)))))
     have a1 : ¬ sLt a b := of_decide_eq_false h3
     have h4' : ¬ sLt a b ∧ ¬ a = b := by simp only [Bool.not_eq_true', Bool.or_eq_false_iff, decide_eq_false_iff_not] at h4; exact h4
     have : sLt b a := by
       rcases acp a b with h | h | h
       · exact (a1 h).elim
       · exact (h4'.2 h).elim
       · exact h
     unfold wb; rw [if_neg a1, if_pos this]
    ·skip
     refine ar (an (aSR (aA rfl (aNn (az (FZ1 [] Tryz.results101 rfl ?_))))))
     have a1 : ¬ sLt a b := of_decide_eq_false h3
     have h4' : sLt a b ∨ a = b := by simp only [Bool.not_eq_false', Bool.or_eq_true, decide_eq_true_eq] at h4; exact h4
     have a2 : ¬ sLt b a := by
       rcases h4' with h | h
       · exact zk h
       · rw [h]; exact xx _
     unfold wb; rw [if_neg a1, if_neg a2]
theorem ac0 (v : Value) (a b : Int) : Con Tryz.prog 100 [v] [] [aN v 3 1 [[.v (.int .i64 a)], [.v (.int .i64 b)]]] (fun r _ _ => r = .int .i64 (if a ≠ 0 then a else b)) := by
 refine Con.ofRes (p := Sh v (.sl [[.v (.int .i64 a)], [.v (.int .i64 b)]])) ?_ _ (fun w S fp hres => (my (hres 0 _ rfl)).mono (fun _ _ => rfl) fun b hb => hb.imp id fun hf => ⟨0, by simp, hf⟩)
 refine EN1 Tryz.func100 rfl (vt (.of (aD 0 rfl)) (fun ad cp hv => ?_))
 obtain rfl : v = .slice ad 2 cp := hv
 refine aSR (aA rfl (aNn (aSR (aA rfl (aNs (aSR (aM rfl (aU rfl (aW Tryz.underlying25 rfl) (aM rfl (aNn (aq (aQ [0, 3, 6, 7, 8] [0] [] (fun (k : Nat) st => (k ≤ 2 ∧ (1 ≤ k → a = 0) ∧ (2 ≤ k → b = 0)) ∧ st = ⟨[(0, true, .slice ad 2 cp), (3, true, .int .i64 0), (6, true, .slice ad 2 cp), (7, true, .int .i64 2), (8, true, .int .i64 k)], [Sh (.slice ad 2 cp) (.sl [[.v (.int .i64 a)], [.v (.int .i64 b)]])], []⟩) (fun k => 2 - k) rfl (⟨0, ⟨by omega, fun h => by omega, fun h => by omega⟩, rfl⟩) ?_))))))))))))
 rintro k st ⟨⟨hk, ha, hb⟩, rfl⟩
 refine aSR (aU rfl (bD rfl rfl) (aNs ?_))
 refine ao _ rfl (fun h1 => ?_) (fun h1 => ?_)
 ·skip
  have hk' : k < 2 := by simp at h1; omega
  obtain ⟨c, hc1, hc⟩ : ∃ c, (([[.v (.int .i64 a)], [.v (.int .i64 b)]] : List (List D))[k]? = some [D.v (.int .i64 c)]) ∧ ((k = 0 ∧ c = a) ∨ (k = 1 ∧ c = b)) := by
    rcases (by omega : k = 0 ∨ k = 1) with rfl | rfl
    · exact ⟨a, rfl, .inl ⟨rfl, rfl⟩⟩
    · exact ⟨b, rfl, .inr ⟨rfl, rfl⟩⟩
  refine ar (an (aj (aq (aSR (iD true rfl rfl (fun _ => tK Tryz.underlying25 tk3 rfl (aD 0 rfl) rfl hc1 rfl rfl) (fun h => absurd h (by decide)) (fun ⟨b4_0, o4_0⟩ => (US 0 tk3 0 rfl rfl rfl rfl rfl (aA rfl (aNn (aSR (aM rfl (aM rfl (aU rfl (eG rfl rfl) (aNn ?_))))))))))))))
  refine ao _ rfl (fun h2 => ?_) (fun h2 => ?_)
  ·skip
   refine aSR (aM rfl (aA rfl (aNn (az (cM (bu (bu (cM (bu (FZ1 [] Tryz.results100 rfl ?_))))))))))
   have hc0 : c ≠ 0 := by simpa using h2
   rcases hc with ⟨rfl, rfl⟩ | ⟨rfl, rfl⟩
   · rw [if_pos hc0]
   · rw [if_neg (by have := ha (by omega); omega)]
  ·skip
   refine ar (bA (an (aa (aU rfl (aX rfl rfl (by omega)) (aM rfl (aNn ?_))))))
   refine ⟨[0, 3, 6, 7, 8], [0], [], rfl, ?_⟩
   have hc0 : c = 0 := by simpa using h2
   rcases hc with ⟨rfl, rfl⟩ | ⟨rfl, rfl⟩
   · exact ⟨1, ⟨⟨by omega, fun _ => hc0, fun h => by omega⟩, rfl⟩, by omega⟩
   · exact ⟨2, ⟨⟨by omega, fun _ => ha (by omega), fun _ => hc0⟩, rfl⟩, by omega⟩
 ·skip
  refine aR (aS (aS (aZ (an (aSR (aM rfl (aA rfl (aNn (az (FZ1 [] Tryz.results100 rfl ?_))))))))))
  have hk2 : k = 2 := by simp at h1; omega
  subst hk2
  rw [if_neg (by have := ha (by omega); omega), hb (by omega)]
end Go.Proofs.YtahgkiicjohonaaGreat

namespace Go.Sy
open Go.RowKit
theorem adO {P : Program} {n : Fr} {s : Sta} {d : Option Tmp} {ty : TypeId} {pos : String} {af : Array Edge} {gd : Option (Nat × Bool)} {x : Operand} {T t' E : TypeId} {ad : Option Addr} {k c : Nat} (hT : P.underlying T = some (.slice E)) (hx : ev s.env x = some (true, .slice ad k c)) : Quiet P n ⟨d, .binOp .neq T x (.const (.slice none 0 0)) t', ty, pos, af, gd⟩ s (.bool (!ad.isNone)) :=
 .run2 (vy := .slice none 0 0) hx rfl fun ρ w h1 h2 => by
   unfold execOp; dsimp only; rw [h1, h2]
   simp only [eqGuard_at_slice, binOp, Sem.run_bind, Sem.run_pure, run_equal_slice_nil w T E ad k c hT, Result.andThen_ok]
end Go.Sy
namespace Go.Proofs.YtahgkiicjohonaaGreat
open Go.RowKit Go.Lp Go.Sy Go.Lv
open Go.Proofs.Tryz
attribute [local irreducible] aL aB awp aC fwp Quiet
abbrev yO : Int → List D := fun z => [.v (encI z)]
theorem tz (a b : Sl Int) : Con Tryz.prog 200 [a.val, b.val] [ShF yO a, ShF yO b] [] (YN (fun z : Int => .int .i64 z) fun _ => True) := by
 refine EN2 Tryz.func200 rfl (bQ (.of (aD 0 rfl)) (fun hlen => (aSR (aA rfl (aNs (aSR (aM rfl (aU rfl (aW Tryz.underlying25 rfl) (aM rfl (aNn (aq (aQ [0, 1, 9, 10, 11] [1, 0] [] (fun (k : Nat) st => k ≤ a.l.length ∧ st = ⟨[(0, true, a.val), (1, true, b.val), (9, true, a.val), (10, true, .int .i64 a.l.length), (11, true, .int .i64 k)], [ShF yO a, ShF yO b], []⟩) (fun k => a.l.length - k) rfl (⟨0, Nat.zero_le _, rfl⟩) ?_))))))))))))
 rintro k st ⟨hk, rfl⟩
 refine aSR (aU rfl (bD rfl rfl) (aNs ?_))
 refine ao _ rfl (fun h1 => ?_) (fun h1 => ?_)
 ·skip
  have hk' : k < a.l.length := by simpa using h1
  obtain ⟨x, hx⟩ : ∃ x, a.l[k]? = some x := ⟨_, List.getElem?_eq_getElem hk'⟩
  refine ar (an (aj (aq (aSR (aM rfl (UI Tryz.underlying25 tk3 0 rfl rfl rfl rfl rfl (aI hx) rfl rfl (fun ⟨b3_1, o3_1⟩ => ?_)))))))
  refine US 0 tk3 0 rfl rfl rfl rfl rfl (aA rfl (aA rfl (aNs (aSR (aM rfl (aM rfl (aU rfl (aW Tryz.underlying25 rfl) (aU rfl (fk rfl rfl) (aNn ?_)))))))))
  refine ao _ rfl (fun h2 => ?_) (fun h2 => ?_)
  ·skip
   refine aSR (aA rfl (aNn (az (bu (cM (bu (bu (cM (bu (FZ1 [] Tryz.results200 rfl ?_))))))))))
   exact ⟨⟨rfl, rfl⟩, _, rfl, trivial⟩
  ·skip
   have hb2 : k < b.l.length := by simp at h2; omega
   obtain ⟨y, hy⟩ : ∃ y, b.l[k]? = some y := ⟨_, List.getElem?_eq_getElem hb2⟩
   refine ar (an (aSR (aM rfl (aM rfl (UI Tryz.underlying25 tk3 2 rfl rfl rfl rfl rfl (aI hy) rfl rfl (fun ⟨b6_2, o6_2⟩ => (US 0 tk3 0 rfl rfl rfl rfl rfl (aA rfl (aNn (aSR (aM rfl (aM rfl (aU rfl (Q0 rfl (u6 _ _)) ?_)))))))))))))
   refine aA rfl (aNn (aSR (aM rfl (aU rfl (eG rfl rfl) (aNn ?_)))))
   refine ao _ rfl (fun h3 => ?_) (fun h3 => ?_)
   ·skip
    refine aSR (aM rfl (aA rfl (aNn (az (cM (bu (bu (cM (bu (FZ1 [] Tryz.results200 rfl ?_))))))))))
    exact ⟨⟨rfl, rfl⟩, _, rfl, trivial⟩
   ·skip
    refine ar (bA (an (aa (aU rfl (aX rfl rfl (by omega)) (aM rfl (aNn ?_))))))
    refine ⟨[0, 1, 9, 10, 11], [1, 0], [], rfl, ?_⟩
    exact ⟨k + 1, ⟨hk', rfl⟩, by omega⟩
 ·skip
  refine aR (aS (aS (aZ (an (aj (aSR (aM rfl (aU rfl (aW Tryz.underlying25 rfl) (aM rfl (aU rfl (aW Tryz.underlying25 rfl) (aU rfl (bD rfl rfl) (aNn ?_))))))))))))
  refine ao _ rfl (fun h4 => ?_) (fun h4 => ?_)
  ·skip
   refine aSR (aA rfl (aNn (az (bu (FZ1 [] Tryz.results200 rfl ?_)))))
   exact ⟨⟨rfl, rfl⟩, _, rfl, trivial⟩
  ·skip
   refine ar (an (aSR (aA rfl (aNn (az (FZ1 [] Tryz.results200 rfl ?_))))))
   exact ⟨⟨rfl, rfl⟩, _, rfl, trivial⟩
theorem aba (N : Nat) (hN : N ≤ 10000) (l : Sl dy) (hl : l.l.length ≤ 100000000) (hr : ∀ a ∈ l.l, j1 N a) :
   Con Tryz.prog 176 [.int .i64 N, l.val] [ShF dy.row l] [] fun r ps hp => (ps = [] ∧ hp = []) ∧ ∃ ad k c, r = .slice ad k c ∧ (N ≤ 1 → l.l = [] → k = 0) := by
 have hT := wL hr
 refine EN2 Tryz.func176 rfl (aSR (aA rfl (aNn (aSR (aM rfl (aA rfl (aNs (aSR (aM rfl (aM rfl (LT rfl (EC [0] [] rfl (z7 N (by omega) l hl hr) ?_))))))))))))
 rintro _ _ _ ⟨rfl, P, rfl, hok, rfl⟩
 refine aST ?_
 refine aU rfl (aW Tryz.underlying278 rfl) (aM rfl (aNn (aq (bQ (.of (aD 0 rfl)) (fun hPl => ?_)))))
 refine aQ [0, 1, 5, 18, 19, 20] [2, 1, 0] [] (fun (q : Nat × Int) st => (q.1 ≤ P.l.length ∧ 0 ≤ q.2 ∧ q.2 ≤ N ∧ (N ≤ 1 → q.2 = N)) ∧ st = ⟨[(0, true, .int .i64 N), (1, true, l.val), (5, true, .int .i64 q.2), (18, true, P.val), (19, true, .int .i64 P.l.length), (20, true, .int .i64 q.1)], [ShF slR P, b7 (ShF cL) P.l, ShF dy.row l], []⟩) (fun q => P.l.length - q.1) rfl (⟨(0, (N : Int)), ⟨Nat.zero_le _, by dsimp only; omega, by dsimp only; omega, fun _ => rfl⟩, rfl⟩) ?_
 rintro ⟨k, z⟩ st ⟨⟨hk, hz0, hzN, hz1⟩, rfl⟩
 dsimp only at hk hz0 hzN hz1 ⊢
 refine aSR (aU rfl (bD rfl rfl) (aNs ?_))
 refine ao _ rfl (fun h1 => ?_) (fun h1 => ?_)
 ·skip
  have hk' : k < P.l.length := by simpa using h1
  obtain ⟨p, hp⟩ : ∃ p, P.l[k]? = some p := ⟨_, List.getElem?_eq_getElem hk'⟩
  have hpk := hok p (List.mem_of_getElem? hp)
  obtain ⟨x0, hx0⟩ : ∃ x0, p.l[0]? = some x0 := ⟨_, List.getElem?_eq_getElem (List.length_pos_iff.2 hpk.ne)⟩
  have hx0r := hpk.rg x0 (List.mem_of_getElem? hx0)
  have hpsh := hpk.sh
  refine ar (an (aj (aq (aSR (UI Tryz.underlying278 tk25 0 rfl rfl rfl rfl rfl (aI hp) rfl rfl (fun ⟨b4_0, o4_0⟩ => (US 0 tk25 0 rfl rfl rfl rfl rfl (aA rfl (aNn (aSR (aM rfl (aU rfl (aW Tryz.underlying25 rfl) (aU rfl (cJ rfl rfl) (aNn ?_))))))))))))))
  refine ao _ rfl (fun h2 => ?_) (fun h2 => ?_)
  ·skip
   have hlong : 1 < p.l.length := by simp at h2; omega
   refine aa (aM rfl (aM rfl (iD true rfl rfl (fun _ => bF Tryz.underlying25 tk3 rfl ((Ent.all (f := ShF cL) (.of (aD 2 rfl)) hp)) rfl (aI hx0) rfl rfl) (fun h => absurd h (by decide)) (fun ⟨b6_2, o6_2⟩ => (US 0 tk3 0 rfl rfl rfl rfl rfl (aU rfl (xA rfl rfl) (aA rfl (bS (bA (an (aa (aU rfl (aX rfl rfl (by omega)) (aM rfl (aNn ?_))))))))))))))
   refine ⟨[0, 1, 5, 18, 19, 20], [2, 1, 0], [], rfl, ?_⟩
   exact ⟨(k + 1, min z x0), ⟨⟨by dsimp only; omega, by dsimp only; omega, by dsimp only; omega, fun h => by omega⟩, rfl⟩, by dsimp only; omega⟩
  ·skip
   refine ar (bA (an (aa (aU rfl (aX rfl rfl (by omega)) (aM rfl (aNn ?_))))))
   refine ⟨[0, 1, 5, 18, 19, 20], [2, 1, 0], [], rfl, ?_⟩
   exact ⟨(k + 1, z), ⟨⟨by dsimp only; omega, hz0, hzN, hz1⟩, rfl⟩, by dsimp only; omega⟩
 ·skip
  refine aR (aS (aS (aZ (an (aj (aSR (aM rfl (aU rfl ((bD rfl rfl).castV (v' := .bool false) (congrArg Value.bool (decide_eq_false (by omega)))) (aM rfl (aM rfl (aM rfl (aU rfl (Q1 rfl (rq N l) 2 rfl) (aU rfl (dp rfl) (aU rfl (cK rfl rfl (fun _ => rfl)) (aNn ?_)))))))))))))))
  refine ao _ rfl (fun h3 => ?_) (fun h3 => ?_)
  ·skip
   exact absurd h3 (by rw [uG (by omega) hr]; simp)
  ·skip
   refine ar (an (aj (aSR (aM rfl (aU rfl (aW Tryz.underlying262 rfl) (aM rfl (aNn (aq (bQ (.of (aD 2 rfl)) (fun hll => (aQ [0, 1, 5, 41, 42, 43] [2, 1, 0] [] (fun (q : Nat × Int) st => (q.1 ≤ l.l.length ∧ 0 ≤ q.2 ∧ q.2 ≤ N ∧ (N ≤ 1 → l.l = [] → q.2 = N)) ∧ st = ⟨[(0, true, .int .i64 N), (1, true, l.val), (5, true, .int .i64 q.2), (41, true, l.val), (42, true, .int .i64 l.l.length), (43, true, .int .i64 q.1)], [ShF slR P, b7 (ShF cL) P.l, ShF dy.row l], []⟩) (fun q => l.l.length - q.1) rfl (⟨(0, z), ⟨Nat.zero_le _, hz0, hzN, fun h _ => hz1 h⟩, rfl⟩) ?_)))))))))))
   rintro ⟨j, y⟩ st ⟨⟨hj, hy0, hyN, hy1⟩, rfl⟩
   dsimp only at hj hy0 hyN hy1 ⊢
   refine aSR (aU rfl (bD rfl rfl) (aNs ?_))
   refine ao _ rfl (fun h4 => ?_) (fun h4 => ?_)
   ·skip
    have hj' : j < l.l.length := by simpa using h4
    obtain ⟨a, ha⟩ : ∃ a, l.l[j]? = some a := ⟨_, List.getElem?_eq_getElem hj'⟩
    have har := hr a (List.mem_of_getElem? ha)
    have hfr := har.1
    have hln : l.l ≠ [] := fun h => by rw [h] at hj'; cases hj'
    refine ar (an (aj (aq (aSR (UI Tryz.underlying262 tk264 2 rfl rfl rfl rfl rfl (aI ha) rfl rfl (fun ⟨b12_0, o12_0⟩ => (US 0 tk264 0 rfl rfl rfl rfl rfl (LT rfl (bI (zs := [.int .i64 0, .int .i64 0]) (by kernel_rfl) rfl (fun b12_2 => (aHN ?_)))))))))))
    refine aT rfl (bg 0 tk264 rfl rfl rfl rfl (aHK ?_))
    refine aNn (aSR (UO 0 rfl rfl (UL 0 tk3 rfl rfl rfl rfl (UO 1 rfl rfl (UL 0 tk3 rfl rfl rfl rfl (aU rfl (ck rfl rfl) (aNn ?_)))))))
    refine ao _ rfl (fun h5 => ?_) (fun h5 => ?_)
    ·skip
     refine aa (aM rfl (UO 0 rfl rfl (UL 0 tk3 rfl rfl rfl rfl (aU rfl (xA rfl rfl) (aA rfl (bS (bA (an (aa (aU rfl (aX rfl rfl (by omega)) (aM rfl (aNn ?_))))))))))))
     refine ⟨[0, 1, 5, 41, 42, 43], [2, 1, 0], [], rfl, ?_⟩
     exact ⟨(j + 1, min y a.from_), ⟨⟨by dsimp only; omega, by dsimp only; omega, by dsimp only; omega, fun _ h => absurd h hln⟩, rfl⟩, by dsimp only; omega⟩
    ·skip
     refine ar (bA (an (aa (aU rfl (aX rfl rfl (by omega)) (aM rfl (aNn ?_))))))
     refine ⟨[0, 1, 5, 41, 42, 43], [2, 1, 0], [], rfl, ?_⟩
     exact ⟨(j + 1, y), ⟨⟨by dsimp only; omega, hy0, hyN, hy1⟩, rfl⟩, by dsimp only; omega⟩
   ·skip
    refine aR (aS (aS (aZ (an (aj (aSR (aM rfl (aM rfl (aU rfl (ck rfl rfl) (aNn ?_))))))))))
    refine ao _ rfl (fun h6 => ?_) (fun h6 => ?_)
    ·skip
     refine aSR (aA rfl (aNn (az (bu (FZ1 [] Tryz.results176 rfl ?_)))))
     exact ⟨⟨rfl, rfl⟩, none, 0, 0, rfl, fun _ _ => rfl⟩
    ·skip
     have hyne : y ≠ N := by simpa using h6
     obtain ⟨b, hb⟩ : ∃ b, qo N l.l [y] = b := ⟨_, rfl⟩
     have hbl : b.length = N := by rw [← hb]; exact wD (tN hr)
     have hTy := hT [y]
     have hrk : ∀ v, abp (pI N l.l [y]) v ≤ 100000 := fun v => by
       have h1 := acU (pI N l.l [y]) v
       have h2 : (pI N l.l [y]).length ≤ _ := abX (rs := dB [y]) (tN hr)
       have h3 := uf [y]
       simp at h3
       omega
     obtain ⟨ρ, hρ⟩ : ∃ ρ, abp (pI N l.l [y]) = ρ := ⟨_, rfl⟩
     rw [hρ, hb] at hTy
     rw [hρ] at hrk
     refine ar (an (aSR (aM rfl (aM rfl (aM rfl (LT rfl (WL (zs := [.int .i64 0]) el25 rfl rfl rfl (.more rfl (.v rfl .nil) .nil) rfl rfl (fun v18_3 => (aHN ?_)))))))))
     refine er 0 rfl ?_
     refine LT rfl (EC [0, 3] [] rfl (uP N (by omega) l hl hr ⟨v18_3, 1, [y]⟩ (by show 1 ≤ _; decide) hb) ?_)
     rintro vb _ _ ⟨rfl, rfl⟩
     refine aST ?_
     refine aA rfl (aNn (aSR (aA rfl (aNs (aj (fE 1 rfl (fun w S F hh => fL hh) (fun hov => ?_)))))))
     obtain ⟨bad, bcp, rfl⟩ := hov
     rw [dv]
     refine dW 1 rfl (aY (ShF yO (⟨none, 0, []⟩ : Sl Int)) (fun w S _ => fe.e none 0 (Nat.zero_le _)) (aa (aM rfl (aU rfl (aW Tryz.underlying262 rfl) (aM rfl (aNn (aq (aQ [5, 10, 11, 65, 66, 67] [5, 4, 0] [] (fun (q : Nat × Sl Int) st => q.1 ≤ l.l.length ∧ st = ⟨[(5, true, .int .i64 y), (10, true, .slice bad b.length bcp), (11, true, q.2.val), (65, true, l.val), (66, true, .int .i64 l.l.length), (67, true, .int .i64 q.1)], [ShF yO q.2, Sh (.slice bad b.length bcp) (.sl (cB encI b)), ShF dy.row l], []⟩) (fun q => l.l.length - q.1) rfl (⟨(0, ⟨none, 0, []⟩), Nat.zero_le _, rfl⟩) ?_))))))))
     rintro ⟨m, bst⟩ st ⟨hm, rfl⟩
     dsimp only at hm ⊢
     refine aSR (aU rfl (bD rfl rfl) (aNs ?_))
     refine ao _ rfl (fun h7 => ?_) (fun h7 => ?_)
     ·skip
      have hm' : m < l.l.length := by simpa using h7
      obtain ⟨a, ha⟩ : ∃ a, l.l[m]? = some a := ⟨_, List.getElem?_eq_getElem hm'⟩
      have har := hr a (List.mem_of_getElem? ha)
      have hfr := har.1
      refine ar (an (aj (aq (aSR (UI Tryz.underlying262 tk264 2 rfl rfl rfl rfl rfl (aI ha) rfl rfl (fun ⟨b22_0, o22_0⟩ => (US 0 tk264 0 rfl rfl rfl rfl rfl (LT rfl (bI (zs := [.int .i64 0, .int .i64 0]) (by kernel_rfl) rfl (fun b22_2 => (aHN ?_)))))))))))
      refine aT rfl (bg 0 tk264 rfl rfl rfl rfl (aHK ?_))
      refine aNs (aSR (UO 1 rfl rfl (UL 0 tk3 rfl rfl rfl rfl (aM rfl (aU rfl (eG rfl rfl) (aNn ?_))))))
      refine ao _ rfl (fun h8 => ?_) (fun h8 => ?_)
      ·skip
       refine aR (aS (aZ (an (aa (aU rfl (aX rfl rfl (by omega)) (aM rfl (aNn ?_)))))))
       refine ⟨[5, 10, 11, 65, 66, 67], [2, 1, 0], [], rfl, ?_⟩
       exact ⟨(m + 1, bst), ⟨hm', rfl⟩, by dsimp only; omega⟩
      ·skip
       refine ar (an (aSR (aM rfl (UO 0 rfl rfl (UL 0 tk3 rfl rfl rfl rfl ?_)))))
       refine LT rfl (EC [1] [] rfl (yN ⟨bad, bcp, b⟩ ρ hTy a.from_ (by dsimp only; omega) (hrk _)) ?_)
       rintro _ _ _ ⟨rfl, ad, cd, rfl, rfl⟩
       refine aST ?_
       refine aA rfl (aNn (aSR (aM rfl (aU rfl (adO Tryz.underlying25 rfl) (aM rfl (aG rfl rfl (fun hc => aP rfl) (aG rfl rfl (fun hc => wQ Tryz.underlying25 (ae rfl hc)) (aG rfl rfl (fun hc => aP (ae rfl hc)) (aG rfl rfl (fun hc => aP rfl) (aG rfl rfl (fun hc => aW Tryz.underlying25 (ae rfl hc)) (aG rfl rfl (fun hc => aP rfl) (aG rfl rfl (fun hc => aW Tryz.underlying25 (ae rfl hc)) (aG rfl rfl (fun hc => bD (ae rfl hc) (ae rfl hc)) ?_)))))))))))))
       refine aG rfl rfl (fun hc => cK (ae rfl hc) rfl (fun h => gf hc h)) (aG rfl rfl (fun hc => aP (ae rfl hc)) (aG rfl rfl (fun hc => aP rfl) (aG rfl rfl (fun hc => aW Tryz.underlying25 (ae rfl hc)) (aG rfl rfl (fun hc => aP rfl) (aG rfl rfl (fun hc => aW Tryz.underlying25 (ae rfl hc)) (aG rfl rfl (fun hc => ck (ae rfl hc) (ae rfl hc)) (aG rfl rfl (fun hc => aP (ae rfl hc)) (aG rfl rfl (fun hc => aP rfl) (aG rfl rfl (fun hc => aP rfl) ?_)))))))))
       refine eT (caps := []) [4, 2] ((0 : Int)) (by kernel_rfl) _ rfl rfl (fun _ => rfl) (fun hc => (aJ (ae rfl hc) (aJ (ae rfl hc) rfl))) (fun hc => by rw [List.append_nil]; exact tz ⟨ad, cd, kB b ρ a.from_⟩ bst) (fun cz hcz => ?_)
       refine aG rfl rfl (fun hc => bD (ae rfl hc) rfl) (aG rfl rfl (fun hc => bp (ae rfl hc) rfl (fun h => gt hc h)) (aG rfl rfl (fun hc => cK (ae rfl hc) rfl (fun h => gf hc h)) (aU rfl (bp rfl rfl (fun h => gt rfl h)) (aNn ?_))))
       refine ao _ rfl (fun h9 => ?_) (fun h9 => ?_)
       ·skip
        refine aa (aM rfl (aA rfl (bS (bA (an (aa (aU rfl (aX rfl rfl (by omega)) (aM rfl (aNn ?_)))))))))
        refine ⟨[5, 10, 11, 65, 66, 67], [4, 1, 0], [], rfl, ?_⟩
        exact ⟨(m + 1, ⟨ad, cd, kB b ρ a.from_⟩), ⟨hm', rfl⟩, by dsimp only; omega⟩
       ·skip
        refine ar (bA (an (aa (aU rfl (aX rfl rfl (by omega)) (aM rfl (aNn ?_))))))
        refine ⟨[5, 10, 11, 65, 66, 67], [2, 1, 0], [], rfl, ?_⟩
        exact ⟨(m + 1, bst), ⟨hm', rfl⟩, by dsimp only; omega⟩
     ·skip
      refine aR (aS (aS (aZ (an (aSR (aM rfl (aA rfl (aNn (az (FZ1 [] Tryz.results176 rfl ?_))))))))))
      exact ⟨⟨rfl, rfl⟩, _, _, _, rfl, fun h1 h2 => absurd (hy1 h1 h2) hyne⟩
end Go.Proofs.YtahgkiicjohonaaGreat

namespace Go.Sy
open Go.RowKit Go.Lp
def byR (l : List UInt8) : List (List D) := l.map fun u => [.v (.int .u8 u.toNat)]
theorem acX (l : List UInt8) : (byR l).length = l.length := by simp [byR]
section
variable {P : Program} {n : Fr} {env : Env} {ps : List Per} {hp : List Res} {ty : TypeId} {pos : String} {af : Array Edge} {gd : Option (Nat × Bool)} {K : Sta → Prop} {q : Bool}
theorem wc {t : Nat} {S T E : TypeId} {u : TypeDesc} {x : Operand} {b : ByteArray} (hS : P.underlying S = some u) (hT : P.underlying T = some (.slice E)) (hE : P.underlying E = some (.int .u8)) (hx : ev env x = some (true, .string b)) (hb : b.size ≤ maxLen) (ht : fits n (some t) = true)
   (hK : ∀ ad c, K ⟨(t, true, .slice ad b.size c) :: env, Sh (.slice ad b.size c) (.sl (byR b.data.toList)) :: ps, hp⟩) : Eff P n ⟨some t, .convert S T x, ty, pos, af, gd⟩ ⟨env, ps, hp⟩ q K := fun w S' fp a hst he hn => by
 have e1 := he.val hx rfl
 have hrun := Lib.run_convert_string_bytes (P := P) w S T E b hS hT hE
 have hexec : (execOp a.eval ⟨some t, .convert S T x, ty, pos, af, gd⟩).run P w = .ok (.value (.slice (some ⟨w.heap.size, 0, none⟩) b.size (grownCap w b.size 0 E))) (Lib.bytesWorld w E b) := by
   unfold execOp; dsimp only; rw [e1]
   show ((convert S T (.string b)).bind fun r => Sem.pure (Next.value r)).run P w = _
   rw [Sem.run_bind', hrun]; rfl
 rw [hexec]
 have hsz := Lib.bytesWorld_size w E b
 have hbel : Below w.heap.size w (Lib.bytesWorld w E b) := ⟨by unfold Lib.bytesWorld World.freeze; split <;> rfl, by unfold Lib.bytesWorld World.freeze; split <;> rfl, by unfold Lib.bytesWorld World.freeze; split <;> rfl, by omega, mQ _ _ _ _ hrun, fun k hk => Lib.bytesWorld_at_old w E b k hk⟩
 have hst1 := hst.below hbel
 have hS2 : ∀ k, S' k → (S' k ∨ k = w.heap.size) := fun _ h => .inl h
 refine ⟨_, (fun k => S' k ∨ k = w.heap.size), fp, hK (some ⟨w.heap.size, 0, none⟩) (grownCap w b.size 0 E), ⟨fun p hp' => ?_, fun j R hj => R.mono (hst1.res j R hj) (fun _ _ => rfl) (fun _ _ => rfl) hS2, fun j hj k hk => ⟨(hst1.lt j hj k hk).1, fun h => h.elim (hst1.lt j hj k hk).2 fun e => ?_⟩, hst1.dj, fun k hk => hk.elim (hst1.slt k) fun e => by rw [e, hsz]; omega⟩, he.put (g := true) (by rw [hn]; simpa [fits] using ht) _,
   ⟨hbel.os, hbel.tape, hbel.output, hbel.size, hbel.drawn, fun k hk _ => hbel.block k hk, fun _ h => .inl h, fun k hk => hk.elim .inl fun e => .inr (.inr (by omega))⟩, fun k hk => .inl hk, fun _ => hbel⟩
 · rcases List.mem_cons.1 hp' with rfl | h2
   · have hcap : b.size ≤ grownCap w b.size 0 E := grownCap_ge w b.size 0 E
     have hlen : (byR b.data.toList).length = b.size := by rw [acX]; simp
     have := fe.sl (w := Lib.bytesWorld w E b) (S := fun k => S' k ∨ k = w.heap.size) w.heap.size 0 (grownCap w b.size 0 E) 1 (byR b.data.toList) (fun i _ => .int .u8 (b.data.toList.getD i 0).toNat) (.inr rfl) (by rw [hlen]; exact hcap) (grownCap_le_maxLen w b.size 0 E hb)
       (fun i r hi => by simp only [byR, List.getElem?_map, Option.map_eq_some_iff] at hi; obtain ⟨x, _, rfl⟩ := hi; rfl)
       (fun i j r d h1 h2 => by
         simp only [byR, List.getElem?_map, Option.map_eq_some_iff] at h1
         obtain ⟨x, hx', rfl⟩ := h1
         have hi : i < b.size := by have := (List.getElem?_eq_some_iff.1 hx').1; simpa using this
         cases j with
         | succ j => simp at h2
         | zero => refine ⟨?_, rfl⟩; rw [show 0 + i * 1 + 0 = i by omega]; exact Lib.bytesWorld_cell w E b i hi)
       (fun i j r d h1 h2 => by
         simp only [byR, List.getElem?_map, Option.map_eq_some_iff] at h1
         obtain ⟨x, hx', rfl⟩ := h1
         cases j with
         | succ j => simp at h2
         | zero =>
           simp only [List.getElem?_cons_zero, Option.some.injEq] at h2
           subst h2
           have : b.data.toList.getD i 0 = x := by rw [List.getD, hx']; rfl
           rw [this]; exact .v _)
     rwa [hlen] at this
   · exact p.mono (hst1.per p h2) (fun _ _ => rfl) hS2
 · have := (hst.lt j hj k hk).1
   omega
end
theorem acs {l : List UInt8} {k : Nat} {u : UInt8} (h : l[k]? = some u) : (byR l)[k]? = some [.v (.int .u8 u.toNat)] := by unfold byR; rw [List.getElem?_map, h]; rfl
end Go.Sy

namespace Go.Proofs.YtahgkiicjohonaaGreat
open Go.RowKit Go.Lp Go.Sy Go.Lv
open Go.Proofs.Tryz
attribute [local irreducible] aL aB awp aC fwp Quiet
theorem kyT : gV Tryz.prog 9 i6 := aea Tryz.underlying9
theorem wR (l : Sl aF) : Con Tryz.prog 174 [l.val] [ShF aF.row l] [] fun r ps hp => ps = [] ∧ ∃ b, r = .map (some b) ∧ hp = [ft b i6 eI (j2 l.l)] := by
 refine EN1 Tryz.func174 rfl (bQ (.of (aD 0 rfl)) (fun hlen => (aSR (aA rfl (aNn (aSR (LT rfl (fQ (i6) (eI) rfl (fun b1_0 => (aHN ?_))))))))))
 refine aA rfl (aNs (aSR (aM rfl (aU rfl (aW Tryz.underlying28 rfl) (aM rfl (aNn (aq (aQ [3, 9, 10, 11] [0] [0] (fun (k : Nat) s => k ≤ l.l.length ∧ s = ⟨[(3, true, .map (some b1_0)), (9, true, l.val), (10, true, .int .i64 l.l.length), (11, true, .int .i64 k)], [ShF aF.row l], [ft b1_0 i6 eI (j2 (l.l.take k))]⟩) (fun k => l.l.length - k) rfl (⟨0, Nat.zero_le _, rfl⟩) ?_))))))))
 rintro k s ⟨hk, rfl⟩
 refine aSR (aU rfl (bD rfl rfl) (aNs ?_))
 refine ao _ rfl (fun h1 => ?_) (fun h1 => ?_)
 ·skip
  have hk' : k < l.l.length := by simpa using h1
  obtain ⟨a, ha⟩ : ∃ a, l.l[k]? = some a := ⟨l.l[k]'hk', by simp⟩
  have hlt : (l.l.take k).length = k := by rw [List.length_take]; omega
  refine ar (an (aj (aq (aSR (aM rfl (UI Tryz.underlying28 tk62 0 rfl rfl rfl rfl rfl (aI ha) rfl rfl (fun ⟨b4_1, o4_1⟩ => (US 0 tk62 0 rfl rfl rfl rfl rfl (LT rfl (bI (zs := [.string .empty, .slice none 0 0]) (by kernel_rfl) rfl (fun b4_3 => (aHN ?_))))))))))))
  refine aA rfl (aT rfl (bg 1 tk62 rfl rfl rfl rfl (aHK ?_)))
  refine aNn (aSR (aM rfl (UO 0 rfl rfl (UL 1 tk9 rfl rfl rfl rfl (aU rfl (tJ (k := a.name) (v0 := (0 : Int)) 0 Tryz.underlying260 (kyT) (by kernel_rfl) rfl rfl rfl) (aM rfl (aU rfl (bP rfl rfl) (aU rfl (bP rfl rfl) (aA rfl (aA rfl (aNn (aSR (aM rfl (aU rfl (dp rfl) (aNn ?_)))))))))))))))
  refine ao _ rfl (fun h2 => ?_) (fun h2 => ?_)
  ·skip
   have hno : oK (l.l.take k) a.name = none := by simpa using h2
   have hm : gU (j2 (l.l.take k)) a.name (k : Int) = j2 (l.l.take (k + 1)) := by
     funext s
     unfold j2 gU
     rw [List.take_add_one, ha, Option.toList_some, rU, hlt]
     by_cases hs : s = a.name
     · subst hs; rw [if_pos rfl, hno, if_pos rfl]; rfl
     · rw [if_neg hs, if_neg (Ne.symm hs), Option.or_none]
   refine aa (aM rfl (UO 0 rfl rfl (UL 1 tk9 rfl rfl rfl rfl (aM rfl (aT rfl (eN (k := a.name) (v := (k : Int)) 0 Tryz.underlying260 (kyT) rfl rfl rfl rfl (aHK ?_)))))))
   refine bS (bA (an (aa (aU rfl (aX rfl rfl (by omega)) (aM rfl (aNn ?_))))))
   refine ⟨[3, 9, 10, 11], [0], [0], rfl, ?_⟩
   exact ⟨k + 1, ⟨by omega, by rw [← hm]; rfl⟩, by omega⟩
  ·skip
   have hyes : (oK (l.l.take k) a.name).isSome = true := by simpa using h2
   have hm : j2 (l.l.take k) = j2 (l.l.take (k + 1)) := by
     funext s
     unfold j2
     rw [List.take_add_one, ha, Option.toList_some, rU]
     by_cases hs : a.name = s
     · subst hs
       obtain ⟨i, hi⟩ := Option.isSome_iff_exists.1 hyes
       rw [hi]; rfl
     · rw [if_neg hs, Option.or_none]
   refine ar (bA (an (aa (aU rfl (aX rfl rfl (by omega)) (aM rfl (aNn ?_))))))
   refine ⟨[3, 9, 10, 11], [0], [0], rfl, ?_⟩
   exact ⟨k + 1, ⟨by omega, by rw [← hm]; rfl⟩, by omega⟩
 ·skip
  refine aR (aS (aS (aZ (an (aSR (aM rfl (aA rfl (aNn (az (FZ1 [0] Tryz.results174 rfl ?_))))))))))
  exact ⟨rfl, b1_0, rfl, by rw [List.take_of_length_le (by simpa using h1)]; rfl⟩
theorem yV (s : ByteArray) (hs : s.size ≤ maxLen) : Con Tryz.prog 175 [.string s] [] [] fun r _ _ => r = .bool (eQ s) := by
 have hs' : s.size ≤ 9223372036854775807 := hs
 have hlen : (gq s).length = s.size := rfl
 refine EN1 Tryz.func175 rfl (aSR (aA rfl (aNs (aSR (aM rfl ?_)))))
 refine LT rfl (wc Tryz.underlying9 Tryz.underlying67 Tryz.underlying5 rfl (by assumption) rfl (fun a1_1 c1_1 => ?_))
 refine aST ?_
 refine aU rfl (aW Tryz.underlying67 rfl) (aM rfl (aNn (aq ?_)))
 refine aQ [0, 6, 7, 8] [0] [] (fun (k : Nat) st => (k ≤ s.size ∧ ∀ u ∈ (gq s).take k, (decide (33 ≤ u.toNat) && decide (u.toNat ≤ 126)) = true) ∧ st = ⟨[(0, true, .string s), (6, true, .slice a1_1 s.size c1_1), (7, true, .int .i64 s.size), (8, true, .int .i64 k)], [Sh (.slice a1_1 s.size c1_1) (.sl (byR (gq s)))], []⟩) (fun k => s.size - k) rfl (⟨0, ⟨Nat.zero_le _, fun u h => by cases h⟩, rfl⟩) ?_
 rintro k st ⟨⟨hk, hpre⟩, rfl⟩
 refine aSR (aU rfl (bD rfl rfl) (aNs ?_))
 refine ao _ rfl (fun h1 => ?_) (fun h1 => ?_)
 ·skip
  have hk' : k < s.size := by simpa using h1
  obtain ⟨u, hu⟩ : ∃ u, (gq s)[k]? = some u := ⟨_, List.getElem?_eq_getElem (by omega)⟩
  refine ar (an (aj (aq (aSR (UI Tryz.underlying67 tk5 0 rfl rfl rfl rfl rfl (acs hu) rfl rfl (fun ⟨b3_0, o3_0⟩ => ?_))))))
  refine US 0 tk5 0 rfl rfl rfl rfl rfl (aA rfl (aNn (aSR (aM rfl (aU rfl (bD rfl rfl) (aM rfl (aG rfl rfl (fun hc => aP rfl) (aG rfl rfl (fun hc => cJ (ae rfl hc) rfl) (aU rfl (cK rfl rfl (fun h => gf rfl h)) (aNn ?_))))))))))
  refine ao _ rfl (fun h2 => ?_) (fun h2 => ?_)
  ·skip
   refine aSR (aA rfl (aNn (az (cM (bu (bu (cM (bu (FZ1 [] Tryz.results175 rfl (congrArg Value.bool (Eq.symm ?_)))))))))))
   have hb : (decide (33 ≤ u.toNat) && decide (u.toNat ≤ 126)) = false := by simp at h2 ⊢; omega
   unfold eQ
   rw [Bool.and_eq_false_iff]; left
   rw [List.all_eq_false]
   exact ⟨u, List.mem_of_getElem? hu, by rw [hb]; decide⟩
  ·skip
   refine ar (bA (an (aa (aU rfl (aX rfl rfl (by omega)) (aM rfl (aNn ?_))))))
   refine ⟨[0, 6, 7, 8], [0], [], rfl, ?_⟩
   refine ⟨k + 1, ⟨⟨hk', fun v hv => ?_⟩, rfl⟩, by omega⟩
   rw [List.take_add_one, hu, Option.toList_some] at hv
   rcases List.mem_append.1 hv with h | h
   · exact hpre v h
   · rw [List.mem_singleton.1 h]; simp at h2 ⊢; omega
 ·skip
  refine aR (aS (aS (aZ (an (aSR (aM rfl (aU rfl (cj Tryz.underlying9 rfl) (aU rfl (fk rfl rfl) (aM rfl (aG rfl rfl (fun hc => aP rfl) (aG rfl rfl (fun hc => cj Tryz.underlying9 (ae rfl hc)) (aG rfl rfl (fun hc => eF (ae rfl hc) rfl) (aU rfl (bp rfl rfl (fun h => gt rfl h)) (aA rfl (aNn (az ?_))))))))))))))))
  refine FZ1 [] Tryz.results175 rfl (congrArg Value.bool (Eq.symm ?_))
  have hkl : k = s.size := by simp at h1; omega
  rw [hkl, ← hlen, List.take_length] at hpre
  unfold eQ
  rw [List.all_eq_true.2 hpre, Bool.true_and]
  congr 1 <;> simp <;> omega
theorem pk (l : Sl aF) : Con Tryz.prog 107 [l.val] [ShF aF.row l, b7 aF.ok l.l] [] (YN Value.bool fun b => (b = true → VOk l.l) ∧ (iR l.l → b = true)) := by
 refine EN1 Tryz.func107 rfl (aSR (aA rfl (aNs (aSR (aM rfl (aU rfl (aW Tryz.underlying28 rfl) (aU rfl (cJ rfl rfl) (aNn ?_))))))))
 refine ao _ rfl (fun h1 => ?_) (fun h1 => ?_)
 ·skip
  refine aSR (aA rfl (aNn (az (bu (FZ1 [] Tryz.results107 rfl ?_)))))
  exact ⟨⟨rfl, rfl⟩, _, rfl, fun h => absurd h (by decide), fun hv => absurd h1 (by have := hv.len; simp; omega)⟩
 ·skip
  have hle : l.l.length ≤ 4096 := by simp at h1; omega
  refine ar (an (aSR (aM rfl (LT rfl (EC [1] [] rfl (wR l) ?_)))))
  rintro _ _ _ ⟨rfl, bat, rfl, rfl⟩
  refine aST ?_
  refine aA rfl (aNs (aSR (aM rfl (aU rfl (adt 0 Tryz.underlying260 kyT rfl rfl) (aM rfl (aU rfl (aW Tryz.underlying28 rfl) (aU rfl (eG rfl rfl) (aNn ?_))))))))
  refine ao _ rfl (fun h2 => ?_) (fun h2 => ?_)
  ·skip
   refine aSR (aA rfl (aNn (az (bu (FZ1 [] Tryz.results107 rfl ?_)))))
   exact ⟨⟨rfl, rfl⟩, _, rfl, fun h => absurd h (by decide), fun hv => absurd h2 (by rw [(rS l.l).2 hv.nd]; simp)⟩
  ·skip
   have hnd : (l.l.map (·.name)).Nodup := (rS l.l).1 (by simp at h2; omega)
   refine ar (an (aSR (aA rfl (aNs (aj (eH 264 2 ?_))))))
   show awp _ _ _ _ ⟨_, _, [_, _]⟩
   refine aa (aM rfl (aU rfl (aW Tryz.underlying28 rfl) (aM rfl (aNn (aq (aQ [0, 3, 4, 22, 23, 24] [1, 0] [0, 1] (fun (q : Nat × (Value × List dy)) st => VI l.l q.1 q.2.2 ∧ st = ⟨[(0, true, l.val), (3, true, .map (some bat)), (4, true, q.2.1), (22, true, l.val), (23, true, .int .i64 l.l.length), (24, true, .int .i64 q.1)], [ShF aF.row l, b7 aF.ok l.l], [ft bat i6 eI (j2 l.l), aN q.2.1 264 2 (q.2.2.map dy.row)]⟩) (fun q => l.l.length - q.1) rfl (⟨(0, (.slice none 0 0, [])), VI.start l.l, rfl⟩) ?_))))))
   rintro ⟨k, av, gs⟩ st ⟨hI, rfl⟩
   dsimp only at hI ⊢
   have hkl := hI.le
   refine aSR (aU rfl (bD rfl rfl) (aNs ?_))
   refine ao _ rfl (fun h3 => ?_) (fun h3 => ?_)
   ·skip
    have hk' : k < l.l.length := by simpa using h3
    obtain ⟨d, hd⟩ : ∃ d, l.l[k]? = some d := ⟨_, List.getElem?_eq_getElem hk'⟩
    have hdm := List.mem_of_getElem? hd
    refine ar (an (aj (aq (aSR (aM rfl (UI Tryz.underlying28 tk62 0 rfl rfl rfl rfl rfl (aI hd) rfl rfl (fun ⟨b9_1, o9_1⟩ => (US 0 tk62 0 rfl rfl rfl rfl rfl (LT rfl (bI (zs := [.string .empty, .slice none 0 0]) (by kernel_rfl) rfl (fun b9_3 => (aHN ?_))))))))))))
    refine aA rfl (aT rfl (bg 2 tk62 rfl rfl rfl rfl (aHK ?_)))
    refine aNn (aSR (LT rfl (fQ (i6) (vBo) rfl (fun b10_0 => (aHN ?_)))))
    refine aA rfl (aNs (aSR (UO 1 rfl rfl (UL 2 tk27 rfl rfl rfl rfl (aU rfl (aW Tryz.underlying27 rfl) (aM rfl (aNn (aq (bQ (aF.f_parents (Ent.all (f := aF.ok) (.of (aD 2 rfl)) hd)) (fun hpl => ?_))))))))))
    refine aQ [0, 3, 4, 5, 6, 7, 22, 23, 24, 31, 32, 33] [1, 0] [0, 1, 2, 3] (fun (q : Nat × (Value × List dy)) st => VJ l.l k d q.1 q.2.2 ∧ st = ⟨[(0, true, l.val), (3, true, .map (some bat)), (4, true, q.2.1), (5, true, .int .i64 k), (6, true, .pointer (some ⟨b9_3, 0, none⟩)), (7, true, .map (some b10_0)), (22, true, l.val), (23, true, .int .i64 l.l.length), (24, true, .int .i64 k), (31, true, d.parents.val), (32, true, .int .i64 d.parents.l.length), (33, true, .int .i64 q.1)], [ShF aF.row l, b7 aF.ok l.l], [ft bat i6 eI (j2 l.l), aN q.2.1 264 2 (q.2.2.map dy.row), Box b9_3 62 d.vs, ft b10_0 i6 vBo (fc (d.parents.l.take q.1))]⟩) (fun q => d.parents.l.length - q.1) rfl (⟨(0, (av, gs)), hI.into hd, by show _ = (⟨_, _, [_, _, _, ft b10_0 i6 vBo (fc [])]⟩ : Sta); rw [← p6]; rfl⟩) ?_
    rintro ⟨m, av2, gs2⟩ st ⟨hJ, rfl⟩
    dsimp only at hJ ⊢
    have hml := hJ.ml
    have hms := hJ.short
    have hln := hJ.ln
    have hmul : l.l.length * k ≤ 4096 * 4096 := Nat.mul_le_mul hle (by omega)
    refine aSR (aU rfl (bD rfl rfl) (aNs ?_))
    refine ao _ rfl (fun h4 => ?_) (fun h4 => ?_)
    ·skip
     have hm' : m < d.parents.l.length := by simpa using h4
     obtain ⟨p, hp⟩ : ∃ p, d.parents.l[m]? = some p := ⟨_, List.getElem?_eq_getElem hm'⟩
     refine ar (an (aj (aq (aSR (iD true rfl rfl (fun _ => bF Tryz.underlying27 tk9 rfl ((aF.f_parents (Ent.all (f := aF.ok) (.of (aD 1 rfl)) hd))) rfl (aI hp) rfl rfl) (fun h => absurd h (by decide)) (fun ⟨b13_0, o13_0⟩ => (US 0 tk9 0 rfl rfl rfl rfl rfl (aA rfl (aNn (aSR (aM rfl (aM rfl (aU rfl (tJ (k := p) (v0 := (0 : Int)) 0 Tryz.underlying260 (kyT) (by kernel_rfl) rfl rfl rfl) ?_)))))))))))))
     refine aM rfl (aU rfl (bP rfl rfl) (aU rfl (bP rfl rfl) (aA rfl (aA rfl (aNs (aSR (aM rfl (aU rfl (dp rfl) (aM rfl (aG rfl rfl (fun hc => aP rfl) (aG rfl rfl (fun hc => aP rfl) (aG rfl rfl (fun hc => l4 (k := p) (v0 := false) 3 Tryz.underlying173 (kyT) (by kernel_rfl) (ae rfl hc) (ae rfl hc) rfl) (aU rfl (cK rfl rfl (fun h => gf rfl h)) (aNn ?_))))))))))))))
     refine ao _ rfl (fun h5 => ?_) (fun h5 => ?_)
     ·skip
      refine aSR (aA rfl (aNn (az (bu (cM (bu (bu (cM (bu (cM (bu (bu (cM (bu (FZ1 [] Tryz.results107 rfl ?_)))))))))))))))
      exact ⟨⟨rfl, rfl⟩, _, rfl, fun h => absurd h (by decide), fun hv => absurd hm' (by rw [hv.par d hdm]; exact Nat.not_lt_zero _)⟩
     ·skip
      have h5' : (j2 l.l p).isSome = true ∧ (fc (d.parents.l.take m) p).getD false = false := by simpa using h5
      obtain ⟨i, hi⟩ : ∃ i, oK l.l p = some i := by
        have h := h5'.1
        cases hh : oK l.l p with
        | none => simp [j2, hh] at h
        | some i => exact ⟨i, rfl⟩
      have hs : p ∉ d.parents.l.take m := fun hmem => by
        have h := h5'.2
        rw [abT] at h
        simp [hmem] at h
      have hvi : (j2 l.l p).getD 0 = (i : Int) := by simp [j2, hi]
      refine ar (an (aSR (aM rfl (aM rfl (aT rfl (eN (k := p) (v := true) 3 Tryz.underlying173 (kyT) rfl rfl rfl rfl (aHK ?_)))))))
      refine aNn (aa (aM rfl (aM rfl (aM rfl (aU rfl (fZ (l := [(0, .tmp 53), (1, .tmp 54)]) (zs := [.int .i64 0, .int .i64 0]) (pl := [(0, 1), (1, 1)]) (by kernel_rfl) (by kernel_rfl) (by kernel_rfl) rfl rfl rfl) (LT rfl (WL (zs := [.int .i64 0, .int .i64 0]) el262 rfl rfl rfl (.more rfl (.v rfl (.v rfl .nil)) .nil) rfl rfl (fun v18_4 => (aHN ?_)))))))))
      refine aT rfl (cT 1 el262 rfl rfl rfl rfl (ea 4 el262 rfl (by simp)) (by first | assumption | simp) (by rw [List.length_map]; show gs2.length + 1 ≤ _; omega) (gs2.length + 1) (by rw [List.length_map]; rfl) (fun v18_5 c18_5 => ?_))
      refine aHK ?_
      refine aA rfl (bS (bA (an (aa (aU rfl (aX rfl rfl (by omega)) (aM rfl (aNn ?_)))))))
      refine ⟨[0, 3, 4, 5, 6, 7, 22, 23, 24, 31, 32, 33], [1, 0], [0, 1, 2, 3], rfl, ?_⟩
      refine ⟨(m + 1, (.slice v18_5 (gs2.length + 1) c18_5, gs2 ++ [⟨k, i⟩])), ⟨hJ.step hd hp hi hs, ?_⟩, by dsimp only; omega⟩
      show _ = (⟨_, _, [_, aN (.slice v18_5 (gs2.length + 1) c18_5) 264 2 ((gs2 ++ [dy.mk (k : Int) (i : Int)]).map dy.row), _, ft b10_0 i6 vBo (fc (d.parents.l.take (m + 1)))]⟩ : Sta)
      rw [List.take_add_one, hp, Option.toList_some, gJ, List.map_append, List.map_singleton, ← hvi]
      rfl
    ·skip
     refine aR (aS (aS (aZ (an (aj (fl (aF.f_name (Ent.all (f := aF.ok) (.of (aD 1 rfl)) hd)) (fun hnl => (aa (UO 0 rfl rfl (UL 2 tk9 rfl rfl rfl rfl (aU rfl (Q0 rfl (yV d.name hnl)) (aU rfl (dp rfl) (aNn ?_)))))))))))))
     refine ao _ rfl (fun h6 => ?_) (fun h6 => ?_)
     ·skip
      refine aSR (aA rfl (aNn (az (cM (bu (bu (cM (bu (FZ1 [] Tryz.results107 rfl ?_)))))))))
      exact ⟨⟨rfl, rfl⟩, _, rfl, fun h => absurd h (by decide), fun hv => absurd h6 (by rw [hv.nm d hdm]; decide)⟩
     ·skip
      have hnm : eQ d.name = true := by simpa using h6
      refine ar (bA (an (aa (aU rfl (aX rfl rfl (by omega)) (aM rfl (aNn ?_))))))
      refine ⟨[0, 3, 4, 22, 23, 24], [1, 0], [0, 1], rfl, ?_⟩
      exact ⟨(k + 1, (av2, gs2)), ⟨hJ.done hd hnm, rfl⟩, by dsimp only; omega⟩
   ·skip
    have hkn : k = l.l.length := by simp at h3; omega
    have hgl := hI.ln
    have hmul : l.l.length * k ≤ 4096 * 4096 := Nat.mul_le_mul hle (by omega)
    refine aR (aS (aS (aZ (an (aj (fE 1 rfl (fun w S F hh => fL hh) (fun hov => ?_)))))))
    obtain ⟨gad, gcp, rfl⟩ := hov
    rw [List.length_map]
    refine dW 1 rfl (aa (aM rfl (aU rfl (aW Tryz.underlying28 rfl) (aM rfl ?_))))
    refine LT rfl (EC [2] [] rfl (aba l.l.length (by omega) ⟨gad, gcp, gs⟩ (by dsimp only; omega) hI.ok) ?_)
    rintro _ _ _ ⟨⟨rfl, rfl⟩, ad2, k2, c2, rfl, hk2⟩
    refine aST ?_
    refine aU rfl (aW Tryz.underlying25 rfl) (aU rfl (ck rfl rfl) (aA rfl (aNn (az (FZ1 [] Tryz.results107 rfl ?_)))))
    refine ⟨⟨rfl, rfl⟩, _, rfl, fun _ => ⟨hle, hnd, fun x hx => hI.nm x (by rw [hkn, List.take_length]; exact hx)⟩, fun hv => ?_⟩
    rw [hk2 hv.len (hI.si hv)]; rfl
end Go.Proofs.YtahgkiicjohonaaGreat

namespace Go.Sy
open Go.RowKit Go.Lp
def isF (P : Program) (f : FuncId) (c : Code) (nt : Nat) (rs : Array ResultVar) : Prop := ∃ fn, P.funcs[f]? = some fn ∧ fn.body = some c ∧ fn.ntmps = nt ∧ fn.results = rs
theorem Con.enterG {P : Program} {f : FuncId} {fn : Func} {c : Code} {nt : Nat} {args : List Value} {ps : List Per} {hp : List Res} {R : Value → List Per → List Res → Prop} (hf : P.funcs[f]? = some fn) (hb : fn.body = some c) (hn : fn.ntmps = nt) (hle : args.length ≤ nt)
   (h : awp P ⟨nt, none, []⟩ c (gg P fn R) ⟨(List.range args.length).zipWith (fun i v => (i, true, v)) args, ps, hp⟩) : Con P f args ps hp R := by
 subst hn
 exact Con.enter hf hb hle h
structure ElT (P : Program) (E A : TypeId) (α : Type) where
 ag : Bool
 sz : Nat
 zs : List Value
 vs : α → List Value
 row : α → List D
 vl : α → Value
 tE : tyk P E = some (ag, sz)
 tA : tyk P A = some (false, 1)
 uA : P.underlying A = some (.slice E)
 el : elB P A E sz = true
 hz : eO P E = some zs
 h0 : 0 < sz
 hm : sz ≤ 16777216
 hzl : zs.length = sz
 ln : ∀ x, (vs x).length = sz
 rw_ : ∀ x, row x = (vs x).map .v
 ld : ∀ x, rdC ag sz (vs x) 0 = some (vl x)
 ldD : ∀ x, rdD ag sz (row x) 0 = some (vl x)
 cl : ∀ x, (vl x).cells.toList = vs x
 on : ∀ x, (vs x).all (·.oneCell') = true
theorem ElT.one {P : Program} {E A : TypeId} {α : Type} (X : ElT P E A α) (x : α) : ∀ v ∈ X.vs x, v.oneCell' = true := List.all_eq_true.1 (X.on x)
theorem tC : ∀ (cs vs : List Value), (∀ v ∈ vs, v.oneCell' = true) → vs.length = cs.length → wrL vs.length cs 0 vs = some vs
 | [], [], _, _ => rfl
 | _ :: cs, v :: vs, h1, h2 => by
   have := tC cs vs (fun u hu => h1 u (by simp [hu])) (by simpa using h2)
   simp only [List.length_cons, wrL, h1 v (by simp), this]
theorem aa5 (ps : List Per) : ∀ (vs : List Value), (∀ v ∈ vs, v.oneCell' = true) → RC ps vs (vs.map .v)
 | [], _ => .nil
 | v :: vs, h => .v (h v (by simp)) (aa5 ps vs fun u hu => h u (by simp [hu]))
section
variable {P : Program} {E A : TypeId} {α : Type} {n : Fr} {env : Env} {ps : List Per} {hp : List Res} {ty : TypeId} {pos : String} {af : Array Edge} {gd : Option (Nat × Bool)} {K : Sta → Prop} {q : Bool}
theorem adA (X : ElT P E A α) (x : α) {t : Nat} {y : Operand} (hx : evs env [y] = some [X.vl x]) (ht : fits n.size (some t) = true) (hK : ∀ ad, K ⟨(t, true, .slice ad 1 1) :: env, ps, hp ++ [aN (.slice ad 1 1) E X.sz [X.row x]]⟩) :
   Eff P n ⟨some t, .buildSlice A 1 #[(0, y)], ty, pos, af, gd⟩ ⟨env, ps, hp⟩ q K := by
 have hzl := X.hzl
 refine ab7 (l := [(0, y)]) (zs := X.zs) (rows := [X.row x]) (cs := X.vs x) (by rw [hzl]; exact X.el) X.hz (by rw [hzl]; exact X.h0) (by decide) (by rw [hzl, Nat.one_mul]; exact X.hm) rfl hx ?_ ?_ rfl ht (by rw [hzl]; exact hK)
 · show (match wrL X.zs.length (X.zs ++ []) (0 * X.zs.length) (X.vl x).cells.toList with | some c => bld _ c [] | none => none) = _
   rw [X.cl, List.append_nil, Nat.zero_mul, hzl, ← X.ln x, tC _ _ (X.one x) (by rw [X.ln, hzl])]; rfl
 · have h := RCs.cons (ps := ps) (sz := X.zs.length) (by rw [hzl]; exact X.ln x) (aa5 ps (X.vs x) (X.one x)) .nil
   rw [List.append_nil, ← X.rw_ x] at h
   exact h
theorem ElT.rl (X : ElT P E A α) (x : α) : (X.row x).length = X.sz := by rw [X.rw_, List.length_map, X.ln]
theorem ElT.put (X : ElT P E A α) (x : α) : wrL X.sz X.zs 0 (X.vl x).cells.toList = some (X.vs x) := by
 rw [X.cl, ← X.ln x, tC _ _ (X.one x) (by rw [X.ln, X.hzl])]
end
end Go.Sy

