/- Parts of the proof, in build order. No condition. -/
import Derived.Test.YtgmiihmahaahiaaGreatDoorQb04
import Derived.Test.YtgmiihmahaahiaaGreatDoorQb03
set_option linter.unusedSimpArgs false
set_option linter.unusedVariables false
set_option maxHeartbeats 1000000
set_option maxRecDepth 20000
namespace Go.Proofs.YtgmiihmahaahiaaGreatDoor
open Go.RowKit Go.Lp Go.Sy
open Go.Proofs.Tryz
attribute [local irreducible] aL aB awp aC fwp
theorem tk221 : tyk Tryz.prog 221 = some (false, 1) := by kernel_rfl
theorem j0 (l : Sl bM) (F : FuncId) (caps : List Value) (p q : Per) (Ψ : bM → Bool → Prop) (hF : bI Tryz.prog F = true) (h : ∀ a ∈ l.l, Con Tryz.prog F (a.val :: caps) [p, q] [] (YN Value.bool (Ψ a))) : Con Tryz.prog 270 [l.val, .func (.func F) #[] caps.toArray] [ShF bM.row l, p, q] []
   (YN (fun z : Int => .int .i64 z) (fun z => (z ≥ 0 → ∃ a ∈ l.l, Ψ a true) ∧ (¬ z ≥ 0 → ∀ a ∈ l.l, Ψ a false))) := by
 refine Con.enter Tryz.func270 rfl (by simp [Tryz.ntmps270]) ?_
 show awp _ _ _ _ ⟨[(0, true, _), (1, true, _)], _, _⟩
 refine bf (.of (an 0 rfl)) (fun hlen => ?_)
 refine aSR (aA rfl (aNs (aSR (aM rfl (aU rfl (bq Tryz.underlying50 rfl) (aM rfl (aNn (ax ?_))))))))
 refine aZ [0, 1, 7, 8] [2, 1, 0] [] (fun (k : Nat) s => (k ≤ l.l.length ∧ ∀ a ∈ l.l.take k, Ψ a false) ∧ s = ⟨[(0, true, l.val), (1, true, .func (.func F) #[] caps.toArray), (7, true, .int .i64 l.l.length), (8, true, .int .i64 k)], [ShF bM.row l, p, q], []⟩) (fun k => l.l.length - k) rfl (⟨0, ⟨Nat.zero_le _, fun a ha => by cases ha⟩, rfl⟩) ?_
 rintro k s ⟨⟨hk, hno⟩, rfl⟩
 refine aSR (aU rfl (bJ rfl rfl) (aNs ?_))
 refine ah _ rfl (fun h1 => ?_) (fun h1 => ?_)
 ·skip
  have hk' : k < l.l.length := by simpa using h1
  obtain ⟨a, ha⟩ : ∃ a, l.l[k]? = some a := ⟨l.l[k]'hk', by simp⟩
  refine au (aw (az (ax (aSR (aM rfl (aA rfl (aNn (aSR (aM rfl (aM rfl (aM rfl ?_)))))))))))
  refine cF true rfl rfl (fun _ => av Tryz.underlying50 tk85 rfl ((.of (an 0 rfl))) rfl (aS ha) rfl rfl) (fun h => absurd h (by decide)) (fun ⟨b4_3, o4_3⟩ => ?_)
  refine aU rfl (aR (o := 0) tk85 rfl (an 0 rfl) rfl rfl) ?_
  refine aQ [1, 0] (false) hF true rfl rfl (fun _ => rfl) (fun hc => rfl) (fun hc => h a (List.mem_of_getElem? ha)) (fun c hc => ?_)
  refine aNn ?_
  refine ah _ rfl (fun h2 => ?_) (fun h2 => ?_)
  ·skip
   refine aSR (aM rfl (aA rfl (aNn (aj (bC (aO (aO (bC (aO ?_)))))))))
   refine bc [] [] rfl Tryz.results270 rfl ?_ (.inr rfl)
   exact ⟨⟨rfl, rfl⟩, _, rfl, fun _ => ⟨a, List.mem_of_getElem? ha, h2 ▸ hc rfl⟩, fun hz => (hz (Int.natCast_nonneg k)).elim⟩
  ·skip
   refine au (bL (aw (ai ?_)))
   refine aU rfl (bB rfl rfl (by omega)) ?_
   refine aM rfl (aNn ?_)
   refine ⟨[0, 1, 7, 8], [2, 1, 0], [], rfl, ?_⟩
   refine ⟨k + 1, ⟨⟨by omega, ?_⟩, rfl⟩, by omega⟩
   intro y hy
   rw [List.take_add_one, ha, List.mem_append] at hy
   rcases hy with hy | hy
   · exact hno y hy
   · simp at hy; subst hy; exact h2 ▸ hc rfl
 ·skip
  refine bg (bj (bj (bz (aw (aSR (aA rfl (aNn (aj ?_))))))))
  refine bc [] [] rfl Tryz.results270 rfl ?_ (.inr rfl)
  refine ⟨⟨rfl, rfl⟩, _, rfl, fun hz => absurd hz (by decide), fun _ => ?_⟩
  rw [List.take_of_length_le (by simpa using h1)] at hno; exact hno
theorem jM (l : Sl bM) (F : FuncId) (caps : List Value) (p q : Per) (Ψ : bM → Bool → Prop) (hF : bI Tryz.prog F = true) (h : ∀ a ∈ l.l, Con Tryz.prog F (a.val :: caps) [p, q] [] (YN Value.bool (Ψ a))) : Con Tryz.prog 222 [l.val, .func (.func F) #[] caps.toArray] [ShF bM.row l, p, q] []
   (YN Value.bool (fun b => (b = true → ∃ a ∈ l.l, Ψ a true) ∧ (b = false → ∀ a ∈ l.l, Ψ a false))) := by
 refine Con.enter Tryz.func222 rfl (by simp [Tryz.ntmps222]) ?_
 show awp _ _ _ _ ⟨[(0, true, _), (1, true, _)], _, _⟩
 refine aSR (aA rfl (aNn (aSR (aM rfl (aM rfl ?_)))))
 refine al (q := true) rfl (bF [2, 1, 0] [] (by kernel_rfl) rfl rfl rfl rfl (j0 l F caps p q Ψ hF h) ?_)
 rintro _ _ _ ⟨⟨rfl, rfl⟩, z, rfl, hz⟩
 refine cB (by (try simp only [nM, nN]); rfl) (by (try simp only [aV, place, Nat.reduceBEq, if_true, if_false, reduceIte, Nat.reduceAdd, nW]); rfl) ?_
 refine aU rfl (cQ rfl rfl) (aA rfl (aNn (aj ?_)))
 refine bc [] [] rfl Tryz.results222 rfl ?_ (.inr rfl)
 exact ⟨⟨rfl, rfl⟩, _, rfl, fun hb => hz.1 (by simpa using hb), fun hb => hz.2 (by simpa using hb)⟩
theorem iQ (b : Nat) (F : FuncId) (caps : List Value) (p : Per) (a : bM) (Φ : Prop) (hF : bI Tryz.prog F = true) (h : Con Tryz.prog F (a.val :: caps) [p] [] (YB Φ)) : Con Tryz.prog 223 [a.val, .pointer (some ⟨b, 0, none⟩)] [At b 0 [.v (.func (.func F) #[] caps.toArray)], p] []
   (YN Value.bool (fun b => b = false → Φ)) := by
 refine Con.enter Tryz.func223 rfl (by simp [Tryz.ntmps223]) ?_
 show awp _ _ _ _ ⟨[(0, true, _), (1, true, _)], _, _⟩
 refine aSR ?_
 refine al (q := true) rfl (bO rfl rfl rfl (fun b0_0 => ?_))
 refine aH (by (try simp only [nM, nN]); rfl) ?_
 refine aA rfl (aNn (aSR (aU rfl (aK (o := 0) tk221 rfl (.of (an 0 rfl)) rfl) (aU rfl (ae 0 tk85 rfl rfl rfl) ?_))))
 refine aQ [0] (false) hF true rfl rfl (fun _ => rfl) (fun hc => rfl) (fun hc => h) (fun c hc => ?_)
 refine aU rfl (cm rfl) (aA rfl (aNn (aj ?_)))
 refine bc [] [] rfl Tryz.results223 rfl ?_ (.inr rfl)
 exact ⟨⟨rfl, rfl⟩, _, rfl, fun hb => hc rfl (by simpa using hb)⟩
theorem jy (l : Sl bM) (F : FuncId) (caps : List Value) (p : Per) (Φ : bM → Prop) (hF : bI Tryz.prog F = true) (h : ∀ a ∈ l.l, Con Tryz.prog F (a.val :: caps) [p] [] (YB (Φ a))) : Con Tryz.prog 130 [l.val, .func (.func F) #[] caps.toArray] [ShF bM.row l, p] []
   (YB (∀ a ∈ l.l, Φ a)) := by
 refine Con.enter Tryz.func130 rfl (by simp [Tryz.ntmps130]) ?_
 show awp _ _ _ _ ⟨[(0, true, _), (1, true, _)], _, _⟩
 refine aSR ?_
 refine al (q := true) rfl (bO rfl rfl rfl (fun b0_0 => ?_))
 refine aH (by (try simp only [nM, nN]); rfl) ?_
 refine aA rfl (aNs (bT 0 rfl rfl ?_))
 show awp _ _ _ _ ⟨_, At _ 0 _ :: _, _⟩
 refine ai (aM rfl (aU rfl (dn (l := [.tmp 3]) rfl) ?_))
 refine aQ (caps := []) [1, 2, 0] (false) (by kernel_rfl) true rfl rfl (fun _ => rfl) (fun hc => rfl) (fun hc => by rw [List.append_nil]; exact jM l 223 [.pointer (some ⟨b0_0, 0, none⟩)] (At b0_0 0 [.v (.func (.func F) #[] caps.toArray)]) p (fun a b => b = false → Φ a) (by kernel_rfl) (fun a ha => iQ b0_0 F caps p a (Φ a) hF (h a ha))) (fun c hc => ?_)
 refine aU rfl (cm rfl) (aA rfl (aNn (aj ?_)))
 refine bc [] [] rfl Tryz.results130 rfl ?_ (.inr rfl)
 exact ⟨⟨rfl, rfl⟩, _, rfl, fun hb a ha => (hc rfl).2 (by simpa using hb) a ha rfl⟩
theorem tk227 : tyk Tryz.prog 227 = some (false, 1) := by kernel_rfl
theorem kD (l : Sl bu) (F : FuncId) (caps : List Value) (p q : Per) (Ψ : bu → Bool → Prop) (hF : bI Tryz.prog F = true) (h : ∀ a ∈ l.l, Con Tryz.prog F (a.val :: caps) [p, q] [] (YN Value.bool (Ψ a))) : Con Tryz.prog 271 [l.val, .func (.func F) #[] caps.toArray] [ShF bu.row l, p, q] []
   (YN (fun z : Int => .int .i64 z) (fun z => (z ≥ 0 → ∃ a ∈ l.l, Ψ a true) ∧ (¬ z ≥ 0 → ∀ a ∈ l.l, Ψ a false))) := by
 refine Con.enter Tryz.func271 rfl (by simp [Tryz.ntmps271]) ?_
 show awp _ _ _ _ ⟨[(0, true, _), (1, true, _)], _, _⟩
 refine bf (.of (an 0 rfl)) (fun hlen => ?_)
 refine aSR (aA rfl (aNs (aSR (aM rfl (aU rfl (bq Tryz.underlying51 rfl) (aM rfl (aNn (ax ?_))))))))
 refine aZ [0, 1, 7, 8] [2, 1, 0] [] (fun (k : Nat) s => (k ≤ l.l.length ∧ ∀ a ∈ l.l.take k, Ψ a false) ∧ s = ⟨[(0, true, l.val), (1, true, .func (.func F) #[] caps.toArray), (7, true, .int .i64 l.l.length), (8, true, .int .i64 k)], [ShF bu.row l, p, q], []⟩) (fun k => l.l.length - k) rfl (⟨0, ⟨Nat.zero_le _, fun a ha => by cases ha⟩, rfl⟩) ?_
 rintro k s ⟨⟨hk, hno⟩, rfl⟩
 refine aSR (aU rfl (bJ rfl rfl) (aNs ?_))
 refine ah _ rfl (fun h1 => ?_) (fun h1 => ?_)
 ·skip
  have hk' : k < l.l.length := by simpa using h1
  obtain ⟨a, ha⟩ : ∃ a, l.l[k]? = some a := ⟨l.l[k]'hk', by simp⟩
  refine au (aw (az (ax (aSR (aM rfl (aA rfl (aNn (aSR (aM rfl (aM rfl (aM rfl ?_)))))))))))
  refine cF true rfl rfl (fun _ => av Tryz.underlying51 tk63 rfl ((.of (an 0 rfl))) rfl (aS ha) rfl rfl) (fun h => absurd h (by decide)) (fun ⟨b4_3, o4_3⟩ => ?_)
  refine aU rfl (aR (o := 0) tk63 rfl (an 0 rfl) rfl rfl) ?_
  refine aQ [1, 0] (false) hF true rfl rfl (fun _ => rfl) (fun hc => rfl) (fun hc => h a (List.mem_of_getElem? ha)) (fun c hc => ?_)
  refine aNn ?_
  refine ah _ rfl (fun h2 => ?_) (fun h2 => ?_)
  ·skip
   refine aSR (aM rfl (aA rfl (aNn (aj (bC (aO (aO (bC (aO ?_)))))))))
   refine bc [] [] rfl Tryz.results271 rfl ?_ (.inr rfl)
   exact ⟨⟨rfl, rfl⟩, _, rfl, fun _ => ⟨a, List.mem_of_getElem? ha, h2 ▸ hc rfl⟩, fun hz => (hz (Int.natCast_nonneg k)).elim⟩
  ·skip
   refine au (bL (aw (ai ?_)))
   refine aU rfl (bB rfl rfl (by omega)) ?_
   refine aM rfl (aNn ?_)
   refine ⟨[0, 1, 7, 8], [2, 1, 0], [], rfl, ?_⟩
   refine ⟨k + 1, ⟨⟨by omega, ?_⟩, rfl⟩, by omega⟩
   intro y hy
   rw [List.take_add_one, ha, List.mem_append] at hy
   rcases hy with hy | hy
   · exact hno y hy
   · simp at hy; subst hy; exact h2 ▸ hc rfl
 ·skip
  refine bg (bj (bj (bz (aw (aSR (aA rfl (aNn (aj ?_))))))))
  refine bc [] [] rfl Tryz.results271 rfl ?_ (.inr rfl)
  refine ⟨⟨rfl, rfl⟩, _, rfl, fun hz => absurd hz (by decide), fun _ => ?_⟩
  rw [List.take_of_length_le (by simpa using h1)] at hno; exact hno
theorem kq (l : Sl bu) (F : FuncId) (caps : List Value) (p q : Per) (Ψ : bu → Bool → Prop) (hF : bI Tryz.prog F = true) (h : ∀ a ∈ l.l, Con Tryz.prog F (a.val :: caps) [p, q] [] (YN Value.bool (Ψ a))) : Con Tryz.prog 224 [l.val, .func (.func F) #[] caps.toArray] [ShF bu.row l, p, q] []
   (YN Value.bool (fun b => (b = true → ∃ a ∈ l.l, Ψ a true) ∧ (b = false → ∀ a ∈ l.l, Ψ a false))) := by
 refine Con.enter Tryz.func224 rfl (by simp [Tryz.ntmps224]) ?_
 show awp _ _ _ _ ⟨[(0, true, _), (1, true, _)], _, _⟩
 refine aSR (aA rfl (aNn (aSR (aM rfl (aM rfl ?_)))))
 refine al (q := true) rfl (bF [2, 1, 0] [] (by kernel_rfl) rfl rfl rfl rfl (kD l F caps p q Ψ hF h) ?_)
 rintro _ _ _ ⟨⟨rfl, rfl⟩, z, rfl, hz⟩
 refine cB (by (try simp only [nM, nN]); rfl) (by (try simp only [aV, place, Nat.reduceBEq, if_true, if_false, reduceIte, Nat.reduceAdd, nW]); rfl) ?_
 refine aU rfl (cQ rfl rfl) (aA rfl (aNn (aj ?_)))
 refine bc [] [] rfl Tryz.results224 rfl ?_ (.inr rfl)
 exact ⟨⟨rfl, rfl⟩, _, rfl, fun hb => hz.1 (by simpa using hb), fun hb => hz.2 (by simpa using hb)⟩
theorem iZ (b : Nat) (F : FuncId) (caps : List Value) (p : Per) (a : bu) (Φ : Prop) (hF : bI Tryz.prog F = true) (h : Con Tryz.prog F (a.val :: caps) [p] [] (YB Φ)) : Con Tryz.prog 225 [a.val, .pointer (some ⟨b, 0, none⟩)] [At b 0 [.v (.func (.func F) #[] caps.toArray)], p] []
   (YN Value.bool (fun b => b = false → Φ)) := by
 refine Con.enter Tryz.func225 rfl (by simp [Tryz.ntmps225]) ?_
 show awp _ _ _ _ ⟨[(0, true, _), (1, true, _)], _, _⟩
 refine aSR ?_
 refine al (q := true) rfl (bO rfl rfl rfl (fun b0_0 => ?_))
 refine aH (by (try simp only [nM, nN]); rfl) ?_
 refine aA rfl (aNn (aSR (aU rfl (aK (o := 0) tk227 rfl (.of (an 0 rfl)) rfl) (aU rfl (ae 0 tk63 rfl rfl rfl) ?_))))
 refine aQ [0] (false) hF true rfl rfl (fun _ => rfl) (fun hc => rfl) (fun hc => h) (fun c hc => ?_)
 refine aU rfl (cm rfl) (aA rfl (aNn (aj ?_)))
 refine bc [] [] rfl Tryz.results225 rfl ?_ (.inr rfl)
 exact ⟨⟨rfl, rfl⟩, _, rfl, fun hb => hc rfl (by simpa using hb)⟩
theorem jS (l : Sl bu) (F : FuncId) (caps : List Value) (p : Per) (Φ : bu → Prop) (hF : bI Tryz.prog F = true) (h : ∀ a ∈ l.l, Con Tryz.prog F (a.val :: caps) [p] [] (YB (Φ a))) : Con Tryz.prog 136 [l.val, .func (.func F) #[] caps.toArray] [ShF bu.row l, p] []
   (YB (∀ a ∈ l.l, Φ a)) := by
 refine Con.enter Tryz.func136 rfl (by simp [Tryz.ntmps136]) ?_
 show awp _ _ _ _ ⟨[(0, true, _), (1, true, _)], _, _⟩
 refine aSR ?_
 refine al (q := true) rfl (bO rfl rfl rfl (fun b0_0 => ?_))
 refine aH (by (try simp only [nM, nN]); rfl) ?_
 refine aA rfl (aNs (bT 0 rfl rfl ?_))
 show awp _ _ _ _ ⟨_, At _ 0 _ :: _, _⟩
 refine ai (aM rfl (aU rfl (dn (l := [.tmp 3]) rfl) ?_))
 refine aQ (caps := []) [1, 2, 0] (false) (by kernel_rfl) true rfl rfl (fun _ => rfl) (fun hc => rfl) (fun hc => by rw [List.append_nil]; exact kq l 225 [.pointer (some ⟨b0_0, 0, none⟩)] (At b0_0 0 [.v (.func (.func F) #[] caps.toArray)]) p (fun a b => b = false → Φ a) (by kernel_rfl) (fun a ha => iZ b0_0 F caps p a (Φ a) hF (h a ha))) (fun c hc => ?_)
 refine aU rfl (cm rfl) (aA rfl (aNn (aj ?_)))
 refine bc [] [] rfl Tryz.results136 rfl ?_ (.inr rfl)
 exact ⟨⟨rfl, rfl⟩, _, rfl, fun hb a ha => (hc rfl).2 (by simpa using hb) a ha rfl⟩
theorem tk237 : tyk Tryz.prog 237 = some (false, 1) := by kernel_rfl
theorem oB (l : Sl fM) (F : FuncId) (caps : List Value) (p q : Per) (Ψ : fM → Bool → Prop) (hF : bI Tryz.prog F = true) (h : ∀ a ∈ l.l, Con Tryz.prog F (a.val :: caps) [p, q] [] (YN Value.bool (Ψ a))) : Con Tryz.prog 276 [l.val, .func (.func F) #[] caps.toArray] [ShF fM.row l, p, q] []
   (YN (fun z : Int => .int .i64 z) (fun z => (z ≥ 0 → ∃ a ∈ l.l, Ψ a true) ∧ (¬ z ≥ 0 → ∀ a ∈ l.l, Ψ a false))) := by
 refine Con.enter Tryz.func276 rfl (by simp [Tryz.ntmps276]) ?_
 show awp _ _ _ _ ⟨[(0, true, _), (1, true, _)], _, _⟩
 refine bf (.of (an 0 rfl)) (fun hlen => ?_)
 refine aSR (aA rfl (aNs (aSR (aM rfl (aU rfl (bq Tryz.underlying52 rfl) (aM rfl (aNn (ax ?_))))))))
 refine aZ [0, 1, 7, 8] [2, 1, 0] [] (fun (k : Nat) s => (k ≤ l.l.length ∧ ∀ a ∈ l.l.take k, Ψ a false) ∧ s = ⟨[(0, true, l.val), (1, true, .func (.func F) #[] caps.toArray), (7, true, .int .i64 l.l.length), (8, true, .int .i64 k)], [ShF fM.row l, p, q], []⟩) (fun k => l.l.length - k) rfl (⟨0, ⟨Nat.zero_le _, fun a ha => by cases ha⟩, rfl⟩) ?_
 rintro k s ⟨⟨hk, hno⟩, rfl⟩
 refine aSR (aU rfl (bJ rfl rfl) (aNs ?_))
 refine ah _ rfl (fun h1 => ?_) (fun h1 => ?_)
 ·skip
  have hk' : k < l.l.length := by simpa using h1
  obtain ⟨a, ha⟩ : ∃ a, l.l[k]? = some a := ⟨l.l[k]'hk', by simp⟩
  refine au (aw (az (ax (aSR (aM rfl (aA rfl (aNn (aSR (aM rfl (aM rfl (aM rfl ?_)))))))))))
  refine cF true rfl rfl (fun _ => av Tryz.underlying52 tk182 rfl ((.of (an 0 rfl))) rfl (aS ha) rfl rfl) (fun h => absurd h (by decide)) (fun ⟨b4_3, o4_3⟩ => ?_)
  refine aU rfl (aR (o := 0) tk182 rfl (an 0 rfl) rfl rfl) ?_
  refine aQ [1, 0] (false) hF true rfl rfl (fun _ => rfl) (fun hc => rfl) (fun hc => h a (List.mem_of_getElem? ha)) (fun c hc => ?_)
  refine aNn ?_
  refine ah _ rfl (fun h2 => ?_) (fun h2 => ?_)
  ·skip
   refine aSR (aM rfl (aA rfl (aNn (aj (bC (aO (aO (bC (aO ?_)))))))))
   refine bc [] [] rfl Tryz.results276 rfl ?_ (.inr rfl)
   exact ⟨⟨rfl, rfl⟩, _, rfl, fun _ => ⟨a, List.mem_of_getElem? ha, h2 ▸ hc rfl⟩, fun hz => (hz (Int.natCast_nonneg k)).elim⟩
  ·skip
   refine au (bL (aw (ai ?_)))
   refine aU rfl (bB rfl rfl (by omega)) ?_
   refine aM rfl (aNn ?_)
   refine ⟨[0, 1, 7, 8], [2, 1, 0], [], rfl, ?_⟩
   refine ⟨k + 1, ⟨⟨by omega, ?_⟩, rfl⟩, by omega⟩
   intro y hy
   rw [List.take_add_one, ha, List.mem_append] at hy
   rcases hy with hy | hy
   · exact hno y hy
   · simp at hy; subst hy; exact h2 ▸ hc rfl
 ·skip
  refine bg (bj (bj (bz (aw (aSR (aA rfl (aNn (aj ?_))))))))
  refine bc [] [] rfl Tryz.results276 rfl ?_ (.inr rfl)
  refine ⟨⟨rfl, rfl⟩, _, rfl, fun hz => absurd hz (by decide), fun _ => ?_⟩
  rw [List.take_of_length_le (by simpa using h1)] at hno; exact hno
theorem oL (l : Sl fM) (F : FuncId) (caps : List Value) (p q : Per) (Ψ : fM → Bool → Prop) (hF : bI Tryz.prog F = true) (h : ∀ a ∈ l.l, Con Tryz.prog F (a.val :: caps) [p, q] [] (YN Value.bool (Ψ a))) : Con Tryz.prog 229 [l.val, .func (.func F) #[] caps.toArray] [ShF fM.row l, p, q] []
   (YN Value.bool (fun b => (b = true → ∃ a ∈ l.l, Ψ a true) ∧ (b = false → ∀ a ∈ l.l, Ψ a false))) := by
 refine Con.enter Tryz.func229 rfl (by simp [Tryz.ntmps229]) ?_
 show awp _ _ _ _ ⟨[(0, true, _), (1, true, _)], _, _⟩
 refine aSR (aA rfl (aNn (aSR (aM rfl (aM rfl ?_)))))
 refine al (q := true) rfl (bF [2, 1, 0] [] (by kernel_rfl) rfl rfl rfl rfl (oB l F caps p q Ψ hF h) ?_)
 rintro _ _ _ ⟨⟨rfl, rfl⟩, z, rfl, hz⟩
 refine cB (by (try simp only [nM, nN]); rfl) (by (try simp only [aV, place, Nat.reduceBEq, if_true, if_false, reduceIte, Nat.reduceAdd, nW]); rfl) ?_
 refine aU rfl (cQ rfl rfl) (aA rfl (aNn (aj ?_)))
 refine bc [] [] rfl Tryz.results229 rfl ?_ (.inr rfl)
 exact ⟨⟨rfl, rfl⟩, _, rfl, fun hb => hz.1 (by simpa using hb), fun hb => hz.2 (by simpa using hb)⟩
theorem lH (b : Nat) (F : FuncId) (caps : List Value) (p : Per) (a : fM) (Φ : Prop) (hF : bI Tryz.prog F = true) (h : Con Tryz.prog F (a.val :: caps) [p] [] (YB Φ)) : Con Tryz.prog 230 [a.val, .pointer (some ⟨b, 0, none⟩)] [At b 0 [.v (.func (.func F) #[] caps.toArray)], p] []
   (YN Value.bool (fun b => b = false → Φ)) := by
 refine Con.enter Tryz.func230 rfl (by simp [Tryz.ntmps230]) ?_
 show awp _ _ _ _ ⟨[(0, true, _), (1, true, _)], _, _⟩
 refine aSR ?_
 refine al (q := true) rfl (bO rfl rfl rfl (fun b0_0 => ?_))
 refine aH (by (try simp only [nM, nN]); rfl) ?_
 refine aA rfl (aNn (aSR (aU rfl (aK (o := 0) tk237 rfl (.of (an 0 rfl)) rfl) (aU rfl (ae 0 tk182 rfl rfl rfl) ?_))))
 refine aQ [0] (false) hF true rfl rfl (fun _ => rfl) (fun hc => rfl) (fun hc => h) (fun c hc => ?_)
 refine aU rfl (cm rfl) (aA rfl (aNn (aj ?_)))
 refine bc [] [] rfl Tryz.results230 rfl ?_ (.inr rfl)
 exact ⟨⟨rfl, rfl⟩, _, rfl, fun hb => hc rfl (by simpa using hb)⟩
theorem mx (l : Sl fM) (F : FuncId) (caps : List Value) (p : Per) (Φ : fM → Prop) (hF : bI Tryz.prog F = true) (h : ∀ a ∈ l.l, Con Tryz.prog F (a.val :: caps) [p] [] (YB (Φ a))) : Con Tryz.prog 145 [l.val, .func (.func F) #[] caps.toArray] [ShF fM.row l, p] []
   (YB (∀ a ∈ l.l, Φ a)) := by
 refine Con.enter Tryz.func145 rfl (by simp [Tryz.ntmps145]) ?_
 show awp _ _ _ _ ⟨[(0, true, _), (1, true, _)], _, _⟩
 refine aSR ?_
 refine al (q := true) rfl (bO rfl rfl rfl (fun b0_0 => ?_))
 refine aH (by (try simp only [nM, nN]); rfl) ?_
 refine aA rfl (aNs (bT 0 rfl rfl ?_))
 show awp _ _ _ _ ⟨_, At _ 0 _ :: _, _⟩
 refine ai (aM rfl (aU rfl (dn (l := [.tmp 3]) rfl) ?_))
 refine aQ (caps := []) [1, 2, 0] (false) (by kernel_rfl) true rfl rfl (fun _ => rfl) (fun hc => rfl) (fun hc => by rw [List.append_nil]; exact oL l 230 [.pointer (some ⟨b0_0, 0, none⟩)] (At b0_0 0 [.v (.func (.func F) #[] caps.toArray)]) p (fun a b => b = false → Φ a) (by kernel_rfl) (fun a ha => lH b0_0 F caps p a (Φ a) hF (h a ha))) (fun c hc => ?_)
 refine aU rfl (cm rfl) (aA rfl (aNn (aj ?_)))
 refine bc [] [] rfl Tryz.results145 rfl ?_ (.inr rfl)
 exact ⟨⟨rfl, rfl⟩, _, rfl, fun hb a ha => (hc rfl).2 (by simpa using hb) a ha rfl⟩
theorem mn (l : Sl fM) (F : FuncId) (caps : List Value) (p : Per) (hF : bI Tryz.prog F = true) (h : ∀ a ∈ l.l, ∀ b ∈ l.l, Con Tryz.prog F (a.val :: b.val :: caps) [p] [] (YB True)) : Con Tryz.prog 146 [l.val, .func (.func F) #[] caps.toArray] [ShF fM.row l, p] [] (YB True) := by
 refine Con.enter Tryz.func146 rfl (by simp [Tryz.ntmps146]) ?_
 show awp _ _ _ _ ⟨[(0, true, _), (1, true, _)], _, _⟩
 refine bf (.of (an 0 rfl)) (fun hlen => ?_)
 refine aSR (aA rfl (aNs (aSR ?_)))
 refine aA rfl (aNn (ax (aZ [0, 1, 5] [1, 0] [] (fun (k : Nat) s => k ≤ l.l.length ∧ s = ⟨[(0, true, l.val), (1, true, .func (.func F) #[] caps.toArray), (5, true, .int .i64 ((k + 1 : Nat) : Int))], [ShF fM.row l, p], []⟩) (fun k => l.l.length - k) rfl (⟨0, Nat.zero_le _, rfl⟩) ?_)))
 rintro k s ⟨hk, rfl⟩
 refine az (aSR (aM rfl (aM rfl (aU rfl (bq Tryz.underlying52 rfl) (aU rfl (bJ rfl rfl) (aNn ?_))))))
 refine ah _ rfl (fun h1 => ?_) (fun h1 => ?_)
 ·skip
  have hk' : k + 1 < l.l.length := by simp at h1; omega
  have ha := bY (l := l.l) (i := k) (by omega)
  have hb := bY (l := l.l) (i := k + 1) hk'
  refine au (aw (az (ax (az ?_))))
  refine bn [] (by kernel_rfl) ?_
  show aB _ _ _ _ _ 12 #[false, false, false, false, false, false, false, false, false, false, false, false] _
  refine bU 0 rfl (by kernel_rfl) rfl (aq rfl) ?_
  refine bU 1 rfl (by kernel_rfl) rfl (aq rfl) ?_
  refine bU 2 rfl (by kernel_rfl) rfl (aq rfl) ?_
  refine bU 3 rfl (by kernel_rfl) rfl (dT rfl rfl (by omega)) ?_
  refine dI 4 rfl (by kernel_rfl) true rfl rfl (fun _ => av Tryz.underlying52 tk182 rfl ((.of (an 0 rfl))) rfl (aS ha) (by omega) rfl) (fun h => absurd h (by decide)) (fun ⟨b4_4, o4_4⟩ => ?_)
  refine bU 5 rfl (by kernel_rfl) rfl (aR (o := 0) tk182 rfl (an 0 rfl) rfl rfl) ?_
  refine bU 6 rfl (by kernel_rfl) rfl (aq rfl) ?_
  refine bU 7 rfl (by kernel_rfl) rfl (aq rfl) ?_
  refine dI 8 rfl (by kernel_rfl) true rfl rfl (fun _ => av Tryz.underlying52 tk182 rfl ((.of (an 1 rfl))) rfl (aS hb) rfl rfl) (fun h => absurd h (by decide)) (fun ⟨b4_8, o4_8⟩ => ?_)
  refine bU 9 rfl (by kernel_rfl) rfl (aR (o := 0) tk182 rfl (an 0 rfl) rfl rfl) ?_
  refine ea 10 rfl (by kernel_rfl) [0] (false) hF true rfl rfl (fun _ => rfl) (fun hc => rfl) (fun hc => h _ (List.mem_of_getElem? ha) _ (List.mem_of_getElem? hb)) (fun c hc => ?_)
  refine bU 11 rfl (by kernel_rfl) rfl (cm rfl) ?_
  refine bS (by kernel_rfl) ?_
  refine aw ?_
  refine ah _ rfl (fun h2 => ?_) (fun h2 => ?_)
  ·skip
   refine aSR (aA rfl (aNn (aj (bC (aO (aO (bC (aO ?_))))))))
   refine bc [] [] rfl Tryz.results146 rfl ?_ (.inr rfl)
   exact ⟨⟨rfl, rfl⟩, _, rfl, fun _ => trivial⟩
  ·skip
   refine au (bL (aw (ai (aM rfl ?_))))
   refine aU rfl (bB rfl rfl (by omega)) ?_
   refine aA rfl (aNn ?_)
   refine ⟨[0, 1, 5], [1, 0], [], rfl, ?_⟩
   exact ⟨k + 1, ⟨by omega, rfl⟩, by omega⟩
 ·skip
  refine bg (bj (bj (bz (aw (aSR (aA rfl (aNn (aj ?_))))))))
  refine bc [] [] rfl Tryz.results146 rfl ?_ (.inr rfl)
  exact ⟨⟨rfl, rfl⟩, _, rfl, fun _ => trivial⟩
theorem nV (l : Sl Int) (F : FuncId) (caps : List Value) (p q : Per) (Ψ : Int → Bool → Prop) (hF : bI Tryz.prog F = true) (h : ∀ a ∈ l.l, Con Tryz.prog F ((eI a) :: caps) [p, q] [] (YN Value.bool (Ψ a))) : Con Tryz.prog 186 [l.val, .func (.func F) #[] caps.toArray] [ShF (fun z : Int => [D.v (eI z)]) l, p, q] []
   (YN (fun z : Int => .int .i64 z) (fun z => (z ≥ 0 → ∃ a ∈ l.l, Ψ a true) ∧ (¬ z ≥ 0 → ∀ a ∈ l.l, Ψ a false))) := by
 refine Con.enter Tryz.func186 rfl (by simp [Tryz.ntmps186]) ?_
 show awp _ _ _ _ ⟨[(0, true, _), (1, true, _)], _, _⟩
 refine bf (.of (an 0 rfl)) (fun hlen => ?_)
 refine aSR (aA rfl (aNs (aSR (aM rfl (aU rfl (bq Tryz.underlying90 rfl) (aM rfl (aNn (ax ?_))))))))
 refine aZ [0, 1, 7, 8] [2, 1, 0] [] (fun (k : Nat) s => (k ≤ l.l.length ∧ ∀ a ∈ l.l.take k, Ψ a false) ∧ s = ⟨[(0, true, l.val), (1, true, .func (.func F) #[] caps.toArray), (7, true, .int .i64 l.l.length), (8, true, .int .i64 k)], [ShF (fun z : Int => [D.v (eI z)]) l, p, q], []⟩) (fun k => l.l.length - k) rfl (⟨0, ⟨Nat.zero_le _, fun a ha => by cases ha⟩, rfl⟩) ?_
 rintro k s ⟨⟨hk, hno⟩, rfl⟩
 refine aSR (aU rfl (bJ rfl rfl) (aNs ?_))
 refine ah _ rfl (fun h1 => ?_) (fun h1 => ?_)
 ·skip
  have hk' : k < l.l.length := by simpa using h1
  obtain ⟨a, ha⟩ : ∃ a, l.l[k]? = some a := ⟨l.l[k]'hk', by simp⟩
  refine au (aw (az (ax (aSR (aM rfl (aA rfl (aNn (aSR (aM rfl (aM rfl (aM rfl ?_)))))))))))
  refine cF true rfl rfl (fun _ => av Tryz.underlying90 tk3 rfl ((.of (an 0 rfl))) rfl (aS ha) rfl rfl) (fun h => absurd h (by decide)) (fun ⟨b4_3, o4_3⟩ => ?_)
  refine aU rfl (aR (o := 0) tk3 rfl (an 0 rfl) rfl rfl) ?_
  refine aQ [1, 0] (false) hF true rfl rfl (fun _ => rfl) (fun hc => rfl) (fun hc => h a (List.mem_of_getElem? ha)) (fun c hc => ?_)
  refine aNn ?_
  refine ah _ rfl (fun h2 => ?_) (fun h2 => ?_)
  ·skip
   refine aSR (aM rfl (aA rfl (aNn (aj (bC (aO (aO (bC (aO ?_)))))))))
   refine bc [] [] rfl Tryz.results186 rfl ?_ (.inr rfl)
   exact ⟨⟨rfl, rfl⟩, _, rfl, fun _ => ⟨a, List.mem_of_getElem? ha, h2 ▸ hc rfl⟩, fun hz => (hz (Int.natCast_nonneg k)).elim⟩
  ·skip
   refine au (bL (aw (ai ?_)))
   refine aU rfl (bB rfl rfl (by omega)) ?_
   refine aM rfl (aNn ?_)
   refine ⟨[0, 1, 7, 8], [2, 1, 0], [], rfl, ?_⟩
   refine ⟨k + 1, ⟨⟨by omega, ?_⟩, rfl⟩, by omega⟩
   intro y hy
   rw [List.take_add_one, ha, List.mem_append] at hy
   rcases hy with hy | hy
   · exact hno y hy
   · simp at hy; subst hy; exact h2 ▸ hc rfl
 ·skip
  refine bg (bj (bj (bz (aw (aSR (aA rfl (aNn (aj ?_))))))))
  refine bc [] [] rfl Tryz.results186 rfl ?_ (.inr rfl)
  refine ⟨⟨rfl, rfl⟩, _, rfl, fun hz => absurd hz (by decide), fun _ => ?_⟩
  rw [List.take_of_length_le (by simpa using h1)] at hno; exact hno
theorem oM (l : Sl Int) (F : FuncId) (caps : List Value) (p q : Per) (Ψ : Int → Bool → Prop) (hF : bI Tryz.prog F = true) (h : ∀ a ∈ l.l, Con Tryz.prog F ((eI a) :: caps) [p, q] [] (YN Value.bool (Ψ a))) : Con Tryz.prog 231 [l.val, .func (.func F) #[] caps.toArray] [ShF (fun z : Int => [D.v (eI z)]) l, p, q] []
   (YN Value.bool (fun b => (b = true → ∃ a ∈ l.l, Ψ a true) ∧ (b = false → ∀ a ∈ l.l, Ψ a false))) := by
 refine Con.enter Tryz.func231 rfl (by simp [Tryz.ntmps231]) ?_
 show awp _ _ _ _ ⟨[(0, true, _), (1, true, _)], _, _⟩
 refine aSR (aA rfl (aNn (aSR (aM rfl (aM rfl ?_)))))
 refine al (q := true) rfl (bF [2, 1, 0] [] (by kernel_rfl) rfl rfl rfl rfl (nV l F caps p q Ψ hF h) ?_)
 rintro _ _ _ ⟨⟨rfl, rfl⟩, z, rfl, hz⟩
 refine cB (by (try simp only [nM, nN]); rfl) (by (try simp only [aV, place, Nat.reduceBEq, if_true, if_false, reduceIte, Nat.reduceAdd, nW]); rfl) ?_
 refine aU rfl (cQ rfl rfl) (aA rfl (aNn (aj ?_)))
 refine bc [] [] rfl Tryz.results231 rfl ?_ (.inr rfl)
 exact ⟨⟨rfl, rfl⟩, _, rfl, fun hb => hz.1 (by simpa using hb), fun hb => hz.2 (by simpa using hb)⟩
theorem l0 (b : Nat) (F : FuncId) (caps : List Value) (p : Per) (a : Int) (Φ : Prop) (hF : bI Tryz.prog F = true) (h : Con Tryz.prog F ((eI a) :: caps) [p] [] (YB Φ)) : Con Tryz.prog 232 [(eI a), .pointer (some ⟨b, 0, none⟩)] [At b 0 [.v (.func (.func F) #[] caps.toArray)], p] []
   (YN Value.bool (fun b => b = false → Φ)) := by
 refine Con.enter Tryz.func232 rfl (by simp [Tryz.ntmps232]) ?_
 show awp _ _ _ _ ⟨[(0, true, _), (1, true, _)], _, _⟩
 refine aSR (aA rfl (aNn (aSR (aU rfl (aK (o := 0) tk152 rfl (.of (an 0 rfl)) rfl) (aM rfl ?_)))))
 refine aQ [0] (false) hF true rfl rfl (fun _ => rfl) (fun hc => rfl) (fun hc => h) (fun c hc => ?_)
 refine aU rfl (cm rfl) (aA rfl (aNn (aj ?_)))
 refine bc [] [] rfl Tryz.results232 rfl ?_ (.inr rfl)
 exact ⟨⟨rfl, rfl⟩, _, rfl, fun hb => hc rfl (by simpa using hb)⟩
theorem mw (l : Sl Int) (F : FuncId) (caps : List Value) (p : Per) (Φ : Int → Prop) (hF : bI Tryz.prog F = true) (h : ∀ a ∈ l.l, Con Tryz.prog F ((eI a) :: caps) [p] [] (YB (Φ a))) : Con Tryz.prog 147 [l.val, .func (.func F) #[] caps.toArray] [ShF (fun z : Int => [D.v (eI z)]) l, p] []
   (YB (∀ a ∈ l.l, Φ a)) := by
 refine Con.enter Tryz.func147 rfl (by simp [Tryz.ntmps147]) ?_
 show awp _ _ _ _ ⟨[(0, true, _), (1, true, _)], _, _⟩
 refine aSR ?_
 refine al (q := true) rfl (bO rfl rfl rfl (fun b0_0 => ?_))
 refine aH (by (try simp only [nM, nN]); rfl) ?_
 refine aA rfl (aNs (bT 0 rfl rfl ?_))
 show awp _ _ _ _ ⟨_, At _ 0 _ :: _, _⟩
 refine ai (aM rfl (aU rfl (dn (l := [.tmp 3]) rfl) ?_))
 refine aQ (caps := []) [1, 2, 0] (false) (by kernel_rfl) true rfl rfl (fun _ => rfl) (fun hc => rfl) (fun hc => by rw [List.append_nil]; exact oM l 232 [.pointer (some ⟨b0_0, 0, none⟩)] (At b0_0 0 [.v (.func (.func F) #[] caps.toArray)]) p (fun a b => b = false → Φ a) (by kernel_rfl) (fun a ha => l0 b0_0 F caps p a (Φ a) hF (h a ha))) (fun c hc => ?_)
 refine aU rfl (cm rfl) (aA rfl (aNn (aj ?_)))
 refine bc [] [] rfl Tryz.results147 rfl ?_ (.inr rfl)
 exact ⟨⟨rfl, rfl⟩, _, rfl, fun hb a ha => (hc rfl).2 (by simpa using hb) a ha rfl⟩
theorem tk247 : tyk Tryz.prog 247 = some (false, 1) := by kernel_rfl
theorem mc (l : Sl eH) (F : FuncId) (caps : List Value) (p q : Per) (Ψ : eH → Bool → Prop) (hF : bI Tryz.prog F = true) (h : ∀ a ∈ l.l, Con Tryz.prog F (a.val :: caps) [p, q] [] (YN Value.bool (Ψ a))) : Con Tryz.prog 277 [l.val, .func (.func F) #[] caps.toArray] [ShF eH.row l, p, q] []
   (YN (fun z : Int => .int .i64 z) (fun z => (z ≥ 0 → ∃ a ∈ l.l, Ψ a true) ∧ (¬ z ≥ 0 → ∀ a ∈ l.l, Ψ a false))) := by
 refine Con.enter Tryz.func277 rfl (by simp [Tryz.ntmps277]) ?_
 show awp _ _ _ _ ⟨[(0, true, _), (1, true, _)], _, _⟩
 refine bf (.of (an 0 rfl)) (fun hlen => ?_)
 refine aSR (aA rfl (aNs (aSR (aM rfl (aU rfl (bq Tryz.underlying54 rfl) (aM rfl (aNn (ax ?_))))))))
 refine aZ [0, 1, 7, 8] [2, 1, 0] [] (fun (k : Nat) s => (k ≤ l.l.length ∧ ∀ a ∈ l.l.take k, Ψ a false) ∧ s = ⟨[(0, true, l.val), (1, true, .func (.func F) #[] caps.toArray), (7, true, .int .i64 l.l.length), (8, true, .int .i64 k)], [ShF eH.row l, p, q], []⟩) (fun k => l.l.length - k) rfl (⟨0, ⟨Nat.zero_le _, fun a ha => by cases ha⟩, rfl⟩) ?_
 rintro k s ⟨⟨hk, hno⟩, rfl⟩
 refine aSR (aU rfl (bJ rfl rfl) (aNs ?_))
 refine ah _ rfl (fun h1 => ?_) (fun h1 => ?_)
 ·skip
  have hk' : k < l.l.length := by simpa using h1
  obtain ⟨a, ha⟩ : ∃ a, l.l[k]? = some a := ⟨l.l[k]'hk', by simp⟩
  refine au (aw (az (ax (aSR (aM rfl (aA rfl (aNn (aSR (aM rfl (aM rfl (aM rfl ?_)))))))))))
  refine cF true rfl rfl (fun _ => av Tryz.underlying54 tk195 rfl ((.of (an 0 rfl))) rfl (aS ha) rfl rfl) (fun h => absurd h (by decide)) (fun ⟨b4_3, o4_3⟩ => ?_)
  refine aU rfl (aR (o := 0) tk195 rfl (an 0 rfl) rfl rfl) ?_
  refine aQ [1, 0] (false) hF true rfl rfl (fun _ => rfl) (fun hc => rfl) (fun hc => h a (List.mem_of_getElem? ha)) (fun c hc => ?_)
  refine aNn ?_
  refine ah _ rfl (fun h2 => ?_) (fun h2 => ?_)
  ·skip
   refine aSR (aM rfl (aA rfl (aNn (aj (bC (aO (aO (bC (aO ?_)))))))))
   refine bc [] [] rfl Tryz.results277 rfl ?_ (.inr rfl)
   exact ⟨⟨rfl, rfl⟩, _, rfl, fun _ => ⟨a, List.mem_of_getElem? ha, h2 ▸ hc rfl⟩, fun hz => (hz (Int.natCast_nonneg k)).elim⟩
  ·skip
   refine au (bL (aw (ai ?_)))
   refine aU rfl (bB rfl rfl (by omega)) ?_
   refine aM rfl (aNn ?_)
   refine ⟨[0, 1, 7, 8], [2, 1, 0], [], rfl, ?_⟩
   refine ⟨k + 1, ⟨⟨by omega, ?_⟩, rfl⟩, by omega⟩
   intro y hy
   rw [List.take_add_one, ha, List.mem_append] at hy
   rcases hy with hy | hy
   · exact hno y hy
   · simp at hy; subst hy; exact h2 ▸ hc rfl
 ·skip
  refine bg (bj (bj (bz (aw (aSR (aA rfl (aNn (aj ?_))))))))
  refine bc [] [] rfl Tryz.results277 rfl ?_ (.inr rfl)
  refine ⟨⟨rfl, rfl⟩, _, rfl, fun hz => absurd hz (by decide), fun _ => ?_⟩
  rw [List.take_of_length_le (by simpa using h1)] at hno; exact hno
theorem mj (l : Sl eH) (F : FuncId) (caps : List Value) (p q : Per) (Ψ : eH → Bool → Prop) (hF : bI Tryz.prog F = true) (h : ∀ a ∈ l.l, Con Tryz.prog F (a.val :: caps) [p, q] [] (YN Value.bool (Ψ a))) : Con Tryz.prog 233 [l.val, .func (.func F) #[] caps.toArray] [ShF eH.row l, p, q] []
   (YN Value.bool (fun b => (b = true → ∃ a ∈ l.l, Ψ a true) ∧ (b = false → ∀ a ∈ l.l, Ψ a false))) := by
 refine Con.enter Tryz.func233 rfl (by simp [Tryz.ntmps233]) ?_
 show awp _ _ _ _ ⟨[(0, true, _), (1, true, _)], _, _⟩
 refine aSR (aA rfl (aNn (aSR (aM rfl (aM rfl ?_)))))
 refine al (q := true) rfl (bF [2, 1, 0] [] (by kernel_rfl) rfl rfl rfl rfl (mc l F caps p q Ψ hF h) ?_)
 rintro _ _ _ ⟨⟨rfl, rfl⟩, z, rfl, hz⟩
 refine cB (by (try simp only [nM, nN]); rfl) (by (try simp only [aV, place, Nat.reduceBEq, if_true, if_false, reduceIte, Nat.reduceAdd, nW]); rfl) ?_
 refine aU rfl (cQ rfl rfl) (aA rfl (aNn (aj ?_)))
 refine bc [] [] rfl Tryz.results233 rfl ?_ (.inr rfl)
 exact ⟨⟨rfl, rfl⟩, _, rfl, fun hb => hz.1 (by simpa using hb), fun hb => hz.2 (by simpa using hb)⟩
theorem km (b : Nat) (F : FuncId) (caps : List Value) (p : Per) (a : eH) (Φ : Prop) (hF : bI Tryz.prog F = true) (h : Con Tryz.prog F (a.val :: caps) [p] [] (YB Φ)) : Con Tryz.prog 234 [a.val, .pointer (some ⟨b, 0, none⟩)] [At b 0 [.v (.func (.func F) #[] caps.toArray)], p] []
   (YN Value.bool (fun b => b = false → Φ)) := by
 refine Con.enter Tryz.func234 rfl (by simp [Tryz.ntmps234]) ?_
 show awp _ _ _ _ ⟨[(0, true, _), (1, true, _)], _, _⟩
 refine aSR ?_
 refine al (q := true) rfl (bO rfl rfl rfl (fun b0_0 => ?_))
 refine aH (by (try simp only [nM, nN]); rfl) ?_
 refine aA rfl (aNn (aSR (aU rfl (aK (o := 0) tk247 rfl (.of (an 0 rfl)) rfl) (aU rfl (ae 0 tk195 rfl rfl rfl) ?_))))
 refine aQ [0] (false) hF true rfl rfl (fun _ => rfl) (fun hc => rfl) (fun hc => h) (fun c hc => ?_)
 refine aU rfl (cm rfl) (aA rfl (aNn (aj ?_)))
 refine bc [] [] rfl Tryz.results234 rfl ?_ (.inr rfl)
 exact ⟨⟨rfl, rfl⟩, _, rfl, fun hb => hc rfl (by simpa using hb)⟩
theorem lW (l : Sl eH) (F : FuncId) (caps : List Value) (p : Per) (Φ : eH → Prop) (hF : bI Tryz.prog F = true) (h : ∀ a ∈ l.l, Con Tryz.prog F (a.val :: caps) [p] [] (YB (Φ a))) : Con Tryz.prog 155 [l.val, .func (.func F) #[] caps.toArray] [ShF eH.row l, p] []
   (YB (∀ a ∈ l.l, Φ a)) := by
 refine Con.enter Tryz.func155 rfl (by simp [Tryz.ntmps155]) ?_
 show awp _ _ _ _ ⟨[(0, true, _), (1, true, _)], _, _⟩
 refine aSR ?_
 refine al (q := true) rfl (bO rfl rfl rfl (fun b0_0 => ?_))
 refine aH (by (try simp only [nM, nN]); rfl) ?_
 refine aA rfl (aNs (bT 0 rfl rfl ?_))
 show awp _ _ _ _ ⟨_, At _ 0 _ :: _, _⟩
 refine ai (aM rfl (aU rfl (dn (l := [.tmp 3]) rfl) ?_))
 refine aQ (caps := []) [1, 2, 0] (false) (by kernel_rfl) true rfl rfl (fun _ => rfl) (fun hc => rfl) (fun hc => by rw [List.append_nil]; exact mj l 234 [.pointer (some ⟨b0_0, 0, none⟩)] (At b0_0 0 [.v (.func (.func F) #[] caps.toArray)]) p (fun a b => b = false → Φ a) (by kernel_rfl) (fun a ha => km b0_0 F caps p a (Φ a) hF (h a ha))) (fun c hc => ?_)
 refine aU rfl (cm rfl) (aA rfl (aNn (aj ?_)))
 refine bc [] [] rfl Tryz.results155 rfl ?_ (.inr rfl)
 exact ⟨⟨rfl, rfl⟩, _, rfl, fun hb a ha => (hc rfl).2 (by simpa using hb) a ha rfl⟩
theorem tk248 : tyk Tryz.prog 248 = some (false, 1) := by kernel_rfl
theorem mb (l : Sl dt) (F : FuncId) (caps : List Value) (p q : Per) (Ψ : dt → Bool → Prop) (hF : bI Tryz.prog F = true) (h : ∀ a ∈ l.l, Con Tryz.prog F (a.val :: caps) [p, q] [] (YN Value.bool (Ψ a))) : Con Tryz.prog 278 [l.val, .func (.func F) #[] caps.toArray] [ShF dt.row l, p, q] []
   (YN (fun z : Int => .int .i64 z) (fun z => (z ≥ 0 → ∃ a ∈ l.l, Ψ a true) ∧ (¬ z ≥ 0 → ∀ a ∈ l.l, Ψ a false))) := by
 refine Con.enter Tryz.func278 rfl (by simp [Tryz.ntmps278]) ?_
 show awp _ _ _ _ ⟨[(0, true, _), (1, true, _)], _, _⟩
 refine bf (.of (an 0 rfl)) (fun hlen => ?_)
 refine aSR (aA rfl (aNs (aSR (aM rfl (aU rfl (bq Tryz.underlying55 rfl) (aM rfl (aNn (ax ?_))))))))
 refine aZ [0, 1, 7, 8] [2, 1, 0] [] (fun (k : Nat) s => (k ≤ l.l.length ∧ ∀ a ∈ l.l.take k, Ψ a false) ∧ s = ⟨[(0, true, l.val), (1, true, .func (.func F) #[] caps.toArray), (7, true, .int .i64 l.l.length), (8, true, .int .i64 k)], [ShF dt.row l, p, q], []⟩) (fun k => l.l.length - k) rfl (⟨0, ⟨Nat.zero_le _, fun a ha => by cases ha⟩, rfl⟩) ?_
 rintro k s ⟨⟨hk, hno⟩, rfl⟩
 refine aSR (aU rfl (bJ rfl rfl) (aNs ?_))
 refine ah _ rfl (fun h1 => ?_) (fun h1 => ?_)
 ·skip
  have hk' : k < l.l.length := by simpa using h1
  obtain ⟨a, ha⟩ : ∃ a, l.l[k]? = some a := ⟨l.l[k]'hk', by simp⟩
  refine au (aw (az (ax (aSR (aM rfl (aA rfl (aNn (aSR (aM rfl (aM rfl (aM rfl ?_)))))))))))
  refine cF true rfl rfl (fun _ => av Tryz.underlying55 tk197 rfl ((.of (an 0 rfl))) rfl (aS ha) rfl rfl) (fun h => absurd h (by decide)) (fun ⟨b4_3, o4_3⟩ => ?_)
  refine aU rfl (aR (o := 0) tk197 rfl (an 0 rfl) rfl rfl) ?_
  refine aQ [1, 0] (false) hF true rfl rfl (fun _ => rfl) (fun hc => rfl) (fun hc => h a (List.mem_of_getElem? ha)) (fun c hc => ?_)
  refine aNn ?_
  refine ah _ rfl (fun h2 => ?_) (fun h2 => ?_)
  ·skip
   refine aSR (aM rfl (aA rfl (aNn (aj (bC (aO (aO (bC (aO ?_)))))))))
   refine bc [] [] rfl Tryz.results278 rfl ?_ (.inr rfl)
   exact ⟨⟨rfl, rfl⟩, _, rfl, fun _ => ⟨a, List.mem_of_getElem? ha, h2 ▸ hc rfl⟩, fun hz => (hz (Int.natCast_nonneg k)).elim⟩
  ·skip
   refine au (bL (aw (ai ?_)))
   refine aU rfl (bB rfl rfl (by omega)) ?_
   refine aM rfl (aNn ?_)
   refine ⟨[0, 1, 7, 8], [2, 1, 0], [], rfl, ?_⟩
   refine ⟨k + 1, ⟨⟨by omega, ?_⟩, rfl⟩, by omega⟩
   intro y hy
   rw [List.take_add_one, ha, List.mem_append] at hy
   rcases hy with hy | hy
   · exact hno y hy
   · simp at hy; subst hy; exact h2 ▸ hc rfl
 ·skip
  refine bg (bj (bj (bz (aw (aSR (aA rfl (aNn (aj ?_))))))))
  refine bc [] [] rfl Tryz.results278 rfl ?_ (.inr rfl)
  refine ⟨⟨rfl, rfl⟩, _, rfl, fun hz => absurd hz (by decide), fun _ => ?_⟩
  rw [List.take_of_length_le (by simpa using h1)] at hno; exact hno
theorem ml (l : Sl dt) (F : FuncId) (caps : List Value) (p q : Per) (Ψ : dt → Bool → Prop) (hF : bI Tryz.prog F = true) (h : ∀ a ∈ l.l, Con Tryz.prog F (a.val :: caps) [p, q] [] (YN Value.bool (Ψ a))) : Con Tryz.prog 235 [l.val, .func (.func F) #[] caps.toArray] [ShF dt.row l, p, q] []
   (YN Value.bool (fun b => (b = true → ∃ a ∈ l.l, Ψ a true) ∧ (b = false → ∀ a ∈ l.l, Ψ a false))) := by
 refine Con.enter Tryz.func235 rfl (by simp [Tryz.ntmps235]) ?_
 show awp _ _ _ _ ⟨[(0, true, _), (1, true, _)], _, _⟩
 refine aSR (aA rfl (aNn (aSR (aM rfl (aM rfl ?_)))))
 refine al (q := true) rfl (bF [2, 1, 0] [] (by kernel_rfl) rfl rfl rfl rfl (mb l F caps p q Ψ hF h) ?_)
 rintro _ _ _ ⟨⟨rfl, rfl⟩, z, rfl, hz⟩
 refine cB (by (try simp only [nM, nN]); rfl) (by (try simp only [aV, place, Nat.reduceBEq, if_true, if_false, reduceIte, Nat.reduceAdd, nW]); rfl) ?_
 refine aU rfl (cQ rfl rfl) (aA rfl (aNn (aj ?_)))
 refine bc [] [] rfl Tryz.results235 rfl ?_ (.inr rfl)
 exact ⟨⟨rfl, rfl⟩, _, rfl, fun hb => hz.1 (by simpa using hb), fun hb => hz.2 (by simpa using hb)⟩
theorem kE (b : Nat) (F : FuncId) (caps : List Value) (p : Per) (a : dt) (Φ : Prop) (hF : bI Tryz.prog F = true) (h : Con Tryz.prog F (a.val :: caps) [p] [] (YB Φ)) : Con Tryz.prog 236 [a.val, .pointer (some ⟨b, 0, none⟩)] [At b 0 [.v (.func (.func F) #[] caps.toArray)], p] []
   (YN Value.bool (fun b => b = false → Φ)) := by
 refine Con.enter Tryz.func236 rfl (by simp [Tryz.ntmps236]) ?_
 show awp _ _ _ _ ⟨[(0, true, _), (1, true, _)], _, _⟩
 refine aSR ?_
 refine al (q := true) rfl (bO rfl rfl rfl (fun b0_0 => ?_))
 refine aH (by (try simp only [nM, nN]); rfl) ?_
 refine aA rfl (aNn (aSR (aU rfl (aK (o := 0) tk248 rfl (.of (an 0 rfl)) rfl) (aU rfl (ae 0 tk197 rfl rfl rfl) ?_))))
 refine aQ [0] (false) hF true rfl rfl (fun _ => rfl) (fun hc => rfl) (fun hc => h) (fun c hc => ?_)
 refine aU rfl (cm rfl) (aA rfl (aNn (aj ?_)))
 refine bc [] [] rfl Tryz.results236 rfl ?_ (.inr rfl)
 exact ⟨⟨rfl, rfl⟩, _, rfl, fun hb => hc rfl (by simpa using hb)⟩
theorem kZ (l : Sl dt) (F : FuncId) (caps : List Value) (p : Per) (Φ : dt → Prop) (hF : bI Tryz.prog F = true) (h : ∀ a ∈ l.l, Con Tryz.prog F (a.val :: caps) [p] [] (YB (Φ a))) : Con Tryz.prog 161 [l.val, .func (.func F) #[] caps.toArray] [ShF dt.row l, p] []
   (YB (∀ a ∈ l.l, Φ a)) := by
 refine Con.enter Tryz.func161 rfl (by simp [Tryz.ntmps161]) ?_
 show awp _ _ _ _ ⟨[(0, true, _), (1, true, _)], _, _⟩
 refine aSR ?_
 refine al (q := true) rfl (bO rfl rfl rfl (fun b0_0 => ?_))
 refine aH (by (try simp only [nM, nN]); rfl) ?_
 refine aA rfl (aNs (bT 0 rfl rfl ?_))
 show awp _ _ _ _ ⟨_, At _ 0 _ :: _, _⟩
 refine ai (aM rfl (aU rfl (dn (l := [.tmp 3]) rfl) ?_))
 refine aQ (caps := []) [1, 2, 0] (false) (by kernel_rfl) true rfl rfl (fun _ => rfl) (fun hc => rfl) (fun hc => by rw [List.append_nil]; exact ml l 236 [.pointer (some ⟨b0_0, 0, none⟩)] (At b0_0 0 [.v (.func (.func F) #[] caps.toArray)]) p (fun a b => b = false → Φ a) (by kernel_rfl) (fun a ha => kE b0_0 F caps p a (Φ a) hF (h a ha))) (fun c hc => ?_)
 refine aU rfl (cm rfl) (aA rfl (aNn (aj ?_)))
 refine bc [] [] rfl Tryz.results161 rfl ?_ (.inr rfl)
 exact ⟨⟨rfl, rfl⟩, _, rfl, fun hb a ha => (hc rfl).2 (by simpa using hb) a ha rfl⟩
theorem lF (l : Sl dt) (F : FuncId) (caps : List Value) (p : Per) (hF : bI Tryz.prog F = true) (h : ∀ a ∈ l.l, ∀ b ∈ l.l, Con Tryz.prog F (a.val :: b.val :: caps) [p] [] (YB True)) : Con Tryz.prog 162 [l.val, .func (.func F) #[] caps.toArray] [ShF dt.row l, p] [] (YB True) := by
 refine Con.enter Tryz.func162 rfl (by simp [Tryz.ntmps162]) ?_
 show awp _ _ _ _ ⟨[(0, true, _), (1, true, _)], _, _⟩
 refine bf (.of (an 0 rfl)) (fun hlen => ?_)
 refine aSR (aA rfl (aNs (aSR ?_)))
 refine aA rfl (aNn (ax (aZ [0, 1, 5] [1, 0] [] (fun (k : Nat) s => k ≤ l.l.length ∧ s = ⟨[(0, true, l.val), (1, true, .func (.func F) #[] caps.toArray), (5, true, .int .i64 ((k + 1 : Nat) : Int))], [ShF dt.row l, p], []⟩) (fun k => l.l.length - k) rfl (⟨0, Nat.zero_le _, rfl⟩) ?_)))
 rintro k s ⟨hk, rfl⟩
 refine az (aSR (aM rfl (aM rfl (aU rfl (bq Tryz.underlying55 rfl) (aU rfl (bJ rfl rfl) (aNn ?_))))))
 refine ah _ rfl (fun h1 => ?_) (fun h1 => ?_)
 ·skip
  have hk' : k + 1 < l.l.length := by simp at h1; omega
  have ha := bY (l := l.l) (i := k) (by omega)
  have hb := bY (l := l.l) (i := k + 1) hk'
  refine au (aw (az (ax (az ?_))))
  refine bn [] (by kernel_rfl) ?_
  show aB _ _ _ _ _ 12 #[false, false, false, false, false, false, false, false, false, false, false, false] _
  refine bU 0 rfl (by kernel_rfl) rfl (aq rfl) ?_
  refine bU 1 rfl (by kernel_rfl) rfl (aq rfl) ?_
  refine bU 2 rfl (by kernel_rfl) rfl (aq rfl) ?_
  refine bU 3 rfl (by kernel_rfl) rfl (dT rfl rfl (by omega)) ?_
  refine dI 4 rfl (by kernel_rfl) true rfl rfl (fun _ => av Tryz.underlying55 tk197 rfl ((.of (an 0 rfl))) rfl (aS ha) (by omega) rfl) (fun h => absurd h (by decide)) (fun ⟨b4_4, o4_4⟩ => ?_)
  refine bU 5 rfl (by kernel_rfl) rfl (aR (o := 0) tk197 rfl (an 0 rfl) rfl rfl) ?_
  refine bU 6 rfl (by kernel_rfl) rfl (aq rfl) ?_
  refine bU 7 rfl (by kernel_rfl) rfl (aq rfl) ?_
  refine dI 8 rfl (by kernel_rfl) true rfl rfl (fun _ => av Tryz.underlying55 tk197 rfl ((.of (an 1 rfl))) rfl (aS hb) rfl rfl) (fun h => absurd h (by decide)) (fun ⟨b4_8, o4_8⟩ => ?_)
  refine bU 9 rfl (by kernel_rfl) rfl (aR (o := 0) tk197 rfl (an 0 rfl) rfl rfl) ?_
  refine ea 10 rfl (by kernel_rfl) [0] (false) hF true rfl rfl (fun _ => rfl) (fun hc => rfl) (fun hc => h _ (List.mem_of_getElem? ha) _ (List.mem_of_getElem? hb)) (fun c hc => ?_)
  refine bU 11 rfl (by kernel_rfl) rfl (cm rfl) ?_
  refine bS (by kernel_rfl) ?_
  refine aw ?_
  refine ah _ rfl (fun h2 => ?_) (fun h2 => ?_)
  ·skip
   refine aSR (aA rfl (aNn (aj (bC (aO (aO (bC (aO ?_))))))))
   refine bc [] [] rfl Tryz.results162 rfl ?_ (.inr rfl)
   exact ⟨⟨rfl, rfl⟩, _, rfl, fun _ => trivial⟩
  ·skip
   refine au (bL (aw (ai (aM rfl ?_))))
   refine aU rfl (bB rfl rfl (by omega)) ?_
   refine aA rfl (aNn ?_)
   refine ⟨[0, 1, 5], [1, 0], [], rfl, ?_⟩
   exact ⟨k + 1, ⟨by omega, rfl⟩, by omega⟩
 ·skip
  refine bg (bj (bj (bz (aw (aSR (aA rfl (aNn (aj ?_))))))))
  refine bc [] [] rfl Tryz.results162 rfl ?_ (.inr rfl)
  exact ⟨⟨rfl, rfl⟩, _, rfl, fun _ => trivial⟩
theorem tk253 : tyk Tryz.prog 253 = some (false, 1) := by kernel_rfl
theorem kj (l : Sl cd) (F : FuncId) (caps : List Value) (p q : Per) (Ψ : cd → Bool → Prop) (hF : bI Tryz.prog F = true) (h : ∀ a ∈ l.l, Con Tryz.prog F (a.val :: caps) [p, q] [] (YN Value.bool (Ψ a))) : Con Tryz.prog 279 [l.val, .func (.func F) #[] caps.toArray] [ShF cd.row l, p, q] []
   (YN (fun z : Int => .int .i64 z) (fun z => (z ≥ 0 → ∃ a ∈ l.l, Ψ a true) ∧ (¬ z ≥ 0 → ∀ a ∈ l.l, Ψ a false))) := by
 refine Con.enter Tryz.func279 rfl (by simp [Tryz.ntmps279]) ?_
 show awp _ _ _ _ ⟨[(0, true, _), (1, true, _)], _, _⟩
 refine bf (.of (an 0 rfl)) (fun hlen => ?_)
 refine aSR (aA rfl (aNs (aSR (aM rfl (aU rfl (bq Tryz.underlying56 rfl) (aM rfl (aNn (ax ?_))))))))
 refine aZ [0, 1, 7, 8] [2, 1, 0] [] (fun (k : Nat) s => (k ≤ l.l.length ∧ ∀ a ∈ l.l.take k, Ψ a false) ∧ s = ⟨[(0, true, l.val), (1, true, .func (.func F) #[] caps.toArray), (7, true, .int .i64 l.l.length), (8, true, .int .i64 k)], [ShF cd.row l, p, q], []⟩) (fun k => l.l.length - k) rfl (⟨0, ⟨Nat.zero_le _, fun a ha => by cases ha⟩, rfl⟩) ?_
 rintro k s ⟨⟨hk, hno⟩, rfl⟩
 refine aSR (aU rfl (bJ rfl rfl) (aNs ?_))
 refine ah _ rfl (fun h1 => ?_) (fun h1 => ?_)
 ·skip
  have hk' : k < l.l.length := by simpa using h1
  obtain ⟨a, ha⟩ : ∃ a, l.l[k]? = some a := ⟨l.l[k]'hk', by simp⟩
  refine au (aw (az (ax (aSR (aM rfl (aA rfl (aNn (aSR (aM rfl (aM rfl (aM rfl ?_)))))))))))
  refine cF true rfl rfl (fun _ => av Tryz.underlying56 tk200 rfl ((.of (an 0 rfl))) rfl (aS ha) rfl rfl) (fun h => absurd h (by decide)) (fun ⟨b4_3, o4_3⟩ => ?_)
  refine aU rfl (aR (o := 0) tk200 rfl (an 0 rfl) rfl rfl) ?_
  refine aQ [1, 0] (false) hF true rfl rfl (fun _ => rfl) (fun hc => rfl) (fun hc => h a (List.mem_of_getElem? ha)) (fun c hc => ?_)
  refine aNn ?_
  refine ah _ rfl (fun h2 => ?_) (fun h2 => ?_)
  ·skip
   refine aSR (aM rfl (aA rfl (aNn (aj (bC (aO (aO (bC (aO ?_)))))))))
   refine bc [] [] rfl Tryz.results279 rfl ?_ (.inr rfl)
   exact ⟨⟨rfl, rfl⟩, _, rfl, fun _ => ⟨a, List.mem_of_getElem? ha, h2 ▸ hc rfl⟩, fun hz => (hz (Int.natCast_nonneg k)).elim⟩
  ·skip
   refine au (bL (aw (ai ?_)))
   refine aU rfl (bB rfl rfl (by omega)) ?_
   refine aM rfl (aNn ?_)
   refine ⟨[0, 1, 7, 8], [2, 1, 0], [], rfl, ?_⟩
   refine ⟨k + 1, ⟨⟨by omega, ?_⟩, rfl⟩, by omega⟩
   intro y hy
   rw [List.take_add_one, ha, List.mem_append] at hy
   rcases hy with hy | hy
   · exact hno y hy
   · simp at hy; subst hy; exact h2 ▸ hc rfl
 ·skip
  refine bg (bj (bj (bz (aw (aSR (aA rfl (aNn (aj ?_))))))))
  refine bc [] [] rfl Tryz.results279 rfl ?_ (.inr rfl)
  refine ⟨⟨rfl, rfl⟩, _, rfl, fun hz => absurd hz (by decide), fun _ => ?_⟩
  rw [List.take_of_length_le (by simpa using h1)] at hno; exact hno
theorem kh (l : Sl cd) (F : FuncId) (caps : List Value) (p q : Per) (Ψ : cd → Bool → Prop) (hF : bI Tryz.prog F = true) (h : ∀ a ∈ l.l, Con Tryz.prog F (a.val :: caps) [p, q] [] (YN Value.bool (Ψ a))) : Con Tryz.prog 237 [l.val, .func (.func F) #[] caps.toArray] [ShF cd.row l, p, q] []
   (YN Value.bool (fun b => (b = true → ∃ a ∈ l.l, Ψ a true) ∧ (b = false → ∀ a ∈ l.l, Ψ a false))) := by
 refine Con.enter Tryz.func237 rfl (by simp [Tryz.ntmps237]) ?_
 show awp _ _ _ _ ⟨[(0, true, _), (1, true, _)], _, _⟩
 refine aSR (aA rfl (aNn (aSR (aM rfl (aM rfl ?_)))))
 refine al (q := true) rfl (bF [2, 1, 0] [] (by kernel_rfl) rfl rfl rfl rfl (kj l F caps p q Ψ hF h) ?_)
 rintro _ _ _ ⟨⟨rfl, rfl⟩, z, rfl, hz⟩
 refine cB (by (try simp only [nM, nN]); rfl) (by (try simp only [aV, place, Nat.reduceBEq, if_true, if_false, reduceIte, Nat.reduceAdd, nW]); rfl) ?_
 refine aU rfl (cQ rfl rfl) (aA rfl (aNn (aj ?_)))
 refine bc [] [] rfl Tryz.results237 rfl ?_ (.inr rfl)
 exact ⟨⟨rfl, rfl⟩, _, rfl, fun hb => hz.1 (by simpa using hb), fun hb => hz.2 (by simpa using hb)⟩
theorem iT (b : Nat) (F : FuncId) (caps : List Value) (p : Per) (a : cd) (Φ : Prop) (hF : bI Tryz.prog F = true) (h : Con Tryz.prog F (a.val :: caps) [p] [] (YB Φ)) : Con Tryz.prog 238 [a.val, .pointer (some ⟨b, 0, none⟩)] [At b 0 [.v (.func (.func F) #[] caps.toArray)], p] []
   (YN Value.bool (fun b => b = false → Φ)) := by
 refine Con.enter Tryz.func238 rfl (by simp [Tryz.ntmps238]) ?_
 show awp _ _ _ _ ⟨[(0, true, _), (1, true, _)], _, _⟩
 refine aSR ?_
 refine al (q := true) rfl (bO rfl rfl rfl (fun b0_0 => ?_))
 refine aH (by (try simp only [nM, nN]); rfl) ?_
 refine aA rfl (aNn (aSR (aU rfl (aK (o := 0) tk253 rfl (.of (an 0 rfl)) rfl) (aU rfl (ae 0 tk200 rfl rfl rfl) ?_))))
 refine aQ [0] (false) hF true rfl rfl (fun _ => rfl) (fun hc => rfl) (fun hc => h) (fun c hc => ?_)
 refine aU rfl (cm rfl) (aA rfl (aNn (aj ?_)))
 refine bc [] [] rfl Tryz.results238 rfl ?_ (.inr rfl)
 exact ⟨⟨rfl, rfl⟩, _, rfl, fun hb => hc rfl (by simpa using hb)⟩
theorem jQ (l : Sl cd) (F : FuncId) (caps : List Value) (p : Per) (Φ : cd → Prop) (hF : bI Tryz.prog F = true) (h : ∀ a ∈ l.l, Con Tryz.prog F (a.val :: caps) [p] [] (YB (Φ a))) : Con Tryz.prog 163 [l.val, .func (.func F) #[] caps.toArray] [ShF cd.row l, p] []
   (YB (∀ a ∈ l.l, Φ a)) := by
 refine Con.enter Tryz.func163 rfl (by simp [Tryz.ntmps163]) ?_
 show awp _ _ _ _ ⟨[(0, true, _), (1, true, _)], _, _⟩
 refine aSR ?_
 refine al (q := true) rfl (bO rfl rfl rfl (fun b0_0 => ?_))
 refine aH (by (try simp only [nM, nN]); rfl) ?_
 refine aA rfl (aNs (bT 0 rfl rfl ?_))
 show awp _ _ _ _ ⟨_, At _ 0 _ :: _, _⟩
 refine ai (aM rfl (aU rfl (dn (l := [.tmp 3]) rfl) ?_))
 refine aQ (caps := []) [1, 2, 0] (false) (by kernel_rfl) true rfl rfl (fun _ => rfl) (fun hc => rfl) (fun hc => by rw [List.append_nil]; exact kh l 238 [.pointer (some ⟨b0_0, 0, none⟩)] (At b0_0 0 [.v (.func (.func F) #[] caps.toArray)]) p (fun a b => b = false → Φ a) (by kernel_rfl) (fun a ha => iT b0_0 F caps p a (Φ a) hF (h a ha))) (fun c hc => ?_)
 refine aU rfl (cm rfl) (aA rfl (aNn (aj ?_)))
 refine bc [] [] rfl Tryz.results163 rfl ?_ (.inr rfl)
 exact ⟨⟨rfl, rfl⟩, _, rfl, fun hb a ha => (hc rfl).2 (by simpa using hb) a ha rfl⟩
theorem tk255 : tyk Tryz.prog 255 = some (false, 1) := by kernel_rfl
theorem nT (l : Sl ew) (F : FuncId) (caps : List Value) (p q : Per) (Ψ : ew → Bool → Prop) (hF : bI Tryz.prog F = true) (h : ∀ a ∈ l.l, Con Tryz.prog F (a.val :: caps) [p, q] [] (YN Value.bool (Ψ a))) : Con Tryz.prog 280 [l.val, .func (.func F) #[] caps.toArray] [ShF ew.row l, p, q] []
   (YN (fun z : Int => .int .i64 z) (fun z => (z ≥ 0 → ∃ a ∈ l.l, Ψ a true) ∧ (¬ z ≥ 0 → ∀ a ∈ l.l, Ψ a false))) := by
 refine Con.enter Tryz.func280 rfl (by simp [Tryz.ntmps280]) ?_
 show awp _ _ _ _ ⟨[(0, true, _), (1, true, _)], _, _⟩
 refine bf (.of (an 0 rfl)) (fun hlen => ?_)
 refine aSR (aA rfl (aNs (aSR (aM rfl (aU rfl (bq Tryz.underlying57 rfl) (aM rfl (aNn (ax ?_))))))))
 refine aZ [0, 1, 7, 8] [2, 1, 0] [] (fun (k : Nat) s => (k ≤ l.l.length ∧ ∀ a ∈ l.l.take k, Ψ a false) ∧ s = ⟨[(0, true, l.val), (1, true, .func (.func F) #[] caps.toArray), (7, true, .int .i64 l.l.length), (8, true, .int .i64 k)], [ShF ew.row l, p, q], []⟩) (fun k => l.l.length - k) rfl (⟨0, ⟨Nat.zero_le _, fun a ha => by cases ha⟩, rfl⟩) ?_
 rintro k s ⟨⟨hk, hno⟩, rfl⟩
 refine aSR (aU rfl (bJ rfl rfl) (aNs ?_))
 refine ah _ rfl (fun h1 => ?_) (fun h1 => ?_)
 ·skip
  have hk' : k < l.l.length := by simpa using h1
  obtain ⟨a, ha⟩ : ∃ a, l.l[k]? = some a := ⟨l.l[k]'hk', by simp⟩
  refine au (aw (az (ax (aSR (aM rfl (aA rfl (aNn (aSR (aM rfl (aM rfl (aM rfl ?_)))))))))))
  refine cF true rfl rfl (fun _ => av Tryz.underlying57 tk204 rfl ((.of (an 0 rfl))) rfl (aS ha) rfl rfl) (fun h => absurd h (by decide)) (fun ⟨b4_3, o4_3⟩ => ?_)
  refine aU rfl (aR (o := 0) tk204 rfl (an 0 rfl) rfl rfl) ?_
  refine aQ [1, 0] (false) hF true rfl rfl (fun _ => rfl) (fun hc => rfl) (fun hc => h a (List.mem_of_getElem? ha)) (fun c hc => ?_)
  refine aNn ?_
  refine ah _ rfl (fun h2 => ?_) (fun h2 => ?_)
  ·skip
   refine aSR (aM rfl (aA rfl (aNn (aj (bC (aO (aO (bC (aO ?_)))))))))
   refine bc [] [] rfl Tryz.results280 rfl ?_ (.inr rfl)
   exact ⟨⟨rfl, rfl⟩, _, rfl, fun _ => ⟨a, List.mem_of_getElem? ha, h2 ▸ hc rfl⟩, fun hz => (hz (Int.natCast_nonneg k)).elim⟩
  ·skip
   refine au (bL (aw (ai ?_)))
   refine aU rfl (bB rfl rfl (by omega)) ?_
   refine aM rfl (aNn ?_)
   refine ⟨[0, 1, 7, 8], [2, 1, 0], [], rfl, ?_⟩
   refine ⟨k + 1, ⟨⟨by omega, ?_⟩, rfl⟩, by omega⟩
   intro y hy
   rw [List.take_add_one, ha, List.mem_append] at hy
   rcases hy with hy | hy
   · exact hno y hy
   · simp at hy; subst hy; exact h2 ▸ hc rfl
 ·skip
  refine bg (bj (bj (bz (aw (aSR (aA rfl (aNn (aj ?_))))))))
  refine bc [] [] rfl Tryz.results280 rfl ?_ (.inr rfl)
  refine ⟨⟨rfl, rfl⟩, _, rfl, fun hz => absurd hz (by decide), fun _ => ?_⟩
  rw [List.take_of_length_le (by simpa using h1)] at hno; exact hno
theorem oD (l : Sl ew) (F : FuncId) (caps : List Value) (p q : Per) (Ψ : ew → Bool → Prop) (hF : bI Tryz.prog F = true) (h : ∀ a ∈ l.l, Con Tryz.prog F (a.val :: caps) [p, q] [] (YN Value.bool (Ψ a))) : Con Tryz.prog 240 [l.val, .func (.func F) #[] caps.toArray] [ShF ew.row l, p, q] []
   (YN Value.bool (fun b => (b = true → ∃ a ∈ l.l, Ψ a true) ∧ (b = false → ∀ a ∈ l.l, Ψ a false))) := by
 refine Con.enter Tryz.func240 rfl (by simp [Tryz.ntmps240]) ?_
 show awp _ _ _ _ ⟨[(0, true, _), (1, true, _)], _, _⟩
 refine aSR (aA rfl (aNn (aSR (aM rfl (aM rfl ?_)))))
 refine al (q := true) rfl (bF [2, 1, 0] [] (by kernel_rfl) rfl rfl rfl rfl (nT l F caps p q Ψ hF h) ?_)
 rintro _ _ _ ⟨⟨rfl, rfl⟩, z, rfl, hz⟩
 refine cB (by (try simp only [nM, nN]); rfl) (by (try simp only [aV, place, Nat.reduceBEq, if_true, if_false, reduceIte, Nat.reduceAdd, nW]); rfl) ?_
 refine aU rfl (cQ rfl rfl) (aA rfl (aNn (aj ?_)))
 refine bc [] [] rfl Tryz.results240 rfl ?_ (.inr rfl)
 exact ⟨⟨rfl, rfl⟩, _, rfl, fun hb => hz.1 (by simpa using hb), fun hb => hz.2 (by simpa using hb)⟩
theorem lz (b : Nat) (F : FuncId) (caps : List Value) (p : Per) (a : ew) (Φ : Prop) (hF : bI Tryz.prog F = true) (h : Con Tryz.prog F (a.val :: caps) [p] [] (YB Φ)) : Con Tryz.prog 241 [a.val, .pointer (some ⟨b, 0, none⟩)] [At b 0 [.v (.func (.func F) #[] caps.toArray)], p] []
   (YN Value.bool (fun b => b = false → Φ)) := by
 refine Con.enter Tryz.func241 rfl (by simp [Tryz.ntmps241]) ?_
 show awp _ _ _ _ ⟨[(0, true, _), (1, true, _)], _, _⟩
 refine aSR ?_
 refine al (q := true) rfl (bO rfl rfl rfl (fun b0_0 => ?_))
 refine aH (by (try simp only [nM, nN]); rfl) ?_
 refine aA rfl (aNn (aSR (aU rfl (aK (o := 0) tk255 rfl (.of (an 0 rfl)) rfl) (aU rfl (ae 0 tk204 rfl rfl rfl) ?_))))
 refine aQ [0] (false) hF true rfl rfl (fun _ => rfl) (fun hc => rfl) (fun hc => h) (fun c hc => ?_)
 refine aU rfl (cm rfl) (aA rfl (aNn (aj ?_)))
 refine bc [] [] rfl Tryz.results241 rfl ?_ (.inr rfl)
 exact ⟨⟨rfl, rfl⟩, _, rfl, fun hb => hc rfl (by simpa using hb)⟩
theorem me (l : Sl ew) (F : FuncId) (caps : List Value) (p : Per) (Φ : ew → Prop) (hF : bI Tryz.prog F = true) (h : ∀ a ∈ l.l, Con Tryz.prog F (a.val :: caps) [p] [] (YB (Φ a))) : Con Tryz.prog 169 [l.val, .func (.func F) #[] caps.toArray] [ShF ew.row l, p] []
   (YB (∀ a ∈ l.l, Φ a)) := by
 refine Con.enter Tryz.func169 rfl (by simp [Tryz.ntmps169]) ?_
 show awp _ _ _ _ ⟨[(0, true, _), (1, true, _)], _, _⟩
 refine aSR ?_
 refine al (q := true) rfl (bO rfl rfl rfl (fun b0_0 => ?_))
 refine aH (by (try simp only [nM, nN]); rfl) ?_
 refine aA rfl (aNs (bT 0 rfl rfl ?_))
 show awp _ _ _ _ ⟨_, At _ 0 _ :: _, _⟩
 refine ai (aM rfl (aU rfl (dn (l := [.tmp 3]) rfl) ?_))
 refine aQ (caps := []) [1, 2, 0] (false) (by kernel_rfl) true rfl rfl (fun _ => rfl) (fun hc => rfl) (fun hc => by rw [List.append_nil]; exact oD l 241 [.pointer (some ⟨b0_0, 0, none⟩)] (At b0_0 0 [.v (.func (.func F) #[] caps.toArray)]) p (fun a b => b = false → Φ a) (by kernel_rfl) (fun a ha => lz b0_0 F caps p a (Φ a) hF (h a ha))) (fun c hc => ?_)
 refine aU rfl (cm rfl) (aA rfl (aNn (aj ?_)))
 refine bc [] [] rfl Tryz.results169 rfl ?_ (.inr rfl)
 exact ⟨⟨rfl, rfl⟩, _, rfl, fun hb a ha => (hc rfl).2 (by simpa using hb) a ha rfl⟩
theorem mu (l : Sl ew) (F : FuncId) (caps : List Value) (p : Per) (hF : bI Tryz.prog F = true) (h : ∀ a ∈ l.l, ∀ b ∈ l.l, Con Tryz.prog F (a.val :: b.val :: caps) [p] [] (YB True)) : Con Tryz.prog 170 [l.val, .func (.func F) #[] caps.toArray] [ShF ew.row l, p] [] (YB True) := by
 refine Con.enter Tryz.func170 rfl (by simp [Tryz.ntmps170]) ?_
 show awp _ _ _ _ ⟨[(0, true, _), (1, true, _)], _, _⟩
 refine bf (.of (an 0 rfl)) (fun hlen => ?_)
 refine aSR (aA rfl (aNs (aSR ?_)))
 refine aA rfl (aNn (ax (aZ [0, 1, 5] [1, 0] [] (fun (k : Nat) s => k ≤ l.l.length ∧ s = ⟨[(0, true, l.val), (1, true, .func (.func F) #[] caps.toArray), (5, true, .int .i64 ((k + 1 : Nat) : Int))], [ShF ew.row l, p], []⟩) (fun k => l.l.length - k) rfl (⟨0, Nat.zero_le _, rfl⟩) ?_)))
 rintro k s ⟨hk, rfl⟩
 refine az (aSR (aM rfl (aM rfl (aU rfl (bq Tryz.underlying57 rfl) (aU rfl (bJ rfl rfl) (aNn ?_))))))
 refine ah _ rfl (fun h1 => ?_) (fun h1 => ?_)
 ·skip
  have hk' : k + 1 < l.l.length := by simp at h1; omega
  have ha := bY (l := l.l) (i := k) (by omega)
  have hb := bY (l := l.l) (i := k + 1) hk'
  refine au (aw (az (ax (az ?_))))
  refine bn [] (by kernel_rfl) ?_
  show aB _ _ _ _ _ 12 #[false, false, false, false, false, false, false, false, false, false, false, false] _
  refine bU 0 rfl (by kernel_rfl) rfl (aq rfl) ?_
  refine bU 1 rfl (by kernel_rfl) rfl (aq rfl) ?_
  refine bU 2 rfl (by kernel_rfl) rfl (aq rfl) ?_
  refine bU 3 rfl (by kernel_rfl) rfl (dT rfl rfl (by omega)) ?_
  refine dI 4 rfl (by kernel_rfl) true rfl rfl (fun _ => av Tryz.underlying57 tk204 rfl ((.of (an 0 rfl))) rfl (aS ha) (by omega) rfl) (fun h => absurd h (by decide)) (fun ⟨b4_4, o4_4⟩ => ?_)
  refine bU 5 rfl (by kernel_rfl) rfl (aR (o := 0) tk204 rfl (an 0 rfl) rfl rfl) ?_
  refine bU 6 rfl (by kernel_rfl) rfl (aq rfl) ?_
  refine bU 7 rfl (by kernel_rfl) rfl (aq rfl) ?_
  refine dI 8 rfl (by kernel_rfl) true rfl rfl (fun _ => av Tryz.underlying57 tk204 rfl ((.of (an 1 rfl))) rfl (aS hb) rfl rfl) (fun h => absurd h (by decide)) (fun ⟨b4_8, o4_8⟩ => ?_)
  refine bU 9 rfl (by kernel_rfl) rfl (aR (o := 0) tk204 rfl (an 0 rfl) rfl rfl) ?_
  refine ea 10 rfl (by kernel_rfl) [0] (false) hF true rfl rfl (fun _ => rfl) (fun hc => rfl) (fun hc => h _ (List.mem_of_getElem? ha) _ (List.mem_of_getElem? hb)) (fun c hc => ?_)
  refine bU 11 rfl (by kernel_rfl) rfl (cm rfl) ?_
  refine bS (by kernel_rfl) ?_
  refine aw ?_
  refine ah _ rfl (fun h2 => ?_) (fun h2 => ?_)
  ·skip
   refine aSR (aA rfl (aNn (aj (bC (aO (aO (bC (aO ?_))))))))
   refine bc [] [] rfl Tryz.results170 rfl ?_ (.inr rfl)
   exact ⟨⟨rfl, rfl⟩, _, rfl, fun _ => trivial⟩
  ·skip
   refine au (bL (aw (ai (aM rfl ?_))))
   refine aU rfl (bB rfl rfl (by omega)) ?_
   refine aA rfl (aNn ?_)
   refine ⟨[0, 1, 5], [1, 0], [], rfl, ?_⟩
   exact ⟨k + 1, ⟨by omega, rfl⟩, by omega⟩
 ·skip
  refine bg (bj (bj (bz (aw (aSR (aA rfl (aNn (aj ?_))))))))
  refine bc [] [] rfl Tryz.results170 rfl ?_ (.inr rfl)
  exact ⟨⟨rfl, rfl⟩, _, rfl, fun _ => trivial⟩
theorem tk258 : tyk Tryz.prog 258 = some (false, 1) := by kernel_rfl
theorem k5 (l : Sl dx) (F : FuncId) (caps : List Value) (p q : Per) (Ψ : dx → Bool → Prop) (hF : bI Tryz.prog F = true) (h : ∀ a ∈ l.l, Con Tryz.prog F (a.val :: caps) [p, q] [] (YN Value.bool (Ψ a))) : Con Tryz.prog 281 [l.val, .func (.func F) #[] caps.toArray] [ShF dx.row l, p, q] []
   (YN (fun z : Int => .int .i64 z) (fun z => (z ≥ 0 → ∃ a ∈ l.l, Ψ a true) ∧ (¬ z ≥ 0 → ∀ a ∈ l.l, Ψ a false))) := by
 refine Con.enter Tryz.func281 rfl (by simp [Tryz.ntmps281]) ?_
 show awp _ _ _ _ ⟨[(0, true, _), (1, true, _)], _, _⟩
 refine bf (.of (an 0 rfl)) (fun hlen => ?_)
 refine aSR (aA rfl (aNs (aSR (aM rfl (aU rfl (bq Tryz.underlying58 rfl) (aM rfl (aNn (ax ?_))))))))
 refine aZ [0, 1, 7, 8] [2, 1, 0] [] (fun (k : Nat) s => (k ≤ l.l.length ∧ ∀ a ∈ l.l.take k, Ψ a false) ∧ s = ⟨[(0, true, l.val), (1, true, .func (.func F) #[] caps.toArray), (7, true, .int .i64 l.l.length), (8, true, .int .i64 k)], [ShF dx.row l, p, q], []⟩) (fun k => l.l.length - k) rfl (⟨0, ⟨Nat.zero_le _, fun a ha => by cases ha⟩, rfl⟩) ?_
 rintro k s ⟨⟨hk, hno⟩, rfl⟩
 refine aSR (aU rfl (bJ rfl rfl) (aNs ?_))
 refine ah _ rfl (fun h1 => ?_) (fun h1 => ?_)
 ·skip
  have hk' : k < l.l.length := by simpa using h1
  obtain ⟨a, ha⟩ : ∃ a, l.l[k]? = some a := ⟨l.l[k]'hk', by simp⟩
  refine au (aw (az (ax (aSR (aM rfl (aA rfl (aNn (aSR (aM rfl (aM rfl (aM rfl ?_)))))))))))
  refine cF true rfl rfl (fun _ => av Tryz.underlying58 tk207 rfl ((.of (an 0 rfl))) rfl (aS ha) rfl rfl) (fun h => absurd h (by decide)) (fun ⟨b4_3, o4_3⟩ => ?_)
  refine aU rfl (aR (o := 0) tk207 rfl (an 0 rfl) rfl rfl) ?_
  refine aQ [1, 0] (false) hF true rfl rfl (fun _ => rfl) (fun hc => rfl) (fun hc => h a (List.mem_of_getElem? ha)) (fun c hc => ?_)
  refine aNn ?_
  refine ah _ rfl (fun h2 => ?_) (fun h2 => ?_)
  ·skip
   refine aSR (aM rfl (aA rfl (aNn (aj (bC (aO (aO (bC (aO ?_)))))))))
   refine bc [] [] rfl Tryz.results281 rfl ?_ (.inr rfl)
   exact ⟨⟨rfl, rfl⟩, _, rfl, fun _ => ⟨a, List.mem_of_getElem? ha, h2 ▸ hc rfl⟩, fun hz => (hz (Int.natCast_nonneg k)).elim⟩
  ·skip
   refine au (bL (aw (ai ?_)))
   refine aU rfl (bB rfl rfl (by omega)) ?_
   refine aM rfl (aNn ?_)
   refine ⟨[0, 1, 7, 8], [2, 1, 0], [], rfl, ?_⟩
   refine ⟨k + 1, ⟨⟨by omega, ?_⟩, rfl⟩, by omega⟩
   intro y hy
   rw [List.take_add_one, ha, List.mem_append] at hy
   rcases hy with hy | hy
   · exact hno y hy
   · simp at hy; subst hy; exact h2 ▸ hc rfl
 ·skip
  refine bg (bj (bj (bz (aw (aSR (aA rfl (aNn (aj ?_))))))))
  refine bc [] [] rfl Tryz.results281 rfl ?_ (.inr rfl)
  refine ⟨⟨rfl, rfl⟩, _, rfl, fun hz => absurd hz (by decide), fun _ => ?_⟩
  rw [List.take_of_length_le (by simpa using h1)] at hno; exact hno
theorem kW (l : Sl dx) (F : FuncId) (caps : List Value) (p q : Per) (Ψ : dx → Bool → Prop) (hF : bI Tryz.prog F = true) (h : ∀ a ∈ l.l, Con Tryz.prog F (a.val :: caps) [p, q] [] (YN Value.bool (Ψ a))) : Con Tryz.prog 242 [l.val, .func (.func F) #[] caps.toArray] [ShF dx.row l, p, q] []
   (YN Value.bool (fun b => (b = true → ∃ a ∈ l.l, Ψ a true) ∧ (b = false → ∀ a ∈ l.l, Ψ a false))) := by
 refine Con.enter Tryz.func242 rfl (by simp [Tryz.ntmps242]) ?_
 show awp _ _ _ _ ⟨[(0, true, _), (1, true, _)], _, _⟩
 refine aSR (aA rfl (aNn (aSR (aM rfl (aM rfl ?_)))))
 refine al (q := true) rfl (bF [2, 1, 0] [] (by kernel_rfl) rfl rfl rfl rfl (k5 l F caps p q Ψ hF h) ?_)
 rintro _ _ _ ⟨⟨rfl, rfl⟩, z, rfl, hz⟩
 refine cB (by (try simp only [nM, nN]); rfl) (by (try simp only [aV, place, Nat.reduceBEq, if_true, if_false, reduceIte, Nat.reduceAdd, nW]); rfl) ?_
 refine aU rfl (cQ rfl rfl) (aA rfl (aNn (aj ?_)))
 refine bc [] [] rfl Tryz.results242 rfl ?_ (.inr rfl)
 exact ⟨⟨rfl, rfl⟩, _, rfl, fun hb => hz.1 (by simpa using hb), fun hb => hz.2 (by simpa using hb)⟩
theorem jG (b : Nat) (F : FuncId) (caps : List Value) (p : Per) (a : dx) (Φ : Prop) (hF : bI Tryz.prog F = true) (h : Con Tryz.prog F (a.val :: caps) [p] [] (YB Φ)) : Con Tryz.prog 243 [a.val, .pointer (some ⟨b, 0, none⟩)] [At b 0 [.v (.func (.func F) #[] caps.toArray)], p] []
   (YN Value.bool (fun b => b = false → Φ)) := by
 refine Con.enter Tryz.func243 rfl (by simp [Tryz.ntmps243]) ?_
 show awp _ _ _ _ ⟨[(0, true, _), (1, true, _)], _, _⟩
 refine aSR ?_
 refine al (q := true) rfl (bO rfl rfl rfl (fun b0_0 => ?_))
 refine aH (by (try simp only [nM, nN]); rfl) ?_
 refine aA rfl (aNn (aSR (aU rfl (aK (o := 0) tk258 rfl (.of (an 0 rfl)) rfl) (aU rfl (ae 0 tk207 rfl rfl rfl) ?_))))
 refine aQ [0] (false) hF true rfl rfl (fun _ => rfl) (fun hc => rfl) (fun hc => h) (fun c hc => ?_)
 refine aU rfl (cm rfl) (aA rfl (aNn (aj ?_)))
 refine bc [] [] rfl Tryz.results243 rfl ?_ (.inr rfl)
 exact ⟨⟨rfl, rfl⟩, _, rfl, fun hb => hc rfl (by simpa using hb)⟩
theorem kG (l : Sl dx) (F : FuncId) (caps : List Value) (p : Per) (Φ : dx → Prop) (hF : bI Tryz.prog F = true) (h : ∀ a ∈ l.l, Con Tryz.prog F (a.val :: caps) [p] [] (YB (Φ a))) : Con Tryz.prog 173 [l.val, .func (.func F) #[] caps.toArray] [ShF dx.row l, p] []
   (YB (∀ a ∈ l.l, Φ a)) := by
 refine Con.enter Tryz.func173 rfl (by simp [Tryz.ntmps173]) ?_
 show awp _ _ _ _ ⟨[(0, true, _), (1, true, _)], _, _⟩
 refine aSR ?_
 refine al (q := true) rfl (bO rfl rfl rfl (fun b0_0 => ?_))
 refine aH (by (try simp only [nM, nN]); rfl) ?_
 refine aA rfl (aNs (bT 0 rfl rfl ?_))
 show awp _ _ _ _ ⟨_, At _ 0 _ :: _, _⟩
 refine ai (aM rfl (aU rfl (dn (l := [.tmp 3]) rfl) ?_))
 refine aQ (caps := []) [1, 2, 0] (false) (by kernel_rfl) true rfl rfl (fun _ => rfl) (fun hc => rfl) (fun hc => by rw [List.append_nil]; exact kW l 243 [.pointer (some ⟨b0_0, 0, none⟩)] (At b0_0 0 [.v (.func (.func F) #[] caps.toArray)]) p (fun a b => b = false → Φ a) (by kernel_rfl) (fun a ha => jG b0_0 F caps p a (Φ a) hF (h a ha))) (fun c hc => ?_)
 refine aU rfl (cm rfl) (aA rfl (aNn (aj ?_)))
 refine bc [] [] rfl Tryz.results173 rfl ?_ (.inr rfl)
 exact ⟨⟨rfl, rfl⟩, _, rfl, fun hb a ha => (hc rfl).2 (by simpa using hb) a ha rfl⟩
theorem ko (l : Sl dx) (F : FuncId) (caps : List Value) (p : Per) (hF : bI Tryz.prog F = true) (h : ∀ a ∈ l.l, ∀ b ∈ l.l, Con Tryz.prog F (a.val :: b.val :: caps) [p] [] (YB True)) : Con Tryz.prog 174 [l.val, .func (.func F) #[] caps.toArray] [ShF dx.row l, p] [] (YB True) := by
 refine Con.enter Tryz.func174 rfl (by simp [Tryz.ntmps174]) ?_
 show awp _ _ _ _ ⟨[(0, true, _), (1, true, _)], _, _⟩
 refine bf (.of (an 0 rfl)) (fun hlen => ?_)
 refine aSR (aA rfl (aNs (aSR ?_)))
 refine aA rfl (aNn (ax (aZ [0, 1, 5] [1, 0] [] (fun (k : Nat) s => k ≤ l.l.length ∧ s = ⟨[(0, true, l.val), (1, true, .func (.func F) #[] caps.toArray), (5, true, .int .i64 ((k + 1 : Nat) : Int))], [ShF dx.row l, p], []⟩) (fun k => l.l.length - k) rfl (⟨0, Nat.zero_le _, rfl⟩) ?_)))
 rintro k s ⟨hk, rfl⟩
 refine az (aSR (aM rfl (aM rfl (aU rfl (bq Tryz.underlying58 rfl) (aU rfl (bJ rfl rfl) (aNn ?_))))))
 refine ah _ rfl (fun h1 => ?_) (fun h1 => ?_)
 ·skip
  have hk' : k + 1 < l.l.length := by simp at h1; omega
  have ha := bY (l := l.l) (i := k) (by omega)
  have hb := bY (l := l.l) (i := k + 1) hk'
  refine au (aw (az (ax (az ?_))))
  refine bn [] (by kernel_rfl) ?_
  show aB _ _ _ _ _ 12 #[false, false, false, false, false, false, false, false, false, false, false, false] _
  refine bU 0 rfl (by kernel_rfl) rfl (aq rfl) ?_
  refine bU 1 rfl (by kernel_rfl) rfl (aq rfl) ?_
  refine bU 2 rfl (by kernel_rfl) rfl (aq rfl) ?_
  refine bU 3 rfl (by kernel_rfl) rfl (dT rfl rfl (by omega)) ?_
  refine dI 4 rfl (by kernel_rfl) true rfl rfl (fun _ => av Tryz.underlying58 tk207 rfl ((.of (an 0 rfl))) rfl (aS ha) (by omega) rfl) (fun h => absurd h (by decide)) (fun ⟨b4_4, o4_4⟩ => ?_)
  refine bU 5 rfl (by kernel_rfl) rfl (aR (o := 0) tk207 rfl (an 0 rfl) rfl rfl) ?_
  refine bU 6 rfl (by kernel_rfl) rfl (aq rfl) ?_
  refine bU 7 rfl (by kernel_rfl) rfl (aq rfl) ?_
  refine dI 8 rfl (by kernel_rfl) true rfl rfl (fun _ => av Tryz.underlying58 tk207 rfl ((.of (an 1 rfl))) rfl (aS hb) rfl rfl) (fun h => absurd h (by decide)) (fun ⟨b4_8, o4_8⟩ => ?_)
  refine bU 9 rfl (by kernel_rfl) rfl (aR (o := 0) tk207 rfl (an 0 rfl) rfl rfl) ?_
  refine ea 10 rfl (by kernel_rfl) [0] (false) hF true rfl rfl (fun _ => rfl) (fun hc => rfl) (fun hc => h _ (List.mem_of_getElem? ha) _ (List.mem_of_getElem? hb)) (fun c hc => ?_)
  refine bU 11 rfl (by kernel_rfl) rfl (cm rfl) ?_
  refine bS (by kernel_rfl) ?_
  refine aw ?_
  refine ah _ rfl (fun h2 => ?_) (fun h2 => ?_)
  ·skip
   refine aSR (aA rfl (aNn (aj (bC (aO (aO (bC (aO ?_))))))))
   refine bc [] [] rfl Tryz.results174 rfl ?_ (.inr rfl)
   exact ⟨⟨rfl, rfl⟩, _, rfl, fun _ => trivial⟩
  ·skip
   refine au (bL (aw (ai (aM rfl ?_))))
   refine aU rfl (bB rfl rfl (by omega)) ?_
   refine aA rfl (aNn ?_)
   refine ⟨[0, 1, 5], [1, 0], [], rfl, ?_⟩
   exact ⟨k + 1, ⟨by omega, rfl⟩, by omega⟩
 ·skip
  refine bg (bj (bj (bz (aw (aSR (aA rfl (aNn (aj ?_))))))))
  refine bc [] [] rfl Tryz.results174 rfl ?_ (.inr rfl)
  exact ⟨⟨rfl, rfl⟩, _, rfl, fun _ => trivial⟩
theorem tk265 : tyk Tryz.prog 265 = some (false, 1) := by kernel_rfl
theorem lk (l : Sl dw) (F : FuncId) (caps : List Value) (p q : Per) (Ψ : dw → Bool → Prop) (hF : bI Tryz.prog F = true) (h : ∀ a ∈ l.l, Con Tryz.prog F (a.val :: caps) [p, q] [] (YN Value.bool (Ψ a))) : Con Tryz.prog 282 [l.val, .func (.func F) #[] caps.toArray] [ShF dw.row l, p, q] []
   (YN (fun z : Int => .int .i64 z) (fun z => (z ≥ 0 → ∃ a ∈ l.l, Ψ a true) ∧ (¬ z ≥ 0 → ∀ a ∈ l.l, Ψ a false))) := by
 refine Con.enter Tryz.func282 rfl (by simp [Tryz.ntmps282]) ?_
 show awp _ _ _ _ ⟨[(0, true, _), (1, true, _)], _, _⟩
 refine bf (.of (an 0 rfl)) (fun hlen => ?_)
 refine aSR (aA rfl (aNs (aSR (aM rfl (aU rfl (bq Tryz.underlying208 rfl) (aM rfl (aNn (ax ?_))))))))
 refine aZ [0, 1, 7, 8] [2, 1, 0] [] (fun (k : Nat) s => (k ≤ l.l.length ∧ ∀ a ∈ l.l.take k, Ψ a false) ∧ s = ⟨[(0, true, l.val), (1, true, .func (.func F) #[] caps.toArray), (7, true, .int .i64 l.l.length), (8, true, .int .i64 k)], [ShF dw.row l, p, q], []⟩) (fun k => l.l.length - k) rfl (⟨0, ⟨Nat.zero_le _, fun a ha => by cases ha⟩, rfl⟩) ?_
 rintro k s ⟨⟨hk, hno⟩, rfl⟩
 refine aSR (aU rfl (bJ rfl rfl) (aNs ?_))
 refine ah _ rfl (fun h1 => ?_) (fun h1 => ?_)
 ·skip
  have hk' : k < l.l.length := by simpa using h1
  obtain ⟨a, ha⟩ : ∃ a, l.l[k]? = some a := ⟨l.l[k]'hk', by simp⟩
  refine au (aw (az (ax (aSR (aM rfl (aA rfl (aNn (aSR (aM rfl (aM rfl (aM rfl ?_)))))))))))
  refine cF true rfl rfl (fun _ => av Tryz.underlying208 tk264 rfl ((.of (an 0 rfl))) rfl (aS ha) rfl rfl) (fun h => absurd h (by decide)) (fun ⟨b4_3, o4_3⟩ => ?_)
  refine aU rfl (aR (o := 0) tk264 rfl (an 0 rfl) rfl rfl) ?_
  refine aQ [1, 0] (false) hF true rfl rfl (fun _ => rfl) (fun hc => rfl) (fun hc => h a (List.mem_of_getElem? ha)) (fun c hc => ?_)
  refine aNn ?_
  refine ah _ rfl (fun h2 => ?_) (fun h2 => ?_)
  ·skip
   refine aSR (aM rfl (aA rfl (aNn (aj (bC (aO (aO (bC (aO ?_)))))))))
   refine bc [] [] rfl Tryz.results282 rfl ?_ (.inr rfl)
   exact ⟨⟨rfl, rfl⟩, _, rfl, fun _ => ⟨a, List.mem_of_getElem? ha, h2 ▸ hc rfl⟩, fun hz => (hz (Int.natCast_nonneg k)).elim⟩
  ·skip
   refine au (bL (aw (ai ?_)))
   refine aU rfl (bB rfl rfl (by omega)) ?_
   refine aM rfl (aNn ?_)
   refine ⟨[0, 1, 7, 8], [2, 1, 0], [], rfl, ?_⟩
   refine ⟨k + 1, ⟨⟨by omega, ?_⟩, rfl⟩, by omega⟩
   intro y hy
   rw [List.take_add_one, ha, List.mem_append] at hy
   rcases hy with hy | hy
   · exact hno y hy
   · simp at hy; subst hy; exact h2 ▸ hc rfl
 ·skip
  refine bg (bj (bj (bz (aw (aSR (aA rfl (aNn (aj ?_))))))))
  refine bc [] [] rfl Tryz.results282 rfl ?_ (.inr rfl)
  refine ⟨⟨rfl, rfl⟩, _, rfl, fun hz => absurd hz (by decide), fun _ => ?_⟩
  rw [List.take_of_length_le (by simpa using h1)] at hno; exact hno
theorem k7 (l : Sl dw) (F : FuncId) (caps : List Value) (p q : Per) (Ψ : dw → Bool → Prop) (hF : bI Tryz.prog F = true) (h : ∀ a ∈ l.l, Con Tryz.prog F (a.val :: caps) [p, q] [] (YN Value.bool (Ψ a))) : Con Tryz.prog 244 [l.val, .func (.func F) #[] caps.toArray] [ShF dw.row l, p, q] []
   (YN Value.bool (fun b => (b = true → ∃ a ∈ l.l, Ψ a true) ∧ (b = false → ∀ a ∈ l.l, Ψ a false))) := by
 refine Con.enter Tryz.func244 rfl (by simp [Tryz.ntmps244]) ?_
 show awp _ _ _ _ ⟨[(0, true, _), (1, true, _)], _, _⟩
 refine aSR (aA rfl (aNn (aSR (aM rfl (aM rfl ?_)))))
 refine al (q := true) rfl (bF [2, 1, 0] [] (by kernel_rfl) rfl rfl rfl rfl (lk l F caps p q Ψ hF h) ?_)
 rintro _ _ _ ⟨⟨rfl, rfl⟩, z, rfl, hz⟩
 refine cB (by (try simp only [nM, nN]); rfl) (by (try simp only [aV, place, Nat.reduceBEq, if_true, if_false, reduceIte, Nat.reduceAdd, nW]); rfl) ?_
 refine aU rfl (cQ rfl rfl) (aA rfl (aNn (aj ?_)))
 refine bc [] [] rfl Tryz.results244 rfl ?_ (.inr rfl)
 exact ⟨⟨rfl, rfl⟩, _, rfl, fun hb => hz.1 (by simpa using hb), fun hb => hz.2 (by simpa using hb)⟩
theorem j2 (b : Nat) (F : FuncId) (caps : List Value) (p : Per) (a : dw) (Φ : Prop) (hF : bI Tryz.prog F = true) (h : Con Tryz.prog F (a.val :: caps) [p] [] (YB Φ)) : Con Tryz.prog 245 [a.val, .pointer (some ⟨b, 0, none⟩)] [At b 0 [.v (.func (.func F) #[] caps.toArray)], p] []
   (YN Value.bool (fun b => b = false → Φ)) := by
 refine Con.enter Tryz.func245 rfl (by simp [Tryz.ntmps245]) ?_
 show awp _ _ _ _ ⟨[(0, true, _), (1, true, _)], _, _⟩
 refine aSR ?_
 refine al (q := true) rfl (bO rfl rfl rfl (fun b0_0 => ?_))
 refine aH (by (try simp only [nM, nN]); rfl) ?_
 refine aA rfl (aNn (aSR (aU rfl (aK (o := 0) tk265 rfl (.of (an 0 rfl)) rfl) (aU rfl (ae 0 tk264 rfl rfl rfl) ?_))))
 refine aQ [0] (false) hF true rfl rfl (fun _ => rfl) (fun hc => rfl) (fun hc => h) (fun c hc => ?_)
 refine aU rfl (cm rfl) (aA rfl (aNn (aj ?_)))
 refine bc [] [] rfl Tryz.results245 rfl ?_ (.inr rfl)
 exact ⟨⟨rfl, rfl⟩, _, rfl, fun hb => hc rfl (by simpa using hb)⟩
theorem kF (l : Sl dw) (F : FuncId) (caps : List Value) (p : Per) (Φ : dw → Prop) (hF : bI Tryz.prog F = true) (h : ∀ a ∈ l.l, Con Tryz.prog F (a.val :: caps) [p] [] (YB (Φ a))) : Con Tryz.prog 177 [l.val, .func (.func F) #[] caps.toArray] [ShF dw.row l, p] []
   (YB (∀ a ∈ l.l, Φ a)) := by
 refine Con.enter Tryz.func177 rfl (by simp [Tryz.ntmps177]) ?_
 show awp _ _ _ _ ⟨[(0, true, _), (1, true, _)], _, _⟩
 refine aSR ?_
 refine al (q := true) rfl (bO rfl rfl rfl (fun b0_0 => ?_))
 refine aH (by (try simp only [nM, nN]); rfl) ?_
 refine aA rfl (aNs (bT 0 rfl rfl ?_))
 show awp _ _ _ _ ⟨_, At _ 0 _ :: _, _⟩
 refine ai (aM rfl (aU rfl (dn (l := [.tmp 3]) rfl) ?_))
 refine aQ (caps := []) [1, 2, 0] (false) (by kernel_rfl) true rfl rfl (fun _ => rfl) (fun hc => rfl) (fun hc => by rw [List.append_nil]; exact k7 l 245 [.pointer (some ⟨b0_0, 0, none⟩)] (At b0_0 0 [.v (.func (.func F) #[] caps.toArray)]) p (fun a b => b = false → Φ a) (by kernel_rfl) (fun a ha => j2 b0_0 F caps p a (Φ a) hF (h a ha))) (fun c hc => ?_)
 refine aU rfl (cm rfl) (aA rfl (aNn (aj ?_)))
 refine bc [] [] rfl Tryz.results177 rfl ?_ (.inr rfl)
 exact ⟨⟨rfl, rfl⟩, _, rfl, fun hb a ha => (hc rfl).2 (by simpa using hb) a ha rfl⟩
theorem kr (l : Sl dw) (F : FuncId) (caps : List Value) (p : Per) (hF : bI Tryz.prog F = true) (h : ∀ a ∈ l.l, ∀ b ∈ l.l, Con Tryz.prog F (a.val :: b.val :: caps) [p] [] (YB True)) : Con Tryz.prog 179 [l.val, .func (.func F) #[] caps.toArray] [ShF dw.row l, p] [] (YB True) := by
 refine Con.enter Tryz.func179 rfl (by simp [Tryz.ntmps179]) ?_
 show awp _ _ _ _ ⟨[(0, true, _), (1, true, _)], _, _⟩
 refine bf (.of (an 0 rfl)) (fun hlen => ?_)
 refine aSR (aA rfl (aNs (aSR ?_)))
 refine aA rfl (aNn (ax (aZ [0, 1, 5] [1, 0] [] (fun (k : Nat) s => k ≤ l.l.length ∧ s = ⟨[(0, true, l.val), (1, true, .func (.func F) #[] caps.toArray), (5, true, .int .i64 ((k + 1 : Nat) : Int))], [ShF dw.row l, p], []⟩) (fun k => l.l.length - k) rfl (⟨0, Nat.zero_le _, rfl⟩) ?_)))
 rintro k s ⟨hk, rfl⟩
 refine az (aSR (aM rfl (aM rfl (aU rfl (bq Tryz.underlying208 rfl) (aU rfl (bJ rfl rfl) (aNn ?_))))))
 refine ah _ rfl (fun h1 => ?_) (fun h1 => ?_)
 ·skip
  have hk' : k + 1 < l.l.length := by simp at h1; omega
  have ha := bY (l := l.l) (i := k) (by omega)
  have hb := bY (l := l.l) (i := k + 1) hk'
  refine au (aw (az (ax (az ?_))))
  refine bn [] (by kernel_rfl) ?_
  show aB _ _ _ _ _ 12 #[false, false, false, false, false, false, false, false, false, false, false, false] _
  refine bU 0 rfl (by kernel_rfl) rfl (aq rfl) ?_
  refine bU 1 rfl (by kernel_rfl) rfl (aq rfl) ?_
  refine bU 2 rfl (by kernel_rfl) rfl (aq rfl) ?_
  refine bU 3 rfl (by kernel_rfl) rfl (dT rfl rfl (by omega)) ?_
  refine dI 4 rfl (by kernel_rfl) true rfl rfl (fun _ => av Tryz.underlying208 tk264 rfl ((.of (an 0 rfl))) rfl (aS ha) (by omega) rfl) (fun h => absurd h (by decide)) (fun ⟨b4_4, o4_4⟩ => ?_)
  refine bU 5 rfl (by kernel_rfl) rfl (aR (o := 0) tk264 rfl (an 0 rfl) rfl rfl) ?_
  refine bU 6 rfl (by kernel_rfl) rfl (aq rfl) ?_
  refine bU 7 rfl (by kernel_rfl) rfl (aq rfl) ?_
  refine dI 8 rfl (by kernel_rfl) true rfl rfl (fun _ => av Tryz.underlying208 tk264 rfl ((.of (an 1 rfl))) rfl (aS hb) rfl rfl) (fun h => absurd h (by decide)) (fun ⟨b4_8, o4_8⟩ => ?_)
  refine bU 9 rfl (by kernel_rfl) rfl (aR (o := 0) tk264 rfl (an 0 rfl) rfl rfl) ?_
  refine ea 10 rfl (by kernel_rfl) [0] (false) hF true rfl rfl (fun _ => rfl) (fun hc => rfl) (fun hc => h _ (List.mem_of_getElem? ha) _ (List.mem_of_getElem? hb)) (fun c hc => ?_)
  refine bU 11 rfl (by kernel_rfl) rfl (cm rfl) ?_
  refine bS (by kernel_rfl) ?_
  refine aw ?_
  refine ah _ rfl (fun h2 => ?_) (fun h2 => ?_)
  ·skip
   refine aSR (aA rfl (aNn (aj (bC (aO (aO (bC (aO ?_))))))))
   refine bc [] [] rfl Tryz.results179 rfl ?_ (.inr rfl)
   exact ⟨⟨rfl, rfl⟩, _, rfl, fun _ => trivial⟩
  ·skip
   refine au (bL (aw (ai (aM rfl ?_))))
   refine aU rfl (bB rfl rfl (by omega)) ?_
   refine aA rfl (aNn ?_)
   refine ⟨[0, 1, 5], [1, 0], [], rfl, ?_⟩
   exact ⟨k + 1, ⟨by omega, rfl⟩, by omega⟩
 ·skip
  refine bg (bj (bj (bz (aw (aSR (aA rfl (aNn (aj ?_))))))))
  refine bc [] [] rfl Tryz.results179 rfl ?_ (.inr rfl)
  exact ⟨⟨rfl, rfl⟩, _, rfl, fun _ => trivial⟩
theorem tk268 : tyk Tryz.prog 268 = some (false, 1) := by kernel_rfl
theorem jZ (l : Sl bZ) (F : FuncId) (caps : List Value) (p q : Per) (Ψ : bZ → Bool → Prop) (hF : bI Tryz.prog F = true) (h : ∀ a ∈ l.l, Con Tryz.prog F (a.val :: caps) [p, q] [] (YN Value.bool (Ψ a))) : Con Tryz.prog 283 [l.val, .func (.func F) #[] caps.toArray] [ShF bZ.row l, p, q] []
   (YN (fun z : Int => .int .i64 z) (fun z => (z ≥ 0 → ∃ a ∈ l.l, Ψ a true) ∧ (¬ z ≥ 0 → ∀ a ∈ l.l, Ψ a false))) := by
 refine Con.enter Tryz.func283 rfl (by simp [Tryz.ntmps283]) ?_
 show awp _ _ _ _ ⟨[(0, true, _), (1, true, _)], _, _⟩
 refine bf (.of (an 0 rfl)) (fun hlen => ?_)
 refine aSR (aA rfl (aNs (aSR (aM rfl (aU rfl (bq Tryz.underlying59 rfl) (aM rfl (aNn (ax ?_))))))))
 refine aZ [0, 1, 7, 8] [2, 1, 0] [] (fun (k : Nat) s => (k ≤ l.l.length ∧ ∀ a ∈ l.l.take k, Ψ a false) ∧ s = ⟨[(0, true, l.val), (1, true, .func (.func F) #[] caps.toArray), (7, true, .int .i64 l.l.length), (8, true, .int .i64 k)], [ShF bZ.row l, p, q], []⟩) (fun k => l.l.length - k) rfl (⟨0, ⟨Nat.zero_le _, fun a ha => by cases ha⟩, rfl⟩) ?_
 rintro k s ⟨⟨hk, hno⟩, rfl⟩
 refine aSR (aU rfl (bJ rfl rfl) (aNs ?_))
 refine ah _ rfl (fun h1 => ?_) (fun h1 => ?_)
 ·skip
  have hk' : k < l.l.length := by simpa using h1
  obtain ⟨a, ha⟩ : ∃ a, l.l[k]? = some a := ⟨l.l[k]'hk', by simp⟩
  refine au (aw (az (ax (aSR (aM rfl (aA rfl (aNn (aSR (aM rfl (aM rfl (aM rfl ?_)))))))))))
  refine cF true rfl rfl (fun _ => av Tryz.underlying59 tk210 rfl ((.of (an 0 rfl))) rfl (aS ha) rfl rfl) (fun h => absurd h (by decide)) (fun ⟨b4_3, o4_3⟩ => ?_)
  refine aU rfl (aR (o := 0) tk210 rfl (an 0 rfl) rfl rfl) ?_
  refine aQ [1, 0] (false) hF true rfl rfl (fun _ => rfl) (fun hc => rfl) (fun hc => h a (List.mem_of_getElem? ha)) (fun c hc => ?_)
  refine aNn ?_
  refine ah _ rfl (fun h2 => ?_) (fun h2 => ?_)
  ·skip
   refine aSR (aM rfl (aA rfl (aNn (aj (bC (aO (aO (bC (aO ?_)))))))))
   refine bc [] [] rfl Tryz.results283 rfl ?_ (.inr rfl)
   exact ⟨⟨rfl, rfl⟩, _, rfl, fun _ => ⟨a, List.mem_of_getElem? ha, h2 ▸ hc rfl⟩, fun hz => (hz (Int.natCast_nonneg k)).elim⟩
  ·skip
   refine au (bL (aw (ai ?_)))
   refine aU rfl (bB rfl rfl (by omega)) ?_
   refine aM rfl (aNn ?_)
   refine ⟨[0, 1, 7, 8], [2, 1, 0], [], rfl, ?_⟩
   refine ⟨k + 1, ⟨⟨by omega, ?_⟩, rfl⟩, by omega⟩
   intro y hy
   rw [List.take_add_one, ha, List.mem_append] at hy
   rcases hy with hy | hy
   · exact hno y hy
   · simp at hy; subst hy; exact h2 ▸ hc rfl
 ·skip
  refine bg (bj (bj (bz (aw (aSR (aA rfl (aNn (aj ?_))))))))
  refine bc [] [] rfl Tryz.results283 rfl ?_ (.inr rfl)
  refine ⟨⟨rfl, rfl⟩, _, rfl, fun hz => absurd hz (by decide), fun _ => ?_⟩
  rw [List.take_of_length_le (by simpa using h1)] at hno; exact hno
theorem jK (l : Sl bZ) (F : FuncId) (caps : List Value) (p q : Per) (Ψ : bZ → Bool → Prop) (hF : bI Tryz.prog F = true) (h : ∀ a ∈ l.l, Con Tryz.prog F (a.val :: caps) [p, q] [] (YN Value.bool (Ψ a))) : Con Tryz.prog 246 [l.val, .func (.func F) #[] caps.toArray] [ShF bZ.row l, p, q] []
   (YN Value.bool (fun b => (b = true → ∃ a ∈ l.l, Ψ a true) ∧ (b = false → ∀ a ∈ l.l, Ψ a false))) := by
 refine Con.enter Tryz.func246 rfl (by simp [Tryz.ntmps246]) ?_
 show awp _ _ _ _ ⟨[(0, true, _), (1, true, _)], _, _⟩
 refine aSR (aA rfl (aNn (aSR (aM rfl (aM rfl ?_)))))
 refine al (q := true) rfl (bF [2, 1, 0] [] (by kernel_rfl) rfl rfl rfl rfl (jZ l F caps p q Ψ hF h) ?_)
 rintro _ _ _ ⟨⟨rfl, rfl⟩, z, rfl, hz⟩
 refine cB (by (try simp only [nM, nN]); rfl) (by (try simp only [aV, place, Nat.reduceBEq, if_true, if_false, reduceIte, Nat.reduceAdd, nW]); rfl) ?_
 refine aU rfl (cQ rfl rfl) (aA rfl (aNn (aj ?_)))
 refine bc [] [] rfl Tryz.results246 rfl ?_ (.inr rfl)
 exact ⟨⟨rfl, rfl⟩, _, rfl, fun hb => hz.1 (by simpa using hb), fun hb => hz.2 (by simpa using hb)⟩
theorem iK (b : Nat) (F : FuncId) (caps : List Value) (p : Per) (a : bZ) (Φ : Prop) (hF : bI Tryz.prog F = true) (h : Con Tryz.prog F (a.val :: caps) [p] [] (YB Φ)) : Con Tryz.prog 247 [a.val, .pointer (some ⟨b, 0, none⟩)] [At b 0 [.v (.func (.func F) #[] caps.toArray)], p] []
   (YN Value.bool (fun b => b = false → Φ)) := by
 refine Con.enter Tryz.func247 rfl (by simp [Tryz.ntmps247]) ?_
 show awp _ _ _ _ ⟨[(0, true, _), (1, true, _)], _, _⟩
 refine aSR ?_
 refine al (q := true) rfl (bO rfl rfl rfl (fun b0_0 => ?_))
 refine aH (by (try simp only [nM, nN]); rfl) ?_
 refine aA rfl (aNn (aSR (aU rfl (aK (o := 0) tk268 rfl (.of (an 0 rfl)) rfl) (aU rfl (ae 0 tk210 rfl rfl rfl) ?_))))
 refine aQ [0] (false) hF true rfl rfl (fun _ => rfl) (fun hc => rfl) (fun hc => h) (fun c hc => ?_)
 refine aU rfl (cm rfl) (aA rfl (aNn (aj ?_)))
 refine bc [] [] rfl Tryz.results247 rfl ?_ (.inr rfl)
 exact ⟨⟨rfl, rfl⟩, _, rfl, fun hb => hc rfl (by simpa using hb)⟩
theorem ja (l : Sl bZ) (F : FuncId) (caps : List Value) (p : Per) (Φ : bZ → Prop) (hF : bI Tryz.prog F = true) (h : ∀ a ∈ l.l, Con Tryz.prog F (a.val :: caps) [p] [] (YB (Φ a))) : Con Tryz.prog 182 [l.val, .func (.func F) #[] caps.toArray] [ShF bZ.row l, p] []
   (YB (∀ a ∈ l.l, Φ a)) := by
 refine Con.enter Tryz.func182 rfl (by simp [Tryz.ntmps182]) ?_
 show awp _ _ _ _ ⟨[(0, true, _), (1, true, _)], _, _⟩
 refine aSR ?_
 refine al (q := true) rfl (bO rfl rfl rfl (fun b0_0 => ?_))
 refine aH (by (try simp only [nM, nN]); rfl) ?_
 refine aA rfl (aNs (bT 0 rfl rfl ?_))
 show awp _ _ _ _ ⟨_, At _ 0 _ :: _, _⟩
 refine ai (aM rfl (aU rfl (dn (l := [.tmp 3]) rfl) ?_))
 refine aQ (caps := []) [1, 2, 0] (false) (by kernel_rfl) true rfl rfl (fun _ => rfl) (fun hc => rfl) (fun hc => by rw [List.append_nil]; exact jK l 247 [.pointer (some ⟨b0_0, 0, none⟩)] (At b0_0 0 [.v (.func (.func F) #[] caps.toArray)]) p (fun a b => b = false → Φ a) (by kernel_rfl) (fun a ha => iK b0_0 F caps p a (Φ a) hF (h a ha))) (fun c hc => ?_)
 refine aU rfl (cm rfl) (aA rfl (aNn (aj ?_)))
 refine bc [] [] rfl Tryz.results182 rfl ?_ (.inr rfl)
 exact ⟨⟨rfl, rfl⟩, _, rfl, fun hb a ha => (hc rfl).2 (by simpa using hb) a ha rfl⟩
theorem je (l : Sl bZ) (F : FuncId) (caps : List Value) (p : Per) (hF : bI Tryz.prog F = true) (h : ∀ a ∈ l.l, ∀ b ∈ l.l, Con Tryz.prog F (a.val :: b.val :: caps) [p] [] (YB True)) : Con Tryz.prog 183 [l.val, .func (.func F) #[] caps.toArray] [ShF bZ.row l, p] [] (YB True) := by
 refine Con.enter Tryz.func183 rfl (by simp [Tryz.ntmps183]) ?_
 show awp _ _ _ _ ⟨[(0, true, _), (1, true, _)], _, _⟩
 refine bf (.of (an 0 rfl)) (fun hlen => ?_)
 refine aSR (aA rfl (aNs (aSR ?_)))
 refine aA rfl (aNn (ax (aZ [0, 1, 5] [1, 0] [] (fun (k : Nat) s => k ≤ l.l.length ∧ s = ⟨[(0, true, l.val), (1, true, .func (.func F) #[] caps.toArray), (5, true, .int .i64 ((k + 1 : Nat) : Int))], [ShF bZ.row l, p], []⟩) (fun k => l.l.length - k) rfl (⟨0, Nat.zero_le _, rfl⟩) ?_)))
 rintro k s ⟨hk, rfl⟩
 refine az (aSR (aM rfl (aM rfl (aU rfl (bq Tryz.underlying59 rfl) (aU rfl (bJ rfl rfl) (aNn ?_))))))
 refine ah _ rfl (fun h1 => ?_) (fun h1 => ?_)
 ·skip
  have hk' : k + 1 < l.l.length := by simp at h1; omega
  have ha := bY (l := l.l) (i := k) (by omega)
  have hb := bY (l := l.l) (i := k + 1) hk'
  refine au (aw (az (ax (az ?_))))
  refine bn [] (by kernel_rfl) ?_
  show aB _ _ _ _ _ 12 #[false, false, false, false, false, false, false, false, false, false, false, false] _
  refine bU 0 rfl (by kernel_rfl) rfl (aq rfl) ?_
  refine bU 1 rfl (by kernel_rfl) rfl (aq rfl) ?_
  refine bU 2 rfl (by kernel_rfl) rfl (aq rfl) ?_
  refine bU 3 rfl (by kernel_rfl) rfl (dT rfl rfl (by omega)) ?_
  refine dI 4 rfl (by kernel_rfl) true rfl rfl (fun _ => av Tryz.underlying59 tk210 rfl ((.of (an 0 rfl))) rfl (aS ha) (by omega) rfl) (fun h => absurd h (by decide)) (fun ⟨b4_4, o4_4⟩ => ?_)
  refine bU 5 rfl (by kernel_rfl) rfl (aR (o := 0) tk210 rfl (an 0 rfl) rfl rfl) ?_
  refine bU 6 rfl (by kernel_rfl) rfl (aq rfl) ?_
  refine bU 7 rfl (by kernel_rfl) rfl (aq rfl) ?_
  refine dI 8 rfl (by kernel_rfl) true rfl rfl (fun _ => av Tryz.underlying59 tk210 rfl ((.of (an 1 rfl))) rfl (aS hb) rfl rfl) (fun h => absurd h (by decide)) (fun ⟨b4_8, o4_8⟩ => ?_)
  refine bU 9 rfl (by kernel_rfl) rfl (aR (o := 0) tk210 rfl (an 0 rfl) rfl rfl) ?_
  refine ea 10 rfl (by kernel_rfl) [0] (false) hF true rfl rfl (fun _ => rfl) (fun hc => rfl) (fun hc => h _ (List.mem_of_getElem? ha) _ (List.mem_of_getElem? hb)) (fun c hc => ?_)
  refine bU 11 rfl (by kernel_rfl) rfl (cm rfl) ?_
  refine bS (by kernel_rfl) ?_
  refine aw ?_
  refine ah _ rfl (fun h2 => ?_) (fun h2 => ?_)
  ·skip
   refine aSR (aA rfl (aNn (aj (bC (aO (aO (bC (aO ?_))))))))
   refine bc [] [] rfl Tryz.results183 rfl ?_ (.inr rfl)
   exact ⟨⟨rfl, rfl⟩, _, rfl, fun _ => trivial⟩
  ·skip
   refine au (bL (aw (ai (aM rfl ?_))))
   refine aU rfl (bB rfl rfl (by omega)) ?_
   refine aA rfl (aNn ?_)
   refine ⟨[0, 1, 5], [1, 0], [], rfl, ?_⟩
   exact ⟨k + 1, ⟨by omega, rfl⟩, by omega⟩
 ·skip
  refine bg (bj (bj (bz (aw (aSR (aA rfl (aNn (aj ?_))))))))
  refine bc [] [] rfl Tryz.results183 rfl ?_ (.inr rfl)
  exact ⟨⟨rfl, rfl⟩, _, rfl, fun _ => trivial⟩
end Go.Proofs.YtgmiihmahaahiaaGreatDoor

