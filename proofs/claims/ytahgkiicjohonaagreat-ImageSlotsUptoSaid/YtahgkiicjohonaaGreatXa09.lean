/- Parts of the proof, in build order. No condition. -/
import Derived.Test.YtahgkiicjohonaaGreatXa06
import Derived.Test.YtahgkiicjohonaaGreatXa07
import Derived.Test.YtahgkiicjohonaaGreatXa04
import Derived.Test.YtahgkiicjohonaaGreatXa05
import Derived.Test.YtahgkiicjohonaaGreatXa08
import Derived.Sort.Walk0
import Derived.ChangeKeysEq
import Derived.Lib.Bytealg
import Derived.Test.YtahgkiicjohonaaGreatProg
import Derived.Ground.NamesProg
import Derived.Shelf.Sort.Plain
import Derived.Ground.Names2Prog
import Derived.Shelf.Slices.CompactI
import Derived.Shelf.Slices.Clone
import Derived.Shelf.Slices.Reverse
set_option linter.unusedSimpArgs false
set_option linter.unusedVariables false
set_option maxHeartbeats 1000000
set_option maxRecDepth 20000
namespace Go.Sy
open Go.RowKit Go.Lp
theorem Ent.mk2 {ps : List Per} {p q : Per} (h1 : Ent ps p) (h2 : Ent ps q) : Ent ps (cD p q) := fun w S hp => ⟨h1 w S hp, h2 w S hp⟩
def Bun (l : List Res) : Res :=
 ⟨fun w S F => ∃ fp : Nat → bH, (∀ (i : Nat) (R : Res), l[i]? = some R → R.holds w S (fp i)) ∧ (∀ i j, i < l.length → j < l.length → i ≠ j → ∀ b, fp i b → ¬ fp j b) ∧ ∀ b, F b ↔ tot fp l.length b,
  fun ⟨fp, h1, h2, h3⟩ k1 k2 k3 => ⟨fp, fun i R hR => R.mono (h1 i R hR) (fun b hb => k1 b ((h3 b).2 ⟨i, (List.getElem?_eq_some_iff.1 hR).1, hb⟩)) k2 k3, h2, h3⟩⟩
section
variable {w : World} {S : bH} {fp : Nat → bH} {ps : List Per} {l : List Res}
theorem St.bun (h : St w S fp ps l) : St w S (fun _ => tot fp l.length) ps [Bun l] where
 per := h.per
 res i R hR := by
   cases i with
   | zero => simp only [List.getElem?_cons_zero, Option.some.injEq] at hR; subst hR; exact ⟨fp, h.res, h.dj, fun _ => Iff.rfl⟩
   | succ i => simp at hR
 lt i hi b hb := let ⟨j, hj, hjb⟩ := hb; h.lt j hj b hjb
 dj i j hi hj hne := by simp only [List.length_singleton] at hi hj; omega
 slt := h.slt
theorem St.unbun (h : St w S fp ps [Bun l]) : ∃ fp', St w S fp' ps l ∧ ∀ b, tot fp' l.length b → tot fp [Bun l].length b := by
 obtain ⟨fp', h1, h2, h3⟩ := h.res 0 _ rfl
 have hin : ∀ b, tot fp' l.length b → fp 0 b := fun b hb => (h3 b).2 hb
 exact ⟨fp', ⟨h.per, h1, fun i hi b hb => h.lt 0 (by simp) b (hin b ⟨i, hi, hb⟩), h2, h.slt⟩, fun b hb => ⟨0, by simp, hin b hb⟩⟩
theorem sQ (F : bH) (b : Nat) (R : Res) : tot (fun _ => F) [R].length b ↔ F b := ⟨fun ⟨_, _, h⟩ => h, fun h => ⟨0, by simp, h⟩⟩
variable {P : Program} {R : Value → List Per → List Res → Prop}
theorem acS {f : FuncId} {args : List Value} (h : Con P f args ps [Bun l] fun v ps' hp' => ∃ l', hp' = [Bun l'] ∧ R v ps' l') : Con P f args ps l R := fun w S fp hst =>
 (h w S _ hst.bun).mono fun e w' ⟨v, ps', hp', S', fp', he, ⟨l', hl, hR⟩, hst', hE, hg⟩ => by
   subst hl
   obtain ⟨fp2, k1, k2⟩ := hst'.unbun
   exact ⟨v, ps', l', S', fp2, he, hR, k1, hE.wider (fun b hb => (sQ _ b (Bun l)).1 hb), fun b hb => (hg b (k2 b hb)).imp (fun h => (sQ _ b (Bun l)).1 h) id⟩
theorem Con.post {f : FuncId} {args : List Value} {R' : Value → List Per → List Res → Prop} (h : Con P f args ps l R) (hr : ∀ v ps' hp', R v ps' hp' → R' v ps' hp') : Con P f args ps l R' := fun w S fp hst =>
 (h w S fp hst).mono fun e w' ⟨v, ps', hp', S', fp', he, hR, h⟩ => ⟨v, ps', hp', S', fp', he, hr _ _ _ hR, h⟩
theorem Con.pre {f : FuncId} {args : List Value} {ps0 : List Per} (h : Con P f args ps l R) (hr : ∀ p ∈ ps, Ent ps0 p) : Con P f args ps0 l R := fun w S fp hst =>
 h w S fp ⟨fun p hp => hr p hp w S hst.per, hst.res, hst.lt, hst.dj, hst.slt⟩
end
section
variable {P : Program} {n : Fr} {ops : Array Oper} {Q : Exit → Sta → Prop} {s : Sta} {o : Oper}
end
end Go.Sy

namespace Go.Sy
theorem iU {P : Program} {n : Fr} {s : Sta} {d : Option Tmp} {ty : TypeId} {pos : String} {af : Array Edge} {gd : Option (Nat × Bool)} {v : Value} {f : FuncId} {g : Operand} {caps : List Value} (hf : dJ P f = true) {l : List Operand} {ts : Array TypeId} {vs : List Value} (hg : ev s.env g = some (true, .func (.func f) #[] caps.toArray)) (hx : evs s.env l = some vs)
   (hc : ∀ w S fp, St w S fp s.ps s.hp → Calls P f (vs ++ caps).toArray w fun e w' => e = .returned v ∧ Go.Sy.Below w.heap.size w w') :
   Quiet P n ⟨d, .call ⟨.value g, l.toArray, ts⟩, ty, pos, af, gd⟩ s v := fun w S fp a hst he hn => by
 rw [nj hf (he.val hg rfl) (gG he l vs hx)]
 have := hc w S fp hst
 rw [show (vs ++ caps).toArray = vs.toArray ++ caps.toArray by simp] at this
 exact this.mono fun e w' ⟨h1, h2⟩ => ⟨v, h1, rfl, h2⟩
open RowKit in
theorem Con.quiet3 {P : Program} {v : Value} {f : FuncId} {args : List Value} {p q t : Per} (h : Con P f args [p, q, t] [] fun u _ _ => u = v) {w : World} {S : bH} {fp : Nat → bH} {ps' : List Per} {hp : List Res} (hp1 : p ∈ ps') (hq1 : q ∈ ps') (ht1 : t ∈ ps') (hst : St w S fp ps' hp) :
   Calls P f args.toArray w fun e w' => e = .returned v ∧ Go.Sy.Below w.heap.size w w' := h.quiet (fun _ h => by
     simp only [List.mem_cons, List.not_mem_nil, or_false] at h
     rcases h with rfl | rfl | rfl
     · exact hp1
     · exact hq1
     · exact ht1) hst
end Go.Sy
namespace Go.Proofs.YtahgkiicjohonaaGreat
open Go.RowKit Go.Lp Go.Sy
def yj (n v : Int) : Bool := decide (v ≥ 0) && decide (v < n)
def lY (n : Int) (a : dy) : Bool := !yj n a.from_ || !yj n a.to_
def wA (n : Int) (l : List dy) : Bool := (decide (n ≥ 0) && decide (n ≤ 262144)) && !l.any (lY n)
end Go.Proofs.YtahgkiicjohonaaGreat

namespace Go.Lp
open Go.RowKit Go.Proofs.YtahgkiicjohonaaGreat
def ofBytes (l : List UInt8) : ByteArray := ⟨l.toArray⟩
end Go.Lp

namespace Go.Proofs.YtahgkiicjohonaaGreat
open Go.RowKit Go.Lp Go.Sy
open Go.Proofs.Tryz
attribute [local irreducible] aL aB awp aC fwp Quiet
theorem tk52 : tyk Tryz.prog 52 = some (false, 1) := by kernel_rfl
theorem vj (n v : Int) (bn : Nat) : Con Tryz.prog 217 [.int .i64 v, .pointer (some ⟨bn, 0, none⟩)] [At bn 0 [.v (.int .i64 n)]] [] fun r _ _ => r = .bool (yj n v) := by
 refine Con.enter Tryz.func217 rfl (by simp [Tryz.ntmps217]) ?_
 show awp _ _ _ _ ⟨[(0, true, _), (1, true, _)], _, _⟩
 refine aSR (aA rfl (aNn (aSR (aM rfl (aU rfl (fk rfl rfl) (aM rfl (aG rfl rfl (fun hc => aP rfl) (aG rfl rfl (fun hc => bj (o := 0) tk3 rfl (.of (aD 0 rfl)) rfl) (aG rfl rfl (fun hc => bD (ae rfl hc) (ae rfl hc)) (aU rfl (bp rfl rfl (fun h => gt rfl h)) (aA rfl (aNn (az ?_)))))))))))))
 refine oO [] [] rfl Tryz.results217 rfl ?_ (.inr rfl)
 rfl
abbrev xZ (bn : Nat) : Value := .func (.func 217) #[] #[.pointer (some ⟨bn, 0, none⟩)]
theorem wE (n : Int) (a : dy) (bn b5 : Nat) : Con Tryz.prog 219 [a.val, .pointer (some ⟨b5, 0, none⟩)] [At b5 0 [.v (xZ bn)], At bn 0 [.v (.int .i64 n)]] [] fun r _ _ => r = .bool (lY n a) := by
 refine Con.enter Tryz.func219 rfl (by simp [Tryz.ntmps219]) ?_
 show awp _ _ _ _ ⟨[(0, true, _), (1, true, _)], _, _⟩
 refine aSR ?_
 refine aT (q := true) rfl (cx rfl rfl rfl (fun b0_0 => ?_))
 refine aHN ?_
 refine aA rfl (aNn (aSR (aU rfl (bj (o := 0) tk52 rfl (.of (aD 0 rfl)) rfl) ?_)))
 refine aU rfl (qFA (off := 0) rfl) ?_
 refine aU rfl (bC 0 tk3 rfl rfl rfl) ?_
 refine aU rfl (iU (by kernel_rfl) rfl rfl (fun w S fp hst => (vj n _ bn).quiet1 (aD 1 rfl) hst)) ?_
 refine aU rfl (dp rfl) (aM rfl (aG rfl rfl (fun hc => bj (o := 0) tk52 rfl (.of (aD 0 rfl)) rfl) ?_))
 refine aG rfl rfl (fun hc => qFA (off := 1) rfl) ?_
 refine aG rfl rfl (fun hc => bC 0 tk3 (ae rfl hc) rfl rfl) ?_
 refine aG rfl rfl (fun hc => iU (by kernel_rfl) (ae rfl hc) (aJ (ae rfl hc) rfl) (fun w S fp hst => (vj n _ bn).quiet1 (aD 1 rfl) hst)) ?_
 refine aG rfl rfl (fun hc => dp (ae rfl hc)) (aU rfl (cK rfl rfl (fun h => gf rfl h)) (aA rfl (aNn (az ?_))))
 refine oO [] [] rfl Tryz.results219 rfl ?_ (.inr rfl)
 rfl
theorem qY (n : Int) (l : Sl dy) (bn b5 : Nat) : Con Tryz.prog 234 [l.val, .func (.func 219) #[] #[.pointer (some ⟨b5, 0, none⟩)]] [ShF dy.row l, At b5 0 [.v (xZ bn)], At bn 0 [.v (.int .i64 n)]] []
   fun r ps hp => (ps = [] ∧ hp = []) ∧ ∃ z : Int, r = .int .i64 z ∧ decide (z ≥ 0) = l.l.any (lY n) := by
 refine Con.enter Tryz.func234 rfl (by simp [Tryz.ntmps234]) ?_
 show awp _ _ _ _ ⟨[(0, true, _), (1, true, _)], _, _⟩
 refine bQ (.of (aD 0 rfl)) (fun hlen => ?_)
 refine aSR (aA rfl (aNs (aSR ?_)))
 refine aM rfl (aU rfl (aW Tryz.underlying262 rfl) (aM rfl (aNn (aq (aQ [0, 1, 7, 8] [2, 1, 0] [] (fun (k : Nat) s => (k ≤ l.l.length ∧ (l.l.take k).any (lY n) = false) ∧ s = ⟨[(0, true, l.val), (1, true, .func (.func 219) #[] #[.pointer (some ⟨b5, 0, none⟩)]), (7, true, .int .i64 l.l.length), (8, true, .int .i64 k)], [ShF dy.row l, At b5 0 [.v (xZ bn)], At bn 0 [.v (.int .i64 n)]], []⟩) (fun k => l.l.length - k) rfl (⟨0, ⟨Nat.zero_le _, rfl⟩, rfl⟩) ?_)))))
 rintro k s ⟨⟨hk, hno⟩, rfl⟩
 refine aSR (aU rfl (bD rfl rfl) (aNs ?_))
 refine ao _ rfl (fun h1 => ?_) (fun h1 => ?_)
 ·skip
  have hk' : k < l.l.length := by simpa using h1
  obtain ⟨a, ha⟩ : ∃ a, l.l[k]? = some a := ⟨l.l[k]'hk', by simp⟩
  refine ar (an (aj (aq (aSR (aM rfl (aA rfl (aNn (aSR (aM rfl (aM rfl (aM rfl ?_)))))))))))
  refine iD true rfl rfl (fun _ => bF Tryz.underlying262 tk264 rfl ((.of (aD 0 rfl))) rfl (aI ha) rfl rfl) (fun h => absurd h (by decide)) (fun ⟨b4_3, o4_3⟩ => ?_)
  refine aU rfl (fV (o := 0) tk264 rfl (aD 0 rfl) rfl rfl) ?_
  refine aU rfl (iU (by kernel_rfl) rfl rfl (fun w S fp hst => (wE n a bn b5).quiet2 (aD 2 rfl) (aD 3 rfl) hst)) ?_
  refine aNn ?_
  refine ao _ rfl (fun h2 => ?_) (fun h2 => ?_)
  ·skip
   refine aSR (aM rfl (aA rfl (aNn (az (cM (bu (bu (cM (bu ?_)))))))))
   refine oO [] [] rfl Tryz.results234 rfl ?_ (.inr rfl)
   refine ⟨⟨rfl, rfl⟩, _, rfl, ?_⟩
   rw [List.any_eq_true.2 ⟨a, List.mem_of_getElem? ha, h2⟩]; simp
  ·skip
   refine ar (bA (an (aa ?_)))
   refine aU rfl (aX rfl rfl (by omega)) ?_
   refine aM rfl (aNn ?_)
   refine ⟨[0, 1, 7, 8], [2, 1, 0], [], rfl, ?_⟩
   refine ⟨k + 1, ⟨⟨by omega, ?_⟩, rfl⟩, by omega⟩
   rw [List.take_add_one, ha, List.any_append, hno]; simpa using h2
 ·skip
  refine aR (aS (aS (aZ (an (aSR (aA rfl (aNn (az ?_))))))))
  refine oO [] [] rfl Tryz.results234 rfl ?_ (.inr rfl)
  refine ⟨⟨rfl, rfl⟩, _, rfl, ?_⟩
  rw [List.take_of_length_le (by simpa using h1)] at hno
  rw [hno]; rfl
theorem th (n : Int) (l : Sl dy) (bn b5 : Nat) : Con Tryz.prog 218 [l.val, .func (.func 219) #[] #[.pointer (some ⟨b5, 0, none⟩)]] [ShF dy.row l, At b5 0 [.v (xZ bn)], At bn 0 [.v (.int .i64 n)]] []
   fun r _ _ => r = .bool (l.l.any (lY n)) := by
 refine Con.enter Tryz.func218 rfl (by simp [Tryz.ntmps218]) ?_
 show awp _ _ _ _ ⟨[(0, true, _), (1, true, _)], _, _⟩
 refine aSR (aA rfl (aNn (aSR (aM rfl (aM rfl ?_)))))
 refine aT (q := true) rfl (abf [2, 1, 0] [] (by kernel_rfl) rfl rfl rfl rfl (qY n l bn b5) ?_)
 rintro _ _ _ ⟨⟨rfl, rfl⟩, z, rfl, hz⟩
 refine aST ?_
 refine aU rfl (fk rfl rfl) (aA rfl (aNn (az ?_)))
 refine oO [] [] rfl Tryz.results218 rfl ?_ (.inr rfl)
 rw [hz]
theorem rq (n : Int) (l : Sl dy) : Con Tryz.prog 197 [.int .i64 n, l.val] [ShF dy.row l] [] fun r _ _ => r = .bool (wA n l.l) := by
 refine Con.enter Tryz.func197 rfl (by simp [Tryz.ntmps197]) ?_
 show awp _ _ _ _ ⟨[(0, true, _), (1, true, _)], _, _⟩
 refine aSR ?_
 refine aT (q := true) rfl (cx rfl rfl rfl (fun b0_0 => ?_))
 refine aHN ?_
 refine aA rfl (aNs (bR 0 rfl rfl ?_))
 show awp _ _ _ _ ⟨_, At _ 0 _ :: _, _⟩
 refine aa (aU rfl (cq (l := [.tmp 2]) rfl) ?_)
 refine aT (q := true) rfl (bI (zs := [.nilFunc]) (by kernel_rfl) rfl (fun b1_1 => ?_))
 refine aHN ?_
 refine aT rfl (bg 1 tk52 rfl rfl rfl rfl ?_)
 refine aHK ?_
 refine aNs (bR 1 rfl rfl ?_)
 show awp _ _ _ _ ⟨_, At _ 0 _ :: _, _⟩
 refine aa (aU rfl (bj (o := 0) tk3 rfl (.of (aD 1 rfl)) rfl) (aU rfl (fk rfl rfl) (aM rfl (aG rfl rfl (fun hc => bj (o := 0) tk3 rfl (.of (aD 1 rfl)) rfl) (aG rfl rfl (fun hc => eF (ae rfl hc) rfl) (aU rfl (bp rfl rfl (fun h => gt rfl h)) (aM rfl (aG rfl rfl (fun hc => aP rfl) (aG rfl rfl (fun hc => cq (l := [.tmp 5]) rfl) ?_)))))))))
 refine aG rfl rfl (fun hc => eK (by kernel_rfl) (aJ (ae rfl hc) (aJ (ae rfl hc) rfl)) (fun w S fp hst => (th n l b0_0 b1_1).quiet3 (aD 2 rfl) (aD 0 rfl) (aD 1 rfl) hst)) ?_
 refine aG rfl rfl (fun hc => dp (ae rfl hc)) (aU rfl (bp rfl rfl (fun h => gt rfl h)) (aA rfl (aNn (az ?_))))
 refine oO [] [] rfl Tryz.results197 rfl ?_ (.inr rfl)
 rfl
end Go.Proofs.YtahgkiicjohonaaGreat

namespace Go.Sy
open Go.RowKit Go.Lp
def YN {β : Type} (v : β → Value) (Φ : β → Prop) : Value → List Per → List Res → Prop := fun r ps hp => (ps = [] ∧ hp = []) ∧ ∃ b, r = v b ∧ Φ b
section
variable {P : Program} {n : Fr} {ops : Array Oper} {Q : Exit → Sta → Prop} {env : Env} {ps : List Per} {hp : List Res} {ty : TypeId} {pos : String} {af : Array Edge} {gd : Option (Nat × Bool)} {rest : List Oper} {β : Type} {v : β → Value} {Φ : β → Prop}
theorem eT {t : Nat} {f : FuncId} {g : Operand} {caps : List Value} {l : List Operand} {ts : Array TypeId} {vs : List Value} (lp : List Nat) (b0 : β) (hf : dJ P f = true) (c : Bool) (hc : guardOf ops env ⟨some t, .call ⟨.value g, l.toArray, ts⟩, ty, pos, af, gd⟩ = some c) (ht : fits n.size (some t) = true)
   (hgv : c = true → ev env g = some (true, .func (.func f) #[] caps.toArray)) (hx : c = true → evs env l = some vs) (hcon : c = true → Con P f (vs ++ caps) (fj ps lp) [] (YN v Φ))
   (h : ∀ b, (c = true → Φ b) → aL P n ops Q rest ⟨(t, c, v b) :: env, ps, hp⟩) : aL P n ops Q (⟨some t, .call ⟨.value g, l.toArray, ts⟩, ty, pos, af, gd⟩ :: rest) ⟨env, ps, hp⟩ := by
 cases c with
 | true =>
   refine aT (q := true) hc (fv lp [] hf (hgv rfl) (hx rfl) ht rfl rfl (hcon rfl) ?_)
   rintro _ _ _ ⟨⟨rfl, rfl⟩, b, rfl, hb⟩
   refine iP ?_ (h b fun _ => hb)
   apply List.ext_getElem?; intro i; rw [iI]
   by_cases hi : i < hp.length
   · rw [if_pos hi]; rfl
   · rw [if_neg hi, List.getElem?_eq_none (by simp), List.getElem?_eq_none (by omega)]
 | false => exact ko (v := v b0) false hc ht (fun h => by cases h) (h b0 fun h => by cases h)
theorem vD {V : List Nat} {k : Nat} {L : Array Bool} {t : Nat} {f : FuncId} {g : Operand} {caps : List Value} {l : List Operand} {ts : Array TypeId} {vs : List Value} (i : Nat) (hi : ops[i]? = some ⟨some t, .call ⟨.value g, l.toArray, ts⟩, ty, pos, af, gd⟩) (hr : Region.ready .any ops L = [i]) (lp : List Nat) (b0 : β) (hf : dJ P f = true) (c : Bool) (hc : guardOf ops env ⟨some t, .call ⟨.value g, l.toArray, ts⟩, ty, pos, af, gd⟩ = some c) (ht : fits n.size (some t) = true)
   (hgv : c = true → ev env g = some (true, .func (.func f) #[] caps.toArray)) (hx : c = true → evs env l = some vs) (hcon : c = true → Con P f (vs ++ caps) (fj ps lp) [] (YN v Φ))
   (h : ∀ b, (c = true → Φ b) → aB P n ops V Q k (L.setIfInBounds i true) ⟨(t, c, v b) :: env, ps, hp⟩) : aB P n ops V Q (k + 1) L ⟨env, ps, hp⟩ := by
 cases c with
 | true =>
   refine fh (q := true) i hi hr rfl hc (fv lp [] hf (hgv rfl) (hx rfl) ht rfl rfl (hcon rfl) ?_)
   rintro _ _ _ ⟨⟨rfl, rfl⟩, b, rfl, hb⟩
   refine aew rfl ?_ (h b fun _ => hb)
   apply List.ext_getElem?; intro j; rw [iI]
   by_cases hj : j < hp.length
   · rw [if_pos hj]; rfl
   · rw [if_neg hj, List.getElem?_eq_none (by simp), List.getElem?_eq_none (by omega)]
 | false =>
   intro w S fp a hst he hn hdf w1 hb
   refine ⟨fun h0 => (by rw [hr] at h0; cases h0), fun j hj => ?_⟩
   rw [hr] at hj
   obtain rfl := List.mem_singleton.1 hj
   refine ⟨_, hi, ?_⟩
   rw [if_neg (by rw [ek (ops := ops) hc he]; exact Bool.false_ne_true)]
   refine ⟨fun _ => Below.refl _ _, ?_⟩
   have hen := he.set (dst := some t) (by rw [hn]; exact ht) false (v b0)
   exact km (fun a2 w2 hp => hp.trans (Evo.of_below _ _ hb) (fun _ h => .inl h)) _ _ _ _ (h b0 (fun h => by cases h) w1 S fp _ (hst.below hb) hen (by rw [ff]; exact hn) (by rw [put_defers]; exact hdf))
end
end Go.Sy

namespace Go.Proofs.YtahgkiicjohonaaGreat
open Go.RowKit Go.Lp Go.Sy
end Go.Proofs.YtahgkiicjohonaaGreat

namespace Go.Sy
open Go.RowKit Go.Lp
theorem er {P : Program} {n : Fr} {ops : Array Oper} {env : Env} {ps : List Per} {hp : List Res} {Q : Exit → Sta → Prop} {rest : List Oper} {v : Value} {T : TypeId} {sz : Nat} {rows : List (List D)} (i : Nat) (hi : hp[i]? = some (aN v T sz rows)) (h : aL P n ops Q rest ⟨env, Sh v (.sl rows) :: ps, hp.set i emp⟩) : aL P n ops Q rest ⟨env, ps, hp⟩ := fun w S fp a hst he hn hd => by
 have hil := (List.getElem?_eq_some_iff.1 hi).1
 have h1 := l7 hst i hi
 have htot : ∀ b, tot (fun k => if k = i then (fun _ => False) else fp k) (hp.set i emp).length b → tot fp hp.length b := fun b ⟨j, hj, hb⟩ => by
   dsimp only at hb
   by_cases hji : j = i
   · rw [if_pos hji] at hb; exact hb.elim
   · rw [if_neg hji] at hb; exact ⟨j, by simpa using hj, hb⟩
 have hE : Evo w S (tot fp hp.length) w (fun b => S b ∨ fp i b) := ⟨rfl, rfl, rfl, Nat.le_refl _, Nat.le_refl _, fun _ _ _ => rfl, fun _ h => .inl h, fun b hb => hb.elim .inl fun h => .inr (.inl ⟨i, hil, h⟩)⟩
 exact fD (fun e a2 w2 hp => hp.trans hE (fun b hb => .inl (htot b hb))) _ _ _ (h w _ _ a h1 he hn hd)
section
variable {P : Program} {n : Fr} {ops : Array Oper} {env : Env} {ps : List Per} {hp : List Res} {Q : Exit → Sta → Prop} {rest : List Oper} {ty : TypeId} {pos : String} {af : Array Edge} {gd : Option (Nat × Bool)}
theorem abv {V : List Nat} {k : Nat} {L : Array Bool} {R : Res} (h : aB P n ops V Q k L ⟨env, ps, hp⟩) : aB P n ops V Q k L ⟨env, ps, hp ++ [R]⟩ := fun w S fp a hst he hn hd => by
 have hst' : St w S fp ps hp := ⟨hst.per, fun i R' hR => hst.res i R' (by rw [List.getElem?_append_left (List.getElem?_eq_some_iff.1 hR).1]; exact hR), fun i hi => hst.lt i (by simp; omega), fun i j hi hj => hst.dj i j (by simp; omega) (by simp; omega), hst.slt⟩
 have hE : Evo w S (tot fp (hp ++ [R]).length) w S := Evo.refl _ _ _
 exact km (fun a2 w2 hp2 => hp2.trans hE (fun b ⟨j, hj, hb⟩ => .inl ⟨j, by have hj2 : j < hp.length := hj; simp; omega, hb⟩)) _ _ _ _ (h w S fp a hst' he hn hd)
theorem zb {V : List Nat} {k : Nat} {L : Array Bool} {v : Value} {T : TypeId} {sz : Nat} {rows : List (List D)} (i : Nat) (hi : hp[i]? = some (aN v T sz rows)) (h : aB P n ops V Q k L ⟨env, Sh v (.sl rows) :: ps, hp.set i emp⟩) : aB P n ops V Q k L ⟨env, ps, hp⟩ := fun w S fp a hst he hn hd => by
 have hil := (List.getElem?_eq_some_iff.1 hi).1
 have h1 := l7 hst i hi
 have htot : ∀ b, tot (fun k => if k = i then (fun _ => False) else fp k) (hp.set i emp).length b → tot fp hp.length b := fun b ⟨j, hj, hb⟩ => by
   dsimp only at hb
   by_cases hji : j = i
   · rw [if_pos hji] at hb; exact hb.elim
   · rw [if_neg hji] at hb; exact ⟨j, by simpa using hj, hb⟩
 have hE : Evo w S (tot fp hp.length) w (fun b => S b ∨ fp i b) := ⟨rfl, rfl, rfl, Nat.le_refl _, Nat.le_refl _, fun _ _ _ => rfl, fun _ h => .inl h, fun b hb => hb.elim .inl fun h => .inr (.inl ⟨i, hil, h⟩)⟩
 exact km (fun a2 w2 hp => hp.trans hE (fun b hb => .inl (htot b hb))) _ _ _ _ (h w _ _ a h1 he hn hd)
theorem acB {V : List Nat} {k : Nat} {L : Array Bool} {t : Nat} {T E : TypeId} {len : Nat} {l : List (Nat × Operand)} {xs : List Operand} {vs zs cs : List Value} {rows : List (List D)} (i : Nat) (hi : ops[i]? = some ⟨some t, .buildSlice T len l.toArray, ty, pos, af, gd⟩) (hr : Region.ready .any ops L = [i]) (hel : elB P T E zs.length = true) (hz : eO P E = some zs) (h0 : 0 < zs.length)
   (hlen : 0 < len) (hsm : len * zs.length ≤ 16777216) (hxs : l.map (·.2) = xs) (hc : guardOf ops env ⟨some t, .buildSlice T len l.toArray, ty, pos, af, gd⟩ = some true) (hx : evs env xs = some vs) (hb : bld (fun i => some (i * zs.length, zs.length)) (lE len zs) ((l.map (·.1)).zip vs) = some cs) (hrc : RCs ps zs.length cs rows) (hrl : rows.length = len) (ht : fits n.size (some t) = true)
   (h : ∀ ad, aB P n ops V Q k (L.setIfInBounds i true) ⟨(t, true, .slice ad len len) :: env, Sh (.slice ad len len) (.sl rows) :: ps, hp⟩) : aB P n ops V Q (k + 1) L ⟨env, ps, hp⟩ := by
 refine fh (q := true) i hi hr rfl hc (ab7 hel hz h0 hlen hsm hxs hx hb hrc hrl ht fun ad => ?_)
 refine zb hp.length (by rw [List.getElem?_append_right (Nat.le_refl _), Nat.sub_self]; rfl) ?_
 rw [List.set_append_right _ _ (Nat.le_refl _), Nat.sub_self]
 exact abv (h ad)
end
end Go.Sy

namespace Go.Sy
open Go.RowKit
section
variable {P : Program} {f : FuncId} {fn : Func} {c : Code} {ps : List Per} {hp : List Res} {R : Value → List Per → List Res → Prop} {v0 v1 v2 v3 v4 v5 v6 v7 : Value}
theorem EN1 (hf : P.funcs[f]? = some fn) (hb : fn.body = some c) (h : awp P ⟨fn.ntmps, none, []⟩ c (gg P fn R) ⟨[(0, true, v0)], ps, hp⟩) (hl : Nat.ble 1 fn.ntmps = true := by kernel_rfl) : Con P f [v0] ps hp R := Con.enter hf hb (Nat.le_of_ble_eq_true hl) h
theorem EN2 (hf : P.funcs[f]? = some fn) (hb : fn.body = some c) (h : awp P ⟨fn.ntmps, none, []⟩ c (gg P fn R) ⟨[(0, true, v0), (1, true, v1)], ps, hp⟩) (hl : Nat.ble 2 fn.ntmps = true := by kernel_rfl) : Con P f [v0, v1] ps hp R := Con.enter hf hb (Nat.le_of_ble_eq_true hl) h
theorem EN3 (hf : P.funcs[f]? = some fn) (hb : fn.body = some c) (h : awp P ⟨fn.ntmps, none, []⟩ c (gg P fn R) ⟨[(0, true, v0), (1, true, v1), (2, true, v2)], ps, hp⟩) (hl : Nat.ble 3 fn.ntmps = true := by kernel_rfl) : Con P f [v0, v1, v2] ps hp R := Con.enter hf hb (Nat.le_of_ble_eq_true hl) h
theorem EN4 (hf : P.funcs[f]? = some fn) (hb : fn.body = some c) (h : awp P ⟨fn.ntmps, none, []⟩ c (gg P fn R) ⟨[(0, true, v0), (1, true, v1), (2, true, v2), (3, true, v3)], ps, hp⟩) (hl : Nat.ble 4 fn.ntmps = true := by kernel_rfl) : Con P f [v0, v1, v2, v3] ps hp R := Con.enter hf hb (Nat.le_of_ble_eq_true hl) h
theorem EN5 (hf : P.funcs[f]? = some fn) (hb : fn.body = some c) (h : awp P ⟨fn.ntmps, none, []⟩ c (gg P fn R) ⟨[(0, true, v0), (1, true, v1), (2, true, v2), (3, true, v3), (4, true, v4)], ps, hp⟩) (hl : Nat.ble 5 fn.ntmps = true := by kernel_rfl) : Con P f [v0, v1, v2, v3, v4] ps hp R := Con.enter hf hb (Nat.le_of_ble_eq_true hl) h
theorem EN6 (hf : P.funcs[f]? = some fn) (hb : fn.body = some c) (h : awp P ⟨fn.ntmps, none, []⟩ c (gg P fn R) ⟨[(0, true, v0), (1, true, v1), (2, true, v2), (3, true, v3), (4, true, v4), (5, true, v5)], ps, hp⟩) (hl : Nat.ble 6 fn.ntmps = true := by kernel_rfl) : Con P f [v0, v1, v2, v3, v4, v5] ps hp R := Con.enter hf hb (Nat.le_of_ble_eq_true hl) h
theorem EN7 (hf : P.funcs[f]? = some fn) (hb : fn.body = some c) (h : awp P ⟨fn.ntmps, none, []⟩ c (gg P fn R) ⟨[(0, true, v0), (1, true, v1), (2, true, v2), (3, true, v3), (4, true, v4), (5, true, v5), (6, true, v6)], ps, hp⟩) (hl : Nat.ble 7 fn.ntmps = true := by kernel_rfl) : Con P f [v0, v1, v2, v3, v4, v5, v6] ps hp R := Con.enter hf hb (Nat.le_of_ble_eq_true hl) h
theorem EN8 (hf : P.funcs[f]? = some fn) (hb : fn.body = some c) (h : awp P ⟨fn.ntmps, none, []⟩ c (gg P fn R) ⟨[(0, true, v0), (1, true, v1), (2, true, v2), (3, true, v3), (4, true, v4), (5, true, v5), (6, true, v6), (7, true, v7)], ps, hp⟩) (hl : Nat.ble 8 fn.ntmps = true := by kernel_rfl) : Con P f [v0, v1, v2, v3, v4, v5, v6, v7] ps hp R := Con.enter hf hb (Nat.le_of_ble_eq_true hl) h
end
section
variable {P : Program} {n : Fr} {ops : Array Oper} {Q : Exit → Sta → Prop} {s : Sta} {K : Sta → Prop}
theorem DR {l : List Oper} {id : Nat} (V : List Nat) (m : Nat) (h : aB P n l.toArray V Q m (Array.replicate m false) s) (hl : l.length = m := by rfl) (hm : P.follows .mixedOrders = true := by kernel_rfl) : awp P n (.region id l.toArray true) Q s := by
 subst hl; exact yY V hm h
theorem DC {l : List Oper} {id : Nat} (V W Z : List Nat) (m : Nat) (h : aC P n l.toArray V W Z Q m (Array.replicate m false) s) (hl : l.length = m := by rfl) (hm : P.follows .mixedOrders = true := by kernel_rfl) : awp P n (.region id l.toArray true) Q s := by
 subst hl; exact vK V W Z hm h
section
variable {fn : Func} {R : Value → List Per → List Res → Prop}
theorem FZ1 {t : Nat} {v : Value} (lh : List Nat) (hr : fn.results = #[.tmp t]) (hl : look s.env t = some (true, v)) (h : R v (fj s.ps []) (cF s.hp lh)) (ok : okH s.hp lh = true := by rfl) : gg P fn R .ret s := oO [] lh ok hr hl h (.inr rfl)
theorem FZ2 {t u : Nat} {v v' : Value} (lh : List Nat) (hr : fn.results = #[.tmp t, .tmp u]) (hl : look s.env t = some (true, v)) (hl' : look s.env u = some (true, v')) (h : R (.tuple #[v, v']) (fj s.ps []) (cF s.hp lh)) (ok : okH s.hp lh = true := by rfl) : gg P fn R .ret s := aeF [] lh ok hr hl hl' h (.inr rfl)
theorem FZ0 (lh : List Nat) (hr : fn.results = #[]) (h : R (.tuple #[]) (fj s.ps []) (cF s.hp lh)) (ok : okH s.hp lh = true := by rfl) : gg P fn R .normal s := ta [] lh ok hr h (.inl rfl)
end
variable {env : Env} {ps ps' : List Per} {hp hp' : List Res} {d : Nat} {op : Op} {ty : TypeId} {pos : String} {af : Array Edge} {gd : Option (Nat × Bool)} {rest : List Oper} {v : Value} {x : Operand} {o : Oper} {V W Z : List Nat} {k : Nat} {L L' : Array Bool} {T : TypeId} {j b p u : Nat} {c : Bool} {U : TypeId} {ag : Bool} {m : Nat} {cs : List Value} {row : List D}
theorem CST (h : aC P n ops V W Z Q k L' ⟨env, ps', hp'⟩) (hL : L = L' := by (try simp only [nO, nK, nL]); rfl) (h1 : ps = ps' := by (try simp only [nM, nN]); rfl) (h0 : hp = hp' := by (try simp only [cF, nQ, nR, iz, place, Nat.reduceBEq, if_true, if_false, reduceIte, Nat.reduceAdd, nW]); rfl) : aC P n ops V W Z Q k L ⟨env, ps, hp⟩ := aei hL h1 h0 h
theorem VO (i off : Nat) (hi : ops[i]? = some ⟨some d, .fieldAddr T x j, ty, pos, af, gd⟩) (h : okU ops env n.size ⟨some d, .fieldAddr T x j, ty, pos, af, gd⟩ = true) (hx : ev env x = some (true, .pointer (some ⟨b, u, none⟩)))
   (hK : aB P n ops V Q k (L.setIfInBounds i true) ⟨(d, true, .pointer (some ⟨b, u + off, none⟩)) :: env, ps, hp⟩) (h0 : nS P T j = some off := by kernel_rfl) (hf : dS ops V L i = true := by kernel_rfl) : aB P n ops V Q (k + 1) L ⟨env, ps, hp⟩ := bV i hi h (qFA hx h0) hK hf
theorem VN {a : Addr} (i : Nat) (hi : ops[i]? = some ⟨some d, .nilCheck x, ty, pos, af, gd⟩) (h : okU ops env n.size ⟨some d, .nilCheck x, ty, pos, af, gd⟩ = true) (hx : ev env x = some (true, .pointer (some a)))
   (hK : aB P n ops V Q k (L.setIfInBounds i true) ⟨(d, true, .pointer (some a)) :: env, ps, hp⟩) (hf : dS ops V L i = true := by kernel_rfl) : aB P n ops V Q (k + 1) L ⟨env, ps, hp⟩ := bV i hi h (fN hx) hK hf
theorem VM (i : Nat) (hi : ops[i]? = some ⟨some d, .move x, ty, pos, af, gd⟩) (h : mvU ops env n.size ⟨some d, .move x, ty, pos, af, gd⟩ x = some v)
   (hK : aB P n ops V Q k (L.setIfInBounds i true) ⟨(d, true, v) :: env, ps, hp⟩) (hf : dS ops V L i = true := by kernel_rfl) : aB P n ops V Q (k + 1) L ⟨env, ps, hp⟩ := bV i hi (ss h).1 (aP (ss h).2) hK hf
theorem VD (i w : Nat) (hk : tyk P U = some (ag, m)) (q : Nat) (hi : ops[i]? = some ⟨some d, .load U x, ty, pos, af, gd⟩) (h : okU ops env n.size ⟨some d, .load U x, ty, pos, af, gd⟩ = true) (hx : ev env x = some (true, .pointer (some ⟨b, p + w, none⟩))) (hq : ps[q]? = some (At b p row)) (hv : rdD ag m row w = some v)
   (hK : aB P n ops V Q k (L.setIfInBounds i true) ⟨(d, true, v) :: env, ps, hp⟩) (hf : dS ops V L i = true := by kernel_rfl) : aB P n ops V Q (k + 1) L ⟨env, ps, hp⟩ := bV i hi h (bj (o := w) hk hx (.of (aD q hq)) hv) hK hf
theorem VL (i w : Nat) (hk : tyk P U = some (ag, m)) (hi : ops[i]? = some ⟨some d, .load U x, ty, pos, af, gd⟩) (h : okU ops env n.size ⟨some d, .load U x, ty, pos, af, gd⟩ = true) (hx : ev env x = some (true, .pointer (some ⟨b, u, none⟩))) (hq : hp[w]? = some (Box b T cs)) (hv : rdC ag m cs u = some v)
   (hK : aB P n ops V Q k (L.setIfInBounds i true) ⟨(d, true, v) :: env, ps, hp⟩) (hf : dS ops V L i = true := by kernel_rfl) : aB P n ops V Q (k + 1) L ⟨env, ps, hp⟩ := bV i hi h (bC w hk hx hq hv) hK hf
theorem UO (off : Nat) (h : okU ops env n.size ⟨some d, .fieldAddr T x j, ty, pos, af, gd⟩ = true) (hx : ev env x = some (true, .pointer (some ⟨b, u, none⟩))) (hK : aL P n ops Q rest ⟨(d, true, .pointer (some ⟨b, u + off, none⟩)) :: env, ps, hp⟩) (h0 : nS P T j = some off := by kernel_rfl) :
   aL P n ops Q (⟨some d, .fieldAddr T x j, ty, pos, af, gd⟩ :: rest) ⟨env, ps, hp⟩ := aU h (qFA hx h0) hK
theorem UN {a : Addr} (h : okU ops env n.size ⟨some d, .nilCheck x, ty, pos, af, gd⟩ = true) (hx : ev env x = some (true, .pointer (some a))) (hK : aL P n ops Q rest ⟨(d, true, .pointer (some a)) :: env, ps, hp⟩) :
   aL P n ops Q (⟨some d, .nilCheck x, ty, pos, af, gd⟩ :: rest) ⟨env, ps, hp⟩ := aU h (fN hx) hK
theorem UL (w : Nat) (hk : tyk P U = some (ag, m)) (h : okU ops env n.size ⟨some d, .load U x, ty, pos, af, gd⟩ = true) (hx : ev env x = some (true, .pointer (some ⟨b, u, none⟩))) (hq : hp[w]? = some (Box b T cs)) (hv : rdC ag m cs u = some v)
   (hK : aL P n ops Q rest ⟨(d, true, v) :: env, ps, hp⟩) : aL P n ops Q (⟨some d, .load U x, ty, pos, af, gd⟩ :: rest) ⟨env, ps, hp⟩ := aU h (bC w hk hx hq hv) hK
theorem UD (w : Nat) (hk : tyk P U = some (ag, m)) (q : Nat) (h : okU ops env n.size ⟨some d, .load U x, ty, pos, af, gd⟩ = true) (hx : ev env x = some (true, .pointer (some ⟨b, p + w, none⟩))) (hq : ps[q]? = some (At b p row)) (hv : rdD ag m row w = some v)
   (hK : aL P n ops Q rest ⟨(d, true, v) :: env, ps, hp⟩) : aL P n ops Q (⟨some d, .load U x, ty, pos, af, gd⟩ :: rest) ⟨env, ps, hp⟩ := aU h (bj (o := w) hk hx (.of (aD q hq)) hv) hK
theorem GO (off : Nat) (hc : guardOf ops env ⟨some d, .fieldAddr T x j, ty, pos, af, gd⟩ = some c) (hd : fits n.size (some d) = true) (hx : ev env x = some (true, .pointer (some ⟨b, u, none⟩))) (hK : aL P n ops Q rest ⟨(d, c, .pointer (some ⟨b, u + off, none⟩)) :: env, ps, hp⟩) (h0 : nS P T j = some off := by kernel_rfl) :
   aL P n ops Q (⟨some d, .fieldAddr T x j, ty, pos, af, gd⟩ :: rest) ⟨env, ps, hp⟩ := aG hc hd (fun _ => qFA hx h0) hK
theorem GL (w : Nat) (hk : tyk P U = some (ag, m)) (hc : guardOf ops env ⟨some d, .load U x, ty, pos, af, gd⟩ = some c) (hd : fits n.size (some d) = true) (hx : ev env x = some (c, .pointer (some ⟨b, u, none⟩))) (hq : hp[w]? = some (Box b T cs)) (hv : rdC ag m cs u = some v)
   (hK : aL P n ops Q rest ⟨(d, c, v) :: env, ps, hp⟩) : aL P n ops Q (⟨some d, .load U x, ty, pos, af, gd⟩ :: rest) ⟨env, ps, hp⟩ := aG hc hd (fun hc => bC w hk (ae hx hc) hq hv) hK
theorem CF (i : Nat) (hi : ops[i]? = some ⟨some d, op, ty, pos, af, gd⟩) (hc : guardOf ops env ⟨some d, op, ty, pos, af, gd⟩ = some true) (hd : fits n (some d) = true) (hq : Quiet P n ⟨some d, op, ty, pos, af, gd⟩ ⟨env, ps, []⟩ v)
   (h : aC P n ops V W Z Q k (L.setIfInBounds i true) ⟨(d, true, v) :: env, ps, hp⟩) (hf : fu ops [] L i = true := by kernel_rfl) : aC P n ops V W Z Q (k + 1) L ⟨env, ps, hp⟩ := aeL i hi hf true hc hd (fun _ => hq) h
theorem CQ (i : Nat) (hi : ops[i]? = some ⟨some d, op, ty, pos, af, gd⟩) (hc : guardOf ops env ⟨some d, op, ty, pos, af, gd⟩ = some true) (hd : fits n (some d) = true) (hq : Quiet P n ⟨some d, op, ty, pos, af, gd⟩ ⟨env, ps, hp⟩ v)
   (h : aC P n ops V W Z Q k (L.setIfInBounds i true) ⟨(d, true, v) :: env, ps, hp⟩) (hf : fu ops V L i = true := by kernel_rfl) : aC P n ops V W Z Q (k + 1) L ⟨env, ps, hp⟩ := aey i hi hf true hc hd (fun _ => hq) h
theorem VE (i : Nat) (hi : ops[i]? = some o) (hc : guardOf ops s.env o = some true) (h : Eff P n o s false (aB P n ops V Q k (L.setIfInBounds i true))) (hr : Region.ready .any ops L = [i] := by kernel_rfl) (hq : V.contains i = true := by rfl) : aB P n ops V Q (k + 1) L s := fh (q := false) i hi hr hq hc h
theorem VB {t : Nat} {T E : TypeId} {len : Nat} {l : List (Nat × Operand)} {xs : List Operand} {vs zs cs : List Value} {rows : List (List D)} (i : Nat) (hi : ops[i]? = some ⟨some t, .buildSlice T len l.toArray, ty, pos, af, gd⟩) (hel : elB P T E zs.length = true) (hxs : l.map (·.2) = xs) (hc : guardOf ops env ⟨some t, .buildSlice T len l.toArray, ty, pos, af, gd⟩ = some true) (hx : evs env xs = some vs)
   (hb : bld (fun i => some (i * zs.length, zs.length)) (lE len zs) ((l.map (·.1)).zip vs) = some cs) (hrc : RCs ps zs.length cs rows) (hrl : rows.length = len) (ht : fits n.size (some t) = true)
   (h : ∀ ad, aB P n ops V Q k (L.setIfInBounds i true) ⟨(t, true, .slice ad len len) :: env, Sh (.slice ad len len) (.sl rows) :: ps, hp⟩) (hr : Region.ready .any ops L = [i] := by kernel_rfl) (hz : eO P E = some zs := by kernel_rfl) (h0 : 0 < zs.length := by decide) (hlen : 0 < len := by decide) (hsm : len * zs.length ≤ 16777216 := by decide) :
   aB P n ops V Q (k + 1) L ⟨env, ps, hp⟩ := acB i hi hr hel hz h0 hlen hsm hxs hc hx hb hrc hrl ht h
theorem WL {q : Bool} {t : Nat} {T E : TypeId} {len : Nat} {l : List (Nat × Operand)} {xs : List Operand} {vs zs cs : List Value} {rows : List (List D)} (hel : elB P T E zs.length = true) (hxs : l.map (·.2) = xs) (hx : evs env xs = some vs) (hb : bld (fun i => some (i * zs.length, zs.length)) (lE len zs) ((l.map (·.1)).zip vs) = some cs) (hr : RCs ps zs.length cs rows) (hrl : rows.length = len) (ht : fits n (some t) = true)
   (hK : ∀ ad, K ⟨(t, true, .slice ad len len) :: env, ps, hp ++ [aN (.slice ad len len) E zs.length rows]⟩) (hz : eO P E = some zs := by kernel_rfl) (h0 : 0 < zs.length := by decide) (hlen : 0 < len := by decide) (hsm : len * zs.length ≤ 16777216 := by decide) :
   Eff P n ⟨some t, .buildSlice T len l.toArray, ty, pos, af, gd⟩ ⟨env, ps, hp⟩ q K := ab7 hel hz h0 hlen hsm hxs hx hb hr hrl ht hK
theorem QC {f : FuncId} {l : List Operand} {ts : Array TypeId} {vs : List Value} (hx : evs s.env l = some vs) (hc : ∀ w S fp, St w S fp s.ps s.hp → Calls P f vs.toArray w fun e w' => e = .returned v ∧ Below w.heap.size w w') (hf : dJ P f = true := by kernel_rfl) :
   Quiet P n ⟨some d, .call ⟨.value (.func f), l.toArray, ts⟩, ty, pos, af, gd⟩ s v := eK hf hx hc
theorem Q0 {f : FuncId} {l : List Operand} {ts : Array TypeId} {vs : List Value} (hx : evs s.env l = some vs) (h : Con P f vs [] [] fun u _ _ => u = v) (hf : dJ P f = true := by kernel_rfl) :
   Quiet P n ⟨some d, .call ⟨.value (.func f), l.toArray, ts⟩, ty, pos, af, gd⟩ s v := eK hf hx fun _ _ _ hst => h.quiet0 hst
theorem Q1 {f : FuncId} {l : List Operand} {ts : Array TypeId} {vs : List Value} {r : Per} (hx : evs s.env l = some vs) (h : Con P f vs [r] [] fun u _ _ => u = v) (q : Nat) (hq : s.ps[q]? = some r) (hf : dJ P f = true := by kernel_rfl) :
   Quiet P n ⟨some d, .call ⟨.value (.func f), l.toArray, ts⟩, ty, pos, af, gd⟩ s v := eK hf hx fun _ _ _ hst => h.quiet1 (aD q hq) hst
theorem XI {E : TypeId} {y : Operand} {sz e nn cc : Nat} {z : Int} {ad : Option Addr} {rows : List (List D)} (i : Nat) (hT : P.underlying T = some (.slice E)) (hk : tyk P E = some (ag, sz)) (q : Nat) (hi : ops[i]? = some ⟨some d, .indexAddr T x y, ty, pos, af, gd⟩) (hc : guardOf ops env ⟨some d, .indexAddr T x y, ty, pos, af, gd⟩ = some true) (hd : fits n.size (some d) = true)
   (hx : ev env x = some (true, .slice ad nn cc)) (hq : ps[q]? = some (Sh (.slice ad nn cc) (.sl rows))) (hy : ev env y = some (true, .int .i64 z)) (hr : rows[e]? = some row) (hz : z = (e : Int)) (hl : row.length = sz)
   (h : ∀ a : Nat × Nat, aB P n ops V Q k (L.setIfInBounds i true) ⟨(d, true, .pointer (some ⟨a.1, a.2, none⟩)) :: env, cnd true (At a.1 a.2 row) :: ps, hp⟩) (hf : dS ops V L i = true := by kernel_rfl) : aB P n ops V Q (k + 1) L ⟨env, ps, hp⟩ :=
 q8 i hi hf true hc hd (fun _ => bF hT hk hx (.of (aD q hq)) hy hr hz hl) (fun h => absurd h (by decide)) h
theorem UI {E : TypeId} {y : Operand} {sz e nn cc : Nat} {z : Int} {ad : Option Addr} {rows : List (List D)} (hT : P.underlying T = some (.slice E)) (hk : tyk P E = some (ag, sz)) (q : Nat) (hc : guardOf ops env ⟨some d, .indexAddr T x y, ty, pos, af, gd⟩ = some true) (hd : fits n.size (some d) = true)
   (hx : ev env x = some (true, .slice ad nn cc)) (hq : ps[q]? = some (Sh (.slice ad nn cc) (.sl rows))) (hy : ev env y = some (true, .int .i64 z)) (hr : rows[e]? = some row) (hz : z = (e : Int)) (hl : row.length = sz)
   (h : ∀ a : Nat × Nat, aL P n ops Q rest ⟨(d, true, .pointer (some ⟨a.1, a.2, none⟩)) :: env, cnd true (At a.1 a.2 row) :: ps, hp⟩) : aL P n ops Q (⟨some d, .indexAddr T x y, ty, pos, af, gd⟩ :: rest) ⟨env, ps, hp⟩ :=
 iD true hc hd (fun _ => bF hT hk hx (.of (aD q hq)) hy hr hz hl) (fun h => absurd h (by decide)) h
theorem VT (i w : Nat) (hk : tyk P U = some (ag, m)) (q : Nat) (hi : ops[i]? = some ⟨some d, .load U x, ty, pos, af, gd⟩) (h : okU ops env n.size ⟨some d, .load U x, ty, pos, af, gd⟩ = true) (hx : ev env x = some (true, .pointer (some ⟨b, p + w, none⟩))) (hq : ps[q]? = some (cnd c (At b p row))) (hc : c = true) (hv : rdD ag m row w = some v)
   (hK : aB P n ops V Q k (L.setIfInBounds i true) ⟨(d, true, v) :: env, ps, hp⟩) (hf : dS ops V L i = true := by kernel_rfl) : aB P n ops V Q (k + 1) L ⟨env, ps, hp⟩ := bV i hi h (fV (o := w) hk hx (aD q hq) hc hv) hK hf
theorem US (w : Nat) (hk : tyk P U = some (ag, m)) (q : Nat) (h : okU ops env n.size ⟨some d, .load U x, ty, pos, af, gd⟩ = true) (hx : ev env x = some (true, .pointer (some ⟨b, p + w, none⟩))) (hq : ps[q]? = some (cnd c (At b p row))) (hc : c = true) (hv : rdD ag m row w = some v)
   (hK : aL P n ops Q rest ⟨(d, true, v) :: env, ps, hp⟩) : aL P n ops Q (⟨some d, .load U x, ty, pos, af, gd⟩ :: rest) ⟨env, ps, hp⟩ := aU h (fV (o := w) hk hx (aD q hq) hc hv) hK
theorem BN (h : Q .normal s) (hr : Region.ready .any ops L = [] := by kernel_rfl) : aB P n ops V Q 0 L s := adI hr h
theorem LT (hc : guardOf ops s.env o = some true) (h : Eff P n o s true (aL P n ops Q rest)) : aL P n ops Q (o :: rest) s := aT hc h
theorem LF (hc : guardOf ops s.env o = some true) (h : Eff P n o s false (aL P n ops Q rest)) : aL P n ops Q (o :: rest) s := aT hc h
theorem EC {t : Nat} {f : FuncId} {l : List Operand} {ts : Array TypeId} {vs : List Value} {q : Bool} {R : Value → List Per → List Res → Prop} (lp lh : List Nat) (hx : evs env l = some vs) (hc : Con P f vs (fj ps lp) (cF hp lh) R) (hK : ∀ v ps' hp', R v ps' hp' → K ⟨(t, true, v) :: env, ps' ++ ps, iz lh hp' 0 hp⟩)
   (hf : dJ P f = true := by kernel_rfl) (ht : fits n (some t) = true := by rfl) (ok : okH hp lh = true := by rfl) (hq : (!q || lh.isEmpty) = true := by rfl) : Eff P n ⟨some t, .call ⟨.value (.func f), l.toArray, ts⟩, ty, pos, af, gd⟩ ⟨env, ps, hp⟩ q K := abf lp lh hf hx ht ok hq hc hK
abbrev ZI : List Value := [.string .empty, .bool false, .int .i64 0, .int .i64 0, .int .i64 0, .string .empty, .string .empty, .int .i64 0, .slice none 0 0, .slice none 0 0, .slice none 0 0, .slice none 0 0, .slice none 0 0, .slice none 0 0, .slice none 0 0, .slice none 0 0, .int .i64 0, .slice none 0 0, .slice none 0 0, .slice none 0 0, .slice none 0 0, .slice none 0 0, .slice none 0 0, .slice none 0 0, .slice none 0 0, .slice none 0 0]
end
end Go.Sy

namespace Go.Sy
open Go.RowKit Go.Lp
theorem adG {a b : ByteArray} (h : a.toList = b.toList) : a = b := by
 have key : ∀ (x : ByteArray), x.toList = x.data.toList := fun x => by
   have loop : ∀ (n i : Nat) (acc : List UInt8), x.size - i = n → ByteArray.toList.loop x i acc = acc.reverse ++ x.data.toList.drop i := by
     intro n
     induction n with
     | zero =>
       intro i acc h
       unfold ByteArray.toList.loop
       have hle : x.data.size ≤ i := by have : x.size = x.data.size := rfl; omega
       rw [if_neg (by omega), List.drop_eq_nil_of_le (by simpa using hle), List.append_nil]
     | succ n ih =>
       intro i acc h
       unfold ByteArray.toList.loop
       have hlt : i < x.size := by omega
       have hlt' : i < x.data.toList.length := by simpa using hlt
       rw [if_pos hlt, ih (i + 1) _ (by omega), List.drop_eq_getElem_cons hlt']
       have : x.get! i = x.data.toList[i] := by
         show x.data[i]! = _
         rw [getElem!_pos x.data i (by simpa using hlt)]; simp
       rw [this]; simp
   unfold ByteArray.toList
   rw [loop _ 0 [] rfl]; simp
 rw [key, key] at h
 cases a; cases b
 simp only [ByteArray.mk.injEq]
 exact Array.toList_inj.1 h
theorem xo (a b : ByteArray) : (a.toList == b.toList) = decide (a = b) := by
 rw [Bool.eq_iff_iff, beq_iff_eq, decide_eq_true_eq]
 exact ⟨adG, fun h => h ▸ rfl⟩
section
variable {P : Program} {n : Fr} {d : Option Tmp} {ty : TypeId} {pos : String} {af : Array Edge} {gd : Option (Nat × Bool)} {s : Sta} {x y : Operand} {t t' : TypeId} {a b : ByteArray}
theorem iY (hx : ev s.env x = some (true, .string a)) (hy : ev s.env y = some (true, .string b)) : Quiet P n ⟨d, .binOp .eql t x y t', ty, pos, af, gd⟩ s (.bool (decide (a = b))) := xo a b ▸ adN hx hy
theorem xN (hx : ev s.env x = some (true, .string a)) (hy : ev s.env y = some (true, .string b)) : Quiet P n ⟨d, .binOp .neq t x y t', ty, pos, af, gd⟩ s (.bool (!decide (a = b))) := xo a b ▸ adU hx hy
theorem adP (hx : ev s.env x = some (true, .string a)) (hy : ev s.env y = some (true, .string b)) : Quiet P n ⟨d, .binOp .lss t x y t', ty, pos, af, gd⟩ s (.bool (decide (a.toList < b.toList))) :=
 .run2 hx hy fun ρ w h1 h2 => by
   unfold execOp; dsimp only; rw [h1, h2]
   simp only [eqGuard_at_string, Sem.run_bind, Sem.run_pure, binOp_string_lss, Result.andThen_ok, Go.Proofs.bytesLess_eq]
theorem adL (hx : ev s.env x = some (true, .string a)) (hy : ev s.env y = some (true, .string b)) : Quiet P n ⟨d, .binOp .gtr t x y t', ty, pos, af, gd⟩ s (.bool (!(decide (a.toList < b.toList) || decide (a = b)))) :=
 .run2 hx hy fun ρ w h1 h2 => by
   unfold execOp; dsimp only; rw [h1, h2]
   simp only [eqGuard_at_string, Sem.run_bind, Sem.run_pure, binOp_string_gtr, Result.andThen_ok, Go.Proofs.bytesLess_eq, xo]
end
section
variable {α β : Type}
def aen (T : TypeId) (sz : Nat) (row : β → List D) (m : α → Option (Sl β)) : Res :=
 ⟨fun w S F => ∃ fp : α → bH, (∀ k s, m k = some s → (aN s.val T sz (s.l.map row)).holds w S (fp k)) ∧ (∀ k, m k = none → ∀ b, ¬ fp k b) ∧ (∀ k k', k ≠ k' → ∀ b, fp k b → ¬ fp k' b) ∧ ∀ b, F b ↔ ∃ k, fp k b,
  fun ⟨fp, h1, h2, h3, h4⟩ k1 k2 k3 => ⟨fp, fun k s hk => (aN s.val T sz (s.l.map row)).mono (h1 k s hk) (fun b hb => k1 b ((h4 b).2 ⟨k, hb⟩)) k2 k3, h2, h3, h4⟩⟩
variable {T : TypeId} {sz : Nat} {row : β → List D} {m : α → Option (Sl β)} {w : World} {S F : bH}
theorem ael [DecidableEq α] (k : α) (s : Sl β) (hm : m k = none) (h : (fX (aen T sz row m) (aN s.val T sz (s.l.map row))).holds w S F) : (aen T sz row (gU m k s)).holds w S F := by
 obtain ⟨G, H, ⟨fp, h1, h2, h3, h4⟩, ho, hd, he⟩ := h
 refine ⟨fun k' => if k' = k then H else fp k', fun k' s' hs => ?_, fun k' hk' b hb => ?_, fun k1 k2 hne b hb1 hb2 => ?_, fun b => ?_⟩
 · unfold gU at hs
   by_cases hk : k' = k
   · simp only [if_pos hk] at hs ⊢; obtain rfl := Option.some.inj hs; exact ho
   · simp only [if_neg hk] at hs ⊢; exact h1 k' s' hs
 · unfold gU at hk'
   try dsimp only at hb
   by_cases hk : k' = k
   · simp only [if_pos hk] at hk'; cases hk'
   · simp only [if_neg hk] at hk' hb; exact h2 k' hk' b hb
 · dsimp only at hb1 hb2
   by_cases e1 : k1 = k
   · simp only [if_pos e1] at hb1
     simp only [if_neg (show ¬ k2 = k from fun e => hne (e1.trans e.symm))] at hb2
     exact hd b ((h4 b).2 ⟨k2, hb2⟩) hb1
   · simp only [if_neg e1] at hb1
     by_cases e2 : k2 = k
     · simp only [if_pos e2] at hb2; exact hd b ((h4 b).2 ⟨k1, hb1⟩) hb2
     · simp only [if_neg e2] at hb2; exact h3 k1 k2 hne b hb1 hb2
 · rw [he b]
   constructor
   · rintro (hb | hb)
     · obtain ⟨k', hb⟩ := (h4 b).1 hb
       exact ⟨k', by simp only [if_neg (show ¬ k' = k from fun e => h2 k (hm) b (e ▸ hb))]; exact hb⟩
     · exact ⟨k, by simp only [if_pos rfl]; exact hb⟩
   · rintro ⟨k', hb⟩
     try dsimp only at hb
     by_cases hk : k' = k
     · simp only [if_pos hk] at hb; exact .inr hb
     · simp only [if_neg hk] at hb; exact .inl ((h4 b).2 ⟨k', hb⟩)
def aeK (row : β → List D) (m : α → Option (Sl β)) : Per := ⟨fun w S => ∀ k s, m k = some s → (ShF row s).holds w S, fun h h1 h2 k s hk => (ShF row s).mono (h k s hk) h1 h2⟩
theorem Ent.key {ps : List Per} {k : α} {s : Sl β} (h : Ent ps (aeK row m)) (hk : m k = some s) : Ent ps (ShF row s) := fun w S hp => h w S hp k s hk
variable {P : Program} {n : Fr} {env : Env} {ps : List Per} {hp : List Res} {c : Code} {Q : Exit → Sta → Prop}
end
end Go.Sy

namespace Go.Sy
open Go.RowKit Go.Lp Go.MapKept
section
variable {α β : Type} {κ : α → Value} {ν : β → Value} {m : α → Option β} {P : Program} {kt : TypeId} {n : Fr} {env : Env} {ps : List Per} {hp : List Res} {ty : TypeId} {pos : String} {af : Array Edge} {gd : Option (Nat × Bool)} {d : Option Tmp}
end
section
variable {α β : Type} {κ : α → Value} {ν : β → Value} {m : α → Option β} {P : Program} {kt : TypeId} {n : Fr} {env : Env} {ps : List Per} {hp : List Res} {ty : TypeId} {pos : String} {af : Array Edge} {gd : Option (Nat × Bool)} {K : Sta → Prop} {d : Option Tmp}
theorem Quiet.castV {s : Sta} {o : Oper} {v v' : Value} (h : Quiet P n o s v) (e : v = v') : Quiet P n o s v' := e ▸ h
end
end Go.Sy

namespace Go.Sy
open Go.RowKit Go.Lp
section
variable {P : Program} {f : FuncId} {args : List Value} {ps : List Per} {X Y : Type} {I : X → Prop} {I' : Y → Prop} {l : X → List Res} {l' : Y → List Res}
end
def StE (ps : List Per) (hp : List Res) (ps' : List Per) (hp' : List Res) : Prop := ∀ w S fp, St w S fp ps hp → ∃ S' fp', St w S' fp' ps' hp' ∧ (∀ b, S b → S' b) ∧ (∀ b, S' b → S b ∨ tot fp hp.length b) ∧ ∀ b, tot fp' hp'.length b → tot fp hp.length b
section
variable {ps ps1 ps2 : List Per} {hp hp1 hp2 : List Res}
variable {P : Program} {f : FuncId} {args : List Value} {R R' : Value → List Per → List Res → Prop}
theorem Con.conv (h : Con P f args ps hp R) (hr : ∀ v ps' hp', R v ps' hp' → ∃ ps2 hp2, StE ps' hp' ps2 hp2 ∧ R' v ps2 hp2) : Con P f args ps hp R' := fun w S fp hst =>
 (h w S fp hst).mono fun e w' ⟨v, ps', hp', S', fp', he, hR, hst', hE, hg⟩ => by
   obtain ⟨ps2, hp2, hS, hR'⟩ := hr _ _ _ hR
   obtain ⟨S2, f2, a1, a2, a3, a4⟩ := hS w' S' fp' hst'
   refine ⟨v, ps2, hp2, S2, f2, he, hR', a1, ⟨hE.os, hE.tape, hE.output, hE.size, hE.drawn, hE.block, fun b hb => a2 b (hE.more b hb), fun b hb => ?_⟩, fun b hb => hg b (a4 b hb)⟩
   rcases a3 b hb with h1 | h1
   · exact hE.new b h1
   · rcases hg b h1 with h2 | h2
     · exact .inr (.inl h2)
     · exact .inr (.inr h2)
end
section
variable {P : Program}
end
section
variable {P : Program} {n : Fr} {env : Env} {ps : List Per} {hp : List Res} {ty : TypeId} {pos : String} {af : Array Edge} {gd : Option (Nat × Bool)} {d : Option Tmp}
def adl (P : Program) (T : TypeId) : Option (Nat × Nat) := match P.underlying T with
 | some (.array m e) => (P.info? e).map fun i => (i.size, m)
 | _ => none
theorem l3 {T : TypeId} {l : List (Nat × Operand)} {xs : List Operand} {vs : List Value} {zs cells : List Value} {sz m : Nat} (hst : adl P T = some (sz, m)) (hz : eO P T = some zs) (hxs : l.map (·.2) = xs) (hx : evs env xs = some vs)
   (hb : bld (fun i => some (i * sz, sz)) zs ((l.map (·.1)).zip vs) = some cells) :
   Quiet P n ⟨d, .build T l.toArray, ty, pos, af, gd⟩ ⟨env, ps, hp⟩ (.agg cells.toArray) := fun w S fp a hs he hn => by
 have hm := gG he xs vs hx
 have hf := mI _ _ _ _ hb
 have hbuilt : P.built T ((l.map (·.1)).zip vs) = some cells.toArray := by
   unfold adl at hst
   unfold eO at hz
   unfold Program.built
   cases hi : P.info? T with
   | none => rw [hi] at hz; cases hz
   | some it =>
     rw [hi] at hz
     cases hzz : it.zero with
     | none => rw [Option.bind_some, hzz] at hz; cases hz
     | some z =>
       rw [Option.bind_some, hzz] at hz
       simp only [Option.map_some, Option.some.injEq] at hz
       cases hu : P.underlying T with
       | none => rw [hu] at hst; cases hst
       | some dd =>
         rw [hu] at hst
         cases dd with
         | array m' e =>
           simp only at hst
           cases hie : P.info? e with
           | none => rw [hie] at hst; cases hst
           | some ie =>
             rw [hie] at hst
             simp only [Option.map_some, Option.some.injEq, Prod.mk.injEq] at hst
             simp only [hzz, hie]
             have e1 : z.cells = zs.toArray := by rw [← hz]
             rw [e1, hst.1]
             simpa using hf
         | _ => cases hst
 have : (execOp a.eval ⟨d, .build T l.toArray, ty, pos, af, gd⟩).run P w = .ok (.value (.agg cells.toArray)) w := by
   have e : (execOp a.eval ⟨d, .build T l.toArray, ty, pos, af, gd⟩) = (Instr.build T (l.toArray.map fun (i, x) => (i, a.eval x))).bind fun r => Sem.pure (Next.value r) := rfl
   have e2 : l.toArray.map (fun (i, x) => (i, a.eval x)) = ((l.map (·.1)).zip vs).toArray := by
     rw [← hm, ← hxs]
     simp only [List.map_toArray, List.map_map]
     congr 1
     rw [List.zip_map']
     rfl
   rw [e, e2, Sem.run_bind', run_build w T _ cells.toArray (by simpa using hbuilt)]; rfl
 rw [this]; exact cg _ _
end
theorem StE.ents {ps ps' : List Per} {hp : List Res} (h : ∀ p ∈ ps', Ent ps p) : StE ps hp ps' hp := fun w S fp hst =>
 ⟨S, fp, ⟨fun p hp => h p hp w S hst.per, hst.res, hst.lt, hst.dj, hst.slt⟩, fun _ h => h, fun _ h => .inl h, fun _ h => h⟩
end Go.Sy
namespace Go.Proofs.YtahgkiicjohonaaGreat
open Go.RowKit Go.Lp Go.Sy
abbrev cL : Int → List D := fun z => [D.v (eI z)]
end Go.Proofs.YtahgkiicjohonaaGreat

namespace Go.Sy
open Go.RowKit Go.Lp
section
variable {P : Program} {n : Fr} {s : Sta} {d : Option Tmp} {ty : TypeId} {pos : String} {af : Array Edge} {gd : Option (Nat × Bool)} {v : Value}
theorem wrap_u8 (u : UInt8) : IntKind.i64.wrap (u.toNat : Int) = u.toNat := by have := u.toNat_lt; rw [IntKind.wrap_i64]; omega
end
end Go.Sy
namespace Go.Proofs.YtahgkiicjohonaaGreat
open Go.RowKit Go.Lp Go.Sy
end Go.Proofs.YtahgkiicjohonaaGreat

namespace Go.Sy
open Go.RowKit Go.Lp
theorem aY {P : Program} {n : Fr} {env : Env} {ps : List Per} {hp : List Res} {c : Code} {Q : Exit → Sta → Prop} (p : Per) (hp' : Ent ps p) (h : awp P n c Q ⟨env, p :: ps, hp⟩) : awp P n c Q ⟨env, ps, hp⟩ := fun w S fp a hst he hn hd =>
 h w S fp a ⟨fun q hq => (List.mem_cons.1 hq).elim (fun e => e ▸ hp' w S hst.per) (fun h => hst.per q h), hst.res, hst.lt, hst.dj, hst.slt⟩ he hn hd
theorem aaw {w : World} {S F : bH} {v : Value} {E : TypeId} {sz : Nat} {rows : List (List D)} (h : (aN v E sz rows).holds w S F) : ∃ ad cap, v = .slice ad rows.length cap := by
 rcases h with ⟨h1, h2, _⟩ | ⟨b, cap, h1, _⟩
 · subst h2; exact ⟨none, 0, h1⟩
 · exact ⟨_, cap, h1⟩
theorem vk {P : Program} {n : Fr} {env : Env} {ps : List Per} {hp : List Res} {c : Code} {Q : Exit → Sta → Prop} (i : Nat) {v : Value} {T : TypeId} {sz : Nat} {rows : List (List D)} (hi : hp[i]? = some (aN v T sz rows)) (h : ∀ ad cp, v = .slice ad rows.length cp → awp P n c Q ⟨env, ps, hp⟩) : awp P n c Q ⟨env, ps, hp⟩ := fun w S fp a hst he hn hd => by
 obtain ⟨ad, cp, e⟩ := aaw (hst.res i _ hi)
 exact h ad cp e w S fp a hst he hn hd
end Go.Sy
namespace Go.Proofs.YtahgkiicjohonaaGreat
open Go.RowKit Go.Lp Go.Sy
end Go.Proofs.YtahgkiicjohonaaGreat

namespace Go.Proofs
open Go.Shelf
def Tryz.lays189_ren : Go.Shelf.Ren := ⟨fun | 189 => 222 | 125 => 194 | 257 => 235 | 128 => 211 | 129 => 212 | 294 => 237 | 295 => 238 | 296 => 239 | 297 => 240 | 298 => 241 | 299 => 242 | 216 => 243 | 300 => 244 | 301 => 245 | 328 => 246 | 329 => 226 | 330 => 227 | 331 => 247 | 332 => 248 | 215 => 195 | 343 => 249 | n => n, fun | 28 => 25 | 3 => 3 | 46 => 212 | 0 => 0 | 51 => 267 | 53 => 222 | 4 => 4 | 183 => 289 | 182 => 288 | 131 => 48 | 5 => 5 | 9 => 9 | 218 => 309 | 222 => 106 | 228 => 326 | 229 => 327 | n => n, fun | n => n⟩
theorem Tryz.lays189 : Go.Proofs.Lays.n189 Tryz.prog Tryz.lays189_ren := {
 mixed := by kernel_rfl
 f125 := Tryz.func194.trans (congrArg some (by kernel_rfl))
 f128 := Tryz.func211.trans (congrArg some (by kernel_rfl))
 f129 := Tryz.func212.trans (congrArg some (by kernel_rfl))
 f189 := Tryz.func222.trans (congrArg some (by kernel_rfl))
 f215 := Tryz.func195.trans (congrArg some (by kernel_rfl))
 f216 := Tryz.func243.trans (congrArg some (by kernel_rfl))
 f257 := Tryz.func235.trans (congrArg some (by kernel_rfl))
 f294 := Tryz.func237.trans (congrArg some (by kernel_rfl))
 f295 := Tryz.func238.trans (congrArg some (by kernel_rfl))
 f296 := Tryz.func239.trans (congrArg some (by kernel_rfl))
 f297 := Tryz.func240.trans (congrArg some (by kernel_rfl))
 f298 := Tryz.func241.trans (congrArg some (by kernel_rfl))
 f299 := Tryz.func242.trans (congrArg some (by kernel_rfl))
 f300 := Tryz.func244.trans (congrArg some (by kernel_rfl))
 f301 := Tryz.func245.trans (congrArg some (by kernel_rfl))
 f328 := Tryz.func246.trans (congrArg some (by kernel_rfl))
 f329 := Tryz.func226.trans (congrArg some (by kernel_rfl))
 f330 := Tryz.func227.trans (congrArg some (by kernel_rfl))
 f331 := Tryz.func247.trans (congrArg some (by kernel_rfl))
 f332 := Tryz.func248.trans (congrArg some (by kernel_rfl))
 f343 := Tryz.func249.trans (congrArg some (by kernel_rfl))
 t0 := Tryz.underlying0
 a0 := Tryz.isAgg0
 z0 := Tryz.sizeOf0
 v0 := Tryz.zeroValue0
 t3 := Tryz.underlying3
 a3 := Tryz.isAgg3
 z3 := Tryz.sizeOf3
 v3 := Tryz.zeroValue3
 t4 := Tryz.underlying4
 a4 := Tryz.isAgg4
 z4 := Tryz.sizeOf4
 v4 := Tryz.zeroValue4
 t5 := Tryz.underlying5
 a5 := Tryz.isAgg5
 z5 := Tryz.sizeOf5
 v5 := Tryz.zeroValue5
 t9 := Tryz.underlying9
 a9 := Tryz.isAgg9
 z9 := Tryz.sizeOf9
 v9 := Tryz.zeroValue9
 t28 := Tryz.underlying25
 a28 := Tryz.isAgg25
 z28 := Tryz.sizeOf25
 v28 := Tryz.zeroValue25
 t46 := Tryz.underlying212
 a46 := Tryz.isAgg212
 z46 := Tryz.sizeOf212
 v46 := Tryz.zeroValue212
 t51 := Tryz.underlying267
 a51 := Tryz.isAgg267
 z51 := Tryz.sizeOf267
 v51 := Tryz.zeroValue267
 t53 := Tryz.underlying222
 a53 := Tryz.isAgg222
 z53 := Tryz.sizeOf222
 v53 := Tryz.zeroValue222
 t131 := Tryz.underlying48
 a131 := Tryz.isAgg48
 z131 := Tryz.sizeOf48
 v131 := Tryz.zeroValue48
 t182 := Tryz.underlying288
 a182 := Tryz.isAgg288
 z182 := Tryz.sizeOf288
 v182 := Tryz.zeroValue288
 t183 := Tryz.underlying289
 a183 := Tryz.isAgg289
 z183 := Tryz.sizeOf289
 v183 := Tryz.zeroValue289
 t218 := Tryz.underlying309
 a218 := Tryz.isAgg309
 z218 := Tryz.sizeOf309
 v218 := Tryz.zeroValue309
 t222 := Tryz.underlying106
 a222 := Tryz.isAgg106
 z222 := Tryz.sizeOf106
 v222 := Tryz.zeroValue106
 t228 := Tryz.underlying326
 a228 := Tryz.isAgg326
 z228 := Tryz.sizeOf326
 v228 := Tryz.zeroValue326
 t229 := Tryz.underlying327
 a229 := Tryz.isAgg327
 z229 := Tryz.sizeOf327
 v229 := Tryz.zeroValue327 }
def Tryz.lays20_ren : Go.Shelf.Ren := ⟨fun | 20 => 223 | n => n, fun | 22 => 25 | 3 => 3 | 4 => 4 | 0 => 0 | n => n, fun | n => n⟩
theorem Tryz.lays20 : Go.Proofs.Lays2.n20 Tryz.prog Tryz.lays20_ren := {
 mixed := by kernel_rfl
 f20 := Tryz.func223.trans (congrArg some (by kernel_rfl))
 t0 := Tryz.underlying0
 a0 := Tryz.isAgg0
 z0 := Tryz.sizeOf0
 v0 := Tryz.zeroValue0
 t3 := Tryz.underlying3
 a3 := Tryz.isAgg3
 z3 := Tryz.sizeOf3
 v3 := Tryz.zeroValue3
 t4 := Tryz.underlying4
 a4 := Tryz.isAgg4
 z4 := Tryz.sizeOf4
 v4 := Tryz.zeroValue4
 t22 := Tryz.underlying25
 a22 := Tryz.isAgg25
 z22 := Tryz.sizeOf25
 v22 := Tryz.zeroValue25
 i3 := by kernel_rfl }
def Tryz.lays112_ren : Go.Shelf.Ren := ⟨fun | 112 => 224 | n => n, fun | 28 => 25 | 3 => 3 | 4 => 4 | 0 => 0 | n => n, fun | n => n⟩
theorem Tryz.lays112 : Go.Proofs.Lays.n112 Tryz.prog Tryz.lays112_ren := {
 mixed := by kernel_rfl
 f112 := Tryz.func224.trans (congrArg some (by kernel_rfl))
 t0 := Tryz.underlying0
 a0 := Tryz.isAgg0
 z0 := Tryz.sizeOf0
 v0 := Tryz.zeroValue0
 t3 := Tryz.underlying3
 a3 := Tryz.isAgg3
 z3 := Tryz.sizeOf3
 v3 := Tryz.zeroValue3
 t4 := Tryz.underlying4
 a4 := Tryz.isAgg4
 z4 := Tryz.sizeOf4
 v4 := Tryz.zeroValue4
 t28 := Tryz.underlying25
 a28 := Tryz.isAgg25
 z28 := Tryz.sizeOf25
 v28 := Tryz.zeroValue25 }
end Go.Proofs

