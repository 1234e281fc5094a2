/- Parts of the proof, in build order. No condition. -/
import Derived.Test.YtgmiihmahaahiaaGreatDoorQd04
import Derived.Test.YtgmiihmahaahiaaGreatDoorQd02
import Derived.Test.YtgmiihmahaahiaaGreatDoorQd03
import Derived.Lib.UnsafeStr
import Derived.Lib.Builder
import Derived.MapKept
import Derived.Laws.StructEq
import Derived.Laws.Small
import Derived.ChangeKeysEq
import Derived.DeepKeys3
import Derived.Sort.Walk0
import Derived.Maps.Range
set_option linter.unusedSimpArgs false
set_option linter.unusedVariables false
set_option maxHeartbeats 1000000
set_option maxRecDepth 20000
namespace Go.Sy
theorem jX {P : Program} {n : Fr} {s : Sta} {d : Option Tmp} {ty : TypeId} {pos : String} {af : Array Edge} {gd : Option (Nat × Bool)} {v : Value} {f : FuncId} {g : Operand} {caps : List Value} (hf : e8 P f = true) {l : List Operand} {ts : Array TypeId} {vs : List Value} (hg : ev s.env g = some (true, .func (.func f) #[] caps.toArray)) (hx : evs s.env l = some vs)
   (hc : ∀ w S fp, St w S fp s.ps s.hp → Calls P f (vs ++ caps).toArray w fun e w' => e = .returned v ∧ Go.Sy.Below w.heap.size w w') :
   Quiet P n ⟨d, .call ⟨.value g, l.toArray, ts⟩, ty, pos, af, gd⟩ s v := fun w S fp a hst he hn => by
 rw [lZ hf (he.val hg rfl) (gP he l vs hx)]
 have := hc w S fp hst
 rw [show (vs ++ caps).toArray = vs.toArray ++ caps.toArray by simp] at this
 exact this.mono fun e w' ⟨h1, h2⟩ => ⟨v, h1, rfl, h2⟩
open RowKit in
theorem Con.rm {P : Program} {v : Value} {f : FuncId} {args : List Value} {p q t : Per} (h : Con P f args [p, q, t] [] fun u _ _ => u = v) {w : World} {S : bz} {fp : Nat → bz} {ps' : List Per} {hp : List Res} (hp1 : p ∈ ps') (hq1 : q ∈ ps') (ht1 : t ∈ ps') (hst : St w S fp ps' hp) :
   Calls P f args.toArray w fun e w' => e = .returned v ∧ Go.Sy.Below w.heap.size w w' := h.quiet (fun _ h => by
     simp only [List.mem_cons, List.not_mem_nil, or_false] at h
     rcases h with rfl | rfl | rfl
     · exact hp1
     · exact hq1
     · exact ht1) hst
end Go.Sy
namespace Go.Proofs.YtgmiihmahaahiaaGreatDoor
open Go.RowKit Go.Lp Go.Sy
open Go.Proofs.Tryz
attribute [local irreducible] aL aB awp aC fwp
theorem tk152 : tyk Tryz.prog 152 = some (false, 1) := by kernel_rfl
def wz (n v : Int) : Bool := decide (v ≥ 0) && decide (v < n)
theorem rZ (n v : Int) (bn : Nat) : Con Tryz.prog 215 [.int .i64 v, .pointer (some ⟨bn, 0, none⟩)] [At bn 0 [.v (.int .i64 n)]] [] fun r _ _ => r = .bool (wz n v) := by
 refine Con.enter Tryz.func215 rfl (by simp [Tryz.ntmps215]) ?_
 show awp _ _ _ _ ⟨[(0, true, _), (1, true, _)], _, _⟩
 refine aSR (aA rfl (aNn (aSR (aM rfl (aU rfl (eu rfl rfl) (aM rfl (aG rfl rfl (fun hc => aD rfl) (aG rfl rfl (fun hc => aN (o := 0) tk3 rfl (.of (aF 0 rfl)) rfl) (aG rfl rfl (fun hc => bw (ae rfl hc) (ae rfl hc)) (aU rfl (bJ rfl rfl (fun h => gt rfl h)) (aA rfl (aNn (aJ ?_)))))))))))))
 refine br [] [] rfl Tryz.results215 rfl ?_ (.inr rfl)
 rfl
def ku (n : Int) (a : dy) : Bool := !wz n a.from_ || !wz n a.to_
abbrev wC (bn : Nat) : Value := .func (.func 215) #[] #[.pointer (some ⟨bn, 0, none⟩)]
theorem uK (n : Int) (a : dy) (bn b5 : Nat) : Con Tryz.prog 217 [a.val, .pointer (some ⟨b5, 0, none⟩)] [At b5 0 [.v (wC bn)], At bn 0 [.v (.int .i64 n)]] [] fun r _ _ => r = .bool (ku n a) := by
 refine Con.enter Tryz.func217 rfl (by simp [Tryz.ntmps217]) ?_
 show awp _ _ _ _ ⟨[(0, true, _), (1, true, _)], _, _⟩
 refine aSR ?_
 refine an (q := true) rfl (cx rfl rfl rfl (fun b0_0 => ?_))
 refine aHN ?_
 refine aA rfl (aNn (aSR (aU rfl (aN (o := 0) tk152 rfl (.of (aF 0 rfl)) rfl) ?_)))
 refine aU rfl (qFA (off := 0) rfl) ?_
 refine aU rfl (ah 0 tk3 rfl rfl rfl) ?_
 refine aU rfl (jX (by kernel_rfl) rfl rfl (fun w S fp hst => (rZ n _ bn).quiet1 (aF 1 rfl) hst)) ?_
 refine aU rfl (bZ rfl) (aM rfl (aG rfl rfl (fun hc => aN (o := 0) tk152 rfl (.of (aF 0 rfl)) rfl) ?_))
 refine aG rfl rfl (fun hc => qFA (off := 1) rfl) ?_
 refine aG rfl rfl (fun hc => ah 0 tk3 (ae rfl hc) rfl rfl) ?_
 refine aG rfl rfl (fun hc => jX (by kernel_rfl) (ae rfl hc) (aS (ae rfl hc) rfl) (fun w S fp hst => (rZ n _ bn).quiet1 (aF 1 rfl) hst)) ?_
 refine aG rfl rfl (fun hc => bZ (ae rfl hc)) (aU rfl (bY rfl rfl (fun h => gf rfl h)) (aA rfl (aNn (aJ ?_))))
 refine br [] [] rfl Tryz.results217 rfl ?_ (.inr rfl)
 rfl
theorem pC (n : Int) (l : Sl dy) (bn b5 : Nat) : Con Tryz.prog 268 [l.val, .func (.func 217) #[] #[.pointer (some ⟨b5, 0, none⟩)]] [ShF dy.row l, At b5 0 [.v (wC bn)], At bn 0 [.v (.int .i64 n)]] []
   fun r ps hp => (ps = [] ∧ hp = []) ∧ ∃ z : Int, r = .int .i64 z ∧ decide (z ≥ 0) = l.l.any (ku n) := by
 refine Con.enter Tryz.func268 rfl (by simp [Tryz.ntmps268]) ?_
 show awp _ _ _ _ ⟨[(0, true, _), (1, true, _)], _, _⟩
 refine bA (.of (aF 0 rfl)) (fun hlen => ?_)
 refine aSR (aA rfl (aNs (aSR ?_)))
 refine aM rfl (aU rfl (aZ Tryz.underlying141 rfl) (aM rfl (aNn (aI (aT [0, 1, 7, 8] [2, 1, 0] [] (fun (k : Nat) s => (k ≤ l.l.length ∧ (l.l.take k).any (ku n) = false) ∧ s = ⟨[(0, true, l.val), (1, true, .func (.func 217) #[] #[.pointer (some ⟨b5, 0, none⟩)]), (7, true, .int .i64 l.l.length), (8, true, .int .i64 k)], [ShF dy.row l, At b5 0 [.v (wC bn)], At bn 0 [.v (.int .i64 n)]], []⟩) (fun k => l.l.length - k) rfl (⟨0, ⟨Nat.zero_le _, rfl⟩, rfl⟩) ?_)))))
 rintro k s ⟨⟨hk, hno⟩, rfl⟩
 refine aSR (aU rfl (bw rfl rfl) (aNs ?_))
 refine al _ rfl (fun h1 => ?_) (fun h1 => ?_)
 ·skip
  have hk' : k < l.l.length := by simpa using h1
  obtain ⟨a, ha⟩ : ∃ a, l.l[k]? = some a := ⟨l.l[k]'hk', by simp⟩
  refine aq (az (aH (aI (aSR (aM rfl (aA rfl (aNn (aSR (aM rfl (aM rfl (aM rfl ?_)))))))))))
  refine cJ true rfl rfl (fun _ => av Tryz.underlying141 tk215 rfl ((.of (aF 0 rfl))) rfl (aQ ha) rfl rfl) (fun h => absurd h (by decide)) (fun ⟨b4_3, o4_3⟩ => ?_)
  refine aU rfl (aP (o := 0) tk215 rfl (aF 0 rfl) rfl rfl) ?_
  refine aU rfl (jX (by kernel_rfl) rfl rfl (fun w S fp hst => (uK n a bn b5).quiet2 (aF 2 rfl) (aF 3 rfl) hst)) ?_
  refine aNn ?_
  refine al _ rfl (fun h2 => ?_) (fun h2 => ?_)
  ·skip
   refine aSR (aM rfl (aA rfl (aNn (aJ (bu (aO (aO (bu (aO ?_)))))))))
   refine br [] [] rfl Tryz.results268 rfl ?_ (.inr rfl)
   refine ⟨⟨rfl, rfl⟩, _, rfl, ?_⟩
   rw [List.any_eq_true.2 ⟨a, List.mem_of_getElem? ha, h2⟩]; simp
  ·skip
   refine aq (bB (az (aj ?_)))
   refine aU rfl (bd rfl rfl (by omega)) ?_
   refine aM rfl (aNn ?_)
   refine ⟨[0, 1, 7, 8], [2, 1, 0], [], rfl, ?_⟩
   refine ⟨k + 1, ⟨⟨by omega, ?_⟩, rfl⟩, by omega⟩
   rw [List.take_add_one, ha, List.any_append, hno]; simpa using h2
 ·skip
  refine aX (aY (aY (bf (az (aSR (aA rfl (aNn (aJ ?_))))))))
  refine br [] [] rfl Tryz.results268 rfl ?_ (.inr rfl)
  refine ⟨⟨rfl, rfl⟩, _, rfl, ?_⟩
  rw [List.take_of_length_le (by simpa using h1)] at hno
  rw [hno]; rfl
theorem qV (n : Int) (l : Sl dy) (bn b5 : Nat) : Con Tryz.prog 216 [l.val, .func (.func 217) #[] #[.pointer (some ⟨b5, 0, none⟩)]] [ShF dy.row l, At b5 0 [.v (wC bn)], At bn 0 [.v (.int .i64 n)]] []
   fun r _ _ => r = .bool (l.l.any (ku n)) := by
 refine Con.enter Tryz.func216 rfl (by simp [Tryz.ntmps216]) ?_
 show awp _ _ _ _ ⟨[(0, true, _), (1, true, _)], _, _⟩
 refine aSR (aA rfl (aNn (aSR (aM rfl (aM rfl ?_)))))
 refine an (q := true) rfl (bH [2, 1, 0] [] (by kernel_rfl) rfl rfl rfl rfl (pC n l bn b5) ?_)
 rintro _ _ _ ⟨⟨rfl, rfl⟩, z, rfl, hz⟩
 refine aST ?_
 refine aU rfl (eu rfl rfl) (aA rfl (aNn (aJ ?_)))
 refine br [] [] rfl Tryz.results216 rfl ?_ (.inr rfl)
 rw [hz]
def vR (n : Int) (l : List dy) : Bool := (decide (n ≥ 0) && decide (n ≤ 262144)) && !l.any (ku n)
theorem qo (n : Int) (l : Sl dy) : Con Tryz.prog 120 [.int .i64 n, l.val] [ShF dy.row l] [] fun r _ _ => r = .bool (vR n l.l) := by
 refine Con.enter Tryz.func120 rfl (by simp [Tryz.ntmps120]) ?_
 show awp _ _ _ _ ⟨[(0, true, _), (1, true, _)], _, _⟩
 refine aSR ?_
 refine an (q := true) rfl (cx rfl rfl rfl (fun b0_0 => ?_))
 refine aHN ?_
 refine aA rfl (aNs (cX 0 rfl rfl ?_))
 show awp _ _ _ _ ⟨_, At _ 0 _ :: _, _⟩
 refine aj (aU rfl (im (l := [.tmp 2]) rfl) ?_)
 refine an (q := true) rfl (bc (zs := [.nilFunc]) (by kernel_rfl) rfl (fun b1_1 => ?_))
 refine aHN ?_
 refine an rfl (aV 1 tk152 rfl rfl rfl rfl ?_)
 refine aHK ?_
 refine aNs (cX 1 rfl rfl ?_)
 show awp _ _ _ _ ⟨_, At _ 0 _ :: _, _⟩
 refine aj (aU rfl (aN (o := 0) tk3 rfl (.of (aF 1 rfl)) rfl) (aU rfl (eu rfl rfl) (aM rfl (aG rfl rfl (fun hc => aN (o := 0) tk3 rfl (.of (aF 1 rfl)) rfl) (aG rfl rfl (fun hc => jt (ae rfl hc) rfl) (aU rfl (bJ rfl rfl (fun h => gt rfl h)) (aM rfl (aG rfl rfl (fun hc => aD rfl) (aG rfl rfl (fun hc => im (l := [.tmp 5]) rfl) ?_)))))))))
 refine aG rfl rfl (fun hc => bC (by kernel_rfl) (aS (ae rfl hc) (aS (ae rfl hc) rfl)) (fun w S fp hst => (qV n l b0_0 b1_1).rm (aF 2 rfl) (aF 0 rfl) (aF 1 rfl) hst)) ?_
 refine aG rfl rfl (fun hc => bZ (ae rfl hc)) (aU rfl (bJ rfl rfl (fun h => gt rfl h)) (aA rfl (aNn (aJ ?_))))
 refine br [] [] rfl Tryz.results120 rfl ?_ (.inr rfl)
 rfl
end Go.Proofs.YtgmiihmahaahiaaGreatDoor

namespace Go.Sy
open Go.RowKit Go.Lp
def YN {β : Type} (v : β → Value) (Φ : β → Prop) : Value → List Per → List Res → Prop := fun r ps hp => (ps = [] ∧ hp = []) ∧ ∃ b, r = v b ∧ Φ b
abbrev YB (Φ : Prop) : Value → List Per → List Res → Prop := YN Value.bool fun b => b = true → Φ
section
variable {P : Program} {n : Fr} {ops : Array Oper} {Q : Exit → Sta → Prop} {env : Env} {ps : List Per} {hp : List Res} {ty : TypeId} {pos : String} {af : Array Edge} {gd : Option (Nat × Bool)} {rest : List Oper} {β : Type} {v : β → Value} {Φ : β → Prop}
theorem bT {t : Nat} {f : FuncId} {g : Operand} {caps : List Value} {l : List Operand} {ts : Array TypeId} {vs : List Value} (lp : List Nat) (b0 : β) (hf : e8 P f = true) (c : Bool) (hc : guardOf ops env ⟨some t, .call ⟨.value g, l.toArray, ts⟩, ty, pos, af, gd⟩ = some c) (ht : fits n.size (some t) = true)
   (hgv : c = true → ev env g = some (true, .func (.func f) #[] caps.toArray)) (hx : c = true → evs env l = some vs) (hcon : c = true → Con P f (vs ++ caps) (fH ps lp) [] (YN v Φ))
   (h : ∀ b, (c = true → Φ b) → aL P n ops Q rest ⟨(t, c, v b) :: env, ps, hp⟩) : aL P n ops Q (⟨some t, .call ⟨.value g, l.toArray, ts⟩, ty, pos, af, gd⟩ :: rest) ⟨env, ps, hp⟩ := by
 cases c with
 | true =>
   refine an (q := true) hc (gA lp [] hf (hgv rfl) (hx rfl) ht rfl rfl (hcon rfl) ?_)
   rintro _ _ _ ⟨⟨rfl, rfl⟩, b, rfl, hb⟩
   refine aag ?_ (h b fun _ => hb)
   apply List.ext_getElem?; intro i; rw [iY]
   by_cases hi : i < hp.length
   · rw [if_pos hi]; rfl
   · rw [if_neg hi, List.getElem?_eq_none (by simp), List.getElem?_eq_none (by omega)]
 | false => exact pc (v := v b0) false hc ht (fun h => by cases h) (h b0 fun h => by cases h)
theorem lj {V : List Nat} {k : Nat} {L : Array Bool} {t : Nat} {f : FuncId} {g : Operand} {caps : List Value} {l : List Operand} {ts : Array TypeId} {vs : List Value} (i : Nat) (hi : ops[i]? = some ⟨some t, .call ⟨.value g, l.toArray, ts⟩, ty, pos, af, gd⟩) (hr : Region.ready .any ops L = [i]) (lp : List Nat) (b0 : β) (hf : e8 P f = true) (c : Bool) (hc : guardOf ops env ⟨some t, .call ⟨.value g, l.toArray, ts⟩, ty, pos, af, gd⟩ = some c) (ht : fits n.size (some t) = true)
   (hgv : c = true → ev env g = some (true, .func (.func f) #[] caps.toArray)) (hx : c = true → evs env l = some vs) (hcon : c = true → Con P f (vs ++ caps) (fH ps lp) [] (YN v Φ))
   (h : ∀ b, (c = true → Φ b) → aB P n ops V Q k (L.setIfInBounds i true) ⟨(t, c, v b) :: env, ps, hp⟩) : aB P n ops V Q (k + 1) L ⟨env, ps, hp⟩ := by
 cases c with
 | true =>
   refine cg (q := true) i hi hr rfl hc (gA lp [] hf (hgv rfl) (hx rfl) ht rfl rfl (hcon rfl) ?_)
   rintro _ _ _ ⟨⟨rfl, rfl⟩, b, rfl, hb⟩
   refine ace rfl ?_ (h b fun _ => hb)
   apply List.ext_getElem?; intro j; rw [iY]
   by_cases hj : j < hp.length
   · rw [if_pos hj]; rfl
   · rw [if_neg hj, List.getElem?_eq_none (by simp), List.getElem?_eq_none (by omega)]
 | false =>
   intro w S fp a hst he hn hdf w1 hb
   refine ⟨fun h0 => (by rw [hr] at h0; cases h0), fun j hj => ?_⟩
   rw [hr] at hj
   obtain rfl := List.mem_singleton.1 hj
   refine ⟨_, hi, ?_⟩
   rw [if_neg (by rw [dO (ops := ops) hc he]; exact Bool.false_ne_true)]
   refine ⟨fun _ => Below.refl _ _, ?_⟩
   have hen := he.set (dst := some t) (by rw [hn]; exact ht) false (v b0)
   exact lE (fun a2 w2 hp => hp.trans (Evo.of_below _ _ hb) (fun _ h => .inl h)) _ _ _ _ (h b0 (fun h => by cases h) w1 S fp _ (hst.below hb) hen (by rw [ez]; exact hn) (by rw [put_defers]; exact hdf))
end
end Go.Sy

namespace Go.Sy
open Go.RowKit Go.Lp
def abK : Res := ⟨fun _ _ _ => True, fun _ _ _ _ => trivial⟩
section
variable {P : Program} {n : Fr} {env : Env} {ps : List Per} {hp : List Res} {d : Option Tmp} {ty : TypeId} {pos : String} {af : Array Edge} {gd : Option (Nat × Bool)}
theorem l7 {w : World} {b : Nat} {T : TypeId} {cs : List Value} (h : w.heap[b]? = some (.cells cs.toArray T (0, 0))) : w.shape? b = some (T, cs.length) := by
 unfold World.shape?; rw [h]; simp
theorem abR {src dst t T : TypeId} {x : Operand} {b : Nat} {cs : List Value} (i : Nat) (hs : P.underlying src = some (.pointer t)) (hd : P.underlying dst = some .unsafePointer) (ht : ((P.info? t).map fun j => decide (j.size ≠ 0)) = some true) (hx : ev env x = some (true, .pointer (some ⟨b, 0, none⟩))) (hi : hp[i]? = some (Box b T cs)) (h0 : 0 < cs.length) :
   Quiet P n ⟨d, .convert src dst x, ty, pos, af, gd⟩ ⟨env, ps, hp⟩ (.pointer (some ⟨b, 0, none⟩)) := fun w S fp a hst he hn => by
 have h1 := he.val hx rfl
 obtain ⟨hb, _⟩ := hst.res i _ hi
 obtain ⟨j, hj, hjs⟩ := Option.map_eq_some_iff.1 ht
 have hrun := Lib.run_to_unsafe (P := P) w ⟨b, 0, none⟩ hs hd hj (by simpa using hjs) (l7 hb) h0
 have : (execOp a.eval ⟨d, .convert src dst x, ty, pos, af, gd⟩).run P w = .ok (.value (.pointer (some ⟨b, 0, none⟩))) w := by
   unfold execOp; dsimp only; rw [h1]
   show ((convert src dst (.pointer (some ⟨b, 0, none⟩))).bind fun r => Sem.pure (Next.value r)).run P w = _
   rw [Sem.run_bind', hrun]; rfl
 rw [this]; exact ck _ _
theorem yA {src dst u T : TypeId} {x : Operand} {b : Nat} {cs : List Value} (i m : Nat) (hs : P.underlying src = some .unsafePointer) (hd : P.underlying dst = some (.pointer u)) (hu : (P.info? u).isSome = true) (hx : ev env x = some (true, .pointer (some ⟨b, 0, none⟩))) (hi : hp[i]? = some (Box b T cs)) (hm : cs.length = m) (hlies : liesAt P P.depth T (m / P.cellsOf T) 0 u 1 = true) :
   Quiet P n ⟨d, .convert src dst x, ty, pos, af, gd⟩ ⟨env, ps, hp⟩ (.pointer (some ⟨b, 0, none⟩)) := fun w S fp a hst he hn => by
 have h1 := he.val hx rfl
 obtain ⟨hb, _⟩ := hst.res i _ hi
 obtain ⟨j, hj⟩ := Option.isSome_iff_exists.1 hu
 have hsh := l7 hb
 rw [hm] at hsh
 have hrun := Lib.run_from_unsafe (P := P) w ⟨b, 0, none⟩ hs hd hj hsh hlies
 have : (execOp a.eval ⟨d, .convert src dst x, ty, pos, af, gd⟩).run P w = .ok (.value (.pointer (some ⟨b, 0, none⟩))) w := by
   unfold execOp; dsimp only; rw [h1]
   show ((convert src dst (.pointer (some ⟨b, 0, none⟩))).bind fun r => Sem.pure (Next.value r)).run P w = _
   rw [Sem.run_bind', hrun]; rfl
 rw [this]; exact ck _ _
theorem tW {x : Operand} {t t' : TypeId} (hT : (match P.underlying t with | some (.pointer _) => true | _ => false) = true) (hx : ev env x = some (true, .pointer none)) : Quiet P n ⟨d, .binOp .eql t x (.const (.pointer none)) t', ty, pos, af, gd⟩ ⟨env, ps, hp⟩ (.bool true) := .run2 hx (y := .const (.pointer none)) (vy := .pointer none) rfl fun ρ w h1 h2 => by
 have hu : ∃ e, P.underlying t = some (.pointer e) := by
   cases h : P.underlying t with
   | none => rw [h] at hT; cases hT
   | some dd => rw [h] at hT; cases dd <;> first | exact ⟨_, rfl⟩ | cases hT
 obtain ⟨e, hu⟩ := hu
 unfold execOp; dsimp only; rw [h1, h2]
 have e1 : (do eqGuard BinOp.eql t x (.const (.pointer none)) (Value.pointer none) (Value.pointer none); binOp BinOp.eql t (Value.pointer none) (Value.pointer none)) = binOp BinOp.eql t (Value.pointer none) (Value.pointer none) := rfl
 have e2 : (binOp BinOp.eql t (Value.pointer none) (Value.pointer none)).run P w = .ok (.bool true) w := by
   have := run_eql_pointer_nil (P := P) (w := w) t none (by rw [hu]; unfold Program.pointee; rw [hu])
   exact this
 show ((do eqGuard BinOp.eql t x (.const (.pointer none)) (Value.pointer none) (Value.pointer none); binOp BinOp.eql t (Value.pointer none) (Value.pointer none)).bind fun r => Sem.pure (Next.value r)).run P w = _
 rw [e1, Sem.run_bind', e2]; rfl
theorem w7 {x y : Operand} {t t' te : TypeId} {a0 : Addr} (hu : P.underlying t = some (.pointer te)) (hte : (P.info? te).isSome = true) (hx : ev env x = some (true, .pointer (some a0))) (hy : ev env y = some (true, .pointer (some a0))) : Quiet P n ⟨d, .binOp .neq t x y t', ty, pos, af, gd⟩ ⟨env, ps, hp⟩ (.bool false) := .run2 hx hy fun ρ w h1 h2 => by
 obtain ⟨j, hj⟩ := Option.isSome_iff_exists.1 hte
 unfold execOp; dsimp only; rw [h1, h2]
 have e1 : ∀ x y : Operand, (do eqGuard BinOp.neq t x y (Value.pointer (some a0)) (Value.pointer (some a0)); binOp BinOp.neq t (Value.pointer (some a0)) (Value.pointer (some a0))) = binOp BinOp.neq t (Value.pointer (some a0)) (Value.pointer (some a0)) := fun _ _ => rfl
 have e2 := Lib.run_neq_ptr_same (P := P) w a0 hu hj
 show ((do eqGuard BinOp.neq t x y (Value.pointer (some a0)) (Value.pointer (some a0)); binOp BinOp.neq t (Value.pointer (some a0)) (Value.pointer (some a0))).bind fun r => Sem.pure (Next.value r)).run P w = _
 rw [e1, Sem.run_bind', e2]; rfl
theorem tZ {x : Operand} {T : TypeId} {a0 : Addr} {m c : Nat} (hc : c ≠ 0) (hx : ev env x = some (true, .slice (some a0) m c)) : Quiet P n ⟨d, .call ⟨.builtin .unsafeSliceData, #[x], #[T]⟩, ty, pos, af, gd⟩ ⟨env, ps, hp⟩ (.pointer (some a0)) := .run1 hx fun ρ w h => by
 have hr := Lib.run_unsafeSliceData_row (P := P) w #[T] ty a0 m c hc
 have hexec : execOp ρ ⟨d, .call ⟨.builtin .unsafeSliceData, #[x], #[T]⟩, ty, pos, af, gd⟩ = (Builtin.unsafeSliceData_ #[T] ty (#[x].map ρ)).bind fun r => Sem.pure (Next.value r) := rfl
 rw [hexec, show #[x].map ρ = #[ρ x] by simp, h, Sem.run_bind', hr]; rfl
abbrev gg : UInt8 → List D := fun u => [.v (.int .u8 u.toNat)]
theorem oh {t : Nat} {x y : Operand} {pt it E : TypeId} {g cp : Nat} {l : List UInt8} {K : Sta → Prop} (i : Nat) (hp1 : P.underlying pt = some (.pointer E)) (hc : P.cellsOf E = 1) (h0 : l ≠ []) (hx : ev env x = some (true, .pointer (some ⟨g, 0, none⟩))) (hy : ev env y = some (true, .int .i64 l.length))
   (hi : hp[i]? = some (bg (.slice (some ⟨g, 0, none⟩) l.length cp) E 1 (l.map gg))) (ht : fits n.size (some t) = true) (hK : K ⟨(t, true, .string ⟨l.toArray⟩) :: env, ps, hp.set i abK⟩) :
   Eff P n ⟨some t, .call ⟨.builtin .unsafeString, #[x, y], #[pt, it]⟩, ty, pos, af, gd⟩ ⟨env, ps, hp⟩ false K := .change i hi fun w S fp a hst he hn hR => by
 have h1 := he.val hx rfl
 have h2 := he.val hy rfl
 rcases hR with ⟨h, _⟩ | ⟨b, cap, hv, ⟨cs, sp, hb, hrows, hcap, hrc, hcm⟩, hF⟩
 · cases h
 · simp only [Value.slice.injEq, Option.some.injEq, Addr.mk.injEq] at hv
   obtain ⟨⟨rfl, _⟩, _, rfl⟩ := hv
   have hlen : cs.length = l.length := by rw [hrows.len, List.length_map, Nat.mul_one]
   rw [List.length_map] at hrc
   have hsh := l7 hb
   have hcell : ∀ j u, l[j]? = some u → w.cell? ((⟨g, 0, none⟩ : Addr).add j) = some (.int .u8 u.toNat) := fun j u hj => by
     obtain ⟨v, hv, hrep⟩ := hrows.rep j 0 (gg u) (.v (.int .u8 u.toNat)) (by rw [List.getElem?_map, hj]; rfl) rfl
     rw [Nat.mul_one, Nat.add_zero] at hv
     rw [bN hrep] at hv
     have hjl := (List.getElem?_eq_some_iff.1 hv).1
     have : (⟨g, 0, none⟩ : Addr).add j = ⟨g, j, none⟩ := by
       unfold Addr.add
       by_cases h : j = 0
       · subst h; simp
       · simp [h]
     rw [this, ef hb, List.getElem?_append_left hjl]; exact hv
   have hcl : l.length ≤ (cs ++ sp).length := by rw [List.length_append]; omega
   have hr := Lib.run_unsafeString_row (P := P) w pt it ty E hp1 hc g (cs ++ sp).length hsh l h0 hcl (by unfold maxLen at hcm; omega) hcell
   have hexec : execOp a.eval ⟨some t, .call ⟨.builtin .unsafeString, #[x, y], #[pt, it]⟩, ty, pos, af, gd⟩ = (Builtin.unsafeString_ #[pt, it] ty (#[x, y].map a.eval)).bind fun r => Sem.pure (Next.value r) := rfl
   rw [hexec, show #[x, y].map a.eval = #[a.eval x, a.eval y] by simp, h1, h2, Sem.run_bind', hr]
   have hl0 : l.length ≠ 0 := fun h => h0 (List.eq_nil_of_length_eq_zero h)
   obtain ⟨f, hfz⟩ : ∃ f : Obj → Obj, w.freeze ⟨g, 0, none⟩ l.length = { w with heap := w.heap.modify g f } := ⟨_, by unfold World.freeze; rw [if_neg hl0]⟩
   refine ⟨abK, ⟨(t, true, .string ⟨l.toArray⟩) :: env, ps, hp.set i abK⟩, hK, rfl, rfl, ?_, trivial, ?_, ?_, ?_, ?_, ?_⟩
   · exact he.put (g := true) (by rw [hn]; simpa [fits] using ht) _
   · rw [hfz]
   · rw [hfz]
   · rw [hfz]; exact ⟨rfl, rfl⟩
   · rw [hfz]; simp
   · intro b' hb' hne
     rw [hfz]
     simp only [Array.getElem?_modify]
     rw [if_neg (fun h => hne ((hF b').2 h.symm))]
end
end Go.Sy

namespace Go.Proofs.YtgmiihmahaahiaaGreatDoor
open Go.RowKit Go.Lp Go.Sy
open Go.Proofs.Tryz
attribute [local irreducible] aL aB awp aC fwp
theorem aac (p : Value) (w : World) : (Extern.AbiNoEscape.same #[p]).run Tryz.prog w = .ok p w := rfl
abbrev lV (b : Nat) (p v : Value) : Res := Box b 315 [p, v]
theorem vz (b : Nat) (v : Value) : Con Tryz.prog 285 [.pointer (some ⟨b, 0, none⟩)] [] [lV b (.pointer none) v] fun _ ps hp => ps = [] ∧ hp = [lV b (.pointer (some ⟨b, 0, none⟩)) v] := by
 refine Con.enter Tryz.func285 rfl (by simp [Tryz.ntmps285]) ?_
 show awp _ _ _ _ ⟨[(0, true, _)], _, _⟩
 refine aSR (aM rfl (aU rfl (aR rfl) ?_))
 refine aU rfl (qFA (off := 0) rfl) ?_
 refine aU rfl (ah 0 tk313 rfl rfl rfl) ?_
 refine aU rfl (tW (by kernel_rfl) rfl) ?_
 refine aNn ?_
 refine al _ rfl (fun h1 => ?_) (fun h1 => ?_)
 ·skip
  refine aj (aM rfl (aM rfl ?_))
  refine aU rfl (abR (t := 315) 0 (by kernel_rfl) (by kernel_rfl) (by kernel_rfl) rfl rfl (by simp)) ?_
  refine aU rfl (acn (vs := _) Tryz.func305 rfl rfl (by kernel_rfl) (by kernel_rfl) rfl (fun w => aac _ w)) ?_
  refine aU rfl (yA (u := 315) 0 2 (by kernel_rfl) (by kernel_rfl) (by kernel_rfl) rfl rfl rfl (by kernel_rfl)) ?_
  refine aU rfl (aR rfl) ?_
  refine aU rfl (qFA (off := 0) rfl) ?_
  refine an rfl (aV 0 tk313 rfl rfl rfl rfl ?_)
  refine aHK ?_
  refine cn ?_
  refine ir [] [0] rfl Tryz.results285 ?_ (.inl rfl)
  exact ⟨rfl, rfl⟩
 ·skip
  exact absurd h1 (by decide)
theorem uB (b : Nat) (v : Value) : Con Tryz.prog 285 [.pointer (some ⟨b, 0, none⟩)] [] [lV b (.pointer (some ⟨b, 0, none⟩)) v] fun _ ps hp => ps = [] ∧ hp = [lV b (.pointer (some ⟨b, 0, none⟩)) v] := by
 refine Con.enter Tryz.func285 rfl (by simp [Tryz.ntmps285]) ?_
 show awp _ _ _ _ ⟨[(0, true, _)], _, _⟩
 refine aSR (aM rfl (aU rfl (aR rfl) ?_))
 refine aU rfl (qFA (off := 0) rfl) ?_
 refine aU rfl (ah 0 tk313 rfl rfl rfl) ?_
 refine aU rfl (zy (by kernel_rfl) rfl) ?_
 refine aNn ?_
 refine al _ rfl (fun h1 => ?_) (fun h1 => ?_)
 ·skip
  exact absurd h1 (by decide)
 ·skip
  refine aSR (aM rfl (aU rfl (aR rfl) ?_))
  refine aU rfl (qFA (off := 0) rfl) ?_
  refine aU rfl (ah 0 tk313 rfl rfl rfl) (aM rfl ?_)
  refine aU rfl (w7 (te := 315) (by kernel_rfl) (by kernel_rfl) rfl rfl) ?_
  refine aNn ?_
  refine al _ rfl (fun h2 => ?_) (fun h2 => ?_)
  ·skip
   exact absurd h2 (by decide)
  ·skip
   refine aq ?_
   refine ir [] [0] rfl Tryz.results285 ?_ (.inl rfl)
   exact ⟨rfl, rfl⟩
theorem w4 (b : Nat) (p : Value) (hp : p = .pointer none ∨ p = .pointer (some ⟨b, 0, none⟩)) (v : Value) : Con Tryz.prog 285 [.pointer (some ⟨b, 0, none⟩)] [] [lV b p v] fun _ ps hp => ps = [] ∧ hp = [lV b (.pointer (some ⟨b, 0, none⟩)) v] := by
 rcases hp with rfl | rfl
 · exact vz b v
 · exact uB b v
theorem uH (b : Nat) (p : Value) (hp : p = .pointer none ∨ p = .pointer (some ⟨b, 0, none⟩)) (v : Value) (l : List UInt8) (hl : l.length ≤ 1000000) (u : UInt8) : Con Tryz.prog 249 [.pointer (some ⟨b, 0, none⟩), .int .u8 u.toNat] [] [lV b p v, bg v 5 1 (l.map gg)]
   fun _ ps hp => ps = [] ∧ ∃ (ad : Option Addr) (c : Nat), hp = [lV b (.pointer (some ⟨b, 0, none⟩)) (.slice ad (l ++ [u]).length c), bg (.slice ad (l ++ [u]).length c) 5 1 ((l ++ [u]).map gg)] := by
 refine Con.enter Tryz.func249 rfl (by simp [Tryz.ntmps249]) ?_
 show awp _ _ _ _ ⟨[(0, true, _), (1, true, _)], _, _⟩
 refine aSR (aA rfl (aNn (aSR (aM rfl ?_))))
 refine an (q := false) rfl (bH [] [0] (by kernel_rfl) rfl rfl rfl rfl (w4 b p hp v) ?_)
 rintro _ _ _ ⟨rfl, rfl⟩
 refine aST ?_
 refine aNn (aSR (aM rfl (aM rfl (aU rfl (aR rfl) ?_))))
 refine aU rfl (qFA (off := 1) rfl) ?_
 refine aU rfl (ah 0 tk280 rfl rfl rfl) (aM rfl ?_)
 refine an (q := true) rfl (cB (zs := [.int .u8 0]) (l := [(0, .tmp 12)]) el280 (by kernel_rfl) (by decide) (by decide) (by decide) rfl rfl rfl (.more rfl (.v rfl .nil) .nil) rfl rfl (fun v2_6 => ?_))
 refine aHN ?_
 refine an rfl (cL 1 el280 rfl rfl rfl rfl (dR 2 el280 rfl (by simp)) (by first | assumption | simp) (by show (l.map gg).length + 1 ≤ _; rw [List.length_map]; exact Nat.le_trans (Nat.add_le_add_right hl 1) (by decide)) ((l ++ [u]).length) (by show (l.map gg).length + 1 = _; rw [List.length_map, List.length_append]; rfl) (fun v2_7 c2_7 => ?_))
 refine aHK ?_
 refine aU rfl (aR rfl) ?_
 refine aU rfl (qFA (off := 1) rfl) ?_
 refine an rfl (aV 0 tk280 rfl rfl rfl rfl ?_)
 refine aHK ?_
 refine aNn (aSR (aA rfl (aNn (aJ ?_))))
 refine br [] [0, 1] rfl Tryz.results249 rfl ?_ (.inr rfl)
 exact ⟨rfl, v2_7, c2_7, by rw [List.map_append]; rfl⟩
theorem sm (b : Nat) (p : Value) (g cp : Nat) (hcp : cp ≠ 0) (l : List UInt8) (hl : l ≠ []) : Con Tryz.prog 250 [.pointer (some ⟨b, 0, none⟩)] [] [lV b p (.slice (some ⟨g, 0, none⟩) l.length cp), bg (.slice (some ⟨g, 0, none⟩) l.length cp) 5 1 (l.map gg)]
   fun r ps hp => ps = [] ∧ hp = [] ∧ r = .string ⟨l.toArray⟩ := by
 refine Con.enter Tryz.func250 rfl (by simp [Tryz.ntmps250]) ?_
 show awp _ _ _ _ ⟨[(0, true, _)], _, _⟩
 refine aSR (aA rfl (aNs ?_))
 refine bp [10] (by kernel_rfl) ?_
 show aB _ _ _ _ _ 12 #[false, false, false, false, false, false, false, false, false, false, false, false] _
 refine bV 0 rfl rfl (aD rfl) ?_
 refine bV 1 rfl rfl (aR rfl) ?_
 refine bV 2 rfl rfl (qFA (off := 1) rfl) ?_
 refine bV 3 rfl rfl (ah 0 tk280 rfl rfl rfl) ?_
 refine bV 4 rfl rfl (tZ hcp rfl) ?_
 refine bV 5 rfl rfl (aD rfl) ?_
 refine bV 6 rfl rfl (aR rfl) ?_
 refine bV 7 rfl rfl (qFA (off := 1) rfl) ?_
 refine bV 8 rfl rfl (ah 0 tk280 rfl rfl rfl) ?_
 refine bV 9 rfl rfl (aZ Tryz.underlying280 rfl) ?_
 refine cg (q := false) 10 rfl (by kernel_rfl) rfl rfl (oh 1 (by kernel_rfl) (by kernel_rfl) hl rfl rfl rfl rfl ?_)
 refine bST rfl ?_
 refine bV 11 rfl rfl (cz rfl) ?_
 refine bO (by kernel_rfl) ?_
 refine az (aJ ?_)
 refine br [] [] rfl Tryz.results250 rfl ?_ (.inr rfl)
 exact ⟨rfl, rfl, rfl⟩
end Go.Proofs.YtgmiihmahaahiaaGreatDoor

namespace Go.Lp
open Go.RowKit Go.Proofs.YtgmiihmahaahiaaGreatDoor
def ofBytes (l : List UInt8) : ByteArray := ⟨l.toArray⟩
def aaU : List (List UInt8 × List UInt8 × List UInt8 × List UInt8) := [
 ([], [], [], []),
 ([110, 111, 112], [], [], []),
 ([115, 97, 102, 101], [], [], []),
 ([115, 101, 116], [65, 73], [], [65]),
 ([104, 105, 103, 104], [65, 73], [65], [65]),
 ([109, 111, 118, 101], [65, 66], [66], [65]),
 ([97, 100, 100], [65, 66, 67], [66, 67], [65]),
 ([115, 117, 98], [65, 66, 67], [66, 67], [65]),
 ([109, 117, 108], [65, 66, 67], [66, 67], [65]),
 ([97, 110, 100], [65, 66, 67], [66, 67], [65]),
 ([111, 114], [65, 66, 67], [66, 67], [65]),
 ([108, 101, 115, 115], [65, 66, 67], [66, 67], [65]),
 ([115, 97, 109, 101], [65, 66, 67], [66, 67], [65]),
 ([97, 100, 100, 105], [65, 66, 73], [66], [65]),
 ([97, 100, 100, 114], [65, 73], [], [65]),
 ([108, 111, 97, 100], [65, 66, 73], [66], [65]),
 ([98, 121, 116, 101], [65, 66, 73], [66], [65]),
 ([115, 116, 111, 114, 101], [65, 66, 73], [65, 66], []),
 ([112, 117, 116], [65, 66, 73], [65, 66], []),
 ([106, 117, 109, 112], [73], [], []),
 ([122, 101, 114, 111], [65, 73], [65], []),
 ([110, 111, 110, 122, 101, 114, 111], [65, 73], [65], []),
 ([99, 97, 108, 108], [73], [83], [83]),
 ([99, 97, 108, 108, 114], [65], [65, 83], [83]),
 ([99, 97, 108, 108, 115], [73], [83], [83]),
 ([106, 117, 109, 112, 115], [73], [], []),
 ([114, 101, 116, 117, 114, 110], [], [83], [83]),
 ([112, 117, 115, 104], [65], [65, 83], [83]),
 ([112, 111, 112], [65], [83], [65, 83]),
 ([116, 108, 115], [65, 66], [66], [65]),
 ([115, 121, 115], [73], [], [])]
def ack (r : List UInt8 × List UInt8 × List UInt8 × List UInt8) : List Value := [.string (ofBytes r.1), .string (ofBytes r.2.1), .string (ofBytes r.2.2.1), .string (ofBytes r.2.2.2)]
def ab4 : List Value := aaU.flatMap ack
end Go.Lp

namespace Go.Sy
open Go.RowKit Go.Lp Go.MapKept
structure ft {α : Type} (P : Program) (kt : TypeId) (κ : α → Value) : Prop where
 inj : ∀ a b, κ a = κ b → a = b
 check : ∀ (w : World) (em : Bool) (a : α), (Instr.checkKey em 10000 kt (κ a)).run P w = .ok () w
 find : ∀ (w : World) (x : α) (es : List MapEntry), (∀ e ∈ es, ∃ a, e.key = κ a) →
   ((Instr.findKey kt (κ x) es).run P w = .ok none w ∧ ∀ e ∈ es, e.key ≠ κ x) ∨ ∃ j e, (Instr.findKey kt (κ x) es).run P w = .ok (some (j, e.val)) w ∧ es[j]? = some e ∧ e.key = κ x
 stays : ∀ (w : World) (a : α), (Instr.keyThatStays (κ a) (κ a)).run P w = .ok (κ a) w
theorem mG {α : Type} {P : Program} {kt : TypeId} {d : TypeDesc} {κ : α → Value} (hd : P.underlying kt = some d) (hk : ∀ a, IsKey d (κ a)) (inj : ∀ a b, κ a = κ b → a = b) : ft P kt κ where
 inj := inj
 check w em a := run_checkKey hd (hk a) em 9999
 find w x es hes := by
   rcases findNow_spec (hk x) es 0 (fun e he => by obtain ⟨a, ha⟩ := hes e he; rw [ha]; exact hk a) with ⟨h1, h2⟩ | ⟨j, e, h1, h2, h3⟩
   · exact .inl ⟨run_findKey hd h1, h2⟩
   · exact .inr ⟨j, e, by rw [Nat.zero_add] at h1; exact run_findKey hd h1, h2, h3⟩
 stays w a := run_keyThatStays (hk a)
theorem yK {P : Program} {kt : TypeId} (hd : P.underlying kt = some .string) : ft P kt (fun s : ByteArray => Value.string s) := mG hd (fun _ => trivial) (fun _ _ h => by injection h)
theorem abY {P : Program} {kt : TypeId} (hd : P.underlying kt = some (.int .i64)) : ft P kt (fun z : Int => Value.int .i64 z) := mG hd (fun _ => rfl) (fun _ _ h => by injection h)
section
variable {α β : Type}
structure mI (κ : α → Value) (ν : β → Value) (m : α → Option β) (es : List MapEntry) : Prop where
 of : ∀ e ∈ es, ∃ a v, e.key = κ a ∧ e.val = ν v ∧ m a = some v
 mem : ∀ a v, m a = some v → ∃ e ∈ es, e.key = κ a ∧ e.val = ν v
 apart : es.Pairwise fun e e' => e.key ≠ e'.key
def dg (b : Nat) (κ : α → Value) (ν : β → Value) (m : α → Option β) : Res :=
 ⟨fun w _ F => (∃ es clock, w.heap[b]? = some (.map es clock) ∧ mI κ ν m es.toList ∧ Stamped es clock) ∧ ∀ k, F k ↔ k = b, fun ⟨⟨es, clock, h, he⟩, hF⟩ h1 _ _ => ⟨⟨es, clock, (h1 b ((hF b).2 rfl)).trans h, he⟩, hF⟩⟩
def cO [DecidableEq α] (m : α → Option β) (k : α) (v : β) : α → Option β := fun a => if a = k then some v else m a
variable {κ : α → Value} {ν : β → Value} {m : α → Option β} {P : Program} {kt : TypeId}
theorem mI.put [DecidableEq α] (K : ft P kt κ) {es : Array MapEntry} (h : mI κ ν m es.toList) (k : α) (v : β) {clock : Nat} (h0 : ∀ e ∈ es.toList, e.key ≠ κ k) : mI κ ν (cO m k v) (es.push { key := κ k, val := ν v, born := clock }).toList where
 of e he := by
   rw [Array.toList_push, List.mem_append, List.mem_singleton] at he
   rcases he with he | rfl
   · obtain ⟨a, u, h1, h2, h3⟩ := h.of e he
     refine ⟨a, u, h1, h2, ?_⟩
     have : a ≠ k := fun e' => h0 e he (by rw [h1, e'])
     simp [cO, this, h3]
   · exact ⟨k, v, rfl, rfl, by simp [cO]⟩
 mem a u ha := by
   unfold cO at ha
   split at ha
   · rename_i hak
     simp only [Option.some.injEq] at ha
     subst hak ha
     exact ⟨_, by rw [Array.toList_push]; exact List.mem_append_right _ (List.mem_singleton.2 rfl), rfl, rfl⟩
   · obtain ⟨e, he, h1, h2⟩ := h.mem a u ha
     exact ⟨e, by rw [Array.toList_push]; exact List.mem_append_left _ he, h1, h2⟩
 apart := by
   rw [Array.toList_push, List.pairwise_append]
   exact ⟨h.apart, List.pairwise_singleton _ _, fun e he e' he' => by rw [List.mem_singleton.1 he']; exact h0 e he⟩
theorem mI.turn [DecidableEq α] (K : ft P kt κ) {es : Array MapEntry} (h : mI κ ν m es.toList) (k : α) (v : β) {j : Nat} {e0 : MapEntry} (hj : es.toList[j]? = some e0) (h0 : e0.key = κ k) :
   mI κ ν (cO m k v) (es.modify j fun e => { e with key := κ k, val := ν v }).toList := by
 have hjl : j < es.toList.length := (List.getElem?_eq_some_iff.1 hj).1
 have hg : ∀ i, (es.modify j fun e => { e with key := κ k, val := ν v }).toList[i]? = if i = j then some { e0 with key := κ k, val := ν v } else es.toList[i]? := fun i => by
   rw [Array.getElem?_toList, Array.getElem?_modify]
   by_cases hij : i = j
   · subst hij
     rw [if_pos rfl, if_pos rfl, ← Array.getElem?_toList, hj]; rfl
   · rw [if_neg hij, if_neg (Ne.symm hij), Array.getElem?_toList]
 have hpw := List.pairwise_iff_getElem.1 h.apart
 have hne : ∀ i e, es.toList[i]? = some e → i ≠ j → e.key ≠ κ k := fun i e hi hij hk => by
   obtain ⟨hil, rfl⟩ := List.getElem?_eq_some_iff.1 hi
   obtain ⟨_, rfl⟩ := List.getElem?_eq_some_iff.1 hj
   rcases Nat.lt_or_gt_of_ne hij with hlt | hlt
   · exact hpw i j hil hjl hlt (by rw [hk, h0])
   · exact hpw j i hjl hil hlt (by rw [hk, h0])
 refine ⟨fun e he => ?_, fun a u ha => ?_, ?_⟩
 · obtain ⟨i, hi⟩ := List.mem_iff_getElem?.1 he
   rw [hg] at hi
   split at hi
   · simp only [Option.some.injEq] at hi
     subst hi
     exact ⟨k, v, rfl, rfl, by simp [cO]⟩
   · rename_i hij
     obtain ⟨a, u, h1, h2, h3⟩ := h.of e (List.mem_of_getElem? hi)
     refine ⟨a, u, h1, h2, ?_⟩
     have : a ≠ k := fun e' => hne i e hi hij (by rw [h1, e'])
     simp [cO, this, h3]
 · unfold cO at ha
   split at ha
   · rename_i hak
     simp only [Option.some.injEq] at ha
     subst hak ha
     exact ⟨_, List.mem_of_getElem? (by rw [hg, if_pos rfl]), rfl, rfl⟩
   · rename_i hak
     obtain ⟨e, he, h1, h2⟩ := h.mem a u ha
     obtain ⟨i, hi⟩ := List.mem_iff_getElem?.1 he
     have hij : i ≠ j := fun hij => by
       rw [hij, hj] at hi
       simp only [Option.some.injEq] at hi
       subst hi
       exact hak (K.inj _ _ (by rw [← h1, h0]))
     exact ⟨e, List.mem_of_getElem? (i := i) (by rw [hg, if_neg hij, hi]), h1, h2⟩
 · rw [List.pairwise_iff_getElem]
   intro i i' hi hi' hlt
   have l1 := List.getElem?_eq_getElem hi
   have l2 := List.getElem?_eq_getElem hi'
   rw [hg] at l1 l2
   split at l1
   · rename_i hij
     rw [if_neg (by omega)] at l2
     simp only [Option.some.injEq] at l1
     rw [← l1]
     exact fun e => hne i' _ l2 (by omega) e.symm
   · rename_i hij
     split at l2
     · simp only [Option.some.injEq] at l2
       rw [← l2]
       exact hne i _ l1 hij
     · obtain ⟨q1, e1⟩ := List.getElem?_eq_some_iff.1 l1
       obtain ⟨q2, e2⟩ := List.getElem?_eq_some_iff.1 l2
       rw [← e1, ← e2]
       exact hpw i i' q1 q2 hlt
variable {n : Fr} {env : Env} {ps : List Per} {hp : List Res} {ty : TypeId} {pos : String} {af : Array Edge} {gd : Option (Nat × Bool)} {K : Sta → Prop} {d : Option Tmp} {q : Bool}
theorem fk {t : Nat} {T : TypeId} (κ : α → Value) (ν : β → Value) (ht : fits n (some t) = true) (hK : ∀ b, K ⟨(t, true, .map (some b)) :: env, ps, hp ++ [dg b κ ν fun _ => none]⟩) :
   Eff P n ⟨some t, .makeMap T none, ty, pos, af, gd⟩ ⟨env, ps, hp⟩ q K := .push fun w S fp a hst he hn => by
 have : (execOp a.eval ⟨some t, .makeMap T none, ty, pos, af, gd⟩).run P w = .ok (.value (.map (some w.heap.size))) (w.alloc (.map #[] 0)) := by
   show ((Instr.makeMap T none).bind fun r => Sem.pure (Next.value r)).run P w = _
   rw [Sem.run_bind']
   have : (Instr.makeMap T none).run P w = .ok (.map (some w.heap.size)) (w.alloc (.map #[] 0)) := by
     simp [Instr.makeMap, Sem.run_bind, Result.andThen, newObj, Sem.run]
   rw [this]; rfl
 rw [this]
 refine ⟨dg w.heap.size κ ν fun _ => none, fun b => b = w.heap.size, _, hK w.heap.size, rfl, rfl, he.put (g := true) (by rw [hn]; simpa [fits] using ht) _, eW _ _, ⟨⟨#[], 0, iW _ _, ⟨fun e he => (by simp at he), fun a v h => (by cases h), List.Pairwise.nil⟩, stamped_empty 0⟩, fun _ => Iff.rfl⟩, fun b hb => ?_⟩
 subst hb
 exact ⟨Nat.le_refl _, by rw [World.size_alloc]; omega⟩
theorem dQ [DecidableEq α] {T E : TypeId} {x y z : Operand} {b : Nat} {k : α} {v : β} (i : Nat) (hT : P.underlying T = some (.map kt E)) (KO : ft P kt κ) (hx : ev env x = some (true, .map (some b))) (hy : ev env y = some (true, κ k)) (hz : ev env z = some (true, ν v)) (hi : hp[i]? = some (dg b κ ν m))
   (hK : K ⟨env, ps, hp.set i (dg b κ ν (cO m k v))⟩) : Eff P n ⟨none, .mapUpdate T x y z, ty, pos, af, gd⟩ ⟨env, ps, hp⟩ false K := .change i hi fun w S fp a hst he hn ⟨⟨es, clock, hb, hes, hsm⟩, hF⟩ => by
 have h1 := he.val hx rfl
 have h2 := he.val hy rfl
 have h3 := he.val hz rfl
 have key : ∃ es' clock', (Instr.mapUpdate T (.map (some b)) (κ k) (ν v)).run P w = .ok () (w.putObj b (.map es' clock')) ∧ mI κ ν (cO m k v) es'.toList ∧ Stamped es' clock' := by
   rcases KO.find w k es.toList (fun e he => let ⟨a, _, h, _⟩ := hes.of e he; ⟨a, h⟩) with ⟨f1, f2⟩ | ⟨j, e0, f1, f2, f3⟩
   · refine ⟨es.push { key := κ k, val := ν v, born := clock }, clock + 1, ?_, hes.put KO k v f2, stamped_push hsm f2⟩
     simp only [Instr.mapUpdate, Sem.run_bind, run_underlying hT, Result.andThen, Go.MapKept.run_getObj_map hb, KO.check, f1, Go.MapKept.run_setObj_map _ hb]
     rfl
   · refine ⟨es.modify j fun e => { e with key := κ k, val := ν v }, clock, ?_, hes.turn KO k v f2 f3, stamped_modify hsm j _ (fun _ _ => rfl) (fun e he h => by rw [← Array.getElem?_toList, f2] at h; obtain rfl := Option.some.inj h; exact f3.symm)⟩
     have f2' : es[j]? = some e0 := by rw [← Array.getElem?_toList]; exact f2
     simp only [Instr.mapUpdate, Sem.run_bind, run_underlying hT, Result.andThen, Go.MapKept.run_getObj_map hb, KO.check, f1, f2', Option.map_some, Option.getD_some, f3, KO.stays, Go.MapKept.run_setObj_map _ hb]
     rfl
 obtain ⟨es', clock', hrun, hes'⟩ := key
 have : (execOp a.eval ⟨none, .mapUpdate T x y z, ty, pos, af, gd⟩).run P w = .ok .skip (w.putObj b (.map es' clock')) := by
   unfold execOp; dsimp only; rw [h1, h2, h3]
   show ((Instr.mapUpdate T (.map (some b)) (κ k) (ν v)).bind fun _ => Sem.pure Next.skip).run P w = _
   rw [Sem.run_bind', hrun]; rfl
 rw [this]
 have hbl := (Array.getElem?_eq_some_iff.1 hb).1
 exact ⟨dg b κ ν (cO m k v), _, hK, rfl, rfl, he, ⟨⟨es', clock', World.putObj_heap_same hbl, hes'⟩, hF⟩, rfl, rfl, ⟨rfl, rfl⟩, by rw [World.putObj_size]; exact Nat.le_refl _, fun b' _ hb' => World.putObj_heap_other (fun e => hb' ((hF b').2 e))⟩
theorem tv {T E : TypeId} {x y : Operand} {b : Nat} {k : α} {v0 : β} (i : Nat) (ok : Bool) (hT : P.underlying T = some (.map kt E)) (KO : ft P kt κ) (hz : (P.info? E).bind (·.zero) = some (ν v0)) (hx : ev env x = some (true, .map (some b))) (hy : ev env y = some (true, κ k)) (hi : hp[i]? = some (dg b κ ν m)) :
   Quiet P n ⟨d, .lookup T x y ok, ty, pos, af, gd⟩ ⟨env, ps, hp⟩ (bif ok then .tuple #[ν ((m k).getD v0), .bool (m k).isSome] else ν ((m k).getD v0)) := fun w S fp a hst he hn => by
 have h1 := he.val hx rfl
 have h2 := he.val hy rfl
 obtain ⟨⟨es, clock, hb, hes, _⟩, hF⟩ := hst.res i _ hi
 have hzr : (zeroValue E).run P w = .ok (ν v0) w := by
   cases hE : P.info? E with
   | none => rw [hE] at hz; cases hz
   | some it =>
     rw [hE, Option.bind_some] at hz
     simp [zeroValue, typeInfo, hE, hz]
 have hrun : (Instr.lookup T (.map (some b)) (κ k) ok).run P w = .ok (bif ok then .tuple #[ν ((m k).getD v0), .bool (m k).isSome] else ν ((m k).getD v0)) w := by
   rcases KO.find w k es.toList (fun e he => let ⟨a, _, h, _⟩ := hes.of e he; ⟨a, h⟩) with ⟨f1, f2⟩ | ⟨j, e0, f1, f2, f3⟩
   · have hm : m k = none := by
       cases hmk : m k with
       | none => rfl
       | some u => obtain ⟨e, he, g1, _⟩ := hes.mem k u hmk; exact (f2 e he g1).elim
     rw [hm]
     simp only [Instr.lookup, Sem.run_bind, run_underlying hT, Result.andThen, Go.MapKept.run_getObj_map hb, KO.check, f1, hzr, Sem.run_pure]
     cases ok <;> rfl
   · obtain ⟨a, u, g1, g2, g3⟩ := hes.of e0 (List.mem_of_getElem? f2)
     obtain rfl : a = k := KO.inj _ _ (by rw [← g1, f3])
     rw [g3]
     simp only [Instr.lookup, Sem.run_bind, run_underlying hT, Result.andThen, Go.MapKept.run_getObj_map hb, KO.check, f1, Sem.run_pure, g2]
     cases ok <;> rfl
 have : (execOp a.eval ⟨d, .lookup T x y ok, ty, pos, af, gd⟩).run P w = .ok (.value (bif ok then .tuple #[ν ((m k).getD v0), .bool (m k).isSome] else ν ((m k).getD v0))) w := by
   unfold execOp; dsimp only; rw [h1, h2]
   show ((Instr.lookup T (.map (some b)) (κ k) ok).bind fun r => Sem.pure (Next.value r)).run P w = _
   rw [Sem.run_bind', hrun]; rfl
 rw [this]; exact ck _ _
theorem jd {T E : TypeId} {x y : Operand} {b : Nat} {k : α} {v0 : β} (i : Nat) (hT : P.underlying T = some (.map kt E)) (KO : ft P kt κ) (hz : (P.info? E).bind (·.zero) = some (ν v0)) (hx : ev env x = some (true, .map (some b))) (hy : ev env y = some (true, κ k)) (hi : hp[i]? = some (dg b κ ν m)) :
   Quiet P n ⟨d, .lookup T x y false, ty, pos, af, gd⟩ ⟨env, ps, hp⟩ (ν ((m k).getD v0)) := tv i false hT KO hz hx hy hi
theorem um {T E : TypeId} {x y : Operand} {b : Nat} {k : α} {v0 : β} (i : Nat) (hT : P.underlying T = some (.map kt E)) (KO : ft P kt κ) (hz : (P.info? E).bind (·.zero) = some (ν v0)) (hx : ev env x = some (true, .map (some b))) (hy : ev env y = some (true, κ k)) (hi : hp[i]? = some (dg b κ ν m)) :
   Quiet P n ⟨d, .lookup T x y true, ty, pos, af, gd⟩ ⟨env, ps, hp⟩ (.tuple #[ν ((m k).getD v0), .bool (m k).isSome]) := tv i true hT KO hz hx hy hi
end
end Go.Sy

namespace Go.Sy
open Go.RowKit
section
variable {P : Program} {n : Fr} {s : Sta} {d : Option Tmp} {ty : TypeId} {pos : String} {af : Array Edge} {gd : Option (Nat × Bool)} {x y : Operand} {t t' : TypeId}
theorem ab6 {b1 b2 : Bool} (hT : P.underlying t = some .bool) (hx : ev s.env x = some (true, .bool b1)) (hy : ev s.env y = some (true, .bool b2)) : Quiet P n ⟨d, .binOp .neq t x y t', ty, pos, af, gd⟩ s (.bool (!(b1 == b2))) :=
 .run2 hx hy fun ρ w h1 h2 => by
   unfold execOp; dsimp only; rw [h1, h2]
   simp only [eqGuard_at_bool, binOp, Sem.run_bind, Sem.run_pure, run_equal_bool w t b1 b2 hT, Result.andThen_ok]
theorem yY {xs ys : Array Value} {b : Bool} (hT : P.underlying t = some (.struct (P.fieldsOf t))) (hp : P.stoodInHeld t = false) (hm : P.eqGuardType P.depth t = false)
   (hr : ∀ w, (Op.eqFields 9999 xs ys (P.fieldsOf t).toList).run P w = .ok b w) (hx : ev s.env x = some (true, .agg xs)) (hy : ev s.env y = some (true, .agg ys)) : Quiet P n ⟨d, .binOp .neq t x y t', ty, pos, af, gd⟩ s (.bool (!b)) :=
 .run2 hx hy fun ρ w h1 h2 => by
   unfold execOp; dsimp only; rw [h1, h2]
   simp only [Sem.run_bind, run_eqGuard_agg w _ t _ _ xs ys hm, Result.andThen_ok, run_neq_struct, run_equalIn_struct w 9999 t xs ys hT hp, hr w]
   rfl
theorem abh {k yk : IntKind} {a b : Int} (hx : ev s.env x = some (true, .int k a)) (hy : ev s.env y = some (true, .int yk b)) (hb : 0 ≤ b) : Quiet P n ⟨d, .binOp .shl t x y t', ty, pos, af, gd⟩ s (.int k (k.wrap (a * 2 ^ min b.toNat k.bits))) :=
 .run2 hx hy fun ρ w h1 h2 => by
   have e : Op.shift .shl k a yk b = pure (.int k (k.wrap (a * 2 ^ min b.toNat k.bits))) := by unfold Op.shift; rw [if_neg (by omega)]
   unfold execOp; dsimp only; rw [h1, h2]
   have e2 : (do eqGuard BinOp.shl t x y (Value.int k a) (Value.int yk b); binOp BinOp.shl t (Value.int k a) (Value.int yk b)) = Op.shift .shl k a yk b := by cases k <;> cases yk <;> rfl
   rw [e2, e]; rfl
theorem abi {k yk : IntKind} {a b : Int} (hx : ev s.env x = some (true, .int k a)) (hy : ev s.env y = some (true, .int yk b)) (hb : 0 ≤ b) : Quiet P n ⟨d, .binOp .shr t x y t', ty, pos, af, gd⟩ s (.int k (a.fdiv (2 ^ min b.toNat k.bits))) :=
 .run2 hx hy fun ρ w h1 h2 => by
   have e : Op.shift .shr k a yk b = pure (.int k (a.fdiv (2 ^ min b.toNat k.bits))) := by unfold Op.shift; rw [if_neg (by omega)]
   unfold execOp; dsimp only; rw [h1, h2]
   have e2 : (do eqGuard BinOp.shr t x y (Value.int k a) (Value.int yk b); binOp BinOp.shr t (Value.int k a) (Value.int yk b)) = Op.shift .shr k a yk b := by cases k <;> cases yk <;> rfl
   rw [e2, e]; rfl
theorem zw {k : IntKind} {a b : Int} (hx : ev s.env x = some (true, .int k a)) (hy : ev s.env y = some (true, .int k b)) : Quiet P n ⟨d, .binOp .or t x y t', ty, pos, af, gd⟩ s (.int k (k.wrap (BitVec.ofInt k.bits a ||| BitVec.ofInt k.bits b).toNat)) :=
 .run2 hx hy fun ρ w h1 h2 => by
   unfold execOp; dsimp only; rw [h1, h2]; cases k <;> rfl
theorem zM {k : IntKind} {a b : Int} (hx : ev s.env x = some (true, .int k a)) (hy : ev s.env y = some (true, .int k b)) : Quiet P n ⟨d, .binOp .and t x y t', ty, pos, af, gd⟩ s (.int k (k.wrap (BitVec.ofInt k.bits a &&& BitVec.ofInt k.bits b).toNat)) :=
 .run2 hx hy fun ρ w h1 h2 => by
   unfold execOp; dsimp only; rw [h1, h2]; cases k <;> rfl
end
end Go.Sy
namespace Go.Sy
open Go.RowKit
def zP (P : Program) (t : TypeId) : Bool := match P.underlying t with
 | some (.int _) => true
 | _ => false
def qu (xs : Array Value) (o : Nat) : Option Int := match xs[o]? with
 | some (.int .i64 a) => some a
 | _ => none
def y9 (xs ys : Array Value) (l : List Nat) : Bool := l.all fun o => match qu xs o, qu ys o with
 | some a, some b => a == b
 | _, _ => true
def rT (xs : Array Value) (l : List Nat) : Bool := l.all fun o => (qu xs o).isSome
theorem iD {P : Program} (d : Nat) (xs ys : Array Value) : ∀ (fs : List Field) (w : World), fs.all (fun f => decide (f.name ≠ "_") && zP P f.type) = true → rT xs (fs.map (·.offset)) = true → rT ys (fs.map (·.offset)) = true →
   (Op.eqFields (d + 1) xs ys fs).run P w = .ok (y9 xs ys (fs.map (·.offset))) w
 | [], w, _, _, _ => rfl
 | f :: fs, w, h, hx, hy => by
   simp only [List.all_cons, Bool.and_eq_true, decide_eq_true_eq] at h
   obtain ⟨⟨h1, h2⟩, h3⟩ := h
   simp only [rT, List.map_cons, List.all_cons, Bool.and_eq_true] at hx hy
   have ih := iD d xs ys fs w h3 hx.2 hy.2
   obtain ⟨k, hk⟩ : ∃ k, P.underlying f.type = some (.int k) := by
     unfold zP at h2; split at h2
     · exact ⟨_, by assumption⟩
     · cases h2
   have hp : P.plainKey f.type = true := by unfold Program.plainKey; rw [hk]
   have key : ∀ zs : Array Value, (qu zs f.offset).isSome = true → ∃ a, zs[f.offset]? = some (.int .i64 a) ∧ qu zs f.offset = some a := fun zs hz => by
     unfold qu at hz ⊢
     split at hz
     · rename_i a hh; exact ⟨a, hh, rfl⟩
     · cases hz
   obtain ⟨a, ha, ha'⟩ := key xs hx.1
   obtain ⟨b, hb, hb'⟩ := key ys hy.1
   simp only [Op.eqFields, if_pos h1, Sem.run_bind, run_part_plain w hp ha, run_part_plain w hp hb, Result.andThen_ok, run_equalIn_int w d f.type .i64 k a b hk, Sem.run_ite, Sem.run_pure, ih]
   simp only [y9, List.map_cons, List.all_cons, ha', hb']
   cases h : (a == b) <;> simp
end Go.Sy

namespace Go.Sy
open Go.RowKit Go.Lp Go.MapKept
section
variable {P : Program}
def cI (k : ByteArray × ByteArray) : Value := .agg #[.string k.1, .string k.2]
theorem qq (a b : ByteArray × ByteArray) (h : cI a = cI b) : a = b := by
 unfold cI at h
 injection h with h
 simp at h
 exact Prod.ext h.1 h.2
theorem jB (d : Nat) (t : TypeId) (a b : ByteArray) (w : World) (h : P.underlying t = some .string) : (Op.equalIn (d + 1) t (.string a) (.string b)).run P w = .ok (decide (a = b)) w := by
 have : (a == b) = decide (a = b) := by rw [Bool.eq_iff_iff, bytes_beq, decide_eq_true_eq]
 simp [Op.equalIn, run_underlying h, this]
theorem ll {e : TypeId} (he : P.underlying e = some .string) {xs : Array Value} {off : Nat} {v : Value} (hx : xs[off]? = some v) (w : World) : (part e xs off).run P w = .ok v w :=
 run_part_plain w (by unfold Program.plainKey; rw [he]) hx
theorem xp {kt : TypeId} (hwide : (match P.underlying kt with | some (.array _ _) | some (.struct _) => true | _ => false) = true) (heq : ∀ (w : World) (a b : ByteArray × ByteArray), (Op.equal kt (cI a) (cI b)).run P w = .ok (decide (a = b)) w) (w : World) (x : ByteArray × ByteArray) (es : List MapEntry) (hes : ∀ e ∈ es, ∃ a, e.key = cI a) :
   ((Instr.findKey kt (cI x) es).run P w = .ok none w ∧ ∀ e ∈ es, e.key ≠ cI x) ∨ ∃ j e, (Instr.findKey kt (cI x) es).run P w = .ok (some (j, e.val)) w ∧ es[j]? = some e ∧ e.key = cI x := by
 have key : ∀ (es : List MapEntry) (i : Nat), (∀ e ∈ es, ∃ a, e.key = cI a) →
     ((Instr.findAsking kt (cI x) es i).run P w = .ok none w ∧ ∀ e ∈ es, e.key ≠ cI x) ∨ ∃ j e, (Instr.findAsking kt (cI x) es i).run P w = .ok (some (i + j, e.val)) w ∧ es[j]? = some e ∧ e.key = cI x := by
   intro es
   induction es with
   | nil => intro i _; exact .inl ⟨by simp [Instr.findAsking], fun e he => by cases he⟩
   | cons e es ih =>
     intro i hall
     obtain ⟨a, ha⟩ := hall e List.mem_cons_self
     have hr := heq w x a
     by_cases hxa : x = a
     · refine .inr ⟨0, e, ?_, rfl, by rw [ha, hxa]⟩
       rw [decide_eq_true hxa] at hr
       simp [Instr.findAsking, ha, hr]
     · rw [decide_eq_false hxa] at hr
       rcases ih (i + 1) (fun y hy => hall y (List.mem_cons_of_mem _ hy)) with ⟨h1, h2⟩ | ⟨j, e', h1, h2, h3⟩
       · refine .inl ⟨by simp [Instr.findAsking, ha, hr, h1], fun y hy => ?_⟩
         rcases List.mem_cons.1 hy with rfl | hy
         · rw [ha]; exact fun hh => hxa (qq _ _ hh).symm
         · exact h2 y hy
       · exact .inr ⟨j + 1, e', by simp [Instr.findAsking, ha, hr, h1, Nat.add_assoc, Nat.add_comm 1 j], by simpa using h2, h3⟩
 rw [run_findKey_eq w hwide]
 rcases key es 0 hes with h | ⟨j, e, h1, h2, h3⟩
 · exact .inl h
 · exact .inr ⟨j, e, by simpa using h1, h2, h3⟩
theorem vl (w : World) (a : ByteArray × ByteArray) : (Instr.keyThatStays (cI a) (cI a)).run P w = .ok (cI a) w := by
 have : Instr.sameBits 10000 (cI a) (cI a) = true := by simp [cI, Instr.sameBits, bytes_beq]
 simp [Instr.keyThatStays, this]
theorem pX (em : Bool) (m : Nat) {e : TypeId} (he : P.underlying e = some .string) (v : ByteArray) (w : World) : (Instr.checkKey em (m + 1) e (.string v)).run P w = .ok () w := by simp [Instr.checkKey, run_underlying he]
theorem sM {kt : TypeId} (hu : P.underlying kt = some (.struct (P.fieldsOf kt))) {f g : Field} (hf : (P.fieldsOf kt).toList = [f, g]) (n1 : f.name ≠ "_") (n2 : g.name ≠ "_") (o1 : f.offset = 0) (o2 : g.offset = 1) (t1 : P.underlying f.type = some .string) (t2 : P.underlying g.type = some .string) (w : World) (em : Bool) (m : Nat) (a : ByteArray × ByteArray) : (Instr.checkKey em (m + 1 + 1) kt (cI a)).run P w = .ok () w := by
 have h1 : (part f.type #[Value.string a.1, Value.string a.2] 0).run P w = .ok (.string a.1) w := ll t1 rfl w
 have h2 : (part g.type #[Value.string a.1, Value.string a.2] 1).run P w = .ok (.string a.2) w := ll t2 rfl w
 unfold cI Instr.checkKey
 simp only [Sem.run_bind, run_underlying hu, Result.andThen_ok]
 rw [← Array.forIn_toList, hf]
 simp [n1, n2, o1, o2, h1, h2, pX em m t1, pX em m t2]
theorem zD {kt : TypeId} (hu : P.underlying kt = some (.struct (P.fieldsOf kt))) (hp : P.stoodInHeld kt = false) {f g : Field} (hf : (P.fieldsOf kt).toList = [f, g]) (n1 : f.name ≠ "_") (n2 : g.name ≠ "_") (o1 : f.offset = 0) (o2 : g.offset = 1) (t1 : P.underlying f.type = some .string) (t2 : P.underlying g.type = some .string) (w : World) (m : Nat) (a b : ByteArray × ByteArray) : (Op.equalIn (m + 1 + 1) kt (cI a) (cI b)).run P w = .ok (decide (a = b)) w := by
 have h1 : ∀ x y : ByteArray, (part f.type #[Value.string x, Value.string y] 0).run P w = .ok (.string x) w := fun x y => ll t1 rfl w
 have h2 : ∀ x y : ByteArray, (part g.type #[Value.string x, Value.string y] 1).run P w = .ok (.string y) w := fun x y => ll t2 rfl w
 unfold cI
 rw [run_equalIn_struct w (m + 1) kt _ _ hu hp, hf]
 simp only [Op.eqFields, if_pos n1, if_pos n2, o1, o2, Sem.run_bind, h1, h2, Result.andThen_ok, jB m _ _ _ w t1, jB m _ _ _ w t2]
 by_cases e1 : a.1 = b.1 <;> by_cases e2 : a.2 = b.2 <;> simp [e1, e2, h2, jB m _ _ _ w t2, Prod.ext_iff]
theorem ze {kt : TypeId} (hu : P.underlying kt = some (.struct (P.fieldsOf kt))) (hp : P.stoodInHeld kt = false) {f g : Field} (hf : (P.fieldsOf kt).toList = [f, g]) (n1 : f.name ≠ "_") (n2 : g.name ≠ "_") (o1 : f.offset = 0) (o2 : g.offset = 1) (t1 : P.underlying f.type = some .string) (t2 : P.underlying g.type = some .string) : ft P kt cI where
 inj := qq
 check w em a := sM hu hf n1 n2 o1 o2 t1 t2 w em 9998 a
 find := xp (by rw [hu]) fun w a b => zD hu hp hf n1 n2 o1 o2 t1 t2 w 9998 a b
 stays := vl
end
end Go.Sy

namespace Go.Sy
open Go.RowKit Go.Lp
abbrev eI (z : Int) : Value := .int .i64 z
def eS (s : ByteArray) : Value := .string s
def vBo (b : Bool) : Value := .bool b
def mH {α : Type} [DecidableEq α] (l : List α) : α → Option Bool := fun a => if a ∈ l then some true else none
theorem zV {α : Type} [DecidableEq α] (l : List α) (a : α) : mH (l ++ [a]) = cO (mH l) a true := by
 funext b; unfold mH cO
 by_cases h : b = a
 · subst h; simp
 · by_cases hb : b ∈ l <;> simp [h, hb]
theorem nj {α : Type} [DecidableEq α] (l : List α) (a : α) : (mH l a).getD false = decide (a ∈ l) := by
 unfold mH; by_cases h : a ∈ l <;> simp [h]
end Go.Sy

namespace Go.Proofs.YtgmiihmahaahiaaGreatDoor
open Go.RowKit Go.Lp Go.Sy
open Go.Proofs.Tryz
attribute [local irreducible] aL aB awp aC fwp
end Go.Proofs.YtgmiihmahaahiaaGreatDoor

namespace Go.Proofs.YtgmiihmahaahiaaGreatDoor
open Go.RowKit Go.Lp Go.Sy
open Go.Proofs.Tryz
attribute [local irreducible] aL aB awp aC fwp
end Go.Proofs.YtgmiihmahaahiaaGreatDoor

namespace Go.Proofs.YtgmiihmahaahiaaGreatDoor
open Go.RowKit Go.Lp Go.Sy
open Go.Proofs.Tryz
attribute [local irreducible] aL aB awp aC fwp

theorem pb (n u : Int) : Con Tryz.prog 128 [.int .i64 n, .int .i64 u] [] [] (fun r _ _ => r = .bool (decide (n ≥ 0) && decide (n < u))) := by
 refine Con.enter Tryz.func128 rfl (by simp [Tryz.ntmps128]) ?_
 show awp _ _ _ _ ⟨[(0, true, _), (1, true, _)], _, _⟩
 refine aSR (aA rfl (aNn (aSR (aM rfl (aU rfl (eu rfl rfl) (aM rfl (aG rfl rfl (fun hc => aD rfl) (aG rfl rfl (fun hc => aD rfl) (aG rfl rfl (fun hc => bw (ae rfl hc) (ae rfl hc)) (aU rfl (bJ rfl rfl (fun h => gt rfl h)) (aA rfl (aNn (aJ ?_)))))))))))))
 refine br [] [] rfl Tryz.results128 rfl ?_ (.inr rfl)
 rfl
def gK (k : Int) : Int := if k = 2 then 4 else if k = 3 then 2 else 8
theorem vh (k : Int) : Con Tryz.prog 140 [.int .i64 k] [] [] (fun r _ _ => r = .int .i64 (gK k)) := by
 refine Con.enter Tryz.func140 rfl (by simp [Tryz.ntmps140]) ?_
 show awp _ _ _ _ ⟨[(0, true, _)], _, _⟩
 refine aSR (aA rfl (aNs (aSR (aM rfl (aNn (aI (aSR (aU rfl (bx rfl rfl) (aA rfl (aNn ?_))))))))))
 refine al _ rfl (fun h1 => ?_) (fun h1 => ?_)
 ·skip
  refine aSR (aA rfl (aNn (aJ (bu (aO ?_)))))
  refine br [] [] rfl Tryz.results140 rfl ?_ (.inr rfl)
  have : k = 2 := by simpa using h1
  subst this; rfl
 ·skip
  refine aSR (aU rfl (bx rfl rfl) (aA rfl (aNn ?_)))
  refine al _ rfl (fun h2 => ?_) (fun h2 => ?_)
  ·skip
   refine aSR (aA rfl (aNn (aJ (bu (aO ?_)))))
   refine br [] [] rfl Tryz.results140 rfl ?_ (.inr rfl)
   have a1 : ¬ k = 2 := by simpa using h1
   have : k = 3 := by simpa using h2
   subst this; rfl
  ·skip
   refine aq (bB (az (aSR (aA rfl (aNn (aJ ?_))))))
   refine br [] [] rfl Tryz.results140 rfl ?_ (.inr rfl)
   have a1 : ¬ k = 2 := by simpa using h1
   have a2 : ¬ k = 3 := by simpa using h2
   unfold gK; rw [if_neg a1, if_neg a2]
end Go.Proofs.YtgmiihmahaahiaaGreatDoor

namespace Go.Sy
open Go.RowKit Go.Lp
theorem zU {P : Program} {n : Fr} {ops : Array Oper} {env : Env} {ps : List Per} {hp : List Res} {Q : Exit → Sta → Prop} {rest : List Oper} {v : Value} {T : TypeId} {sz : Nat} {rows : List (List D)} (i : Nat) (hi : hp[i]? = some (bg v T sz rows)) (h : aL P n ops Q rest ⟨env, Sh v (.sl rows) :: ps, hp.set i emp⟩) : aL P n ops Q rest ⟨env, ps, hp⟩ := fun w S fp a hst he hn hd => by
 have hil := (List.getElem?_eq_some_iff.1 hi).1
 have h1 := sI hst i hi
 have htot : ∀ b, tot (fun k => if k = i then (fun _ => False) else fp k) (hp.set i emp).length b → tot fp hp.length b := fun b ⟨j, hj, hb⟩ => by
   dsimp only at hb
   by_cases hji : j = i
   · rw [if_pos hji] at hb; exact hb.elim
   · rw [if_neg hji] at hb; exact ⟨j, by simpa using hj, hb⟩
 have hE : Evo w S (tot fp hp.length) w (fun b => S b ∨ fp i b) := ⟨rfl, rfl, rfl, Nat.le_refl _, Nat.le_refl _, fun _ _ _ => rfl, fun _ h => .inl h, fun b hb => hb.elim .inl fun h => .inr (.inl ⟨i, hil, h⟩)⟩
 exact fo (fun e a2 w2 hp => hp.trans hE (fun b hb => .inl (htot b hb))) _ _ _ (h w _ _ a h1 he hn hd)
end Go.Sy

namespace Go.Sy
open Go.RowKit Go.Lp
section
variable {P : Program} {n : Fr} {ops : Array Oper} {env : Env} {ps : List Per} {hp : List Res} {Q : Exit → Sta → Prop} {rest : List Oper} {ty : TypeId} {pos : String} {af : Array Edge} {gd : Option (Nat × Bool)}
theorem zC {ps' : List Per} (hf : ∀ p ∈ ps', Ent ps p) (h : aL P n ops Q rest ⟨env, ps', hp⟩) : aL P n ops Q rest ⟨env, ps, hp⟩ := fun w S fp a hst he hn hd =>
 h w S fp a ⟨fun q hq => hf q hq w S hst.per, hst.res, hst.lt, hst.dj, hst.slt⟩ he hn hd
theorem zG {R : Res} (h : aL P n ops Q rest ⟨env, ps, hp⟩) : aL P n ops Q rest ⟨env, ps, hp ++ [R]⟩ := fun w S fp a hst he hn hd => by
 have hst' : St w S fp ps hp := ⟨hst.per, fun i R' hR => hst.res i R' (by rw [List.getElem?_append_left (List.getElem?_eq_some_iff.1 hR).1]; exact hR), fun i hi => hst.lt i (by simp; omega), fun i j hi hj => hst.dj i j (by simp; omega) (by simp; omega), hst.slt⟩
 have hE : Evo w S (tot fp (hp ++ [R]).length) w S := Evo.refl _ _ _
 exact fo (fun e a2 w2 hp2 => hp2.trans hE (fun b ⟨j, hj, hb⟩ => .inl ⟨j, by have hj2 : j < hp.length := hj; simp; omega, hb⟩)) _ _ _ (h w S fp a hst' he hn hd)
theorem aaR {t : Nat} {T E : TypeId} {len : Nat} {l : List (Nat × Operand)} {xs : List Operand} {vs zs cs : List Value} {rows : List (List D)} (hel : elB P T E zs.length = true) (hz : gl P E = some zs) (h0 : 0 < zs.length)
   (hlen : 0 < len) (hsm : len * zs.length ≤ 16777216) (hxs : l.map (·.2) = xs) (c : Bool) (hc : guardOf ops env ⟨some t, .buildSlice T len l.toArray, ty, pos, af, gd⟩ = some c) (hx : c = true → evs env xs = some vs) (hb : bld (fun i => some (i * zs.length, zs.length)) (lB len zs) ((l.map (·.1)).zip vs) = some cs) (hr : RCs ps zs.length cs rows) (hrl : rows.length = len) (ht : fits n.size (some t) = true)
   (h : ∀ ad, aL P n ops Q rest ⟨(t, c, .slice ad len len) :: env, cnd c (Sh (.slice ad len len) (.sl rows)) :: ps, hp⟩) : aL P n ops Q (⟨some t, .buildSlice T len l.toArray, ty, pos, af, gd⟩ :: rest) ⟨env, ps, hp⟩ := by
 cases c with
 | true =>
   refine an (q := true) hc (cB hel hz h0 hlen hsm hxs (hx rfl) hb hr hrl ht fun ad => ?_)
   refine zU hp.length (by rw [List.getElem?_append_right (Nat.le_refl _), Nat.sub_self]; rfl) ?_
   rw [List.set_append_right _ _ (Nat.le_refl _), Nat.sub_self]
   refine zG (zC (fun p hp => ?_) (h ad))
   rcases List.mem_cons.1 hp with rfl | hp
   · exact fun w S hq _ => hq _ List.mem_cons_self
   · exact .of (List.mem_cons_of_mem _ hp)
 | false =>
   refine pc (v := .slice none len len) false hc ht (fun h => by cases h) (zC (fun p hp => ?_) (h none))
   rcases List.mem_cons.1 hp with rfl | hp
   · exact fun w S hq h => by cases h
   · exact .of hp
end
end Go.Sy

namespace Go.Sy
open Go.RowKit Go.Lp
theorem abT {a b : ByteArray} (h : a.toList = b.toList) : a = b := by
 have key : ∀ (x : ByteArray), x.toList = x.data.toList := fun x => by
   have loop : ∀ (n i : Nat) (acc : List UInt8), x.size - i = n → ByteArray.toList.loop x i acc = acc.reverse ++ x.data.toList.drop i := by
     intro n
     induction n with
     | zero =>
       intro i acc h
       unfold ByteArray.toList.loop
       have hle : x.data.size ≤ i := by have : x.size = x.data.size := rfl; omega
       rw [if_neg (by omega), List.drop_eq_nil_of_le (by simpa using hle), List.append_nil]
     | succ n ih =>
       intro i acc h
       unfold ByteArray.toList.loop
       have hlt : i < x.size := by omega
       have hlt' : i < x.data.toList.length := by simpa using hlt
       rw [if_pos hlt, ih (i + 1) _ (by omega), List.drop_eq_getElem_cons hlt']
       have : x.get! i = x.data.toList[i] := by
         show x.data[i]! = _
         rw [getElem!_pos x.data i (by simpa using hlt)]; simp
       rw [this]; simp
   unfold ByteArray.toList
   rw [loop _ 0 [] rfl]; simp
 rw [key, key] at h
 cases a; cases b
 simp only [ByteArray.mk.injEq]
 exact Array.toList_inj.1 h
theorem vO (a b : ByteArray) : (a.toList == b.toList) = decide (a = b) := by
 rw [Bool.eq_iff_iff, beq_iff_eq, decide_eq_true_eq]
 exact ⟨abT, fun h => h ▸ rfl⟩
section
variable {P : Program} {n : Fr} {d : Option Tmp} {ty : TypeId} {pos : String} {af : Array Edge} {gd : Option (Nat × Bool)} {s : Sta} {x y : Operand} {t t' : TypeId} {a b : ByteArray}
theorem eE (hx : ev s.env x = some (true, .string a)) (hy : ev s.env y = some (true, .string b)) : Quiet P n ⟨d, .binOp .eql t x y t', ty, pos, af, gd⟩ s (.bool (decide (a = b))) := vO a b ▸ uA hx hy
theorem rf (hx : ev s.env x = some (true, .string a)) (hy : ev s.env y = some (true, .string b)) : Quiet P n ⟨d, .binOp .neq t x y t', ty, pos, af, gd⟩ s (.bool (!decide (a = b))) := vO a b ▸ yX hx hy
theorem zF (hx : ev s.env x = some (true, .string a)) (hy : ev s.env y = some (true, .string b)) : Quiet P n ⟨d, .binOp .lss t x y t', ty, pos, af, gd⟩ s (.bool (decide (a.toList < b.toList))) :=
 .run2 hx hy fun ρ w h1 h2 => by
   unfold execOp; dsimp only; rw [h1, h2]
   simp only [eqGuard_at_string, Sem.run_bind, Sem.run_pure, binOp_string_lss, Result.andThen_ok, Go.Proofs.bytesLess_eq]
theorem aby (hx : ev s.env x = some (true, .string a)) (hy : ev s.env y = some (true, .string b)) : Quiet P n ⟨d, .binOp .geq t x y t', ty, pos, af, gd⟩ s (.bool (!decide (a.toList < b.toList))) :=
 .run2 hx hy fun ρ w h1 h2 => by
   unfold execOp; dsimp only; rw [h1, h2]
   simp only [eqGuard_at_string, Sem.run_bind, Sem.run_pure, binOp_string_geq, Result.andThen_ok, Go.Proofs.bytesLess_eq]
theorem abF (hx : ev s.env x = some (true, .string a)) (hy : ev s.env y = some (true, .string b)) : Quiet P n ⟨d, .binOp .gtr t x y t', ty, pos, af, gd⟩ s (.bool (!(decide (a.toList < b.toList) || decide (a = b)))) :=
 .run2 hx hy fun ρ w h1 h2 => by
   unfold execOp; dsimp only; rw [h1, h2]
   simp only [eqGuard_at_string, Sem.run_bind, Sem.run_pure, binOp_string_gtr, Result.andThen_ok, Go.Proofs.bytesLess_eq, vO]
end
end Go.Sy

namespace Go.Sy
open Go.RowKit Go.Lp Go.MapKept
open Go.ChangeMaps (setBlock)
section
variable {α β : Type} {κ : α → Value} {ν : β → Value} {m : α → Option β} {P : Program} {kt : TypeId}
def ItR (b r : Nat) (κ : α → Value) (ν : β → Value) (m : α → Option β) (N : Nat) (seen : List α) : Res :=
 ⟨fun w _ F => (b ≠ r ∧ ∃ (es : Array MapEntry) (clock : Nat) (sb : Array Nat) (L : List MapEntry), w.heap[b]? = some (.map es clock) ∧ mI κ ν m es.toList ∧ Stamped es clock ∧ es.size = N ∧ w.heap[r]? = some (.mapIter (some b) clock sb clock) ∧
     (∀ e ∈ L, e ∈ es.toList) ∧ L.map (·.key) = seen.map κ ∧ sb.toList = (L.map (·.born)).reverse ∧ L.Nodup) ∧ ∀ k, F k ↔ k = b ∨ k = r,
  fun ⟨⟨hne, es, clock, sb, L, h, he, hs, hN, hr, h1, h2, h3, h4⟩, hF⟩ k1 _ _ => ⟨⟨hne, es, clock, sb, L, (k1 b ((hF b).2 (.inl rfl))).trans h, he, hs, hN, (k1 r ((hF r).2 (.inr rfl))).trans hr, h1, h2, h3, h4⟩, hF⟩⟩
variable {n : Fr} {env : Env} {ps : List Per} {hp : List Res} {ty : TypeId} {pos : String} {af : Array Edge} {gd : Option (Nat × Bool)} {K : Sta → Prop} {d : Option Tmp}
theorem aaF {t : Nat} {T E : TypeId} {x : Operand} {b : Nat} (i : Nat) (hT : P.underlying T = some (.map kt E)) (hx : ev env x = some (true, .map (some b))) (hi : hp[i]? = some (dg b κ ν m)) (ht : fits n (some t) = true)
   (hK : ∀ r N, K ⟨(t, true, .pointer (some ⟨r, 0, none⟩)) :: env, ps, hp.set i (ItR b r κ ν m N [])⟩) :
   Eff P n ⟨some t, .range T x, ty, pos, af, gd⟩ ⟨env, ps, hp⟩ false K := fun w S fp a hst he hn => by
 have hil := (List.getElem?_eq_some_iff.1 hi).1
 have h1 := he.val hx rfl
 obtain ⟨⟨es, clock, hb, hes, hsm⟩, hF⟩ := hst.res i _ hi
 have hbl := (Array.getElem?_eq_some_iff.1 hb).1
 have : (execOp a.eval ⟨some t, .range T x, ty, pos, af, gd⟩).run P w = .ok (.value (.pointer (some ⟨w.heap.size, 0, none⟩))) (w.alloc (.mapIter (some b) clock #[] clock)) := by
   unfold execOp; dsimp only; rw [h1]
   show ((Instr.range T (.map (some b))).bind fun r => Sem.pure (Next.value r)).run P w = _
   rw [Sem.run_bind', run_range_map w T kt E b es clock hT hb]; rfl
 rw [this]
 have hbel : Below w.heap.size w (w.alloc (.mapIter (some b) clock #[] clock)) := eW _ _
 refine ⟨_, S, _, hK w.heap.size es.size, hst.change2 hil hbel.size (fun b' hb' _ => hbel.block b' hb') (ItR b w.heap.size κ ν m es.size []) (fun k => k = b ∨ k = w.heap.size)
     ⟨⟨by omega, es, clock, #[], [], by rw [hbel.block b hbl]; exact hb, hes, hsm, rfl, iW _ _, by simp, rfl, rfl, List.nodup_nil⟩, fun _ => Iff.rfl⟩ (fun b' hb' => ?_),
   he.put (g := true) (by rw [hn]; simpa [fits] using ht) _, Evo.of_below _ _ hbel, fun b' hb' => ?_, fun h => by cases h⟩
 · rcases hb' with rfl | rfl
   · exact ⟨.inl ((hF b').2 rfl), by rw [World.size_alloc]; omega⟩
   · exact ⟨.inr (Nat.le_refl _), by rw [World.size_alloc]; omega⟩
 · obtain ⟨j, hj, hb'⟩ := hb'
   have hj' : j < hp.length := by simpa using hj
   by_cases hji : j = i
   · subst hji
     simp only [if_pos] at hb'
     rcases hb' with rfl | rfl
     · exact .inl ⟨j, hj', (hF b').2 rfl⟩
     · exact .inr (Nat.le_refl _)
   · simp only [if_neg hji] at hb'; exact .inl ⟨j, hj', hb'⟩
theorem qR {l : List MapEntry} (h : l.Pairwise fun e e' => e.key ≠ e'.key) {x y : MapEntry} (hx : x ∈ l) (hy : y ∈ l) (he : x.key = y.key) : x = y := entry_eq_of_key h hx hy he
theorem qF {γ : Type} : ∀ {l m : List γ}, l.Nodup → (∀ x ∈ l, x ∈ m) → l.length ≤ m.length
 | [], _, _, _ => Nat.zero_le _
 | a :: l, m, h, hs => by
   classical
   have ha := hs a List.mem_cons_self
   rw [List.nodup_cons] at h
   have h2 : ∀ x ∈ l, x ∈ m.erase a := fun x hx => (List.mem_erase_of_ne (fun (e : x = a) => h.1 (by rw [← e]; exact hx))).2 (hs x (List.mem_cons_of_mem _ hx))
   have := qF h.2 h2
   rw [List.length_erase_of_mem ha] at this
   have hp := List.length_pos_of_mem ha
   simp only [List.length_cons]; omega
theorem abO {t : Nat} {x : Operand} {b r N : Nat} {seen : List α} (i : Nat) (KO : ft P kt κ) (hx : ev env x = some (true, .pointer (some ⟨r, 0, none⟩))) (hi : hp[i]? = some (ItR b r κ ν m N seen)) (ht : fits n (some t) = true)
   (h0 : (∀ a v, m a = some v → a ∈ seen) → K ⟨(t, true, .tuple #[.bool false]) :: env, ps, hp⟩)
   (h1 : ∀ a v, m a = some v → a ∉ seen → seen.length < N → K ⟨(t, true, .tuple #[.bool true, κ a, ν v]) :: env, ps, hp.set i (ItR b r κ ν m N (a :: seen))⟩) :
   Eff P n ⟨some t, .next x false, ty, pos, af, gd⟩ ⟨env, ps, hp⟩ false K := fun w S fp a hst he hn => by
 have hil := (List.getElem?_eq_some_iff.1 hi).1
 have hxv := he.val hx rfl
 obtain ⟨⟨hne, es, clock, sb, L, hb, hes, hsm, hN, hr, hL, hk, hsb, hnd⟩, hF⟩ := hst.res i _ hi
 have hst2 := (stamped_iff es clock).1 hsm
 have hbl := (Array.getElem?_eq_some_iff.1 hb).1
 have hrl := (Array.getElem?_eq_some_iff.1 hr).1
 have hsee : ∀ e ∈ es.toList, sb.contains e.born = true ↔ e ∈ L := fun e hee => by
   rw [Array.contains_iff_mem, ← Array.mem_toList_iff, hsb, List.mem_reverse, List.mem_map]
   constructor
   · rintro ⟨e', h1, h2⟩
     rw [← born_inj hst2.2.1 (hL e' h1) hee h2]; exact h1
   · exact fun h => ⟨e, h, rfl⟩
 have hex : (execOp a.eval ⟨some t, .next x false, ty, pos, af, gd⟩) = (Instr.next (.pointer (some ⟨r, 0, none⟩)) false ty).bind fun r => Sem.pure (Next.value r) := by
   unfold execOp; dsimp only; rw [hxv]; rfl
 rw [hex, Sem.run_bind']
 rcases run_next_at (P := P) w ty r b clock clock sb es clock hr hb hst2.1 (Nat.le_refl _) with ⟨hz, hrun⟩ | ⟨e, hee, w1, hal, hrun⟩
 · rw [hrun]
   refine ⟨_, S, fp, h0 (fun k v hkv => ?_), hst, he.put (g := true) (by rw [hn]; simpa [fits] using ht) _, Evo.refl _ _ _, fun _ h => .inl h, fun h => by cases h⟩
   obtain ⟨e, hem, e1, _⟩ := hes.mem k v hkv
   have hin := (hsee e hem).1 (all_seen es sb hz e hem)
   have : κ k ∈ seen.map κ := by rw [← hk, ← e1]; exact List.mem_map_of_mem hin
   obtain ⟨k', h1, h2⟩ := List.mem_map.1 this
   rw [← KO.inj _ _ h2]; exact h1
 · rw [hrun]
   obtain ⟨hem, hns⟩ := mem_left hee
   obtain ⟨k, v, e1, e2, e3⟩ := hes.of e hem
   have hnL : e ∉ L := fun h => by rw [(hsee e hem).2 h] at hns; cases hns
   have hks : k ∉ seen := fun h => by
     have : κ k ∈ L.map (·.key) := by rw [hk]; exact List.mem_map_of_mem h
     obtain ⟨e', h1, h2⟩ := List.mem_map.1 this
     exact hnL (by rw [← qR hes.apart (hL e' h1) hem (h2.trans e1.symm)]; exact h1)
   have hlen : (e :: L).length ≤ es.toList.length := qF (List.nodup_cons.2 ⟨hnL, hnd⟩) fun x hx => by
     rcases List.mem_cons.1 hx with rfl | hx
     · exact hem
     · exact hL x hx
   have hsl : L.length = seen.length := by simpa using congrArg List.length hk
   have hr1 : w1.heap = w.heap := by rcases hal with rfl | rfl <;> rfl
   have hw : w1.os = w.os ∧ w1.tape = w.tape ∧ w1.output = w.output := by rcases hal with rfl | rfl <;> exact ⟨rfl, rfl, rfl⟩
   have hset := heap_set (o' := .mapIter (some b) clock (sb.push e.born) clock) (w := w1) (hr1 ▸ hr)
   have hsz : (setBlock w1 r (.mapIter (some b) clock (sb.push e.born) clock)).heap.size = w.heap.size := by simp [setBlock, hr1]
   have hold : ∀ b', b' ≠ r → (setBlock w1 r (.mapIter (some b) clock (sb.push e.born) clock)).heap[b']? = w.heap[b']? := fun b' hb' => (hset.2 b' hb').trans (by rw [hr1])
   show ∃ _, _
   rw [e1, e2]
   refine ⟨_, S, fp, h1 k v e3 hks (by simp at hlen; omega), ?_, he.put (g := true) (by rw [hn]; simpa [fits] using ht) _, ⟨hw.1, hw.2.1, hw.2.2, Nat.le_of_eq hsz.symm, pS _ _ _ _ hrun, fun b' _ hb' => hold b' fun hh => hb' ⟨i, hil, by rw [hh]; exact (hF r).2 (.inr rfl)⟩, fun _ h => h, fun _ h => .inl h⟩, fun b' hb' => ?_, fun h => by cases h⟩
   · refine hst.change hil (Nat.le_of_eq hsz.symm) (fun b' _ hb' => hold b' fun hh => hb' (by rw [hh]; exact (hF r).2 (.inr rfl))) _ ⟨⟨hne, es, clock, sb.push e.born, e :: L, by rw [hold b hne]; exact hb, hes, hsm, hN, hset.1, fun x hx => ?_, by simp [hk, e1], by simp [hsb], List.nodup_cons.2 ⟨hnL, hnd⟩⟩, hF⟩
     rcases List.mem_cons.1 hx with rfl | hx
     · exact hem
     · exact hL x hx
   · obtain ⟨j, hj, hb'⟩ := hb'
     exact .inl ⟨j, by simpa using hj, hb'⟩
theorem aa7 {x : Operand} {b r N : Nat} {seen : List α} {k : α} {v : β} (i : Nat) (KO : ft P kt κ) (hx : ev env x = some (true, .pointer (some ⟨r, 0, none⟩))) (hi : hp[i]? = some (ItR b r κ ν m N (k :: seen))) (hv : m k = some v) :
   Quiet P n ⟨d, .entry x, ty, pos, af, gd⟩ ⟨env, ps, hp⟩ (.tuple #[κ k, ν v]) := fun w S fp a hst he hn => by
 have hxv := he.val hx rfl
 obtain ⟨⟨hne, es, clock, sb, L, hb, hes, hsm, hN, hr, hL, hk, hsb, hnd⟩, hF⟩ := hst.res i _ hi
 have hst2 := (stamped_iff es clock).1 hsm
 cases L with
 | nil => simp at hk
 | cons e L =>
   simp only [List.map_cons, List.cons.injEq] at hk
   have hem := hL e List.mem_cons_self
   obtain ⟨k', v', e1, e2, e3⟩ := hes.of e hem
   obtain rfl : k' = k := KO.inj _ _ (e1.symm.trans hk.1)
   obtain rfl : v' = v := by rw [hv] at e3; exact (Option.some.inj e3).symm
   have hsb' : sb = ((L.map (·.born)).reverse.toArray).push e.born := by
     apply Array.ext'
     rw [hsb]; simp
   subst hsb'
   have hrun := run_entry_at (P := P) w r b clock _ es clock e hr hb hem hst2.2.1
   have hex : (execOp a.eval ⟨d, .entry x, ty, pos, af, gd⟩) = (Instr.entry (.pointer (some ⟨r, 0, none⟩))).bind fun r => Sem.pure (Next.value r) := by
     unfold execOp; dsimp only; rw [hxv]; rfl
   rw [hex, Sem.run_bind', hrun, e1, e2]; exact ck _ _
theorem abC {b r N : Nat} {seen : List α} {w : World} {S F : bz} (h : (ItR b r κ ν m N seen).holds w S F) : (eZ (dg b κ ν m) ⟨fun _ _ F => ∀ k, F k ↔ k = r, fun h _ _ _ => h⟩).holds w S F := by
 obtain ⟨⟨hne, es, clock, sb, L, hb, hes, hsm, _⟩, hF⟩ := h
 exact ⟨fun k => k = b, fun k => k = r, ⟨⟨es, clock, hb, hes, hsm⟩, fun _ => Iff.rfl⟩, fun _ => Iff.rfl, fun k h1 h2 => hne (h1.symm.trans h2), hF⟩
variable {c : Code} {Q : Exit → Sta → Prop}
theorem xh {b r N : Nat} {seen : List α} (i : Nat) (hi : hp[i]? = some (ItR b r κ ν m N seen)) (h : ∀ J, awp P n c Q ⟨env, ps, hp.set i (dg b κ ν m) ++ [J]⟩) : awp P n c Q ⟨env, ps, hp⟩ := by
 have hil := (List.getElem?_eq_some_iff.1 hi).1
 refine fe i _ hi (fun w S F hh => abC hh) (jS i (by rw [List.getElem?_set_self hil]) ?_)
 rw [List.set_set]
 exact h _
end
end Go.Sy

namespace Go.Sy
open Go.RowKit Go.Lp
section
variable {α β : Type}
def cK (m : α → Option (Sl β)) (k : α) : Sl β := (m k).getD ⟨none, 0, []⟩
def ny [DecidableEq α] (m : α → Option β) (k : α) : α → Option β := fun a => if a = k then none else m a
theorem jG [DecidableEq α] (m : α → Option β) (k : α) (v : β) : cO (ny m k) k v = cO m k v := by
 funext a; unfold cO ny; by_cases h : a = k <;> simp [h]
theorem iO [DecidableEq α] (m : α → Option β) (k : α) : ny m k k = none := by simp [ny]
def eM (T : TypeId) (sz : Nat) (row : β → List D) (m : α → Option (Sl β)) : Res :=
 ⟨fun w S F => ∃ fp : α → bz, (∀ k s, m k = some s → (bg s.val T sz (s.l.map row)).holds w S (fp k)) ∧ (∀ k, m k = none → ∀ b, ¬ fp k b) ∧ (∀ k k', k ≠ k' → ∀ b, fp k b → ¬ fp k' b) ∧ ∀ b, F b ↔ ∃ k, fp k b,
  fun ⟨fp, h1, h2, h3, h4⟩ k1 k2 k3 => ⟨fp, fun k s hk => (bg s.val T sz (s.l.map row)).mono (h1 k s hk) (fun b hb => k1 b ((h4 b).2 ⟨k, hb⟩)) k2 k3, h2, h3, h4⟩⟩
variable {T : TypeId} {sz : Nat} {row : β → List D} {m : α → Option (Sl β)} {w : World} {S F : bz}
theorem yJ : (eM T sz row fun _ : α => none).holds w S fun _ => False := ⟨fun _ _ => False, ⟨fun _ _ h => (by cases h), fun _ _ _ h => h, fun _ _ _ _ h => h.elim, fun _ => ⟨False.elim, fun ⟨_, h⟩ => h⟩⟩⟩
theorem xA [DecidableEq α] (k : α) (h : (eM T sz row m).holds w S F) : (eZ (eM T sz row (ny m k)) (bg (cK m k).val T sz ((cK m k).l.map row))).holds w S F := by
 obtain ⟨fp, h1, h2, h3, h4⟩ := h
 refine ⟨fun b => ∃ k', k' ≠ k ∧ fp k' b, fp k, ⟨fun k' => if k' = k then fun _ => False else fp k', fun k' s hs => ?_, fun k' hk' b hb => ?_, fun k1 k2 hne b hb1 hb2 => ?_, fun b => ?_⟩, ?_, fun b ⟨k', hne, hb⟩ hb2 => h3 k' k hne b hb hb2, fun b => ?_⟩
 · unfold ny at hs
   by_cases hk : k' = k
   · simp only [if_pos hk] at hs; cases hs
   · simp only [if_neg hk] at hs ⊢; exact h1 k' s hs
 · unfold ny at hk'
   try dsimp only at hb
   by_cases hk : k' = k
   · simp only [if_pos hk] at hb
   · simp only [if_neg hk] at hk' hb; exact h2 k' hk' b hb
 · dsimp only at hb1 hb2
   by_cases e1 : k1 = k
   · simp only [if_pos e1] at hb1
   · by_cases e2 : k2 = k
     · simp only [if_pos e2] at hb2
     · simp only [if_neg e1] at hb1; simp only [if_neg e2] at hb2; exact h3 k1 k2 hne b hb1 hb2
 · constructor
   · rintro ⟨k', hne, hb⟩; exact ⟨k', by simp only [if_neg hne]; exact hb⟩
   · rintro ⟨k', hb⟩
     try dsimp only at hb
     by_cases hk : k' = k
     · simp only [if_pos hk] at hb
     · simp only [if_neg hk] at hb; exact ⟨k', hk, hb⟩
 · unfold cK
   cases hk : m k with
   | none => exact .inl ⟨rfl, rfl, h2 k hk⟩
   | some s => exact h1 k s hk
 · rw [h4 b]
   constructor
   · rintro ⟨k', hb⟩
     by_cases hk : k' = k
     · subst hk; exact .inr hb
     · exact .inl ⟨k', hk, hb⟩
   · rintro (⟨k', _, hb⟩ | hb)
     · exact ⟨k', hb⟩
     · exact ⟨k, hb⟩
theorem sq [DecidableEq α] (k : α) (s : Sl β) (hm : m k = none) (h : (eZ (eM T sz row m) (bg s.val T sz (s.l.map row))).holds w S F) : (eM T sz row (cO m k s)).holds w S F := by
 obtain ⟨G, H, ⟨fp, h1, h2, h3, h4⟩, ho, hd, he⟩ := h
 refine ⟨fun k' => if k' = k then H else fp k', fun k' s' hs => ?_, fun k' hk' b hb => ?_, fun k1 k2 hne b hb1 hb2 => ?_, fun b => ?_⟩
 · unfold cO at hs
   by_cases hk : k' = k
   · simp only [if_pos hk] at hs ⊢; obtain rfl := Option.some.inj hs; exact ho
   · simp only [if_neg hk] at hs ⊢; exact h1 k' s' hs
 · unfold cO at hk'
   try dsimp only at hb
   by_cases hk : k' = k
   · simp only [if_pos hk] at hk'; cases hk'
   · simp only [if_neg hk] at hk' hb; exact h2 k' hk' b hb
 · dsimp only at hb1 hb2
   by_cases e1 : k1 = k
   · simp only [if_pos e1] at hb1
     simp only [if_neg (show ¬ k2 = k from fun e => hne (e1.trans e.symm))] at hb2
     exact hd b ((h4 b).2 ⟨k2, hb2⟩) hb1
   · simp only [if_neg e1] at hb1
     by_cases e2 : k2 = k
     · simp only [if_pos e2] at hb2; exact hd b ((h4 b).2 ⟨k1, hb1⟩) hb2
     · simp only [if_neg e2] at hb2; exact h3 k1 k2 hne b hb1 hb2
 · rw [he b]
   constructor
   · rintro (hb | hb)
     · obtain ⟨k', hb⟩ := (h4 b).1 hb
       exact ⟨k', by simp only [if_neg (show ¬ k' = k from fun e => h2 k (hm) b (e ▸ hb))]; exact hb⟩
     · exact ⟨k, by simp only [if_pos rfl]; exact hb⟩
   · rintro ⟨k', hb⟩
     try dsimp only at hb
     by_cases hk : k' = k
     · simp only [if_pos hk] at hb; exact .inr hb
     · simp only [if_neg hk] at hb; exact .inl ((h4 b).2 ⟨k', hb⟩)
def pF (row : β → List D) (m : α → Option (Sl β)) : Per := ⟨fun w S => ∀ k s, m k = some s → (ShF row s).holds w S, fun h h1 h2 k s hk => (ShF row s).mono (h k s hk) h1 h2⟩
theorem Ent.cK {ps : List Per} (h : Ent ps (pF row m)) (k : α) : Ent ps (ShF row (cK m k)) := fun w S hp => by
 unfold Go.Sy.cK
 cases hk : m k with
 | none => exact .e none 0 (by unfold maxLen; omega)
 | some s => exact h w S hp k s hk
theorem tu (h : (eM T sz row m).holds w S F) : (pF row m).holds w fun b => S b ∨ F b := fun k s hk => by
 obtain ⟨fp, h1, _, _, h4⟩ := h
 exact (eO (h1 k s hk)).mono (fun _ _ => rfl) fun b hb => hb.imp id fun h => (h4 b).2 ⟨k, h⟩
variable {P : Program} {n : Fr} {env : Env} {ps : List Per} {hp : List Res} {c : Code} {Q : Exit → Sta → Prop}
theorem jy (α : Type) (T : TypeId) (sz : Nat) (row : β → List D) (h : awp P n c Q ⟨env, ps, hp ++ [eM T sz row fun _ : α => none]⟩) : awp P n c Q ⟨env, ps, hp⟩ := zW _ (fun _ _ => yJ) h
theorem gG [DecidableEq α] (i : Nat) (k : α) (hi : hp[i]? = some (eM T sz row m)) (h : awp P n c Q ⟨env, ps, hp.set i (eM T sz row (ny m k)) ++ [bg (cK m k).val T sz ((cK m k).l.map row)]⟩) : awp P n c Q ⟨env, ps, hp⟩ := by
 have hil := (List.getElem?_eq_some_iff.1 hi).1
 refine fe i _ hi (fun w S F hh => xA k hh) (jS i (by rw [List.getElem?_set_self hil]) ?_)
 rw [List.set_set]
 exact h
theorem ru [DecidableEq α] (i j : Nat) (k : α) (s : Sl β) {v : Value} {rows : List (List D)} (hi : hp[i]? = some (eM T sz row m)) (hj : hp[j]? = some (bg v T sz rows)) (hv : v = s.val) (hr : rows = s.l.map row) (hm : m k = none) (hne : (i == j) = false)
   (h : awp P n c Q ⟨env, ps, (hp.set i (eM T sz row (cO m k s))).set j emp⟩) : awp P n c Q ⟨env, ps, hp⟩ := by
 subst hv hr
 have hil := (List.getElem?_eq_some_iff.1 hi).1
 have hne' : i ≠ j := by simpa using hne
 refine kV i j hi hj hne ?_
 refine fe i (eM T sz row (cO m k s)) (R := eZ (eM T sz row m) (bg s.val T sz (s.l.map row))) ?_ (fun w S F hh => sq k s hm hh) ?_
 · rw [List.getElem?_set_ne (Ne.symm hne'), List.getElem?_set_self hil]
 · rw [List.set_comm _ _ (Ne.symm hne'), List.set_set]
   exact h
theorem pw (i : Nat) (hi : hp[i]? = some (eM T sz row m)) (h : awp P n c Q ⟨env, pF row m :: ps, hp.set i emp⟩) : awp P n c Q ⟨env, ps, hp⟩ := eC i _ hi (fun _ _ _ hh => tu hh) h
end
end Go.Sy

namespace Go.Sy
open Go.RowKit Go.Lp Go.MapKept
section
variable {α β : Type} {κ : α → Value} {ν : β → Value} {m : α → Option β} {P : Program} {kt : TypeId} {n : Fr} {env : Env} {ps : List Per} {hp : List Res} {ty : TypeId} {pos : String} {af : Array Edge} {gd : Option (Nat × Bool)} {d : Option Tmp}
def ShM (b : Nat) (κ : α → Value) (ν : β → Value) (m : α → Option β) : Per :=
 ⟨fun w S => S b ∧ ∃ es clock, w.heap[b]? = some (.map es clock) ∧ mI κ ν m es.toList, fun ⟨hb, es, clock, h, he⟩ h1 h2 => ⟨h2 b hb, es, clock, (h1 b hb).trans h, he⟩⟩
theorem wJ {b : Nat} {w : World} {S F : bz} (h : (dg b κ ν m).holds w S F) : (ShM b κ ν m).holds w fun b => S b ∨ F b :=
 let ⟨⟨es, clock, h1, h2, _⟩, hF⟩ := h; ⟨.inr ((hF b).2 rfl), es, clock, h1, h2⟩
theorem gS {c : Code} {Q : Exit → Sta → Prop} {b : Nat} (i : Nat) (hi : hp[i]? = some (dg b κ ν m)) (h : awp P n c Q ⟨env, ShM b κ ν m :: ps, hp.set i emp⟩) : awp P n c Q ⟨env, ps, hp⟩ := eC i _ hi (fun _ _ _ hh => wJ hh) h
theorem pP {T E : TypeId} {x y : Operand} {b : Nat} {k : α} {v0 : β} (ok : Bool) (hT : P.underlying T = some (.map kt E)) (KO : ft P kt κ) (hz : (P.info? E).bind (·.zero) = some (ν v0)) (hx : ev env x = some (true, .map (some b))) (hy : ev env y = some (true, κ k)) (hi : Ent ps (ShM b κ ν m)) :
   Quiet P n ⟨d, .lookup T x y ok, ty, pos, af, gd⟩ ⟨env, ps, hp⟩ (bif ok then .tuple #[ν ((m k).getD v0), .bool (m k).isSome] else ν ((m k).getD v0)) := fun w S fp a hst he hn => by
 have h1 := he.val hx rfl
 have h2 := he.val hy rfl
 obtain ⟨hS, es, clock, hb, hes⟩ := hi w S hst.per
 have hzr : (zeroValue E).run P w = .ok (ν v0) w := by
   cases hE : P.info? E with
   | none => rw [hE] at hz; cases hz
   | some it =>
     rw [hE, Option.bind_some] at hz
     simp [zeroValue, typeInfo, hE, hz]
 have hrun : (Instr.lookup T (.map (some b)) (κ k) ok).run P w = .ok (bif ok then .tuple #[ν ((m k).getD v0), .bool (m k).isSome] else ν ((m k).getD v0)) w := by
   rcases KO.find w k es.toList (fun e he => let ⟨a, _, h, _⟩ := hes.of e he; ⟨a, h⟩) with ⟨f1, f2⟩ | ⟨j, e0, f1, f2, f3⟩
   · have hm : m k = none := by
       cases hmk : m k with
       | none => rfl
       | some u => obtain ⟨e, he, g1, _⟩ := hes.mem k u hmk; exact (f2 e he g1).elim
     rw [hm]
     simp only [Instr.lookup, Sem.run_bind, run_underlying hT, Result.andThen, Go.MapKept.run_getObj_map hb, KO.check, f1, hzr, Sem.run_pure]
     cases ok <;> rfl
   · obtain ⟨a, u, g1, g2, g3⟩ := hes.of e0 (List.mem_of_getElem? f2)
     obtain rfl : a = k := KO.inj _ _ (by rw [← g1, f3])
     rw [g3]
     simp only [Instr.lookup, Sem.run_bind, run_underlying hT, Result.andThen, Go.MapKept.run_getObj_map hb, KO.check, f1, Sem.run_pure, g2]
     cases ok <;> rfl
 have : (execOp a.eval ⟨d, .lookup T x y ok, ty, pos, af, gd⟩).run P w = .ok (.value (bif ok then .tuple #[ν ((m k).getD v0), .bool (m k).isSome] else ν ((m k).getD v0))) w := by
   unfold execOp; dsimp only; rw [h1, h2]
   show ((Instr.lookup T (.map (some b)) (κ k) ok).bind fun r => Sem.pure (Next.value r)).run P w = _
   rw [Sem.run_bind', hrun]; rfl
 rw [this]; exact ck _ _
theorem rS {T E : TypeId} {x y : Operand} {b : Nat} {k : α} {v0 : β} (hT : P.underlying T = some (.map kt E)) (KO : ft P kt κ) (hz : (P.info? E).bind (·.zero) = some (ν v0)) (hx : ev env x = some (true, .map (some b))) (hy : ev env y = some (true, κ k)) (hi : Ent ps (ShM b κ ν m)) :
   Quiet P n ⟨d, .lookup T x y false, ty, pos, af, gd⟩ ⟨env, ps, hp⟩ (ν ((m k).getD v0)) := pP false hT KO hz hx hy hi
theorem mc {T E : TypeId} {x y : Operand} {b : Nat} {k : α} {v0 : β} (hT : P.underlying T = some (.map kt E)) (KO : ft P kt κ) (hz : (P.info? E).bind (·.zero) = some (ν v0)) (hx : ev env x = some (true, .map (some b))) (hy : ev env y = some (true, κ k)) (hi : Ent ps (ShM b κ ν m)) :
   Quiet P n ⟨d, .lookup T x y true, ty, pos, af, gd⟩ ⟨env, ps, hp⟩ (.tuple #[ν ((m k).getD v0), .bool (m k).isSome]) := pP true hT KO hz hx hy hi
def ExR {X : Type} (I : X → Prop) (R : X → Res) : Res := ⟨fun w S F => ∃ x, I x ∧ (R x).holds w S F, fun ⟨x, h, hr⟩ h1 h2 h3 => ⟨x, h, (R x).mono hr h1 h2 h3⟩⟩
end
end Go.Sy

namespace Go.Sy
open Go.RowKit Go.Lp Go.MapKept
section
variable {α β : Type} {κ : α → Value} {ν : β → Value} {m : α → Option β} {P : Program} {kt : TypeId} {n : Fr} {env : Env} {ps : List Per} {hp : List Res} {ty : TypeId} {pos : String} {af : Array Edge} {gd : Option (Nat × Bool)} {K : Sta → Prop} {d : Option Tmp}
def abr (b : Nat) (κ : α → Value) (ν : β → Value) (m : α → Option β) (k : α) (z : Int) : Res :=
 ⟨fun w _ F => (∃ es clock, w.heap[b]? = some (.map es clock) ∧ mI κ ν m es.toList ∧ Stamped es clock ∧ ∃ e ∈ es.toList, e.key = κ k ∧ (e.born : Int) = z) ∧ ∀ k, F k ↔ k = b, fun ⟨⟨es, clock, h, he⟩, hF⟩ h1 _ _ => ⟨⟨es, clock, (h1 b ((hF b).2 rfl)).trans h, he⟩, hF⟩⟩
theorem kP {es : Array MapEntry} {j : Nat} {e0 : MapEntry} {f g : MapEntry → MapEntry} (hj : es.toList[j]? = some e0) (h : f e0 = g e0) : es.modify j f = es.modify j g := by
 apply Array.ext'
 apply List.ext_getElem?
 intro i
 rw [Array.getElem?_toList, Array.getElem?_toList, Array.getElem?_modify, Array.getElem?_modify]
 by_cases hij : j = i
 · subst hij
   rw [if_pos rfl, if_pos rfl, ← Array.getElem?_toList, hj, Option.map_some, Option.map_some, h]
 · rw [if_neg hij, if_neg hij]
theorem Quiet.castV {s : Sta} {o : Oper} {v v' : Value} (h : Quiet P n o s v) (e : v = v') : Quiet P n o s v' := e ▸ h
theorem j4 [DecidableEq α] (m : α → Option β) (k : α) (v w : β) : cO (cO m k v) k w = cO m k w := by
 funext a; unfold cO; by_cases h : a = k <;> simp [h]
theorem wg [DecidableEq α] (m : α → Option β) (k : α) (v : β) : cO m k v k = some v := by unfold cO; simp
theorem wP [DecidableEq α] (m : α → Option β) {k a : α} (v : β) (h : a ≠ k) : cO m k v a = m a := by unfold cO; simp [h]
theorem qG [DecidableEq α] {k : α} {v : β} (h : m k = some v) : cO m k v = m := by
 funext a; unfold cO; split
 · rename_i ha; rw [ha, h]
 · rfl
theorem jh [DecidableEq α] {t : Nat} {T E : TypeId} {x y : Operand} {b : Nat} {k : α} {v0 : β} (i : Nat) (hT : P.underlying T = some (.map kt E)) (KO : ft P kt κ) (hz : (P.info? E).bind (·.zero) = some (ν v0)) (hx : ev env x = some (true, .map (some b))) (hy : ev env y = some (true, κ k)) (hi : hp[i]? = some (dg b κ ν m)) (ht : fits n (some t) = true)
   (hK : ∀ z : Int, K ⟨(t, true, .tuple #[ν ((m k).getD v0), .int .i64 z]) :: env, ps, hp.set i (abr b κ ν (cO m k ((m k).getD v0)) k z)⟩) : Eff P n ⟨some t, .mapEntry T x y, ty, pos, af, gd⟩ ⟨env, ps, hp⟩ false K := .change i hi fun w S fp a hst he hn ⟨⟨es, clock, hb, hes, hsm⟩, hF⟩ => by
 have h1 := he.val hx rfl
 have h2 := he.val hy rfl
 have hzr : (zeroValue E).run P w = .ok (ν v0) w := by
   cases hE : P.info? E with
   | none => rw [hE] at hz; cases hz
   | some it =>
     rw [hE, Option.bind_some] at hz
     simp [zeroValue, typeInfo, hE, hz]
 have key : ∃ es' clock' z, (Instr.mapEntry T (.map (some b)) (κ k)).run P w = .ok (.tuple #[ν ((m k).getD v0), .int .i64 z]) (w.putObj b (.map es' clock')) ∧ mI κ ν (cO m k ((m k).getD v0)) es'.toList ∧ Stamped es' clock' ∧ ∃ e ∈ es'.toList, e.key = κ k ∧ (e.born : Int) = z := by
   rcases KO.find w k es.toList (fun e he => let ⟨a, _, h, _⟩ := hes.of e he; ⟨a, h⟩) with ⟨f1, f2⟩ | ⟨j, e0, f1, f2, f3⟩
   · have hm : m k = none := by
       cases hmk : m k with
       | none => rfl
       | some u => obtain ⟨e, he, g1, _⟩ := hes.mem k u hmk; exact (f2 e he g1).elim
     rw [hm]
     refine ⟨es.push { key := κ k, val := ν v0, born := clock }, clock + 1, clock, ?_, hes.put KO k v0 f2, stamped_push hsm f2, _, by rw [Array.toList_push]; exact List.mem_append_right _ (List.mem_singleton.2 rfl), rfl, rfl⟩
     simp only [Instr.mapEntry, Sem.run_bind, run_underlying hT, Result.andThen, Go.MapKept.run_getObj_map hb, KO.check, f1, hzr, Go.MapKept.run_setObj_map _ hb, Sem.run_pure]
     rfl
   · obtain ⟨a, u, g1, g2, g3⟩ := hes.of e0 (List.mem_of_getElem? f2)
     obtain rfl : a = k := KO.inj _ _ (by rw [← g1, f3])
     have f2' : es[j]? = some e0 := by rw [← Array.getElem?_toList]; exact f2
     rw [g3, Option.getD_some]
     refine ⟨es.modify j fun e => { e with key := κ a }, clock, e0.born, ?_, ?_, stamped_modify hsm j _ (fun _ _ => rfl) (fun e he h => by rw [f2'] at h; obtain rfl := Option.some.inj h; exact f3.symm), { e0 with key := κ a }, ?_, rfl, rfl⟩
     · simp only [Instr.mapEntry, Sem.run_bind, run_underlying hT, Result.andThen, Go.MapKept.run_getObj_map hb, KO.check, f1, f2', Option.map_some, Option.getD_some, f3, KO.stays, Go.MapKept.run_setObj_map _ hb, Sem.run_pure, g2]
       rfl
     · rw [kP (g := fun e => { e with key := κ a, val := ν u }) f2 (by rw [← g2])]
       exact hes.turn KO a u f2 f3
     · apply List.mem_of_getElem? (i := j)
       rw [Array.getElem?_toList, Array.getElem?_modify, if_pos rfl, f2']; rfl
 obtain ⟨es', clock', z, hrun, hes', hsm', hent⟩ := key
 have : (execOp a.eval ⟨some t, .mapEntry T x y, ty, pos, af, gd⟩).run P w = .ok (.value (.tuple #[ν ((m k).getD v0), .int .i64 z])) (w.putObj b (.map es' clock')) := by
   unfold execOp; dsimp only; rw [h1, h2]
   show ((Instr.mapEntry T (.map (some b)) (κ k)).bind fun r => Sem.pure (Next.value r)).run P w = _
   rw [Sem.run_bind', hrun]; rfl
 rw [this]
 have hbl := (Array.getElem?_eq_some_iff.1 hb).1
 exact ⟨abr b κ ν (cO m k ((m k).getD v0)) k z, _, hK z, rfl, rfl, he.put (g := true) (by rw [hn]; simpa [fits] using ht) _, ⟨⟨es', clock', World.putObj_heap_same hbl, hes', hsm', hent⟩, hF⟩, rfl, rfl, ⟨rfl, rfl⟩, by rw [World.putObj_size]; exact Nat.le_refl _, fun b' _ hb' => World.putObj_heap_other (fun e => hb' ((hF b').2 e))⟩
theorem xB {es : Array MapEntry} {clock : Nat} (h : Stamped es clock) {i j : Nat} {e f : MapEntry} (hi : es.toList[i]? = some e) (hj : es.toList[j]? = some f) (hb : e.born = f.born) : i = j := by
 have hn := h.2.1
 obtain ⟨l1, e1⟩ := List.getElem?_eq_some_iff.1 hi
 obtain ⟨l2, e2⟩ := List.getElem?_eq_some_iff.1 hj
 have hp := List.pairwise_iff_getElem.1 hn
 have k1 : i < (es.toList.map (·.born)).length := by simpa using l1
 have k2 : j < (es.toList.map (·.born)).length := by simpa using l2
 have q : (es.toList.map (·.born))[i]'k1 = (es.toList.map (·.born))[j]'k2 := by simp only [List.getElem_map]; rw [e1, e2, hb]
 rcases Nat.lt_trichotomy i j with h | h | h
 · exact (hp i j k1 k2 h q).elim
 · exact h
 · exact (hp j i k2 k1 h q.symm).elim
theorem gO [DecidableEq α] {T : TypeId} {x y v' : Operand} {b : Nat} {k : α} {z : Int} {v : β} (i : Nat) (KO : ft P kt κ) (hx : ev env x = some (true, .map (some b))) (hy : ev env y = some (true, .int .i64 z)) (hv : ev env v' = some (true, ν v)) (hi : hp[i]? = some (abr b κ ν m k z))
   (hK : K ⟨env, ps, hp.set i (dg b κ ν (cO m k v))⟩) : Eff P n ⟨none, .entryStore T x y v', ty, pos, af, gd⟩ ⟨env, ps, hp⟩ false K := .change i hi fun w S fp a hst he hn ⟨⟨es, clock, hb, hes, hsm, e0, hem, hek, heb⟩, hF⟩ => by
 have h1 := he.val hx rfl
 have h2 := he.val hy rfl
 have h3 := he.val hv rfl
 obtain ⟨j, hj⟩ := List.mem_iff_getElem?.1 hem
 have hjl := (List.getElem?_eq_some_iff.1 hj).1
 have hf : es.findIdx? (fun e => (e.born : Int) == z) = some j := by
   rw [Array.findIdx?_eq_some_iff_getElem]
   refine ⟨by simpa using hjl, ?_, fun i' hi' => ?_⟩
   · have : es[j]'(by simpa using hjl) = e0 := by
       have := (List.getElem?_eq_some_iff.1 hj).2
       simpa using this
     rw [this, heb]; simp
   · intro hh
     have hl : i' < es.toList.length := by omega
     have h4 : es.toList[i']? = some (es[i']'(by simpa using hl)) := by simp at hl; simp [hl]
     have := xB hsm h4 hj (by
       have : ((es[i']'(by simpa using hl)).born : Int) = z := by simpa using hh
       omega)
     omega
 have hrun : (Instr.entryStore T (.map (some b)) (.int .i64 z) (ν v)).run P w = .ok () (w.putObj b (.map (es.modify j fun e => { e with val := ν v }) clock)) := by
   have ha : (asInt (.int .i64 z)).run P w = .ok z w := rfl
   simp only [Instr.entryStore, Sem.run_bind, Result.andThen, Go.MapKept.run_getObj_map hb, ha, hf, Go.MapKept.run_setObj_map _ hb]
   rfl
 have : (execOp a.eval ⟨none, .entryStore T x y v', ty, pos, af, gd⟩).run P w = .ok .skip (w.putObj b (.map (es.modify j fun e => { e with val := ν v }) clock)) := by
   unfold execOp; dsimp only; rw [h1, h2, h3]
   show ((Instr.entryStore T (.map (some b)) (.int .i64 z) (ν v)).bind fun _ => Sem.pure Next.skip).run P w = _
   rw [Sem.run_bind', hrun]; rfl
 rw [this]
 have hbl := (Array.getElem?_eq_some_iff.1 hb).1
 refine ⟨dg b κ ν (cO m k v), _, hK, rfl, rfl, he, ⟨⟨_, clock, World.putObj_heap_same hbl, ?_, stamped_modify hsm j _ (fun _ _ => rfl) (fun _ _ _ => rfl)⟩, hF⟩, rfl, rfl, ⟨rfl, rfl⟩, by rw [World.putObj_size]; exact Nat.le_refl _, fun b' _ hb' => World.putObj_heap_other (fun e => hb' ((hF b').2 e))⟩
 rw [kP (g := fun e => { e with key := κ k, val := ν v }) hj (by rw [← hek])]
 exact hes.turn KO k v hj hek
end
end Go.Sy

namespace Go.Sy
open Go.RowKit Go.Lp
section
variable {P : Program} {f : FuncId} {args : List Value} {ps : List Per} {X Y : Type} {I : X → Prop} {I' : Y → Prop} {l : X → List Res} {l' : Y → List Res}
abbrev pv {X : Type} (I : X → Prop) (l : X → List Res) : Res := ExR I fun x => Bun (l x)
theorem pK (h : ∀ x, I x → Con P f args ps (l x) fun _ ps' hp' => ps' = [] ∧ ∃ y, I' y ∧ hp' = l' y) : Con P f args ps [pv I l] fun _ ps' hp' => ps' = [] ∧ hp' = [pv I' l'] := fun w S fp hst => by
 obtain ⟨x, hx, hb⟩ := hst.res 0 _ rfl
 have hst1 : St w S fp ps [Bun (l x)] := ⟨hst.per, fun i R hR => by
   cases i with
   | zero => simp only [List.getElem?_cons_zero, Option.some.injEq] at hR; subst hR; exact hb
   | succ i => simp at hR, hst.lt, hst.dj, hst.slt⟩
 obtain ⟨fp2, k1, k2⟩ := hst1.unbun
 refine (h x hx w S fp2 k1).mono fun e w' ⟨v, ps', hp', S', fp', he, ⟨h1, y, hy, h2⟩, hst', hE, hg⟩ => ?_
 subst h1 h2
 refine ⟨v, [], [pv I' l'], S', _, he, ⟨rfl, rfl⟩, ⟨fun p hp => (by cases hp), fun i R hR => ?_, hst'.bun.lt, hst'.bun.dj, hst'.slt⟩, hE.wider k2, fun b hb => (hg b ((jR _ b (Bun (l' y))).1 hb)).imp (k2 b) id⟩
 cases i with
 | zero => simp only [List.getElem?_cons_zero, Option.some.injEq] at hR; subst hR; exact ⟨y, hy, hst'.bun.res 0 _ rfl⟩
 | succ i => simp at hR
theorem oR (h : Con P f args ps [pv I l] fun _ ps' hp' => ps' = [] ∧ hp' = [pv I' l']) {x : X} (hx : I x) : Con P f args ps (l x) fun _ ps' hp' => ps' = [] ∧ ∃ y, I' y ∧ hp' = l' y := fun w S fp hst => by
 have hst1 : St w S (fun _ => tot fp (l x).length) ps [pv I l] := ⟨hst.per, fun i R hR => by
   cases i with
   | zero => simp only [List.getElem?_cons_zero, Option.some.injEq] at hR; subst hR; exact ⟨x, hx, hst.bun.res 0 _ rfl⟩
   | succ i => simp at hR, hst.bun.lt, hst.bun.dj, hst.slt⟩
 refine (h w S _ hst1).mono fun e w' ⟨v, ps', hp', S', fp', he, ⟨h1, h2⟩, hst', hE, hg⟩ => ?_
 subst h1 h2
 obtain ⟨y, hy, hb⟩ := hst'.res 0 _ rfl
 have hst2 : St w' S' fp' [] [Bun (l' y)] := ⟨hst'.per, fun i R hR => by
   cases i with
   | zero => simp only [List.getElem?_cons_zero, Option.some.injEq] at hR; subst hR; exact hb
   | succ i => simp at hR, hst'.lt, hst'.dj, hst'.slt⟩
 obtain ⟨fp2, k1, k2⟩ := hst2.unbun
 exact ⟨v, [], l' y, S', fp2, he, ⟨rfl, y, hy, rfl⟩, k1, hE.wider (fun b hb => (jR _ b (pv I l)).1 hb), fun b hb => (hg b (k2 b hb)).imp (fun h => (jR _ b (pv I l)).1 h) id⟩
end
end Go.Sy

