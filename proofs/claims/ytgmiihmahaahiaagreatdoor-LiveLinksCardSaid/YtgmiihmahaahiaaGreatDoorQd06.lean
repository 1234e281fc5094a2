/- Parts of the proof, in build order. No condition. -/
import Derived.Test.YtgmiihmahaahiaaGreatDoorQd05
import Derived.Test.YtgmiihmahaahiaaGreatDoorQd03
import Derived.ChangeKeysEq
import Derived.Lib.Bytealg
import Derived.Test.YtgmiihmahaahiaaGreatDoorQd04
import Derived.Laws.CopyRow
import Derived.Lib.BufferWrite
import Derived.Lib.ConvBytes
import Derived.Lib.SliceRun
import Derived.Deep.Upon
set_option linter.unusedSimpArgs false
set_option linter.unusedVariables false
set_option maxHeartbeats 1000000
set_option maxRecDepth 20000
namespace Go.Sy
open Go.RowKit Go.Lp
def StE (ps : List Per) (hp : List Res) (ps' : List Per) (hp' : List Res) : Prop := ∀ w S fp, St w S fp ps hp → ∃ S' fp', St w S' fp' ps' hp' ∧ (∀ b, S b → S' b) ∧ (∀ b, S' b → S b ∨ tot fp hp.length b) ∧ ∀ b, tot fp' hp'.length b → tot fp hp.length b
section
variable {ps ps1 ps2 : List Per} {hp hp1 hp2 : List Res}
theorem StE.refl : StE ps hp ps hp := fun _ S _ h => ⟨S, _, h, fun _ h => h, fun _ h => .inl h, fun _ h => h⟩
theorem StE.trans (h : StE ps hp ps1 hp1) (k : StE ps1 hp1 ps2 hp2) : StE ps hp ps2 hp2 := fun w S fp hst => by
 obtain ⟨S1, f1, a1, a2, a3, a4⟩ := h w S fp hst
 obtain ⟨S2, f2, b1, b2, b3, b4⟩ := k w S1 f1 a1
 exact ⟨S2, f2, b1, fun b hb => b2 b (a2 b hb), fun b hb => (b3 b hb).elim (a3 b) fun h => .inr (a4 b h), fun b hb => a4 b (b4 b hb)⟩
theorem StE.of {hp' : List Res} {ps' : List Per} (h : ∀ w S fp, St w S fp ps hp → ∃ fp', St w S fp' ps' hp' ∧ ∀ b, tot fp' hp'.length b → tot fp hp.length b) : StE ps hp ps' hp' := fun w S fp hst => by
 obtain ⟨f1, a1, a2⟩ := h w S fp hst
 exact ⟨S, f1, a1, fun _ h => h, fun _ h => .inl h, a2⟩
theorem StE.keep (lp lh : List Nat) (ok : okH hp lh = true) : StE ps hp (fH ps lp) (bK hp lh) := .of fun _ _ _ hst => by
 obtain ⟨h1, h2⟩ := hst.bK lp lh ok
 exact ⟨_, h1, h2⟩
theorem StE.conv (i : Nat) {R : Res} (R' : Res) (hi : hp[i]? = some R) (hc : ∀ w S F, R.holds w S F → R'.holds w S F) : StE ps hp ps (hp.set i R') := .of fun w S fp hst => by
 have hil := (List.getElem?_eq_some_iff.1 hi).1
 exact ⟨fp, hst.change hil (Nat.le_refl _) (fun _ _ _ => rfl) R' (hc _ _ _ (hst.res i R hi)), fun b hb => by rwa [List.length_set] at hb⟩
theorem StE.star (i j : Nat) {R R' : Res} (hi : hp[i]? = some R) (hj : hp[j]? = some R') (hne : (i == j) = false) : StE ps hp ps ((hp.set i (eZ R R')).set j emp) := .of fun w S fp hst => by
 have hil := (List.getElem?_eq_some_iff.1 hi).1
 have hjl := (List.getElem?_eq_some_iff.1 hj).1
 refine ⟨_, hst.star hi hj (by simpa using hne), fun b ⟨k, hk, hb⟩ => ?_⟩
 have hk' : k < hp.length := by simpa using hk
 by_cases hki : k = i
 · subst hki
   simp only [if_pos] at hb
   rcases hb with hb | hb
   · exact ⟨k, hil, hb⟩
   · exact ⟨j, hjl, hb⟩
 · by_cases hkj : k = j
   · have hji : ¬ j = i := fun e => by simp [e] at hne
     subst hkj
     simp only [if_neg hki, if_true] at hb
   · simp only [if_neg hki, if_neg hkj] at hb
     exact ⟨k, hk', hb⟩
theorem StE.share (i : Nat) {R : Res} (p : Per) (hi : hp[i]? = some R) (h0 : ∀ w S F, R.holds w S F → p.holds w (fun b => S b ∨ F b)) : StE ps hp (p :: ps) (hp.set i emp) := fun w S fp hst => by
 have hil := (List.getElem?_eq_some_iff.1 hi).1
 refine ⟨_, _, pY hst i hi h0, fun _ h => .inl h, fun b hb => hb.imp id fun h => ⟨i, hil, h⟩, fun b ⟨j, hj, hb⟩ => ?_⟩
 by_cases hji : j = i
 · simp [hji] at hb
 · simp only [if_neg hji] at hb; exact ⟨j, by simpa using hj, hb⟩
theorem StE.put {α β : Type} {T : TypeId} {sz : Nat} {row : β → List D} {m : α → Option (Sl β)} [DecidableEq α] (i j : Nat) (k : α) (s : Sl β) {v : Value} {rows : List (List D)} (hi : hp[i]? = some (eM T sz row m)) (hj : hp[j]? = some (bg v T sz rows)) (hv : v = s.val) (hr : rows = s.l.map row) (hm : m k = none) (hne : (i == j) = false) :
   StE ps hp ps ((hp.set i (eM T sz row (cO m k s))).set j emp) := by
 subst hv hr
 have hil := (List.getElem?_eq_some_iff.1 hi).1
 have hne' : i ≠ j := by simpa using hne
 refine (StE.star i j hi hj hne).trans ?_
 have := StE.conv (ps := ps) (hp := (hp.set i (eZ (eM T sz row m) (bg s.val T sz (s.l.map row)))).set j emp) i (R := eZ (eM T sz row m) (bg s.val T sz (s.l.map row))) (eM T sz row (cO m k s)) (by rw [List.getElem?_set_ne (Ne.symm hne'), List.getElem?_set_self hil]) (fun w S F hh => sq k s hm hh)
 rwa [List.set_comm _ _ (Ne.symm hne'), List.set_set] at this
variable {P : Program} {f : FuncId} {args : List Value} {R R' : Value → List Per → List Res → Prop}
theorem Con.conv (h : Con P f args ps hp R) (hr : ∀ v ps' hp', R v ps' hp' → ∃ ps2 hp2, StE ps' hp' ps2 hp2 ∧ R' v ps2 hp2) : Con P f args ps hp R' := fun w S fp hst =>
 (h w S fp hst).mono fun e w' ⟨v, ps', hp', S', fp', he, hR, hst', hE, hg⟩ => by
   obtain ⟨ps2, hp2, hS, hR'⟩ := hr _ _ _ hR
   obtain ⟨S2, f2, a1, a2, a3, a4⟩ := hS w' S' fp' hst'
   refine ⟨v, ps2, hp2, S2, f2, he, hR', a1, ⟨hE.os, hE.tape, hE.output, hE.size, hE.drawn, hE.block, fun b hb => a2 b (hE.more b hb), fun b hb => ?_⟩, fun b hb => hg b (a4 b hb)⟩
   rcases a3 b hb with h1 | h1
   · exact hE.new b h1
   · rcases hg b h1 with h2 | h2
     · exact .inr (.inl h2)
     · exact .inr (.inr h2)
end
end Go.Sy

namespace Go.Sy
open Go.RowKit Go.Lp
section
variable {P : Program}
end
section
variable {P : Program} {n : Fr} {env : Env} {ps : List Per} {hp : List Res} {ty : TypeId} {pos : String} {af : Array Edge} {gd : Option (Nat × Bool)} {d : Option Tmp}
end
end Go.Sy

namespace Go.Sy
open Go.RowKit Go.Lp
theorem StE.ents {ps ps' : List Per} {hp : List Res} (h : ∀ p ∈ ps', Ent ps p) : StE ps hp ps' hp := fun w S fp hst =>
 ⟨S, fp, ⟨fun p hp => h p hp w S hst.per, hst.res, hst.lt, hst.dj, hst.slt⟩, fun _ h => h, fun _ h => .inl h, fun _ h => h⟩
end Go.Sy
namespace Go.Proofs.YtgmiihmahaahiaaGreatDoor
open Go.RowKit Go.Lp Go.Sy
open Go.Proofs.Tryz
attribute [local irreducible] aL aB awp aC fwp
abbrev gJ : Int → List D := fun z => [D.v (eI z)]
theorem rD {ps : List Per} {p q : Per} (h1 : Ent ps p) (h2 : Ent ps q) : ∀ r ∈ [p, q], Ent ps r := fun r hr => by
 simp only [List.mem_cons, List.not_mem_nil, or_false] at hr
 rcases hr with rfl | rfl
 · exact h1
 · exact h2
theorem acA {ps : List Per} {p q t : Per} (h1 : Ent ps p) (h2 : Ent ps q) (h3 : Ent ps t) : ∀ r ∈ [p, q, t], Ent ps r := fun r hr => by
 simp only [List.mem_cons, List.not_mem_nil, or_false] at hr
 rcases hr with rfl | rfl | rfl
 · exact h1
 · exact h2
 · exact h3
theorem aaJ {p : Per} : Ent [p] p := .of (aF 0 rfl)
end Go.Proofs.YtgmiihmahaahiaaGreatDoor

namespace Go.Sy
open Go.RowKit Go.Lp
section
variable {P : Program} {n : Fr} {s : Sta} {d : Option Tmp} {ty : TypeId} {pos : String} {af : Array Edge} {gd : Option (Nat × Bool)} {v : Value}
theorem wD {x : Operand} {U : TypeId} {ag : Bool} {k b p q : Nat} {row : List D} (o : Nat) (hk : tyk P U = some (ag, k)) (hx : ev s.env x = some (true, .pointer (some ⟨b, q, none⟩))) (hi : At b p row ∈ s.ps) (ho : q = p + o) (hv : rdD ag k row o = some v) :
   Quiet P n ⟨d, .load U x, ty, pos, af, gd⟩ s v := fun w S fp a hst he hn => by
 subst ho
 have h1 := he.val hx rfl
 have : (execOp a.eval ⟨d, .load U x, ty, pos, af, gd⟩).run P w = .ok (.value v) w := by
   unfold execOp; dsimp only; rw [h1]
   have := nb (P := P) hk hv (hst.per _ hi)
   show ((loadVar U ⟨b, p + o, none⟩).bind fun r => Sem.pure (Next.value r)).run P w = _
   rw [Sem.run_bind', this]; rfl
 rw [this]; exact ck _ _
theorem yN {cs : List Value} {o : Nat} {k : Nat} (h : cs[o]? = some v) : rdD false k (cs.map D.v) o = some v := by
 unfold rdD; simp [h]
end
end Go.Sy
namespace Go.Proofs.YtgmiihmahaahiaaGreatDoor
open Go.RowKit Go.Lp Go.Sy
open Go.Proofs.Tryz
attribute [local irreducible] aL aB awp aC fwp
def aav : Per := At 0 0 (ab4.map D.v)
end Go.Proofs.YtgmiihmahaahiaaGreatDoor

namespace Go.Sy
open Go.RowKit Go.Lp
theorem pT {P : Program} {n : Fr} {s : Sta} {d : Option Tmp} {ty : TypeId} {pos : String} {af : Array Edge} {gd : Option (Nat × Bool)} {x y : Operand} {t t' : TypeId} {k : IntKind} {a b : Int} (hx : ev s.env x = some (true, .int k a)) (hy : ev s.env y = some (true, .int k b)) : Quiet P n ⟨d, .binOp .xor t x y t', ty, pos, af, gd⟩ s (.int k (bits .xor k a b)) := .run2 hx hy fun ρ w h1 h2 => by unfold execOp; dsimp only; rw [h1, h2]; cases k <;> rfl
theorem aax {P : Program} {n : Fr} {s : Sta} {d : Option Tmp} {ty : TypeId} {pos : String} {af : Array Edge} {gd : Option (Nat × Bool)} {x : Operand} {t : TypeId} {k : IntKind} {z : Int} (hx : ev s.env x = some (true, .int k z)) : Quiet P n ⟨d, .unOp .xor t x, ty, pos, af, gd⟩ s (.int k (bits .xor k (if k.signed then -1 else k.max) z)) := .run1 hx fun ρ w h => by unfold execOp; dsimp only; rw [h]; rfl
end Go.Sy
namespace Go.Proofs.YtgmiihmahaahiaaGreatDoor
open Go.RowKit Go.Lp Go.Sy
open Go.Proofs.Tryz
attribute [local irreducible] aL aB awp aC fwp
theorem vI (z : Int) : 0 ≤ IntKind.u64.wrap z := by rw [IntKind.wrap_u64]; omega
theorem vp (z : Int) : 0 ≤ bits .and .u64 (IntKind.u64.wrap z) 63 := by
 obtain ⟨k, hk⟩ := Int.eq_ofNat_of_zero_le (vI z)
 have hlt : IntKind.u64.wrap z < 18446744073709551616 := by rw [IntKind.wrap_u64]; omega
 rw [hk] at hlt ⊢
 have := bits_and_u64_nat k 63 (by omega) (by omega)
 rw [show (63 : Int) = ((63 : Nat) : Int) from rfl, this]
 omega
theorem tF (x k : Int) : Con Tryz.prog 304 [.int .u64 x, .int .i64 k] [] [] (YN (fun z : Int => .int .u64 z) fun _ => True) := by
 refine Con.enter Tryz.func304 rfl (by simp [Tryz.ntmps304]) ?_
 show awp _ _ _ _ ⟨[(0, true, _), (1, true, _)], _, _⟩
 refine aSR (aA rfl (aNn (aSR (aM rfl ?_))))
 refine aU rfl (dh (by kernel_rfl) Tryz.underlying147 rfl) ?_
 refine aU rfl (zM rfl rfl) (aA rfl (aNn (aSR (aM rfl (aM rfl ?_)))))
 refine aU rfl (abh rfl rfl (by exact vp _)) ?_
 refine aM rfl (aM rfl (aU rfl (lD rfl rfl) ?_))
 refine aU rfl (abi rfl rfl (by exact vI _)) ?_
 refine aU rfl (zw rfl rfl) (aA rfl (aNn (aJ ?_)))
 refine br [] [] rfl Tryz.results304 rfl ?_ (.inr rfl)
 exact ⟨⟨rfl, rfl⟩, _, rfl, trivial⟩
abbrev eR (zs : List Int) : List Value := zs.map fun z => .int .u64 z
def kG : List Int := [0, 1, 62, 28, 27, 36, 44, 6, 55, 20, 3, 10, 43, 25, 39, 41, 45, 15, 21, 8, 18, 2, 61, 56, 14]
def fZ : List Int := [1, 32898, 9223372036854808714, 9223372039002292224, 32907, 2147483649, 9223372039002292353, 9223372036854808585, 138, 136, 2147516425, 2147483658, 2147516555, 9223372036854775947, 9223372036854808713, 9223372036854808579, 9223372036854808578, 9223372036854775936, 32778, 9223372039002259466, 9223372039002292353, 9223372036854808704, 2147483649, 9223372039002292232]
def dF : Per := At 2 0 ((kG.map fun z => Value.int .i64 z).map D.v)
def dG : Per := At 1 0 ((eR fZ).map D.v)
theorem abu {zs : List Int} {k : Nat} {z : Int} (h : k < zs.length) : wrC (eR zs) k [.int .u64 z] = eR (zs.set k z) := by
 unfold wrC
 apply List.ext_getElem?
 intro j
 simp only [eR, List.map_set]
 rw [List.getElem?_set, List.getElem?_append]
 simp
 by_cases h1 : j < k
 · rw [if_pos (by omega), if_neg (by omega), List.getElem?_take_of_lt h1]; simp
 · by_cases h2 : k = j
   · subst h2
     rw [if_neg (by omega), if_pos rfl, if_pos h]
     rw [Nat.min_eq_left (by omega)]; simp
   · rw [if_neg (by omega), if_neg h2, Nat.min_eq_left (by omega)]
     obtain ⟨m, hm⟩ : ∃ m, j - k = m + 1 := ⟨j - k - 1, by omega⟩
     rw [hm, List.getElem?_cons_succ, List.getElem?_drop]
     simp
     congr 2
     omega
theorem wu {zs : List Int} {k : Nat} (h : k < zs.length) : (eR zs)[k]? = some (.int .u64 (zs.getD k 0)) := by
 simp [eR, h]
theorem zN {zs : List Int} {k : Nat} (h : k < zs.length) : (eR zs).toArray[k]? = some (.int .u64 (zs.getD k 0)) := by rw [List.getElem?_toArray]; exact wu h
theorem ig {zs : List Int} {k o : Nat} (h : k < zs.length) (e : o = k) : rdC false 1 (eR zs) o = some (.int .u64 (zs.getD k 0)) := by
 subst e; exact wu h
theorem tm5 (j : Nat) : ((j : Int)).tmod 5 = ((j % 5 : Nat) : Int) := rfl
theorem td5 (j : Nat) : ((j : Int)).tdiv 5 = ((j / 5 : Nat) : Int) := rfl
theorem wq {j : Nat} (h : j < 25) : IntKind.i64.wrap ((j : Int).tdiv 5) = ((j / 5 : Nat) : Int) := by rw [td5, IntKind.wrap_i64]; omega
theorem aa0 (j m : Nat) : ((j : Int) - (j : Int).tmod 5) + ((j : Int).tmod 5 + (m : Int)).tmod 5 = ((j - j % 5 + (j % 5 + m) % 5 : Nat) : Int) := by
 rw [tm5]
 have : ((↑(j % 5) : Int) + m).tmod 5 = (((j % 5 + m) % 5 : Nat) : Int) := rfl
 rw [this]; omega
theorem lF {zs : List Int} {k o : Nat} {z : Int} (h : k < zs.length) (e : o = k) : wrC (eR zs) o [.int .u64 z] = eR (zs.set k z) := by subst e; exact abu h
theorem ud (b : Nat) (z0 : List Int) (h0 : z0.length = 25) : Con Tryz.prog 284 [.pointer (some ⟨b, 0, none⟩)] [dG, dF] [Box b 312 (eR z0)] fun _ ps hp => ps = [] ∧ ∃ zs : List Int, zs.length = 25 ∧ hp = [Box b 312 (eR zs)] := by
 refine Con.enter Tryz.func284 rfl (by simp [Tryz.ntmps284]) ?_
 show awp _ _ _ _ ⟨[(0, true, _)], _, _⟩
 refine aSR ?_
 refine aU rfl (wD (v := .agg (eR fZ).toArray) 0 tk367 rfl (aF 0 rfl) rfl (by kernel_rfl)) ?_
 refine aM rfl (aNn (aI (aT [0, 15, 16] [1, 0] [0] (fun (q : Nat × List Int) s => (q.1 ≤ 24 ∧ q.2.length = 25) ∧ s = ⟨[(0, true, .pointer (some ⟨b, 0, none⟩)), (15, true, .agg (eR fZ).toArray), (16, true, .int .i64 q.1)], [dG, dF], [Box b 312 (eR q.2)]⟩) (fun q => 24 - q.1) rfl (⟨(0, z0), ⟨Nat.zero_le _, h0⟩, rfl⟩) ?_)))
 rintro ⟨i, zs⟩ s ⟨⟨hi, hz⟩, rfl⟩
 dsimp only at hi hz
 refine aSR (aU rfl (bw rfl rfl) (aNs ?_))
 refine al _ rfl (fun h1 => ?_) (fun h1 => ?_)
 ·skip
  have hi' : i < 24 := by simp at h1; omega
  have hcl : fZ.length = 24 := rfl
  refine aq (az (aH (aI (aSR ?_))))
  refine aU rfl (z7 (i) Tryz.underlying367 (by kernel_rfl) rfl rfl (rfl) (by omega) ((zN (zs := fZ) (k := i) (by omega)))) ?_
  refine aA rfl (aNn (aSR ?_))
  refine an (q := true) rfl (bc (zs := [.int .u64 0, .int .u64 0, .int .u64 0, .int .u64 0, .int .u64 0]) (by kernel_rfl) rfl (fun b3_0 => ?_))
  refine aHN ?_
  refine aNs (aSR (aM rfl (aM rfl (cn ?_))))
  refine az (aI (aT [0, 3, 4, 15, 16, 19, 20] [1, 0] [0, 1] (fun (q : Nat × List Int) s => (q.1 ≤ 25 ∧ q.2.length = 5) ∧ s = ⟨[(0, true, .pointer (some ⟨b, 0, none⟩)), (3, true, .int .u64 (fZ.getD i 0)), (4, true, .pointer (some ⟨b3_0, 0, none⟩)), (15, true, .agg (eR fZ).toArray), (16, true, .int .i64 i), (19, true, .pointer (some ⟨b, 0, none⟩)), (20, true, .int .i64 q.1)], [dG, dF], [Box b 312 (eR zs), Box b3_0 368 (eR q.2)]⟩) (fun q => 25 - q.1) rfl (⟨(0, [0, 0, 0, 0, 0]), ⟨Nat.zero_le _, rfl⟩, rfl⟩) ?_))
  rintro ⟨j, qs⟩ s ⟨⟨hj, hq⟩, rfl⟩
  dsimp only at hj hq
  refine aSR (aU rfl (bw rfl rfl) (aNs ?_))
  refine al _ rfl (fun h2 => ?_) (fun h2 => ?_)
  ·skip
   have hj' : j < 25 := by simp at h2; omega
   have hm5 : j % 5 < 5 := Nat.mod_lt _ (by decide)
   refine aq (az (aH (aI (aH ?_))))
   refine bp [] (by kernel_rfl) ?_
   show aB _ _ _ _ _ 6 #[false, false, false, false, false, false] _
   refine bV 0 rfl rfl (aD rfl) ?_
   refine bV 1 rfl rfl (aR rfl) ?_
   refine bV 2 rfl rfl (dY (j) Tryz.underlying312 tk275 rfl rfl (rfl) (hj')) ?_
   refine bV 3 rfl rfl (ah (v := .int .u64 (zs.getD j 0)) 0 tk275 rfl rfl (ig (zs := zs) (k := j) (by omega) (by omega))) ?_
   refine bV 4 rfl rfl (cz rfl) ?_
   refine bV 5 rfl rfl (cz rfl) ?_
   refine bO (by kernel_rfl) ?_
   refine az (aj (aM rfl ?_))
   refine aU rfl (fF rfl rfl (by decide)) ?_
   refine aU rfl (dY (j % 5) Tryz.underlying368 tk275 rfl rfl (rfl) (hm5)) ?_
   refine aU rfl (ah (v := .int .u64 (qs.getD (j % 5) 0)) 1 tk275 rfl rfl (ig (zs := qs) (k := (j % 5)) (by omega) (by omega))) ?_
   refine aM rfl (aU rfl (pT rfl rfl) (aU rfl (dY (j % 5) Tryz.underlying368 tk275 rfl rfl (rfl) (hm5)) ?_))
   refine an rfl (jC 1 ([.int .u64 (bits .xor .u64 (qs.getD (j % 5) 0) (zs.getD j 0))]) (eR (qs.set (j % 5) (bits .xor .u64 (qs.getD (j % 5) 0) (zs.getD j 0)))) tk275 rfl rfl rfl rfl rfl (fun v hv => by rw [List.mem_singleton.1 hv]; rfl) (by simp [hq]; omega) (lF (zs := qs) (k := (j % 5)) (by omega) (by omega)) ?_)
   refine aHK ?_
   refine cn (bB (az (aj ?_)))
   refine aU rfl (bd rfl rfl (by (try simp only [tm5, td5]); omega)) ?_
   refine aM rfl (aNn ?_)
   refine ⟨[0, 3, 4, 15, 16, 19, 20], [1, 0], [0, 1], rfl, ?_⟩
   exact ⟨(j + 1, _), ⟨⟨by dsimp only; omega, by dsimp only; rw [List.length_set]; exact hq⟩, rfl⟩, by dsimp only; omega⟩
  ·skip
   refine aX (aY (aY (bf (az (aSR ?_)))))
   refine an (q := true) rfl (bc (zs := [.int .u64 0, .int .u64 0, .int .u64 0, .int .u64 0, .int .u64 0, .int .u64 0, .int .u64 0, .int .u64 0, .int .u64 0, .int .u64 0, .int .u64 0, .int .u64 0, .int .u64 0, .int .u64 0, .int .u64 0, .int .u64 0, .int .u64 0, .int .u64 0, .int .u64 0, .int .u64 0, .int .u64 0, .int .u64 0, .int .u64 0, .int .u64 0, .int .u64 0]) (by kernel_rfl) rfl (fun b9_0 => ?_))
   refine aHN ?_
   refine aNs (aSR (aM rfl (aM rfl (cn ?_))))
   refine az (aI (aT [0, 3, 4, 7, 15, 16, 34, 35] [1, 0] [0, 1, 2] (fun (q : Nat × List Int) s => (q.1 ≤ 25 ∧ q.2.length = 25) ∧ s = ⟨[(0, true, .pointer (some ⟨b, 0, none⟩)), (3, true, .int .u64 (fZ.getD i 0)), (4, true, .pointer (some ⟨b3_0, 0, none⟩)), (7, true, .pointer (some ⟨b9_0, 0, none⟩)), (15, true, .agg (eR fZ).toArray), (16, true, .int .i64 i), (34, true, .pointer (some ⟨b, 0, none⟩)), (35, true, .int .i64 q.1)], [dG, dF], [Box b 312 (eR zs), Box b3_0 368 (eR qs), Box b9_0 312 (eR q.2)]⟩) (fun q => 25 - q.1) rfl (⟨(0, List.replicate 25 0), ⟨Nat.zero_le _, rfl⟩, rfl⟩) ?_))
   clear hj
   rintro ⟨j, ys⟩ s ⟨⟨hj, hy⟩, rfl⟩
   dsimp only at hj hy
   refine aSR (aU rfl (bw rfl rfl) (aNs ?_))
   refine al _ rfl (fun h3 => ?_) (fun h3 => ?_)
   ·skip
    have hj' : j < 25 := by simp at h3; omega
    refine aq (az (aH (aI (aH ?_))))
    refine bp [] (by kernel_rfl) ?_
    show aB _ _ _ _ _ 6 #[false, false, false, false, false, false] _
    refine bV 0 rfl rfl (aD rfl) ?_
    refine bV 1 rfl rfl (aR rfl) ?_
    refine bV 2 rfl rfl (dY (j) Tryz.underlying312 tk275 rfl rfl (rfl) (hj')) ?_
    refine bV 3 rfl rfl (ah (v := .int .u64 (zs.getD j 0)) 0 tk275 rfl rfl (ig (zs := zs) (k := j) (by omega) (by omega))) ?_
    refine bV 4 rfl rfl (cz rfl) ?_
    refine bV 5 rfl rfl (cz rfl) ?_
    refine bO (by kernel_rfl) ?_
    refine az (aSR (aM rfl ?_))
    refine aU rfl (fF rfl rfl (by decide)) ?_
    refine aM rfl ?_
    refine aU rfl (zO rfl rfl (by decide)) ?_
    refine aA rfl (aA rfl (aNs ?_))
    rw [show IntKind.i64.wrap ((((j, ys) : Nat × List Int).fst : Int).tdiv 5) = ((j / 5 : Nat) : Int) from wq hj']
    refine bp [] (by kernel_rfl) ?_
    show aB _ _ _ _ _ 15 #[false, false, false, false, false, false, false, false, false, false, false, false, false, false, false] _
    refine bV 0 rfl rfl (aD rfl) ?_
    refine bV 1 rfl rfl (aD rfl) ?_
    refine bV 2 rfl rfl (bd rfl rfl (by (try simp only [tm5, td5]); omega)) ?_
    refine bV 3 rfl rfl (fF rfl rfl (by decide)) ?_
    refine bV 4 rfl rfl (dY ((j % 5 + 4) % 5) Tryz.underlying368 tk275 rfl rfl (rfl) (Nat.mod_lt _ (by decide))) ?_
    refine bV 5 rfl rfl (ah (v := .int .u64 (qs.getD ((j % 5 + 4) % 5) 0)) 1 tk275 rfl rfl (ig (zs := qs) (k := ((j % 5 + 4) % 5)) (by omega) (by omega))) ?_
    refine bV 6 rfl rfl (aD rfl) ?_
    refine bV 7 rfl rfl (bd rfl rfl (by (try simp only [tm5, td5]); omega)) ?_
    refine bV 8 rfl rfl (fF rfl rfl (by decide)) ?_
    refine bV 9 rfl rfl (dY ((j % 5 + 1) % 5) Tryz.underlying368 tk275 rfl rfl (rfl) (Nat.mod_lt _ (by decide))) ?_
    refine bV 10 rfl rfl (ah (v := .int .u64 (qs.getD ((j % 5 + 1) % 5) 0)) 1 tk275 rfl rfl (ig (zs := qs) (k := ((j % 5 + 1) % 5)) (by omega) (by omega))) ?_
    refine lj (caps := []) 11 rfl (by kernel_rfl) [] ((0 : Int)) (by kernel_rfl) true rfl rfl (fun _ => rfl) (fun hc => rfl) (fun hc => by rw [List.append_nil]; exact tF _ _) (fun r1 hr1 => ?_)
    refine bV 12 rfl rfl (pT rfl rfl) ?_
    refine bV 13 rfl rfl (pT rfl rfl) ?_
    refine bV 14 rfl rfl (cz rfl) ?_
    refine bO (by kernel_rfl) ?_
    refine az (aj (aM rfl (aM rfl ?_)))
    refine aU rfl (mo rfl rfl (by (try simp only [tm5, td5]); omega)) ?_
    refine aM rfl ?_
    refine aU rfl (mo rfl rfl (by (try simp only [tm5, td5]); omega)) ?_
    refine aU rfl (bd rfl rfl (by (try simp only [tm5, td5]); omega)) ?_
    refine aU rfl (fF rfl rfl (by decide)) ?_
    refine aU rfl (mo rfl rfl (by have e : 5 * (2 * (j : Int).tmod 5 + 3 * ((j / 5 : Nat) : Int)).tmod 5 = ((5 * ((2 * (j % 5) + 3 * (j / 5)) % 5) : Nat) : Int) := rfl; rw [e]; omega)) ?_
    refine aU rfl (bd rfl rfl (by have e : ((j / 5 : Nat) : Int) + 5 * (2 * (j : Int).tmod 5 + 3 * ((j / 5 : Nat) : Int)).tmod 5 = ((j / 5 + 5 * ((2 * (j % 5) + 3 * (j / 5)) % 5) : Nat) : Int) := rfl; rw [e]; omega)) ?_
    refine aM rfl (aM rfl (aU rfl (dY (j) Tryz.underlying370 tk3 rfl rfl (rfl) (hj')) ?_))
    refine aU rfl (wD (v := .int .i64 (kG.getD j 0)) j tk3 rfl (aF 1 rfl) (by omega) (yN (by rw [List.getElem?_map, List.getElem?_eq_getElem (show j < kG.length from hj')]; simp [List.getD, List.getElem?_eq_getElem (show j < kG.length from hj')]))) ?_
    refine bT (caps := []) [] ((0 : Int)) (by kernel_rfl) true rfl rfl (fun _ => rfl) (fun hc => rfl) (fun hc => by rw [List.append_nil]; exact tF _ _) (fun r2 hr2 => ?_)
    refine aU rfl (dY (j / 5 + 5 * ((2 * (j % 5) + 3 * (j / 5)) % 5)) Tryz.underlying312 tk275 rfl rfl (rfl) (by omega)) ?_
    refine an rfl (jC 2 ([.int .u64 r2]) (eR (ys.set (j / 5 + 5 * ((2 * (j % 5) + 3 * (j / 5)) % 5)) r2)) tk275 rfl rfl rfl rfl rfl (fun v hv => by rw [List.mem_singleton.1 hv]; rfl) (by simp [hy]; omega) (lF (zs := ys) (k := (j / 5 + 5 * ((2 * (j % 5) + 3 * (j / 5)) % 5))) (by omega) (by omega)) ?_)
    refine aHK ?_
    refine cn (bB (az (aj ?_)))
    refine aU rfl (bd rfl rfl (by (try simp only [tm5, td5]); omega)) ?_
    refine aM rfl (aNn ?_)
    refine ⟨[0, 3, 4, 7, 15, 16, 34, 35], [1, 0], [0, 1, 2], rfl, ?_⟩
    exact ⟨(j + 1, _), ⟨⟨by dsimp only; omega, by dsimp only; rw [List.length_set]; exact hy⟩, rfl⟩, by dsimp only; omega⟩
   ·skip
    refine aX (aY (aY (bf (az (aH (aSR ?_))))))
    refine aM rfl (aNn (aI (aT [0, 3, 7, 15, 16, 75] [1, 0] [0, 2] (fun (q : Nat × List Int) s => (q.1 ≤ 25 ∧ q.2.length = 25) ∧ s = ⟨[(0, true, .pointer (some ⟨b, 0, none⟩)), (3, true, .int .u64 (fZ.getD i 0)), (7, true, .pointer (some ⟨b9_0, 0, none⟩)), (15, true, .agg (eR fZ).toArray), (16, true, .int .i64 i), (75, true, .int .i64 q.1)], [dG, dF], [Box b 312 (eR q.2), Box b9_0 312 (eR ys)]⟩) (fun q => 25 - q.1) rfl (⟨(0, zs), ⟨Nat.zero_le _, hz⟩, rfl⟩) ?_)))
    clear hj
    rintro ⟨j, ws⟩ s ⟨⟨hj, hw⟩, rfl⟩
    dsimp only at hj hw
    refine aSR (aU rfl (bw rfl rfl) (aNs ?_))
    refine al _ rfl (fun h4 => ?_) (fun h4 => ?_)
    ·skip
     have hj' : j < 25 := by simp at h4; omega
     refine aq (az (aH (aI (aSR (aM rfl (aA rfl (aNn (aSR (aM rfl ?_)))))))))
     refine aU rfl (fF rfl rfl (by decide)) ?_
     refine aM rfl (aM rfl ?_)
     refine aU rfl (fF rfl rfl (by decide)) ?_
     refine aU rfl (ei rfl rfl (by (try simp only [tm5, td5]); omega)) ?_
     refine aA rfl (aA rfl (aNn ?_))
     refine bp [24] (by kernel_rfl) ?_
     show aB _ _ _ _ _ 25 #[false, false, false, false, false, false, false, false, false, false, false, false, false, false, false, false, false, false, false, false, false, false, false, false, false] _
     refine bV 0 rfl rfl (aD rfl) ?_
     refine bV 1 rfl rfl (aD rfl) ?_
     refine bV 2 rfl rfl (aD rfl) ?_
     refine bV 3 rfl rfl (dY (j) Tryz.underlying312 tk275 rfl rfl (rfl) (hj')) ?_
     refine bV 4 rfl rfl (ah (v := .int .u64 (ys.getD j 0)) 1 tk275 rfl rfl (ig (zs := ys) (k := j) (by omega) (by omega))) ?_
     refine bV 5 rfl rfl (aD rfl) ?_
     refine bV 6 rfl rfl (aD rfl) ?_
     refine bV 7 rfl rfl (bd rfl rfl (by (try simp only [tm5, td5]); omega)) ?_
     refine bV 8 rfl rfl (fF rfl rfl (by decide)) ?_
     refine bV 9 rfl rfl (bd rfl rfl (by have e : ((j : Int) - (j : Int).tmod 5) + ((j : Int).tmod 5 + 1).tmod 5 = _ := aa0 j 1; rw [e]; omega)) ?_
     refine bV 10 rfl rfl (dY (j - j % 5 + (j % 5 + 1) % 5) Tryz.underlying312 tk275 rfl rfl (aa0 j 1) (by omega)) ?_
     refine bV 11 rfl rfl (ah (v := .int .u64 (ys.getD (j - j % 5 + (j % 5 + 1) % 5) 0)) 1 tk275 rfl rfl (ig (zs := ys) (k := (j - j % 5 + (j % 5 + 1) % 5)) (by omega) (by omega))) ?_
     refine bV 12 rfl rfl (aax rfl) ?_
     refine bV 13 rfl rfl (aD rfl) ?_
     refine bV 14 rfl rfl (aD rfl) ?_
     refine bV 15 rfl rfl (bd rfl rfl (by (try simp only [tm5, td5]); omega)) ?_
     refine bV 16 rfl rfl (fF rfl rfl (by decide)) ?_
     refine bV 17 rfl rfl (bd rfl rfl (by have e : ((j : Int) - (j : Int).tmod 5) + ((j : Int).tmod 5 + 2).tmod 5 = _ := aa0 j 2; rw [e]; omega)) ?_
     refine bV 18 rfl rfl (dY (j - j % 5 + (j % 5 + 2) % 5) Tryz.underlying312 tk275 rfl rfl (aa0 j 2) (by omega)) ?_
     refine bV 19 rfl rfl (ah (v := .int .u64 (ys.getD (j - j % 5 + (j % 5 + 2) % 5) 0)) 1 tk275 rfl rfl (ig (zs := ys) (k := (j - j % 5 + (j % 5 + 2) % 5)) (by omega) (by omega))) ?_
     refine bV 20 rfl rfl (zM rfl rfl) ?_
     refine bV 21 rfl rfl (pT rfl rfl) ?_
     refine bV 22 rfl rfl (aR rfl) ?_
     refine bV 23 rfl rfl (dY (j) Tryz.underlying312 tk275 rfl rfl (rfl) (hj')) ?_
     refine cg 24 rfl (by kernel_rfl) rfl rfl (jC 0 ([_]) (eR (ws.set j _)) tk275 rfl rfl rfl rfl rfl (fun v hv => by rw [List.mem_singleton.1 hv]; rfl) (by simp [hw]; omega) (lF (zs := ws) (k := j) (by omega) (by omega)) ?_)
     refine bST rfl ?_
     refine bO (by kernel_rfl) ?_
     refine bB (az (aj ?_))
     refine aU rfl (bd rfl rfl (by (try simp only [tm5, td5]); omega)) ?_
     refine aM rfl (aNn ?_)
     refine ⟨[0, 3, 7, 15, 16, 75], [1, 0], [0, 1], rfl, ?_⟩
     exact ⟨(j + 1, _), ⟨⟨by dsimp only; omega, by dsimp only; rw [List.length_set]; exact hw⟩, rfl⟩, by dsimp only; omega⟩
    ·skip
     refine aX (aY (aY (bf (az ?_))))
     refine bp [8] (by kernel_rfl) ?_
     show aB _ _ _ _ _ 9 #[false, false, false, false, false, false, false, false, false] _
     refine bV 0 rfl rfl (aD rfl) ?_
     refine bV 1 rfl rfl (aR rfl) ?_
     refine bV 2 rfl rfl (dY (0) Tryz.underlying312 tk275 rfl rfl (rfl) (by decide)) ?_
     refine bV 3 rfl rfl (ah (v := .int .u64 (ws.getD 0 0)) 0 tk275 rfl rfl (ig (zs := ws) (k := 0) (by omega) (by omega))) ?_
     refine bV 4 rfl rfl (aD rfl) ?_
     refine bV 5 rfl rfl (pT rfl rfl) ?_
     refine bV 6 rfl rfl (aR rfl) ?_
     refine bV 7 rfl rfl (dY (0) Tryz.underlying312 tk275 rfl rfl (rfl) (by decide)) ?_
     refine cg 8 rfl (by kernel_rfl) rfl rfl (jC 0 ([_]) (eR (ws.set 0 _)) tk275 rfl rfl rfl rfl rfl (fun v hv => by rw [List.mem_singleton.1 hv]; rfl) (by simp [hw]) (lF (zs := ws) (k := 0) (by omega) (by omega)) ?_)
     refine bST rfl ?_
     refine bO (by kernel_rfl) ?_
     refine bB (az (aj ?_))
     refine aU rfl (bd rfl rfl (by (try simp only [tm5, td5]); omega)) ?_
     refine aM rfl (aNn ?_)
     refine ⟨[0, 15, 16], [1, 0], [0], rfl, ?_⟩
     exact ⟨(i + 1, _), ⟨⟨by dsimp only; omega, by dsimp only; rw [List.length_set]; exact hw⟩, rfl⟩, by dsimp only; omega⟩
 ·skip
  refine aX (aY (aY (bf ?_)))
  refine ir [] [0] rfl Tryz.results284 ?_ (.inl rfl)
  exact ⟨rfl, zs, hz, rfl⟩
end Go.Proofs.YtgmiihmahaahiaaGreatDoor

namespace Go.Proofs.YtgmiihmahaahiaaGreatDoor
open Go.RowKit Go.Lp Go.Sy
open Go.Proofs.Tryz
attribute [local irreducible] aL aB awp aC fwp
theorem xx (k : Int) : gK k ≠ 0 := by unfold gK; split <;> (try split) <;> decide
end Go.Proofs.YtgmiihmahaahiaaGreatDoor

namespace Go.Sy
open Go.RowKit Go.Lp
theorem jK {P : Program} {n : Fr} {env : Env} {ps : List Per} {hp : List Res} {c : Code} {Q : Exit → Sta → Prop} (p : Per) (hp' : Ent ps p) (h : awp P n c Q ⟨env, p :: ps, hp⟩) : awp P n c Q ⟨env, ps, hp⟩ := fun w S fp a hst he hn hd =>
 h w S fp a ⟨fun q hq => (List.mem_cons.1 hq).elim (fun e => e ▸ hp' w S hst.per) (fun h => hst.per q h), hst.res, hst.lt, hst.dj, hst.slt⟩ he hn hd
theorem aar {w : World} {S F : bz} {v : Value} {E : TypeId} {sz : Nat} {rows : List (List D)} (h : (bg v E sz rows).holds w S F) : ∃ ad cap, v = .slice ad rows.length cap := by
 rcases h with ⟨h1, h2, _⟩ | ⟨b, cap, h1, _⟩
 · subst h2; exact ⟨none, 0, h1⟩
 · exact ⟨_, cap, h1⟩
theorem iv {P : Program} {n : Fr} {env : Env} {ps : List Per} {hp : List Res} {c : Code} {Q : Exit → Sta → Prop} (i : Nat) {v : Value} {T : TypeId} {sz : Nat} {rows : List (List D)} (hi : hp[i]? = some (bg v T sz rows)) (h : ∀ ad cp, v = .slice ad rows.length cp → awp P n c Q ⟨env, ps, hp⟩) : awp P n c Q ⟨env, ps, hp⟩ := fun w S fp a hst he hn hd => by
 obtain ⟨ad, cp, e⟩ := aar (hst.res i _ hi)
 exact h ad cp e w S fp a hst he hn hd
end Go.Sy
namespace Go.Proofs.YtgmiihmahaahiaaGreatDoor
open Go.RowKit Go.Lp Go.Sy
open Go.Proofs.Tryz
attribute [local irreducible] aL aB awp aC fwp
def ab7 (l : List Int) : Prop := ∀ (k : Nat) (a b : Int), l[k]? = some a → l[k + 1]? = some b → a < b
theorem wF {l : List Int} (h : ab7 l) (h0 : ∀ z ∈ l, 0 ≤ z) : ∀ (k : Nat) (a : Int), l[k]? = some a → (k : Int) ≤ a
 | 0, a, ha => h0 a (List.mem_of_getElem? ha)
 | k + 1, b, hb => by
   have hl := (List.getElem?_eq_some_iff.1 hb).1
   have ha : l[k]? = some l[k] := List.getElem?_eq_getElem (by omega)
   have h1 := wF h h0 k _ ha
   have h2 := h k _ _ ha hb
   omega
theorem yU {l : List Int} {n : Nat} (h : ab7 l) (h0 : ∀ z ∈ l, 0 ≤ z ∧ z < n) : l.length ≤ n := by
 cases hl : l.length with
 | zero => exact Nat.zero_le _
 | succ k =>
   have ha : l[k]? = some l[k] := List.getElem?_eq_getElem (by omega)
   have h1 := wF h (fun z hz => (h0 z hz).1) k _ ha
   have h2 := (h0 _ (List.mem_of_getElem? ha)).2
   omega
end Go.Proofs.YtgmiihmahaahiaaGreatDoor

namespace Go.Sy
open Go.RowKit Go.Lp Go.Sort
section
variable {P : Program} {n : Fr} {env : Env} {ps : List Per} {hp : List Res} {s : Sta} {d : Option Tmp} {ty : TypeId} {pos : String} {af : Array Edge} {gd : Option (Nat × Bool)} {x y : Operand} {K : Sta → Prop}
theorem qn {T E : TypeId} {sz m c B o : Nat} {kk : IntKind} {z : Int} (k : Nat) (hel : elB P T E sz = true) (hx : ev s.env x = some (true, .slice (some ⟨B, o, none⟩) m c))
   (hy : ev s.env y = some (true, .int kk z)) (hz : z = (k : Int)) (hk : k ≤ m) (hm : m ≤ c) :
   Quiet P n ⟨d, .slice T x none (some y) none, ty, pos, af, gd⟩ s (.slice (some ⟨B, o, none⟩) k c) := fun w S fp a hst he hn => by
 have h1 := he.val hx rfl
 subst hz
 have h2 := he.val hy rfl
 obtain ⟨hT, it, hi, _, hsz, _⟩ := dL hel
 have hE : P.elem T = E := by unfold Program.elem; rw [hT]
 have hrun : ∀ w1, (execOp a.eval ⟨d, .slice T x none (some y) none, ty, pos, af, gd⟩).run P w1 = .ok (.value (sliced (some ⟨B, o, none⟩) 0 k c sz)) w1 := fun w1 => by
   unfold execOp; dsimp only; simp only [Option.map_some, Option.map_none]; rw [h1, h2]
   show ((Instr.sliceAt T (.slice (some ⟨B, o, none⟩) m c) none (some (.int kk k)) none).bind fun r => Sem.pure (Next.value r)).run P w1 = _
   have hT' : P.underlying T = some (.slice (P.elem T)) := by rw [hT, hE]
   rw [Sem.run_bind', run_sliceAt_slice w1 T _ _ _ _ hT', run_slice_h w1 T _ m c hT' kk k (by omega) (by omega), hE, dm hi, hsz]
   rfl
 have e : sliced (some ⟨B, o, none⟩) 0 k c sz = .slice (some ⟨B, o, none⟩) k c := by
   unfold sliced
   simp only [Nat.sub_zero]
   congr 1
   split
   · rfl
   · simp [mj]
 rw [hrun, e]; exact ck _ _
theorem lQ {T E : TypeId} {sz m c B o : Nat} {kk : IntKind} {z : Int} (k m' o' : Nat) (hel : elB P T E sz = true) (hx : ev s.env x = some (true, .slice (some ⟨B, o, none⟩) m c))
   (hy : ev s.env y = some (true, .int kk z)) (hz : z = (k : Int)) (hk : k < m) (hm : m ≤ c) (hm' : m - k = m') (ho : o + k * sz = o') :
   Quiet P n ⟨d, .slice T x (some y) none none, ty, pos, af, gd⟩ s (.slice (some ⟨B, o', none⟩) m' (c - k)) := fun w S fp a hst he hn => by
 have h1 := he.val hx rfl
 subst hz
 have h2 := he.val hy rfl
 obtain ⟨hT, it, hi, _, hsz, _⟩ := dL hel
 have hE : P.elem T = E := by unfold Program.elem; rw [hT]
 have hrun : ∀ w1, (execOp a.eval ⟨d, .slice T x (some y) none none, ty, pos, af, gd⟩).run P w1 = .ok (.value (sliced (some ⟨B, o, none⟩) k m c sz)) w1 := fun w1 => by
   unfold execOp; dsimp only; simp only [Option.map_some, Option.map_none]; rw [h1, h2]
   show ((Instr.sliceAt T (.slice (some ⟨B, o, none⟩) m c) (some (.int kk k)) none none).bind fun r => Sem.pure (Next.value r)).run P w1 = _
   have hT' : P.underlying T = some (.slice (P.elem T)) := by rw [hT, hE]
   rw [Sem.run_bind', run_sliceAt_slice w1 T _ _ _ _ hT', run_slice_l w1 T _ m c hT' kk k (by omega) (by omega), hE, dm hi, hsz]
   rfl
 have e : sliced (some ⟨B, o, none⟩) k m c sz = .slice (some ⟨B, o', none⟩) m' (c - k) := by
   unfold sliced
   rw [← hm', ← ho, if_neg (by omega)]
   simp [mj]
 rw [hrun, e]; exact ck _ _
end
section
variable {α : Type} [Inhabited α] {enc : α → Value}
variable {P : Program} {n : Fr} {env : Env} {ps : List Per} {hp : List Res} {ty : TypeId} {pos : String} {af : Array Edge} {gd : Option (Nat × Bool)} {K : Sta → Prop}
theorem wG {d : Option Tmp} {x y : Operand} {T T2 E : TypeId} {sz sl sc dc : Nat} {da sa : Option Addr} {s : Sta} (hel : elB P T E sz = true) (hx : ev s.env x = some (true, .slice da 0 dc)) (hy : ev s.env y = some (true, .slice sa sl sc)) :
   Quiet P n ⟨d, .call ⟨.builtin .copy, #[x, y], #[T, T2]⟩, ty, pos, af, gd⟩ s (.int .i64 0) := fun w S fp a hst he hn => by
 have h1 := he.val hx rfl
 have h2 := he.val hy rfl
 obtain ⟨hT, it, hi, _, hsz, _⟩ := dL hel
 have : (execOp a.eval ⟨d, .call ⟨.builtin .copy, #[x, y], #[T, T2]⟩, ty, pos, af, gd⟩).run P w = .ok (.value (.int .i64 0)) w := by
   show ((Builtin.copy_ #[T, T2] ty (#[x, y].map a.eval)).bind fun r => Sem.pure (Next.value r)).run P w = _
   have hargs : #[x, y].map a.eval = #[.slice da 0 dc, .slice sa sl sc] := by simp [h1, h2]
   rw [hargs, Sem.run_bind']
   have : (Builtin.copy_ #[T, T2] ty #[.slice da 0 dc, .slice sa sl sc]).run P w = .ok (goInt 0) w := by
     cases da <;> cases sa <;> simp [Builtin.copy_, run_underlying hT, Builtin.lenOf, Builtin.firstCells, sizeOf, typeInfo, hi, storeCells, loadCells, loadCellsFrom] <;> rfl
   rw [this]; rfl
 rw [this]; exact ck _ _
theorem yC {t : Nat} {x y : Operand} {T T2 E : TypeId} {B N o dl dc cp sl sc : Nat} {sa : Option Addr} {zs cs : List α} (i : Nat) (hel : elB P T E 1 = true) (hone : ∀ x : α, (enc x).oneCell' = true)
   (hx : ev env x = some (true, .slice (some ⟨B, o, none⟩) dl dc)) (hy : ev env y = some (true, .slice sa sl sc)) (ht : fits n (some t) = true)
   (hi : hp[i]? = some (bg (.slice (some ⟨B, 0, none⟩) N cp) E 1 (bS enc zs))) (hN : zs.length = N) (hlen : cs.length = min sl dl) (hfit : o + cs.length ≤ zs.length)
   (hsrc : ∀ w S fp sp, St w S fp ps hp → w.heap[B]? = some (.cells (zs.map enc ++ sp).toArray E (0, 0)) → ∃ sb : Addr, sa = some sb ∧ ∀ j c, cs[j]? = some c → w.cell? (sb.add j) = some (enc c))
   (zs' : List α) (hz' : zs.take o ++ cs ++ zs.drop (o + cs.length) = zs') (m : Int) (hm : m = cs.length)
   (hK : K ⟨(t, true, .int .i64 m) :: env, ps, hp.set i (bg (.slice (some ⟨B, 0, none⟩) N cp) E 1 (bS enc zs'))⟩) :
   Eff P n ⟨some t, .call ⟨.builtin .copy, #[x, y], #[T, T2]⟩, ty, pos, af, gd⟩ ⟨env, ps, hp⟩ false K := .change i hi fun w S fp a hst he hn hR => by
 subst hN
 have h1 := he.val hx rfl
 have h2 := he.val hy rfl
 obtain ⟨hT, it, hit, _, hsz, _⟩ := dL hel
 rcases wa hR with ⟨hv, _⟩ | ⟨b, cap, sp, hv, hb, hcap, hcm, hF, hH⟩
 · simp at hv
 · obtain ⟨rfl, rfl⟩ : B = b ∧ cp = cap := by simpa using hv
   obtain ⟨sb, rfl, hcell⟩ := hsrc w S fp sp hst hb
   have hlz : zs'.length = zs.length := by rw [← hz']; simp; omega
   have hrun : (Builtin.copy_ #[T, T2] ty #[.slice (some ⟨B, o, none⟩) dl dc, .slice (some sb) sl sc]).run P w = .ok (goInt cs.length) (w.setRow B (zs'.map enc ++ sp).toArray) := by
     have := run_copy_row (P := P) w T T2 ty E B o dl dc sb sl sc _ E (cs.map enc) hT (by rw [hit]; exact congrArg some hsz) hb (by simpa using hlen)
       (fun j v hj => by
         rw [List.getElem?_map, Option.map_eq_some_iff] at hj
         obtain ⟨c, hc, rfl⟩ := hj
         exact hcell j c hc)
       (by simp; omega) (fun v hv => by obtain ⟨c, _, rfl⟩ := List.mem_map.1 hv; exact hone c)
     rw [this, List.length_map]
     congr 3
     rw [← hz']
     simp only [List.map_append, List.map_take, List.map_drop]
     rw [List.take_append_of_le_length (by simp; omega), List.drop_append_of_le_length (by simp; omega)]
     simp
   have : (execOp a.eval ⟨some t, .call ⟨.builtin .copy, #[x, y], #[T, T2]⟩, ty, pos, af, gd⟩).run P w = .ok (.value (.int .i64 m)) (w.setRow B (zs'.map enc ++ sp).toArray) := by
     show ((Builtin.copy_ #[T, T2] ty (#[x, y].map a.eval)).bind fun r => Sem.pure (Next.value r)).run P w = _
     have hargs : #[x, y].map a.eval = #[.slice (some ⟨B, o, none⟩) dl dc, .slice (some sb) sl sc] := by simp [h1, h2]
     rw [hargs, Sem.run_bind', hrun, hm]; rfl
   rw [this]
   have hbS : ¬ S B := (hst.lt i (List.getElem?_eq_some_iff.1 hi).1 B ((hF B).2 rfl)).2
   refine ⟨bg _ E 1 (bS enc zs'), _, hK, rfl, rfl, he.put (g := true) (by rw [hn]; simpa [fits] using ht) _, ?_, rfl, rfl, ⟨rfl, rfl⟩, by simp [World.setRow], fun b' hb' hne => setRow_other _ _ _ _ (fun h => hne ((hF b').2 h))⟩
   refine .inr ⟨B, cp, by rw [cT, hlz], ⟨zs'.map enc, sp, setRow_heap _ _ _ _ _ _ hb, ?_, by rw [Nat.mul_one, ← hcap, List.length_append, List.length_map, hlz], by rw [cT, hlz]; omega, hcm⟩, hF⟩
   refine ⟨by simp [bS], fun i r hi => ?_, fun u hu => ?_, fun i j r d h1 h2 => ?_⟩
   · simp only [bS, List.getElem?_map, Option.map_eq_some_iff] at hi
     obtain ⟨x, _, rfl⟩ := hi; rfl
   · obtain ⟨x, _, rfl⟩ := List.mem_map.1 hu; exact hone x
   · simp only [bS, List.getElem?_map, Option.map_eq_some_iff] at h1
     obtain ⟨x, hx, rfl⟩ := h1
     cases j with
     | zero =>
       simp only [List.getElem?_cons_zero, Option.some.injEq] at h2
       subst h2
       exact ⟨enc x, by simp [hx], .v _⟩
     | succ j => simp at h2
theorem wO {t : Nat} {x y : Operand} {T T2 E : TypeId} {B N o dl dc cp sl sc : Nat} {sa : Option Addr} {zs xs : List α} (i : Nat) (hel : elB P T E 1 = true) (hone : ∀ x : α, (enc x).oneCell' = true)
   (hx : ev env x = some (true, .slice (some ⟨B, o, none⟩) dl dc)) (hy : ev env y = some (true, .slice sa sl sc)) (ht : fits n (some t) = true)
   (hi : hp[i]? = some (bg (.slice (some ⟨B, 0, none⟩) N cp) E 1 (bS enc zs))) (hN : zs.length = N) (hs : Sh (.slice sa sl sc) (.sl (bS enc xs)) ∈ ps) (h0 : xs ≠ []) (hle : xs.length ≤ dl) (hfit : o + xs.length ≤ zs.length)
   (zs' : List α) (hz' : zs.take o ++ xs ++ zs.drop (o + xs.length) = zs') (hsl : sl = xs.length)
   (hK : K ⟨(t, true, .int .i64 xs.length) :: env, ps, hp.set i (bg (.slice (some ⟨B, 0, none⟩) N cp) E 1 (bS enc zs'))⟩) :
   Eff P n ⟨some t, .call ⟨.builtin .copy, #[x, y], #[T, T2]⟩, ty, pos, af, gd⟩ ⟨env, ps, hp⟩ false K := by
 refine yC (cs := xs) i hel hone hx hy ht hi hN (by rw [hsl]; omega) hfit (fun w S fp sp hst _ => ?_) zs' hz' _ rfl hK
 have hrep := hst.per _ hs
 generalize hrows : bS enc xs = rows at hrep
 cases hrep with
 | e a c hc => simp [bS] at hrows; exact (h0 hrows).elim
 | sl b o c sz _ us hb hn' hc hrl hcell hd =>
     subst hrows
     have hg : ∀ (j : Nat) c, xs[j]? = some c → (bS enc xs)[j]? = some [D.v (enc c)] := fun j c hj => by simp [bS, hj]
     have hsz : sz = 1 := by
       obtain ⟨c0, hc0⟩ : ∃ c, xs[0]? = some c := ⟨_, List.getElem?_eq_getElem (List.length_pos_iff.2 h0)⟩
       have := hrl 0 _ (hg 0 c0 hc0); simpa using this.symm
     subst hsz
     refine ⟨_, rfl, fun j c hj => ?_⟩
     have h1 := (hcell j 0 _ _ (hg j c hj) rfl).1
     rw [bN (hd j 0 _ _ (hg j c hj) rfl), Nat.mul_one, Nat.add_zero] at h1
     rw [mj]; exact h1
theorem vZ {t : Nat} {x y : Operand} {T T2 E : TypeId} {B N o dl dc cp sl sc : Nat} {zs : List α} (i : Nat) (hel : elB P T E 1 = true) (hone : ∀ x : α, (enc x).oneCell' = true)
   (hx : ev env x = some (true, .slice (some ⟨B, o, none⟩) dl dc)) (hy : ev env y = some (true, .slice (some ⟨B, 0, none⟩) sl sc)) (ht : fits n (some t) = true)
   (hi : hp[i]? = some (bg (.slice (some ⟨B, 0, none⟩) N cp) E 1 (bS enc zs))) (hN : zs.length = N) (k : Nat) (hk : k = min sl dl) (hfit : o + k ≤ zs.length)
   (zs' : List α) (hz' : zs.take o ++ zs.take k ++ zs.drop (o + k) = zs')
   (hK : K ⟨(t, true, .int .i64 k) :: env, ps, hp.set i (bg (.slice (some ⟨B, 0, none⟩) N cp) E 1 (bS enc zs'))⟩) :
   Eff P n ⟨some t, .call ⟨.builtin .copy, #[x, y], #[T, T2]⟩, ty, pos, af, gd⟩ ⟨env, ps, hp⟩ false K := by
 have hl : (zs.take k).length = k := by rw [List.length_take]; omega
 refine yC (cs := zs.take k) i hel hone hx hy ht hi hN (by rw [hl, hk]) (by rw [hl]; exact hfit) (fun w S fp sp hst hb => ⟨_, rfl, fun j c hj => ?_⟩) zs' (by rw [hl]; exact hz') k (by rw [hl]) hK
 have hj' : j < zs.length := by
   have := (List.getElem?_eq_some_iff.1 hj).1
   rw [hl] at this; omega
 rw [mj, Nat.zero_add, ef hb, List.getElem?_append_left (by simpa using hj'), List.getElem?_map]
 rw [List.getElem?_take] at hj
 split at hj
 · rw [hj]; rfl
 · cases hj
end
end Go.Sy

namespace Go.Sy
open Go.RowKit Go.Lp
theorem lY {P : Program} {n : Fr} {env : Env} {ps : List Per} {hp : List Res} {c : Code} {Q : Exit → Sta → Prop} (i : Nat) {v : Value} {E : TypeId} {sz : Nat} {rows : List (List D)} (hi : hp[i]? = some (bg v E sz rows)) (h0 : rows ≠ []) (h : ∀ B cp, v = .slice (some ⟨B, 0, none⟩) rows.length cp → rows.length ≤ cp → awp P n c Q ⟨env, ps, hp⟩) : awp P n c Q ⟨env, ps, hp⟩ := fun w S fp a hst he hn hd => by
 rcases hst.res i _ hi with ⟨_, h1, _⟩ | ⟨B, cp, h1, ⟨⟨_, _, _, _, _, hle, _⟩, _⟩⟩
 · exact (h0 h1).elim
 · exact h B cp h1 hle w S fp a hst he hn hd
end Go.Sy

namespace Go.Sy
open Go.RowKit Go.Lp Go.Proofs.YtgmiihmahaahiaaGreatDoor
section
variable {P : Program} {n : Fr} {env : Env} {ps : List Per} {hp : List Res} {d : Option Tmp} {ty : TypeId} {pos : String} {af : Array Edge} {gd : Option (Nat × Bool)} {v : Value}
theorem qe (bs : List UInt8) : ∀ (r : ByteArray), (bs.map fun b => (b.toNat : Int)).foldl (fun r n => r.push (UInt8.ofNat n.toNat)) r = ⟨r.data ++ bs.toArray⟩ := by
 induction bs with
 | nil => intro r; simp
 | cons b bs ih =>
   intro r
   rw [List.map_cons, List.foldl_cons, ih]
   simp [ByteArray.push]
theorem pn {x : Operand} {T E T2 : TypeId} {m c : Nat} {ad : Option Addr} {rows : List (List D)} (i : Nat) (bs : List UInt8) (hT : P.underlying T = some (.slice E)) (hE : P.underlying E = some (.int .u8)) (hD : P.underlying T2 = some .string) (hx : ev env x = some (true, .slice ad m c))
   (hi : hp[i]? = some (bg (.slice ad m c) E 1 rows)) (hr : rows = bs.map fun b => [.v (.int .u8 b.toNat)]) (h0 : bs ≠ []) :
   Quiet P n ⟨d, .convert T T2 x, ty, pos, af, gd⟩ ⟨env, ps, hp⟩ (.string (ofBytes bs)) := fun w S fp a hst he hn => by
 have h1 := he.val hx rfl
 subst hr
 rcases hst.res i _ hi with ⟨_, h, _⟩ | ⟨b, cap, hv, ⟨cs, sp, hb, hrows, hcap, _, _⟩, _⟩
 · simp at h; exact absurd h h0
 · injection hv with hv1 hv2 hv3
   subst hv1; subst hv2; subst hv3
   have hl : cs.length = bs.length := by have := hrows.len; simpa using this
   have hcs : cs = bs.map fun b => (.int .u8 b.toNat : Value) := by
     apply List.ext_getElem?
     intro k
     cases hk : bs[k]? with
     | none => rw [List.getElem?_eq_none (by have := List.getElem?_eq_none_iff.1 hk; omega)]; simp [hk]
     | some u =>
       obtain ⟨y, hy, hrep⟩ := hrows.rep k 0 [.v (.int .u8 u.toNat)] (.v (.int .u8 u.toNat)) (by simp [hk]) rfl
       rw [Nat.mul_one, Nat.add_zero] at hy
       rw [hy, bN hrep]; simp [hk]
   have hload : (loadCells ⟨b, 0, none⟩ bs.length).run P w = .ok ((bs.map fun b => (b.toNat : Int)).map (Value.int .u8)).toArray w := by
     rw [run_loadCells w ⟨b, 0, none⟩ bs.length (fun k => cs.getD k undef) (fun k hk => by
       have : (Addr.mk b 0 none).add k = ⟨b, k, none⟩ := by
         unfold Addr.add; split
         · rename_i h; rw [h]
         · simp
       rw [this, ef hb, List.getElem?_append_left (by omega)]
       simp [List.getD, show k < cs.length by omega])]
     congr 2
     rw [hcs, List.map_map]
     apply List.ext_getElem
     · simp
     · intro k h1 h2
       simp at h1 h2 ⊢
       simp [List.getD, h2]
   have : (convert T T2 (.slice (some ⟨b, 0, none⟩) (bs.map fun b => [D.v (.int .u8 b.toNat)]).length c)).run P w = .ok (.string (ofBytes bs)) w := by
     rw [List.length_map, run_convert_bytes_string w T T2 E _ _ _ hT hE hD, run_bytesToString w ⟨b, 0, none⟩ bs.length c (bs.map fun b => (b.toNat : Int)) hload]
     congr 2
     rw [qe]; simp [ofBytes]
   have hx2 : (execOp a.eval ⟨d, .convert T T2 x, ty, pos, af, gd⟩).run P w = .ok (.value (.string (ofBytes bs))) w := by
     unfold execOp; dsimp only; rw [h1]
     show ((convert T T2 _).bind fun r => Sem.pure (Next.value r)).run P w = _
     rw [Sem.run_bind', this]; rfl
   rw [hx2]; exact ck _ _
theorem ew.bytes {w : World} {S : bz} {cs : List Value} {l : List UInt8} (h : ew w S 1 cs (l.map gg)) : cs = Lib.byteCells l := by
 have hl : cs.length = l.length := by have := h.len; simpa using this
 apply List.ext_getElem?
 intro k
 unfold Lib.byteCells
 cases hk : l[k]? with
 | none => rw [List.getElem?_eq_none (by have := List.getElem?_eq_none_iff.1 hk; omega)]; simp [hk]
 | some u =>
   obtain ⟨y, hy, hrep⟩ := h.rep k 0 [.v (.int .u8 u.toNat)] (.v (.int .u8 u.toNat)) (by simp [hk]) rfl
   rw [Nat.mul_one, Nat.add_zero] at hy
   rw [hy, bN hrep]; simp [hk]
theorem rI (w : World) (S : bz) (l : List UInt8) : ew w S 1 (Lib.byteCells l) (l.map gg) where
 len := by simp [Lib.byteCells]
 row i r hr := by
   rw [List.getElem?_map, Option.map_eq_some_iff] at hr
   obtain ⟨u, _, rfl⟩ := hr; rfl
 one := Lib.byteCells_one l
 rep i j r d hr hd := by
   rw [List.getElem?_map, Option.map_eq_some_iff] at hr
   obtain ⟨u, hu, rfl⟩ := hr
   cases j with
   | zero =>
     simp only [List.getElem?_cons_zero, Option.some.injEq] at hd
     subst hd
     exact ⟨.int .u8 u.toNat, by simp [Lib.byteCells, hu], .v _⟩
   | succ j => simp at hd
theorem ya {t : Nat} {x y : Operand} {T T2 E : TypeId} {B N cp : Nat} {l : List UInt8} {s : ByteArray} {K : Sta → Prop} (i : Nat) (hel : elB P T E 1 = true) (hx : ev env x = some (true, .slice (some ⟨B, 0, none⟩) N cp)) (hy : ev env y = some (true, .string s)) (ht : fits n.size (some t) = true)
   (hi : hp[i]? = some (bg (.slice (some ⟨B, 0, none⟩) N cp) E 1 (l.map gg))) (hN : l.length = N) (hs : s.size ≤ N) (hK : ∀ l' : List UInt8, l'.length = N → K ⟨(t, true, .int .i64 s.size) :: env, ps, hp.set i (bg (.slice (some ⟨B, 0, none⟩) N cp) E 1 (l'.map gg))⟩) :
   Eff P n ⟨some t, .call ⟨.builtin .copy, #[x, y], #[T, T2]⟩, ty, pos, af, gd⟩ ⟨env, ps, hp⟩ false K := .change i hi fun w S fp a hst he hn hR => by
 have h1 := he.val hx rfl
 have h2 := he.val hy rfl
 obtain ⟨hT, it, hit, _, hsz, _⟩ := dL hel
 rcases hR with ⟨h, _⟩ | ⟨b, cap, hv, ⟨cs, sp, hb, hrows, hcap, hrc, hcm⟩, hF⟩
 · cases h
 · simp only [Value.slice.injEq, Option.some.injEq, Addr.mk.injEq] at hv
   obtain ⟨⟨rfl, _⟩, hNN, rfl⟩ := hv
   have hcs := hrows.bytes
   subst hcs
   have hlb : (Lib.byteCells l).length = l.length := by simp [Lib.byteCells]
   have hss : s.data.toList.length = s.size := by simp
   have hr := Lib.run_copy_row_string (P := P) w T T2 ty E B 0 N cp s (Lib.byteCells l ++ sp).toArray E hT (by rw [hit]; simp [hsz]) hb hs (by simp [hlb]; omega)
   have hexec : execOp a.eval ⟨some t, .call ⟨.builtin .copy, #[x, y], #[T, T2]⟩, ty, pos, af, gd⟩ = (Builtin.copy_ #[T, T2] ty (#[x, y].map a.eval)).bind fun r => Sem.pure (Next.value r) := rfl
   rw [hexec, show #[x, y].map a.eval = #[a.eval x, a.eval y] by simp, h1, h2, Sem.run_bind', hr]
   have hl' : (s.data.toList ++ l.drop s.size).length = N := by rw [List.length_append, List.length_drop, hss]; omega
   refine ⟨_, _, hK (s.data.toList ++ l.drop s.size) hl', rfl, rfl, ?_, ?_, rfl, rfl, ⟨rfl, rfl⟩, by simp [World.setRow], fun b' hb' hne => setRow_other _ _ _ _ (fun h => hne ((hF b').2 h))⟩
   · exact he.put (g := true) (by rw [hn]; simpa [fits] using ht) _
   · refine .inr ⟨B, cp, by rw [List.length_map, hl'], ⟨Lib.byteCells (s.data.toList ++ l.drop s.size), sp, ?_, rI _ _ _, ?_, ?_, hcm⟩, hF⟩
     · rw [setRow_heap _ _ _ _ _ _ hb]
       congr 3
       simp only [List.take_zero, List.nil_append, Nat.zero_add]
       rw [Lib.byteCells_append, List.append_assoc]
       congr 1
       show (Lib.byteCells l ++ sp).drop s.size = _
       rw [List.drop_append_of_le_length (by rw [hlb]; omega)]
       congr 1
       simp [Lib.byteCells, List.map_drop]
     · rw [List.length_append]
       have : (Lib.byteCells (s.data.toList ++ l.drop s.size)).length = N := by simp [Lib.byteCells]; omega
       rw [this]
       rw [List.length_append, hlb] at hcap; omega
     · rw [List.length_map, hl']; rw [List.length_map] at hrc; omega
theorem vv {T E : TypeId} {x y : Operand} {m sz k : Nat} {z : Int} {kk : IntKind} {b : Nat} (hT : P.underlying T = some (.array m E)) (hE : ((P.info? E).map fun j => j.size) = some sz) (hx : ev env x = some (true, .pointer (some ⟨b, 0, none⟩))) (hy : ev env y = some (true, .int kk z)) (hz : z = (k : Int)) (hk : 0 < k) (hkm : k ≤ m) :
   Quiet P n ⟨d, .slice T x none (some y) none, ty, pos, af, gd⟩ ⟨env, ps, hp⟩ (.slice (some ⟨b, 0, none⟩) k m) := fun w S fp a hst he hn => by
 have h1 := he.val hx rfl
 subst hz
 have h2 := he.val hy rfl
 obtain ⟨j, hj, hjs⟩ := Option.map_eq_some_iff.1 hE
 have : (execOp a.eval ⟨d, .slice T x none (some y) none, ty, pos, af, gd⟩).run P w = .ok (.value (.slice (some ⟨b, 0, none⟩) k m)) w := by
   unfold execOp; dsimp only; simp only [Option.map_some, Option.map_none]; rw [h1, h2]
   show ((Instr.sliceAt T (.pointer (some ⟨b, 0, none⟩)) none (some (.int kk k)) none).bind fun r => Sem.pure (Next.value r)).run P w = _
   have hm0 : ¬ m = 0 := by omega
   have : (Instr.sliceAt T (.pointer (some ⟨b, 0, none⟩)) none (some (.int kk k)) none).run P w = .ok (.slice (some ⟨b, 0, none⟩) k m) w := by
     unfold Instr.sliceAt
     simp [run_underlying hT, Instr.sureAddr, asAddr, Instr.sliceBounds, Instr.sliceBound, sizeOf, typeInfo, hj, Addr.add, hm0, asIntOf, hkm]
   rw [Sem.run_bind', this]; rfl
 rw [this]; exact ck _ _
end
end Go.Sy
namespace Go.Proofs.YtgmiihmahaahiaaGreatDoor
open Go.RowKit Go.Lp Go.Sy
open Go.Proofs.Tryz
attribute [local irreducible] aL aB awp aC fwp
theorem wq8 {i : Nat} (h : i ≤ 1000) : IntKind.i64.wrap ((i : Int).tdiv 8) = ((i / 8 : Nat) : Int) := by
 rw [show ((i : Int)).tdiv 8 = ((i / 8 : Nat) : Int) from rfl, IntKind.wrap_i64]; omega
theorem pa (b : Nat) (z0 : List Int) (h0 : z0.length = 25) (s : ByteArray) (hs : s.size ≤ 200) : Con Tryz.prog 248 [.pointer (some ⟨b, 0, none⟩), .string s] [dG, dF] [Box b 312 (eR z0)] fun _ ps hp => ps = [] ∧ ∃ zs : List Int, zs.length = 25 ∧ hp = [Box b 312 (eR zs)] := by
 refine Con.enter Tryz.func248 rfl (by simp [Tryz.ntmps248]) ?_
 show awp _ _ _ _ ⟨[(0, true, _), (1, true, _)], _, _⟩
 refine aH (aSR (aM rfl (aU rfl (eA Tryz.underlying9 rfl) (aM rfl (aNn ?_)))))
 refine aI (aT [0, 1, 5, 6, 7] [1, 0] [0] (fun (q : Nat × List Int) st => (q.1 ≤ s.size ∧ q.2.length = 25) ∧ st = ⟨[(0, true, .pointer (some ⟨b, 0, none⟩)), (1, true, .string s), (5, true, .string s), (6, true, .int .i64 s.size), (7, true, .int .i64 q.1)], [dG, dF], [Box b 312 (eR q.2)]⟩) (fun q => s.size - q.1) rfl (⟨(0, z0), ⟨Nat.zero_le _, h0⟩, rfl⟩) ?_)
 rintro ⟨i, zs⟩ st ⟨⟨hi, hz⟩, rfl⟩
 dsimp only at hi hz
 refine aSR (aU rfl (bw rfl rfl) (aNs ?_))
 refine al _ rfl (fun h1 => ?_) (fun h1 => ?_)
 ·skip
  have hi' : i < s.size := by simp at h1; omega
  obtain ⟨u, hu⟩ : ∃ u, s.data.toList[i]? = some u := ⟨_, List.getElem?_eq_getElem (by show i < s.data.toList.length; simp; show i < s.size; omega)⟩
  have hi8 : i / 8 < 25 := by omega
  refine aq (az (aH (aI (aSR (aM rfl (aA rfl (aNn ?_)))))))
  refine bp [17] (by kernel_rfl) ?_
  show aB _ _ _ _ _ 18 #[false, false, false, false, false, false, false, false, false, false, false, false, false, false, false, false, false, false] _
  refine bV 0 rfl rfl (aD rfl) ?_
  refine bV 1 rfl rfl (aD rfl) ?_
  refine bV 2 rfl rfl (zO rfl rfl (by decide)) ?_
  refine bV 3 rfl rfl (aR rfl) ?_
  refine bV 4 rfl rfl (dY (i / 8) Tryz.underlying312 tk275 rfl rfl (wq8 (by omega)) (hi8)) ?_
  refine bV 5 rfl rfl (ah (v := .int .u64 (zs.getD (i / 8) 0)) 0 tk275 rfl rfl (ig (zs := zs) (k := i / 8) (by omega) (by omega))) ?_
  refine bV 6 rfl rfl (aD rfl) ?_
  refine bV 7 rfl rfl (aD rfl) ?_
  refine bV 8 rfl rfl (ej (i) Tryz.underlying9 rfl rfl (rfl) (hu)) ?_
  refine bV 9 rfl rfl (dh (by kernel_rfl) Tryz.underlying275 rfl) ?_
  refine bV 10 rfl rfl (aD rfl) ?_
  refine bV 11 rfl rfl (fF rfl rfl (by decide)) ?_
  refine bV 12 rfl rfl (mo rfl rfl (by show -9223372036854775808 ≤ 8 * ((i % 8 : Nat) : Int) ∧ 8 * ((i % 8 : Nat) : Int) ≤ 9223372036854775807; omega)) ?_
  refine bV 13 rfl rfl (abh rfl rfl (by show (0 : Int) ≤ 8 * ((i % 8 : Nat) : Int); omega)) ?_
  refine bV 14 rfl rfl (pT rfl rfl) ?_
  refine bV 15 rfl rfl (aR rfl) ?_
  refine bV 16 rfl rfl (dY (i / 8) Tryz.underlying312 tk275 rfl rfl (wq8 (by omega)) (hi8)) ?_
  refine cg 17 rfl (by kernel_rfl) rfl rfl (jC 0 ([_]) (eR (zs.set (i / 8) _)) tk275 rfl rfl rfl rfl rfl (fun v hv => by rw [List.mem_singleton.1 hv]; rfl) (by simp [hz]; omega) (lF (zs := zs) (k := i / 8) (by omega) (by omega)) ?_)
  refine bST rfl ?_
  refine bO (by kernel_rfl) ?_
  refine bB (az (aj ?_))
  refine aU rfl (bd rfl rfl (by omega)) ?_
  refine aM rfl (aNn ?_)
  refine ⟨[0, 1, 5, 6, 7], [1, 0], [0], rfl, ?_⟩
  exact ⟨(i + 1, _), ⟨⟨by dsimp only; omega, by dsimp only; rw [List.length_set]; exact hz⟩, rfl⟩, by dsimp only; omega⟩
 ·skip
  refine aX (aY (aY (bf (az (aj (aM rfl ?_))))))
  refine an (q := false) rfl (bH [1, 0] [0] (by kernel_rfl) rfl rfl rfl rfl (ud b zs hz) ?_)
  rintro _ _ _ ⟨rfl, ys, hy, rfl⟩
  refine aST ?_
  refine cn ?_
  refine ir [] [0] rfl Tryz.results248 ?_ (.inl rfl)
  exact ⟨rfl, ys, hy, rfl⟩
end Go.Proofs.YtgmiihmahaahiaaGreatDoor

namespace Go.Sy
open Go.RowKit Go.Lp
theorem aaE {P : Program} {n : Fr} {env : Env} {ps : List Per} {hp : List Res} {d : Option Tmp} {ty : TypeId} {pos : String} {af : Array Edge} {gd : Option (Nat × Bool)} {x y : Operand} {T E : TypeId} {sz : Nat} {B m cp : Nat} (k : Nat) (hel : elB P T E sz = true) (hx : ev env x = some (true, .slice (some ⟨B, 0, none⟩) m cp)) {z : Int} (hy : ev env y = some (true, .int .i64 z)) (hz : z = (k : Int)) (hk : k < m) :
   Quiet P n ⟨d, .indexAddr T x y, ty, pos, af, gd⟩ ⟨env, ps, hp⟩ (.pointer (some ⟨B, k * sz, none⟩)) := fun w S fp a hst he hn => by
 subst hz
 obtain ⟨hT, it, hit, _, hsz, _⟩ := dL hel
 have h1 := he.val hx rfl
 have h2 := he.val hy rfl
 have : (execOp a.eval ⟨d, .indexAddr T x y, ty, pos, af, gd⟩).run P w = .ok (.value (.pointer (some ⟨B, k * sz, none⟩))) w := by
   unfold execOp; dsimp only; rw [h1, h2]
   show ((Instr.indexAt T (.slice (some ⟨B, 0, none⟩) m cp) (.int .i64 k)).bind fun r => Sem.pure (Next.value r)).run P w = _
   have hE : P.elem T = E := by unfold Program.elem; rw [hT]
   rw [Sem.run_bind', run_indexAt_slice _ _ _ _ _ _ _ (by rw [hE]; exact hT), if_pos (by omega), hE, dm hit, hsz]
   simp only [Result.andThen, Int.toNat_natCast]
   unfold Addr.add
   split
   · rename_i h0; rw [h0]; rfl
   · simp only [Nat.zero_add]; rfl
 rw [this]; exact ck _ _
section
variable {P : Program} {n : Fr} {s : Sta} {d : Option Tmp} {ty : TypeId} {pos : String} {af : Array Edge} {gd : Option (Nat × Bool)}
theorem aas {x y : Operand} {T : TypeId} {kk : IntKind} {z : Int} {b : ByteArray} (hT : P.underlying T = some .string) (hx : ev s.env x = some (true, .string b)) (hy : ev s.env y = some (true, .int kk z)) (h0 : 0 ≤ z) (h1 : z ≤ b.size) :
   Quiet P n ⟨d, .slice T x (some y) none none, ty, pos, af, gd⟩ s (.string (b.extract z.toNat b.size)) := .run2 hx hy fun ρ w e1 e2 => by
 unfold execOp; dsimp only; simp only [Option.map_some, Option.map_none]; rw [e1, e2]
 show ((Instr.sliceAt T (.string b) (some (.int kk z)) none none).bind fun r => Sem.pure (Next.value r)).run P w = _
 have : (Instr.sliceAt T (.string b) (some (.int kk z)) none none).run P w = .ok (.string (b.extract z.toNat b.size)) w := by
   rw [run_sliceAt_string w T _ _ _ _ hT]
   exact run_slice_string_l w T b hT kk z h0 h1
 rw [Sem.run_bind', this]; rfl
end
end Go.Sy
namespace Go.Proofs.YtgmiihmahaahiaaGreatDoor
open Go.RowKit Go.Lp Go.Sy
open Go.Proofs.Tryz
attribute [local irreducible] aL aB awp aC fwp
theorem mS (z : Int) : ∃ u : UInt8, IntKind.u8.wrap z = u.toNat := by
 have h : 0 ≤ IntKind.u8.wrap z ∧ IntKind.u8.wrap z < 256 := by
   have : IntKind.u8.wrap z = z % 256 := rfl
   rw [this]; omega
 obtain ⟨k, hk⟩ := Int.eq_ofNat_of_zero_le h.1
 refine ⟨UInt8.ofNat k, ?_⟩
 have h2 : (UInt8.ofNat k).toNat = k % 256 := by simp
 rw [hk, h2]
 omega
theorem tk (b : Nat) (p : Value) (hp : p = .pointer none ∨ p = .pointer (some ⟨b, 0, none⟩)) (v : Value) (l : List UInt8) (hl : l.length ≤ 1000000) (z : Int) : Con Tryz.prog 249 [.pointer (some ⟨b, 0, none⟩), .int .u8 (IntKind.u8.wrap z)] [] [lV b p v, bg v 5 1 (l.map gg)]
   fun _ ps hp => ps = [] ∧ ∃ (ad : Option Addr) (c : Nat) (u : UInt8), hp = [lV b (.pointer (some ⟨b, 0, none⟩)) (.slice ad (l ++ [u]).length c), bg (.slice ad (l ++ [u]).length c) 5 1 ((l ++ [u]).map gg)] := by
 obtain ⟨u, hu⟩ := mS z
 rw [hu]
 exact (uH b p hp v l hl u).post fun _ _ _ ⟨h1, ad, c, h2⟩ => ⟨h1, ad, c, u, h2⟩
theorem abd (s : ByteArray) (hs : s.size ≤ maxLen) : Con Tryz.prog 188 [.string s] [dG, dF] [] fun r ps hp => ps = [] ∧ hp = [] ∧ ∃ t : ByteArray, r = .string t := by
 have hs' : s.size ≤ 9223372036854775807 := hs
 refine Con.enter Tryz.func188 rfl (by simp [Tryz.ntmps188]) ?_
 show awp _ _ _ _ ⟨[(0, true, _)], _, _⟩
 refine aSR (aA rfl (aNn (aSR ?_)))
 refine an (q := true) rfl (bc (zs := [.int .u64 0, .int .u64 0, .int .u64 0, .int .u64 0, .int .u64 0, .int .u64 0, .int .u64 0, .int .u64 0, .int .u64 0, .int .u64 0, .int .u64 0, .int .u64 0, .int .u64 0, .int .u64 0, .int .u64 0, .int .u64 0, .int .u64 0, .int .u64 0, .int .u64 0, .int .u64 0, .int .u64 0, .int .u64 0, .int .u64 0, .int .u64 0, .int .u64 0]) (by kernel_rfl) rfl (fun b1_0 => ?_))
 refine aHN ?_
 refine aNs (aI (aT [0, 3] [1, 0] [0] (fun (q : ByteArray × List Int) st => (q.1.size ≤ s.size ∧ q.2.length = 25) ∧ st = ⟨[(0, true, .string q.1), (3, true, .pointer (some ⟨b1_0, 0, none⟩))], [dG, dF], [Box b1_0 312 (eR q.2)]⟩) (fun q => q.1.size) rfl (⟨(s, List.replicate 25 0), ⟨Nat.le_refl _, rfl⟩, rfl⟩) ?_))
 rintro ⟨x, zs⟩ st ⟨⟨hx, hz⟩, rfl⟩
 dsimp only at hx hz ⊢
 refine aH (aSR (aM rfl (aU rfl (eA Tryz.underlying9 rfl) (aU rfl (eu rfl rfl) (aNn ?_)))))
 refine al _ rfl (fun h1 => ?_) (fun h1 => ?_)
 ·skip
  have h136 : 136 ≤ x.size := by simp at h1; omega
  refine aq (az (aH (aI (aj (aM rfl ?_)))))
  refine aU rfl (aa8 Tryz.underlying9 rfl rfl (by omega) (by omega)) ?_
  refine an (q := false) rfl (bH [1, 0] [0] (by kernel_rfl) rfl rfl rfl rfl (pa b1_0 zs hz _ (by simp; omega)) ?_)
  rintro _ _ _ ⟨rfl, ys, hy, rfl⟩
  refine aST ?_
  refine cn (bB (az (aj (aM rfl ?_))))
  refine aU rfl (aas Tryz.underlying9 rfl rfl (by omega) (by omega)) ?_
  refine aA rfl (aNn ?_)
  refine ⟨[0, 3], [1, 0], [0], rfl, ?_⟩
  have hxs : (x.extract (136 : Int).toNat x.size).size = x.size - 136 := by rw [ByteArray.size_extract]; show min x.size x.size - 136 = _; omega
  exact ⟨(x.extract (136 : Int).toNat x.size, ys), ⟨⟨(show (x.extract (136 : Int).toNat x.size).size ≤ s.size by rw [hxs]; omega), hy⟩, rfl⟩, (show (x.extract (136 : Int).toNat x.size).size < x.size by rw [hxs]; omega)⟩
 ·skip
  have h136 : x.size < 136 := by simp at h1; omega
  refine aX (aY (aY (bf (az (aSR ?_)))))
  refine an (q := true) rfl (iC (m := 136) (zs := [.int .u8 0]) el280 (by kernel_rfl) rfl (by decide) (eJ rfl (rfl)) (eJ rfl (rfl)) (by omega) rfl (fun v5_0 => ?_))
  refine aHN ?_
  refine aA rfl (aNs ?_)
  refine fe 1 (bg _ _ 1 ((List.replicate 136 (0 : UInt8)).map gg)) rfl (fun _ _ _ h => by rw [List.map_replicate]; exact h) ?_
  refine lY 1 rfl (by simp) (fun B cp hv hcp => ?_)
  obtain ⟨rfl, _, rfl⟩ : v5_0 = some ⟨B, 0, none⟩ ∧ True ∧ 136 = cp := by simp at hv; exact ⟨hv.1, trivial, hv.2⟩
  refine aj (aM rfl (aM rfl ?_))
  refine an (q := false) rfl (ya 1 el280 rfl rfl rfl rfl (by simp) (by omega) (fun l hl => ?_))
  refine aNs ?_
  obtain ⟨u0, hu0⟩ : ∃ u, l[x.size]? = some u := ⟨_, List.getElem?_eq_getElem (by omega)⟩
  refine aj (aM rfl (aM rfl (aU rfl (eA Tryz.underlying9 rfl) ?_)))
  refine aU rfl (fM 1 x.size el280 rfl rfl rfl rfl (by rw [List.length_map, hl]; exact h136)) ?_
  refine an (q := false) rfl (eK 1 x.size 0 tk5 rfl rfl rfl (aQ hu0) rfl (.v rfl .nil) rfl (by decide) ?_)
  refine aNs ?_
  refine fe 1 (bg _ _ 1 ((l.set x.size 6).map gg)) rfl (fun _ _ _ h => by rw [List.map_set]; exact h) ?_
  obtain ⟨l2, hl2⟩ : ∃ l2, l.set x.size 6 = l2 := ⟨_, rfl⟩
  have hl2n : l2.length = 136 := by rw [← hl2, List.length_set]; exact hl
  rw [hl2]
  obtain ⟨u1, hu1⟩ : ∃ u, l2[135]? = some u := ⟨_, List.getElem?_eq_getElem (by omega)⟩
  refine aj (aM rfl ?_)
  refine aU rfl (fM 1 135 el280 rfl rfl rfl rfl (by rw [List.length_map, hl2n]; decide)) ?_
  refine aU rfl (eF 1 135 0 tk5 rfl rfl (aQ hu1) rfl rfl) (aU rfl (zw rfl rfl) ?_)
  refine aU rfl (fM 1 135 el280 rfl rfl rfl rfl (by rw [List.length_map, hl2n]; decide)) ?_
  refine an (q := false) rfl (eK 1 135 0 tk5 rfl rfl rfl (aQ hu1) rfl (.v rfl .nil) rfl (by decide) ?_)
  refine aNs ?_
  obtain ⟨u2, hu2⟩ := mS (BitVec.ofInt 8 (u1.toNat : Int) ||| BitVec.ofInt 8 128).toNat
  refine fe 1 (bg _ _ 1 ((l2.set 135 u2).map gg)) rfl (fun _ _ _ h => by rw [List.map_set]; show (bg _ _ 1 ((l2.map gg).set 135 [.v (.int .u8 u2.toNat)])).holds _ _ _; rw [← hu2]; exact h) ?_
  obtain ⟨l3, hl3⟩ : ∃ l3, l2.set 135 u2 = l3 := ⟨_, rfl⟩
  have hl3n : l3.length = 136 := by rw [← hl3, List.length_set]; exact hl2n
  rw [hl3]
  refine aj (aM rfl ?_)
  refine aU rfl (pn 1 l3 Tryz.underlying280 Tryz.underlying5 Tryz.underlying9 rfl rfl rfl (by intro h; rw [h] at hl3n; cases hl3n)) ?_
  refine an (q := false) rfl (bH [1, 0] [0] (by kernel_rfl) rfl rfl rfl rfl (pa b1_0 zs hz (ofBytes l3) (by show l3.toArray.size ≤ 200; simp [hl3n])) ?_)
  rintro _ _ _ ⟨rfl, ys, hy, rfl⟩
  refine aST ?_
  refine aNn (aSR ?_)
  refine an (q := true) rfl (bc (zs := [.pointer none, .slice none 0 0]) (by kernel_rfl) rfl (fun b10_0 => ?_))
  refine aHN ?_
  refine aNs (aH (eD 5 1 ?_))
  show awp _ _ _ _ ⟨_, _, [_, _, _, _]⟩
  refine aj ?_
  refine aU rfl (vv (m := 25) (sz := 1) Tryz.underlying312 (by kernel_rfl) rfl rfl rfl (by decide) (by decide)) ?_
  refine aU rfl (aZ Tryz.underlying316 rfl) (aM rfl (aNn (aI (aT [3, 5, 33, 34, 35] [1, 0] [0, 2, 3] (fun (q : Nat × (Value × (Value × List UInt8))) st => (q.1 ≤ 4 ∧ (q.2.1 = .pointer none ∨ q.2.1 = .pointer (some ⟨b10_0, 0, none⟩)) ∧ q.2.2.2.length = 8 * q.1) ∧ st = ⟨[(3, true, .pointer (some ⟨b1_0, 0, none⟩)), (5, true, .pointer (some ⟨b10_0, 0, none⟩)), (33, true, .slice (some ⟨b1_0, 0, none⟩) 4 25), (34, true, .int .i64 (4 : Nat)), (35, true, .int .i64 q.1)], [dG, dF], [Box b1_0 312 (eR ys), lV b10_0 q.2.1 q.2.2.1, bg q.2.2.1 5 1 (q.2.2.2.map gg)]⟩) (fun q => 4 - q.1) rfl (⟨(0, (.pointer none, (.slice none 0 0, []))), ⟨Nat.zero_le _, .inl rfl, rfl⟩, rfl⟩) ?_))))
  rintro ⟨i, p, v, l4⟩ st ⟨⟨hi, hp, hl4⟩, rfl⟩
  dsimp only at hi hp hl4 ⊢
  refine aSR (aU rfl (bw rfl rfl) (aNs ?_))
  refine al _ rfl (fun h2 => ?_) (fun h2 => ?_)
  ·skip
   have hi' : i < 4 := by simp at h2; omega
   refine aq (az (aH (aI (aSR (aU rfl (aaE i el316 rfl rfl rfl hi') ?_)))))
   refine aU rfl (ah (v := .int .u64 (ys.getD i 0)) 0 tk275 rfl rfl (ig (zs := ys) (k := i) (by omega) (by omega))) ?_
   refine aA rfl (aNn (aSR (aM rfl (aNn ?_))))
   refine aI (aT [3, 5, 7, 33, 34, 35, 39] [1, 0] [0, 1, 2] (fun (q : Nat × (Value × (Value × List UInt8))) st => (q.1 ≤ 8 ∧ (q.2.1 = .pointer none ∨ q.2.1 = .pointer (some ⟨b10_0, 0, none⟩)) ∧ q.2.2.2.length = 8 * i + q.1) ∧ st = ⟨[(3, true, .pointer (some ⟨b1_0, 0, none⟩)), (5, true, .pointer (some ⟨b10_0, 0, none⟩)), (7, true, .int .u64 (ys.getD i 0)), (33, true, .slice (some ⟨b1_0, 0, none⟩) 4 25), (34, true, .int .i64 (4 : Nat)), (35, true, .int .i64 i), (39, true, .int .i64 q.1)], [dG, dF], [Box b1_0 312 (eR ys), lV b10_0 q.2.1 q.2.2.1, bg q.2.2.1 5 1 (q.2.2.2.map gg)]⟩) (fun q => 8 - q.1) rfl (⟨(0, (p, (v, l4))), ⟨Nat.zero_le _, hp, hl4⟩, rfl⟩) ?_)
   rintro ⟨j, p2, v2, l5⟩ st ⟨⟨hj, hp2, hl5⟩, rfl⟩
   dsimp only at hj hp2 hl5 ⊢
   refine aSR (aU rfl (bw rfl rfl) (aNs ?_))
   refine al _ rfl (fun h3 => ?_) (fun h3 => ?_)
   ·skip
    have hj' : j < 8 := by simp at h3; omega
    refine aq (az (aH (aI (aSR (aM rfl (aA rfl (aNn (aj (aM rfl (aM rfl ?_))))))))))
    refine aU rfl (mo rfl rfl (by omega)) ?_
    refine aU rfl (abi rfl rfl (by omega)) ?_
    refine aU rfl (dh (by kernel_rfl) Tryz.underlying5 rfl) ?_
    refine an (q := false) rfl (bH [] [1, 2] (by kernel_rfl) rfl rfl rfl rfl (tk b10_0 p2 hp2 v2 l5 (by omega) _) ?_)
    rintro _ _ _ ⟨rfl, ad, cc, u, rfl⟩
    refine aST ?_
    refine cn (bB (az (aj ?_)))
    refine aU rfl (bd rfl rfl (by omega)) ?_
    refine aM rfl (aNn ?_)
    refine ⟨[3, 5, 7, 33, 34, 35, 39], [1, 0], [0, 1, 2], rfl, ?_⟩
    exact ⟨(j + 1, (_, (_, l5 ++ [u]))), ⟨⟨by dsimp only; omega, .inr rfl, by dsimp only; rw [List.length_append]; simp; omega⟩, rfl⟩, by dsimp only; omega⟩
   ·skip
    refine aX (aY (aY (bf (bB (az (aj ?_))))))
    refine aU rfl (bd rfl rfl (by omega)) ?_
    refine aM rfl (aNn ?_)
    refine ⟨[3, 5, 33, 34, 35], [1, 0], [0, 1, 2], rfl, ?_⟩
    have hj8 : j = 8 := by simp at h3; omega
    subst hj8
    exact ⟨(i + 1, (p2, (v2, l5))), ⟨⟨by dsimp only; omega, hp2, by dsimp only; omega⟩, rfl⟩, by dsimp only; omega⟩
  ·skip
   refine aX (aY (aY (bf (az (aH ?_)))))
   have hi4 : i = 4 := by simp at h2; omega
   subst hi4
   have hne : l4 ≠ [] := by intro h; rw [h] at hl4; cases hl4
   refine lY 2 rfl (by simpa using hne) (fun B cp hv hcp => ?_)
   rw [List.length_map] at hv hcp
   subst hv
   refine aj ?_
   refine an (q := false) rfl (bH [] [1, 2] (by kernel_rfl) rfl rfl rfl rfl (sm b10_0 p B cp (by omega) l4 hne) ?_)
   rintro _ _ _ ⟨rfl, rfl, rfl⟩
   refine aST ?_
   refine aA rfl (aNn (aJ ?_))
   refine br [] [] rfl Tryz.results188 rfl ?_ (.inr rfl)
   exact ⟨rfl, rfl, _, rfl⟩
end Go.Proofs.YtgmiihmahaahiaaGreatDoor

namespace Go.Sy
open Go.RowKit Go.Lp Go.Proofs.YtgmiihmahaahiaaGreatDoor
theorem abt {P : Program} {n : Fr} {env : Env} {ps : List Per} {hp : List Res} {c : Code} {Q : Exit → Sta → Prop} (i : Nat) {v : Value} {E : TypeId} {l : List UInt8} {z : Int} (hi : hp[i]? = some (bg v E 1 (l.map gg ++ [[.v (.int .u8 (IntKind.u8.wrap z))]]))) (h : ∀ u, awp P n c Q ⟨env, ps, hp.set i (bg v E 1 ((l ++ [u]).map gg))⟩) : awp P n c Q ⟨env, ps, hp⟩ := by
 obtain ⟨u, hu⟩ := mS z
 refine fe i _ hi (fun _ _ _ hh => ?_) (h u)
 rw [List.map_append]
 rw [hu] at hh
 exact hh
end Go.Sy
namespace Go.Proofs.YtgmiihmahaahiaaGreatDoor
open Go.RowKit Go.Lp Go.Sy
open Go.Proofs.Tryz
attribute [local irreducible] aL aB awp aC fwp
theorem acz {k m : Nat} (hk : k ≤ 9) (h : m < 128 ^ (10 - k)) (h1 : 128 ≤ m) : k < 9 ∧ m / 128 < 128 ^ (10 - (k + 1)) := by
 have h9 : k ≠ 9 := by intro e; subst e; omega
 obtain ⟨j, hj⟩ : ∃ j, 10 - k = j + 1 := ⟨9 - k, by omega⟩
 have hj2 : 10 - (k + 1) = j := by omega
 rw [hj, Nat.pow_succ] at h
 rw [hj2]
 exact ⟨by omega, Nat.div_lt_of_lt_mul (by rw [Nat.mul_comm]; exact h)⟩
theorem aca {m : Nat} (h : m < 18446744073709551616) : IntKind.u64.wrap ((m : Int).tdiv 128) = ((m / 128 : Nat) : Int) := by
 rw [show ((m : Int)).tdiv 128 = ((m / 128 : Nat) : Int) from rfl, IntKind.wrap_u64]; omega
theorem aa6 (m0 : Nat) (h0 : m0 < 18446744073709551616) : Con Tryz.prog 251 [.slice none 0 0, .int .u64 m0] [] [] fun r ps hp => ps = [] ∧ ∃ (ad : Option Addr) (c : Nat) (l : List UInt8), l ≠ [] ∧ l.length ≤ 10 ∧ r = .slice ad l.length c ∧ hp = [bg (.slice ad l.length c) 5 1 (l.map gg)] := by
 refine Con.enter Tryz.func251 rfl (by simp [Tryz.ntmps251]) ?_
 show awp _ _ _ _ ⟨[(0, true, _), (1, true, _)], _, _⟩
 refine aH (eD 5 1 ?_)
 show awp _ _ _ _ ⟨_, _, [_]⟩
 refine aj (aA rfl (aNs (aI ?_)))
 refine aT [0, 1, 4] [] [0] (fun (q : Nat × (Value × List UInt8)) st => (q.1 < 18446744073709551616 ∧ q.2.2.length ≤ 9 ∧ q.1 < 128 ^ (10 - q.2.2.length)) ∧ st = ⟨[(0, true, q.2.1), (1, true, .int .u64 q.1), (4, true, .slice none 0 0)], [], [bg q.2.1 5 1 (q.2.2.map gg)]⟩) (fun q => q.1) rfl (⟨(m0, (.slice none 0 0, [])), ⟨h0, (show (0 : Nat) ≤ 9 by omega), Nat.lt_of_lt_of_le h0 (show 18446744073709551616 ≤ 128 ^ 10 by decide)⟩, rfl⟩) ?_
 rintro ⟨m, v, l⟩ st ⟨⟨hm, hl, hb⟩, rfl⟩
 dsimp only at hm hl hb ⊢
 refine aH (aSR (aM rfl (aU rfl (eu rfl rfl) (aNn ?_))))
 refine al _ rfl (fun h1 => ?_) (fun h1 => ?_)
 ·skip
  have h128 : 128 ≤ m := by simp at h1; omega
  obtain ⟨hk, hb2⟩ := acz hl hb h128
  refine aq (az (aI (aSR (aM rfl (aM rfl ?_)))))
  refine aU rfl (fF rfl rfl (by decide)) ?_
  refine aU rfl (dh (by kernel_rfl) Tryz.underlying5 rfl) ?_
  refine aU rfl (zw rfl rfl) ?_
  refine an (q := true) rfl (cB (zs := [.int .u8 0]) (l := [(0, .tmp 11)]) el280 (by kernel_rfl) (by decide) (by decide) (by decide) rfl rfl rfl (.more rfl (.v rfl .nil) .nil) rfl rfl (fun v2_5 => ?_))
  refine aHN ?_
  refine an rfl (cL 0 el280 rfl rfl rfl rfl (dR 1 el280 rfl (by simp)) (by first | assumption | simp) (by show (l.map gg).length + 1 ≤ _; rw [List.length_map]; exact Nat.le_trans (show l.length + 1 ≤ 10 by omega) (by decide)) ((l.length + 1)) (by show (l.map gg).length + 1 = _; rw [List.length_map]) (fun v2_6 c2_6 => ?_))
  refine aHK ?_
  refine aA rfl (aNn ?_)
  refine abt 0 rfl (fun u => ?_)
  refine aj (aM rfl ?_)
  refine aU rfl (zO rfl rfl (by decide)) ?_
  refine aA rfl (cn (bB (az ?_)))
  refine ⟨[0, 1, 4], [], [0], rfl, ?_⟩
  exact ⟨(m / 128, (_, l ++ [u])), ⟨⟨by dsimp only; omega, by dsimp only; rw [List.length_append]; simp; omega, by dsimp only; rw [List.length_append]; exact hb2⟩, by dsimp only; rw [← aca hm]; rfl⟩, by dsimp only; omega⟩
 ·skip
  refine aX (aY (aY (bf (az (aSR (aM rfl (aM rfl ?_)))))))
  refine aU rfl (dh (by kernel_rfl) Tryz.underlying5 rfl) ?_
  refine an (q := true) rfl (cB (zs := [.int .u8 0]) (l := [(0, .tmp 18)]) el280 (by kernel_rfl) (by decide) (by decide) (by decide) rfl rfl rfl (.more rfl (.v rfl .nil) .nil) rfl rfl (fun v4_3 => ?_))
  refine aHN ?_
  refine an rfl (cL 0 el280 rfl rfl rfl rfl (dR 1 el280 rfl (by simp)) (by first | assumption | simp) (by show (l.map gg).length + 1 ≤ _; rw [List.length_map]; exact Nat.le_trans (show l.length + 1 ≤ 10 by omega) (by decide)) ((l.length + 1)) (by show (l.map gg).length + 1 = _; rw [List.length_map]) (fun v4_4 c4_4 => ?_))
  refine aHK ?_
  refine aA rfl (aNn (aJ ?_))
  refine br [] [0] rfl Tryz.results251 rfl ?_ (.inr rfl)
  obtain ⟨u, hu⟩ := mS (m : Int)
  refine ⟨rfl, v4_4, c4_4, l ++ [u], by simp, by rw [List.length_append]; simp; omega, by rw [List.length_append]; rfl, ?_⟩
  show [bg (.slice v4_4 (l.length + 1) c4_4) 5 1 (l.map gg ++ [[D.v (.int .u8 (IntKind.u8.wrap m))]])] = _
  rw [hu, List.map_append, List.length_append]; rfl
theorem kY (z : Int) : Con Tryz.prog 189 [.int .i64 z] [] [] fun r ps hp => ps = [] ∧ hp = [] ∧ ∃ t : ByteArray, t.size ≤ 10 ∧ r = .string t := by
 obtain ⟨m, hm⟩ := Int.eq_ofNat_of_zero_le (vI z)
 have hlt : m < 18446744073709551616 := by
   have : IntKind.u64.wrap z < 18446744073709551616 := by rw [IntKind.wrap_u64]; omega
   omega
 refine Con.enter Tryz.func189 rfl (by simp [Tryz.ntmps189]) ?_
 show awp _ _ _ _ ⟨[(0, true, _)], _, _⟩
 refine aSR (aA rfl (aNs (aSR (aM rfl (aU rfl (bw rfl rfl) (aNn ?_))))))
 refine al _ rfl (fun h1 => ?_) (fun h1 => ?_)
 ·skip
  refine aSR (aA rfl (aNn (aJ (aO ?_))))
  refine br [] [] rfl Tryz.results189 rfl ?_ (.inr rfl)
  exact ⟨rfl, rfl, .empty, by decide, rfl⟩
 ·skip
  refine aq (az (aSR (aM rfl ?_)))
  refine aU rfl (dh (by kernel_rfl) Tryz.underlying275 rfl) ?_
  refine an (q := true) rfl (bH [] [] (by kernel_rfl) rfl rfl rfl rfl ((by show Con _ _ [.slice none 0 0, .int .u64 (IntKind.u64.wrap z)] [] [] _; rw [hm]; exact aa6 m hlt)) ?_)
  rintro _ _ _ ⟨rfl, ad, c, l, hne, hl, rfl, rfl⟩
  refine aST ?_
  refine aU rfl (pn 0 l Tryz.underlying280 Tryz.underlying5 Tryz.underlying9 rfl rfl rfl hne) (aA rfl (aNn (aJ ?_)))
  refine br [] [] rfl Tryz.results189 rfl ?_ (.inr rfl)
  exact ⟨rfl, rfl, ofBytes l, hl, rfl⟩
theorem xH (s : ByteArray) (hs : s.size ≤ 4611686018427387904) : Con Tryz.prog 190 [.string s] [] [] fun r ps hp => ps = [] ∧ hp = [] ∧ ∃ t : ByteArray, t.size ≤ s.size + 10 ∧ r = .string t := by
 refine Con.enter Tryz.func190 rfl (by simp [Tryz.ntmps190]) ?_
 show awp _ _ _ _ ⟨[(0, true, _)], _, _⟩
 refine aSR (aA rfl (aNn (aSR (aM rfl (aU rfl (eA Tryz.underlying9 rfl) ?_)))))
 refine an (q := true) rfl (bH [] [] (by kernel_rfl) rfl rfl rfl rfl (kY _) ?_)
 rintro _ _ _ ⟨rfl, rfl, t, ht, rfl⟩
 refine aST ?_
 refine aM rfl ?_
 refine aU rfl (qO rfl rfl (by omega)) ?_
 refine aA rfl (aNn (aJ ?_))
 refine br [] [] rfl Tryz.results190 rfl ?_ (.inr rfl)
 exact ⟨rfl, rfl, t ++ s, by rw [ByteArray.size_append]; omega, rfl⟩
end Go.Proofs.YtgmiihmahaahiaaGreatDoor

namespace Go.Sy
open Go.RowKit Go.Lp Go.Proofs.YtgmiihmahaahiaaGreatDoor
def ByB (g cap : Nat) : Res :=
 ⟨fun w _ F => (∀ j, j < cap → (∃ u : UInt8, w.cell? ⟨g, j, none⟩ = some (.int .u8 u.toNat)) ∧ w.frozen? ⟨g, j, none⟩ = false) ∧ ∀ k, F k ↔ k = g,
  fun ⟨h, hF⟩ h1 _ _ => ⟨fun j hj => by
    have e := h1 g ((hF g).2 rfl)
    obtain ⟨⟨u, hu⟩, hz⟩ := h j hj
    refine ⟨⟨u, ?_⟩, ?_⟩
    · unfold World.cell? at hu ⊢; dsimp only at hu ⊢; rw [e]; exact hu
    · unfold World.frozen? at hz ⊢; dsimp only at hz ⊢; rw [e]; exact hz, hF⟩⟩
section
variable {P : Program} {n : Fr} {env : Env} {ps : List Per} {hp : List Res} {d : Option Tmp} {ty : TypeId} {pos : String} {af : Array Edge} {gd : Option (Nat × Bool)} {K : Sta → Prop} {q : Bool}
theorem tX {t : Nat} {S T E : TypeId} {u : TypeDesc} {x : Operand} {b : ByteArray} (hS : P.underlying S = some u) (hT : P.underlying T = some (.slice E)) (hE : P.underlying E = some (.int .u8)) (hx : ev env x = some (true, .string b)) (ht : fits n.size (some t) = true)
   (hK : ∀ g c, b.size ≤ c → K ⟨(t, true, .slice (some ⟨g, 0, none⟩) b.size c) :: env, ps, hp ++ [ByB g c]⟩) : Eff P n ⟨some t, .convert S T x, ty, pos, af, gd⟩ ⟨env, ps, hp⟩ q K := .push fun w S' fp a hst he hn => by
 have e1 := he.val hx rfl
 have hrun := Lib.run_convert_string_bytes (P := P) w S T E b hS hT hE
 have hexec : (execOp a.eval ⟨some t, .convert S T x, ty, pos, af, gd⟩).run P w = .ok (.value (.slice (some ⟨w.heap.size, 0, none⟩) b.size (grownCap w b.size 0 E))) (Lib.bytesWorld w E b) := by
   unfold execOp; dsimp only; rw [e1]
   show ((convert S T (.string b)).bind fun r => Sem.pure (Next.value r)).run P w = _
   rw [Sem.run_bind', hrun]; rfl
 rw [hexec]
 have hsz := Lib.bytesWorld_size w E b
 have hcap : b.size ≤ grownCap w b.size 0 E := grownCap_ge w b.size 0 E
 have hcs : (Lib.bytesCells w E b).size = grownCap w b.size 0 E := by
   unfold Lib.bytesCells
   simp
   show b.size + _ = _
   omega
 have hnew := Lib.bytesWorld_at_new w E b
 refine ⟨ByB w.heap.size (grownCap w b.size 0 E), (fun k => k = w.heap.size), _, hK _ _ hcap, rfl, rfl, he.put (g := true) (by rw [hn]; simpa [fits] using ht) _, ?_, ⟨fun j hj => ⟨?_, ?_⟩, fun _ => Iff.rfl⟩, fun k hk => by subst hk; rw [hsz]; omega⟩
 · exact ⟨by unfold Lib.bytesWorld World.freeze; split <;> rfl, by unfold Lib.bytesWorld World.freeze; split <;> rfl, by unfold Lib.bytesWorld World.freeze; split <;> rfl, by omega, by
     have : (Lib.bytesWorld w E b).drawn = w.drawn + 1 := by unfold Lib.bytesWorld World.freeze; split <;> rfl
     omega, fun k hk => Lib.bytesWorld_at_old w E b k hk⟩
 · unfold World.cell?
   rw [hnew]
   dsimp only
   unfold Lib.bytesCells
   rw [Array.getElem?_append]
   by_cases h : j < b.size
   · refine ⟨b.data.toList.getD j 0, ?_⟩
     have hb : j < b.data.size := h
     simp [h, hb, List.getD]
   · refine ⟨0, ?_⟩
     have hb : ¬ j < b.data.size := h
     have hb2 : b.data.size = b.size := rfl
     simp [h, hb, Array.getElem?_replicate]
     omega
 · unfold World.frozen?
   rw [hnew]
   dsimp only
   rw [hcs]
   simp
   omega
theorem fQ (b : Nat) : ∀ (vs : List Value) (o : Nat) (w : World), (w.setCells b o vs).drawn = w.drawn ∧ (w.setCells b o vs).tape = w.tape ∧ (w.setCells b o vs).heap.size = w.heap.size
 | [], _, _ => ⟨rfl, rfl, rfl⟩
 | v :: vs, o, w => by
   obtain ⟨h1, h2, h3⟩ := fQ b vs (o + 1) (w.setCell ⟨b, o, none⟩ v)
   exact ⟨h1, h2, h3.trans (by simp [World.setCell])⟩
theorem zg {α : Type} {l : List α} {i : Nat} {x : α} (h : l[i]? = some x) : l = l.set i x := by
 apply List.ext_getElem?
 intro k
 rw [List.getElem?_set]
 by_cases hk : i = k
 · subst hk; rw [if_pos rfl, if_pos (List.getElem?_eq_some_iff.1 h).1]; exact h
 · rw [if_neg hk]
theorem tD {x : Operand} {T E : TypeId} {g o m c cap : Nat} (i : Nat) (hT : P.underlying T = some (.slice E)) (hz : ∀ w, (zeroValue E).run P w = .ok (.int .u8 0) w) (hx : ev env x = some (true, .slice (some ⟨g, o, none⟩) m c)) (hi : hp[i]? = some (ByB g cap)) (hm : 0 < m) (hom : o + m ≤ cap)
   (hK : K ⟨env, ps, hp⟩) : Eff P n ⟨none, .call ⟨.builtin .clear, #[x], #[T]⟩, ty, pos, af, gd⟩ ⟨env, ps, hp⟩ false K := .change i hi fun w S fp a hst he hn hR => by
 have h1 := he.val hx rfl
 obtain ⟨hB, hF⟩ := hR
 have hr := Lib.run_clear_slice (P := P) w T E ty (.int .u8 0) hT hz rfl rfl g o m c hm (fun j hj => by obtain ⟨⟨u, hu⟩, _⟩ := hB (o + j) (by omega); rw [hu]; rfl) (fun j hj => (hB (o + j) (by omega)).2)
 have hexec : execOp a.eval ⟨none, .call ⟨.builtin .clear, #[x], #[T]⟩, ty, pos, af, gd⟩ = (Builtin.clear_ #[T] ty (#[x].map a.eval)).bind fun r => Sem.pure (Next.value r) := rfl
 rw [hexec, show #[x].map a.eval = #[a.eval x] by simp, h1, Sem.run_bind', hr]
 refine ⟨ByB g cap, ⟨env, ps, hp⟩, hK, rfl, zg hi, he, ⟨fun j hj => ?_, hF⟩, ?_, ?_, ?_, ?_, ?_⟩
 · obtain ⟨⟨u, hu⟩, hz2⟩ := hB j hj
   refine ⟨?_, by rw [World.frozen?_setCells]; exact hz2⟩
   by_cases hin : o ≤ j ∧ j < o + m
   · have := World.cell?_setCells_in g (List.replicate m (.int .u8 0)) o w (fun k hk => by
       rw [List.length_replicate] at hk
       obtain ⟨⟨u, hu⟩, _⟩ := hB (o + k) (by omega)
       rw [hu]; rfl) (j - o) (by rw [List.length_replicate]; omega)
     rw [show o + (j - o) = j by omega] at this
     exact ⟨0, by rw [this]; simp⟩
   · refine ⟨u, ?_⟩
     rw [World.cell?_setCells_out g _ o w _ (fun _ _ => by rw [List.length_replicate]; dsimp only; omega)]
     exact hu
 · exact World.os_setCells _ _ _ _
 · exact (fQ _ _ _ _).2.1
 · exact ⟨World.output_setCells _ _ _ _, (fQ _ _ _ _).1⟩
 · exact Nat.le_of_eq (fQ _ _ _ _).2.2.symm
 · exact fun b hb hne => World.heap_setCells_other _ _ _ _ hb (fun h => hne ((hF b).2 h))
theorem th {x : Operand} {T E T2 : TypeId} {m c g cap : Nat} (i : Nat) (hT : P.underlying T = some (.slice E)) (hE : P.underlying E = some (.int .u8)) (hD : P.underlying T2 = some .string) (hx : ev env x = some (true, .slice (some ⟨g, 0, none⟩) m c))
   (hi : hp[i]? = some (ByB g cap)) (hm : m ≤ cap) :
   jQ P n ⟨d, .convert T T2 x, ty, pos, af, gd⟩ ⟨env, ps, hp⟩ (fun t : {t : ByteArray // t.size = m} => .string t.1) (fun _ => [Fa True]) := fun w S fp a hst he hn => by
 have h1 := he.val hx rfl
 obtain ⟨hB, hF⟩ := hst.res i _ hi
 have hg : g < w.heap.size := (hst.lt i (List.getElem?_eq_some_iff.1 hi).1 g ((hF g).2 rfl)).1
 obtain ⟨f, hf⟩ := Classical.skolem.1 (fun j : Nat => show ∃ u : UInt8, j < cap → w.cell? ⟨g, j, none⟩ = some (.int .u8 u.toNat) from by
   by_cases h : j < cap
   · obtain ⟨⟨u, hu⟩, _⟩ := hB j h; exact ⟨u, fun _ => hu⟩
   · exact ⟨0, fun h2 => absurd h2 h⟩)
 have hbl : ((List.range m).map f).length = m := by simp
 refine ⟨⟨ofBytes ((List.range m).map f), by show ((List.range m).map f).toArray.size = m; simp⟩, fun w1 hw1 => ?_, fun p hp => by rw [List.mem_singleton.1 hp]; trivial⟩
 have hc1 : ∀ j, j < cap → w1.cell? ⟨g, j, none⟩ = some (.int .u8 (f j).toNat) := fun j hj => by
   have := hf j hj
   unfold World.cell? at this ⊢
   dsimp only at this ⊢
   rw [hw1.block g hg]; exact this
 have hload : (loadCells ⟨g, 0, none⟩ m).run P w1 = .ok ((((List.range m).map f).map fun b => (b.toNat : Int)).map (Value.int .u8)).toArray w1 := by
   rw [run_loadCells w1 ⟨g, 0, none⟩ m (fun k => .int .u8 (f k).toNat) (fun k hk => by
     have : (Addr.mk g 0 none).add k = ⟨g, k, none⟩ := by
       unfold Addr.add; split
       · rename_i h; rw [h]
       · simp
     rw [this]; exact hc1 k (by omega))]
   congr 2
   rw [List.map_map, List.map_map]; rfl
 have hcv : (convert T T2 (.slice (some ⟨g, 0, none⟩) m c)).run P w1 = .ok (.string (ofBytes ((List.range m).map f))) w1 := by
   rw [run_convert_bytes_string w1 T T2 E _ _ _ hT hE hD, run_bytesToString w1 ⟨g, 0, none⟩ m c (((List.range m).map f).map fun b => (b.toNat : Int)) hload]
   congr 2
   rw [qe]; simp [ofBytes]
 have : (execOp a.eval ⟨d, .convert T T2 x, ty, pos, af, gd⟩).run P w1 = .ok (.value (.string (ofBytes ((List.range m).map f)))) w1 := by
   unfold execOp; dsimp only; rw [h1]
   show ((convert T T2 (.slice (some ⟨g, 0, none⟩) m c)).bind fun r => Sem.pure (Next.value r)).run P w1 = _
   rw [Sem.run_bind', hcv]; rfl
 rw [this]; exact ck _ _
theorem vC {s : Sta} {T E : TypeId} {x y z : Operand} {sz m c B o : Nat} {kk k2 : IntKind} {zl zh : Int} (l h : Nat) (hel : elB P T E sz = true) (hx : ev s.env x = some (true, .slice (some ⟨B, o, none⟩) m c))
   (hy : ev s.env y = some (true, .int kk zl)) (hz : ev s.env z = some (true, .int k2 zh)) (hl : zl = (l : Int)) (hh : zh = (h : Int)) (hlh : l < h) (hm : h ≤ m) (hmc : m ≤ c) :
   Quiet P n ⟨d, .slice T x (some y) (some z) none, ty, pos, af, gd⟩ s (.slice (some ⟨B, o + l * sz, none⟩) (h - l) (c - l)) := fun w S fp a hst he hn => by
 have h1 := he.val hx rfl
 subst hl hh
 have h2 := he.val hy rfl
 have h3 := he.val hz rfl
 obtain ⟨hT, it, hi, _, hsz, _⟩ := dL hel
 have hE : P.elem T = E := by unfold Program.elem; rw [hT]
 have hrun : ∀ w1, (execOp a.eval ⟨d, .slice T x (some y) (some z) none, ty, pos, af, gd⟩).run P w1 = .ok (.value (sliced (some ⟨B, o, none⟩) l h c sz)) w1 := fun w1 => by
   unfold execOp; dsimp only; simp only [Option.map_some, Option.map_none]; rw [h1, h2, h3]
   show ((Instr.sliceAt T (.slice (some ⟨B, o, none⟩) m c) (some (.int kk l)) (some (.int k2 h)) none).bind fun r => Sem.pure (Next.value r)).run P w1 = _
   have hT' : P.underlying T = some (.slice (P.elem T)) := by rw [hT, hE]
   rw [Sem.run_bind', run_sliceAt_slice w1 T _ _ _ _ hT', run_slice_lh w1 T _ m c hT' kk k2 l h (by omega) (by omega) (by omega), hE, dm hi, hsz]
   rfl
 have e : sliced (some ⟨B, o, none⟩) l h c sz = .slice (some ⟨B, o + l * sz, none⟩) (h - l) (c - l) := by
   unfold sliced
   rw [if_neg (by omega)]
   simp [mj]
 rw [hrun, e]; exact ck _ _
end
end Go.Sy

namespace Go.Proofs.YtgmiihmahaahiaaGreatDoor
open Go.RowKit Go.Lp Go.Sy
deriving instance DecidableEq for aK
deriving instance DecidableEq for bq
abbrev dw := ByteArray × ByteArray
structure Dfn where
 p : aK
 s : bE
 deriving Inhabited
abbrev Dfn.key (d : Dfn) : dw := (d.s.name, d.s.version)
def dW (i : Int) (l : List bE) : List Dfn := l.zipIdx.map fun x => ⟨⟨i, (x.2 : Int)⟩, x.1⟩
def cZ (os : List ax) (n : Nat) : List Dfn := (List.range n).flatMap fun i : Nat => dW (i : Int) (elt os (i : Int)).syms.l
def bQ (os : List ax) : List Dfn := cZ os os.length
theorem qw (i : Int) (l : List bE) (s : bE) : dW i (l ++ [s]) = dW i l ++ [⟨⟨i, (l.length : Int)⟩, s⟩] := by
 unfold dW; rw [List.zipIdx_append]; simp
theorem eb (os : List ax) (n : Nat) : cZ os (n + 1) = cZ os n ++ dW (n : Int) (elt os (n : Int)).syms.l := by unfold cZ; rw [List.range_succ, List.flatMap_append]; simp
theorem jW {i : Int} {l : List bE} {k : Nat} {s : bE} (h : l[k]? = some s) : dW i (l.take (k + 1)) = dW i (l.take k) ++ [⟨⟨i, (k : Int)⟩, s⟩] := by
 have hk := (List.getElem?_eq_some_iff.1 h).1
 rw [List.take_add_one, h, Option.toList_some, qw, List.length_take, Nat.min_eq_left (by omega)]
section
variable (kp : List (Sl Bool))
def oH (i s : Int) : Bool := elt (elt kp i).l s
def fC (d : Dfn) : Bool := decide (d.s.bind = 3) || (decide (d.s.bind ≠ 0) && (decide (d.s.sec ≥ 0) && oH kp d.p.obj d.s.sec))
def fG (d : Dfn) : Int := if d.s.bind = 1 then 0 else if d.s.bind = 3 then 1 else 2
def dZ (L : List Dfn) (k : dw) : List Dfn := L.filter fun d => fC kp d && decide (d.key = k)
def better (o : Option Dfn) (d : Dfn) : Option Dfn := match o with
 | none => some d
 | some e => if fG d < fG e then some d else some e
def cE (L : List Dfn) (k : dw) : Option Dfn := (dZ kp L k).foldl better none
def eG (L : List Dfn) (n : ByteArray) : List dw := (L.foldl (fun (x : List Dfn × List dw) d => (x.1 ++ [d], if fC kp d = true ∧ d.s.name = n ∧ dZ kp x.1 d.key = [] then x.2 ++ [d.key] else x.2)) ([], [])).2
def gL (L : List Dfn) : Option aK := (L.foldl (fun (x : List Dfn × Option aK) d => (x.1 ++ [d], x.2.or (if fC kp d = true ∧ d.s.bind = 1 ∧ (∃ e ∈ dZ kp x.1 d.key, e.s.bind = 1) then some d.p else none))) ([], none)).2
variable {kp}
theorem jZ (L : List Dfn) (d : Dfn) (k : dw) : dZ kp (L ++ [d]) k = dZ kp L k ++ if fC kp d = true ∧ d.key = k then [d] else [] := by
 unfold dZ; rw [List.filter_append]
 by_cases h : fC kp d = true ∧ d.key = k
 · rw [if_pos h]; simp [h.1, h.2]
 · rw [if_neg h]
   have : (fC kp d && decide (d.key = k)) = false := by
     rw [Bool.eq_false_iff]; intro hh; simp only [Bool.and_eq_true, decide_eq_true_eq] at hh; exact h hh
   simp [this]
theorem lM (L : List Dfn) (d : Dfn) (k : dw) : cE kp (L ++ [d]) k = if fC kp d = true ∧ d.key = k then better (cE kp L k) d else cE kp L k := by
 unfold cE; rw [jZ]
 by_cases h : fC kp d = true ∧ d.key = k
 · rw [if_pos h, if_pos h, List.foldl_append]; rfl
 · rw [if_neg h, if_neg h, List.append_nil]
theorem x8 {β : Type} (f : List Dfn → Dfn → β → β) (b : β) : ∀ (L P : List Dfn), L.foldl (fun (x : List Dfn × β) d => (x.1 ++ [d], f x.1 d x.2)) (P, b) = (P ++ L, (L.foldl (fun (x : List Dfn × β) d => (x.1 ++ [d], f x.1 d x.2)) (P, b)).2) := by
 intro L
 induction L generalizing b with
 | nil => intro P; simp
 | cons d L ih => intro P; rw [List.foldl_cons, ih]; simp
theorem oM {β : Type} (f : List Dfn → Dfn → β → β) (b : β) (L : List Dfn) (d : Dfn) : ((L ++ [d]).foldl (fun (x : List Dfn × β) d => (x.1 ++ [d], f x.1 d x.2)) ([], b)).2 = f L d (L.foldl (fun (x : List Dfn × β) d => (x.1 ++ [d], f x.1 d x.2)) ([], b)).2 := by
 rw [List.foldl_append, List.foldl_cons, List.foldl_nil]
 show f (L.foldl _ ([], b)).1 d _ = _
 rw [x8 f b L []]; rfl
theorem gH (L : List Dfn) (d : Dfn) (n : ByteArray) : eG kp (L ++ [d]) n = if fC kp d = true ∧ d.s.name = n ∧ dZ kp L d.key = [] then eG kp L n ++ [d.key] else eG kp L n :=
 oM (fun P d (x : List dw) => if fC kp d = true ∧ d.s.name = n ∧ dZ kp P d.key = [] then x ++ [d.key] else x) [] L d
theorem jA (L : List Dfn) (d : Dfn) : gL kp (L ++ [d]) = (gL kp L).or (if fC kp d = true ∧ d.s.bind = 1 ∧ (∃ e ∈ dZ kp L d.key, e.s.bind = 1) then some d.p else none) :=
 oM (fun P d (x : Option aK) => x.or (if fC kp d = true ∧ d.s.bind = 1 ∧ (∃ e ∈ dZ kp P d.key, e.s.bind = 1) then some d.p else none)) none L d
theorem uj {L : List Dfn} {k : dw} {d : Dfn} : d ∈ dZ kp L k ↔ d ∈ L ∧ fC kp d = true ∧ d.key = k := by unfold dZ; simp [List.mem_filter]
theorem gZ {α : Type} {motive : List α → Prop} (nil : motive []) (snoc : ∀ L d, motive L → motive (L ++ [d])) (L : List α) : motive L := by
 have : ∀ n (L : List α), L.length = n → motive L := by
   intro n
   induction n with
   | zero => intro L h; rw [List.eq_nil_of_length_eq_zero h]; exact nil
   | succ n ih =>
     intro L h
     have hne : L ≠ [] := by rintro rfl; cases h
     rw [← List.dropLast_concat_getLast hne]
     exact snoc _ _ (ih _ (by rw [List.length_dropLast, h]; rfl))
 exact this _ L rfl
theorem fg {L : List Dfn} {k : dw} : cE kp L k = none ↔ dZ kp L k = [] := by
 unfold cE
 generalize dZ kp L k = l
 induction l using gZ with
 | nil => simp
 | snoc L d ih =>
   rw [List.foldl_append, List.foldl_cons, List.foldl_nil]
   constructor
   · intro h; unfold better at h; split at h
     · cases h
     · split at h <;> cases h
   · intro h; simp at h
theorem iJ : ∀ (l : List Dfn) (o : Option Dfn) (e : Dfn), l.foldl better o = some e → e ∈ l ∨ o = some e
 | [], o, e, h => .inr h
 | d :: l, o, e, h => by
   rcases iJ l _ e h with h | h
   · exact .inl (List.mem_cons_of_mem _ h)
   · unfold better at h
     split at h
     · exact .inl (by rw [← Option.some.inj h]; exact List.mem_cons_self)
     · split at h
       · exact .inl (by rw [← Option.some.inj h]; exact List.mem_cons_self)
       · exact .inr h
theorem dP {L : List Dfn} {k : dw} {e : Dfn} (h : cE kp L k = some e) : e ∈ L ∧ fC kp e = true ∧ e.key = k := by
 rcases iJ _ _ _ h with h | h
 · exact uj.1 h
 · cases h
theorem re {L : List Dfn} {k : dw} {e : Dfn} (h : cE kp L k = some e) : ∀ d ∈ dZ kp L k, fG e ≤ fG d := by
 unfold cE at h
 generalize dZ kp L k = l at h
 induction l using gZ generalizing e with
 | nil => cases h
 | snoc L d ih =>
   rw [List.foldl_append, List.foldl_cons, List.foldl_nil] at h
   intro x hx
   unfold better at h
   split at h
   · rename_i hn
     have : L = [] := by
       cases hL : L with
       | nil => rfl
       | cons a l => rw [hL] at hn; exact absurd hn (by
           have : ∀ (l : List Dfn) (a : Dfn), l.foldl better (some a) ≠ none := fun l => by
             induction l with
             | nil => intro a h; cases h
             | cons b l ih => intro a; rw [List.foldl_cons]; unfold better; split
                              · rename_i h; cases h
                              · split
                                · exact ih _
                                · exact ih _
           exact this l a)
     subst this
     simp at hx h; subst hx; subst h; exact Int.le_refl _
   · rename_i e0 he0
     split at h
     · rename_i hlt
       obtain rfl := Option.some.inj h
       rcases List.mem_append.1 hx with hx | hx
       · have := ih he0 x hx; omega
       · rw [List.mem_singleton.1 hx]; exact Int.le_refl _
     · rename_i hlt
       obtain rfl := Option.some.inj h
       rcases List.mem_append.1 hx with hx | hx
       · exact ih he0 x hx
       · rw [List.mem_singleton.1 hx]; omega
end
end Go.Proofs.YtgmiihmahaahiaaGreatDoor

