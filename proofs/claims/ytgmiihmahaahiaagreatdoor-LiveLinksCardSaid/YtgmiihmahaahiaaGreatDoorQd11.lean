/- Parts of the proof, in build order. No condition. -/
import Derived.Test.YtgmiihmahaahiaaGreatDoorQd07
import Derived.Test.YtgmiihmahaahiaaGreatDoorQd04
import Derived.Test.YtgmiihmahaahiaaGreatDoorQd03
import Derived.Test.YtgmiihmahaahiaaGreatDoorQd10
import Derived.Test.YtgmiihmahaahiaaGreatDoorQd02
import Derived.Shelf.Slices.Clone
import Derived.Shelf.Slices.Reverse
import Derived.Shelf.Slices.In.SortNone
import Derived.Test.YtgmiihmahaahiaaGreatDoorQd05
import Derived.Test.YtgmiihmahaahiaaGreatDoorQd08
import Derived.Test.YtgmiihmahaahiaaGreatDoorQd06
set_option linter.unusedSimpArgs false
set_option linter.unusedVariables false
set_option maxHeartbeats 1000000
set_option maxRecDepth 20000
namespace Go.Sy
open Go.RowKit Go.Lp
section
variable {P : Program} {n : Fr} {env : Env} {ps : List Per} {hp : List Res} {ty : TypeId} {pos : String} {af : Array Edge} {gd : Option (Nat × Bool)} {d : Option Tmp} {E T : TypeId} {sz : Nat} {x y : Operand} {c : Code} {Q : Exit → Sta → Prop}
theorem fU {B m cp : Nat} (k : Nat) (hel : elB P T E sz = true) (hx : ev env x = some (true, .slice (some ⟨B, 0, none⟩) m cp)) {z : Int} (hy : ev env y = some (true, .int .i64 z)) (hz : z = (k : Int)) (hk : k < m) :
   Quiet P n ⟨d, .indexAddr T x y, ty, pos, af, gd⟩ ⟨env, ps, hp⟩ (.pointer (some ⟨B, k * sz, none⟩)) := fun w S fp a hst he hn => by
 subst hz
 obtain ⟨hT, it, hit, _, hsz, _⟩ := dL hel
 have h1 := he.val hx rfl
 have h2 := he.val hy rfl
 have : (execOp a.eval ⟨d, .indexAddr T x y, ty, pos, af, gd⟩).run P w = .ok (.value (.pointer (some ⟨B, k * sz, none⟩))) w := by
   unfold execOp; dsimp only; rw [h1, h2]
   show ((Instr.indexAt T (.slice (some ⟨B, 0, none⟩) m cp) (.int .i64 k)).bind fun r => Sem.pure (Next.value r)).run P w = _
   have hE : P.elem T = E := by unfold Program.elem; rw [hT]
   rw [Sem.run_bind', run_indexAt_slice _ _ _ _ _ _ _ (by rw [hE]; exact hT), if_pos (by omega), hE, dm hit, hsz]
   simp only [Result.andThen, Int.toNat_natCast]
   unfold Addr.add
   split
   · rename_i h0; rw [h0]; rfl
   · simp only [Nat.zero_add]; rfl
 rw [this]; exact ck _ _
theorem eH (i : Nat) {v : Value} {rows : List (List D)} (hi : hp[i]? = some (bg v E sz rows)) (h0 : rows ≠ []) (h : ∀ B cp, v = .slice (some ⟨B, 0, none⟩) rows.length cp → awp P n c Q ⟨env, ps, hp⟩) : awp P n c Q ⟨env, ps, hp⟩ :=
 l8 (φ := ∃ B cp, v = .slice (some ⟨B, 0, none⟩) rows.length cp) i hi (fun w S F hh => by
   rcases hh with ⟨_, h1, _⟩ | ⟨B, cp, h1, _⟩
   · exact (h0 h1).elim
   · exact ⟨B, cp, h1⟩) (fun ⟨B, cp, e⟩ => h B cp e)
end
end Go.Sy
namespace Go.Proofs.YtgmiihmahaahiaaGreatDoor
open Go.RowKit Go.Lp Go.Sy Go.Sort Go.Shelf
open Go.Proofs.Tryz
abbrev encI (z : Int) : Value := .int .i64 z
def fO (zs : List Int) : List Int := zs.mergeSort fun x y => decide (x ≤ y)
theorem pJ {v : Value} {T : TypeId} (zs : List Int) (hz : zs.length < 4611686018427387904) : Con Tryz.prog 219 [v] [] [bg v T 1 (bS encI zs)] fun _ ps' hp' => ps' = [] ∧ hp' = [bg v T 1 (bS encI (fO zs))] := by
 have hlen : (fO zs).length = zs.length := List.length_mergeSort _
 refine kL (zs1 := fO zs) (rest := []) (fun _ => rfl) (by simp [hlen]) (fun hv hz w => ?_) (fun b cap w hv hb hc hm hH => ?_)
 · subst hv; subst hz
   refine (Any.slices_Sort_int_none Tryz.lays189 none 0 w).mono fun e w' ⟨he, hw⟩ => ⟨_, he, hw, rfl, ?_⟩
   rw [show fO [] = [] by simp [fO]]
 · refine (Any.slices_Sort_int Tryz.lays189 b 0 cap zs w hH hb hz).mono fun e w' ⟨he, n, os, hw⟩ => ⟨⟨_, he, rfl, by rw [hlen, hv]⟩, n, os, by rw [List.append_nil]; exact hw⟩
theorem ly {v : Value} {T : TypeId} (zs : List Int) : Con Tryz.prog 220 [v] [] [bg v T 1 (bS encI zs)] fun r ps' hp' => ps' = [] ∧ ∃ ad c, r = .slice ad (Lib.compact zs).length c ∧ hp' = [bg r T 1 (bS encI (Lib.compact zs))] := by
 have hle : (Lib.compact zs).length ≤ zs.length := by
   unfold Lib.compact Lib.compactUpTo
   rw [List.length_map]
   exact Nat.le_trans (List.length_filter_le _ _) (by simp)
 refine kL (zs1 := Lib.compact zs) (rest := List.replicate (zs.length - (Lib.compact zs).length) 0) (fun _ => rfl) (by simp; omega) (fun hv hz w => ?_) (fun b cap w hv hb hc hm hH => ?_)
 · subst hv; subst hz
   refine (Any.slices_Compact_int_empty Tryz.lays20 none 0 w).mono fun e w' ⟨he, hw⟩ => ⟨_, he, hw, rfl, none, 0, rfl, rfl⟩
 · refine (Any.slices_Compact_int Tryz.lays20 b 0 cap zs w hH (by unfold maxLen at hm; omega) hc).mono fun e w' ⟨he, n, hw⟩ => ⟨⟨_, he, rfl, _, _, rfl, rfl⟩, n, #[], ?_⟩
   rw [Sort.grow_empty]; exact hw
theorem rE {v : Value} {T : TypeId} (zs : List Int) : Con Tryz.prog 266 [v] [] [bg v T 1 (bS encI zs)] fun _ ps' hp' => ps' = [] ∧ hp' = [bg v T 1 (bS encI zs.reverse)] := by
 refine kL (zs1 := zs.reverse) (rest := []) (fun _ => rfl) (by simp) (fun hv hz w => ?_) (fun b cap w hv hb hc hm hH => ?_)
 · subst hv; subst hz
   exact (Any.slices_Reverse_int_empty Tryz.lays112 none 0 w).mono fun e w' ⟨he, hw⟩ => ⟨_, he, hw, rfl, rfl⟩
 · refine (Any.slices_Reverse_int Tryz.lays112 b 0 cap zs w hH (by unfold maxLen at hm; omega)).mono fun e w' ⟨he, n, hw⟩ => ⟨⟨_, he, rfl, by rw [List.length_reverse, hv]⟩, n, #[], ?_⟩
   rw [Sort.grow_empty, List.append_nil]; exact hw
theorem uD {ad : Option Addr} {c : Nat} (zs : List Int) (hz : zs.length ≤ 1000000) : Con Tryz.prog 80 [.slice ad zs.length c] [Sh (.slice ad zs.length c) (.sl (bS encI zs))] [] fun r ps' hp' => ps' = [] ∧ hp' = [bg r 3 1 (bS encI zs)] :=
 (oA ⟨ad, c, zs⟩ hz).post fun _ _ _ ⟨h1, _, _, h2, h3⟩ => ⟨h1, by rw [h2]; exact h3⟩
end Go.Proofs.YtgmiihmahaahiaaGreatDoor

namespace Go.Proofs.YtgmiihmahaahiaaGreatDoor
open Go.RowKit Go.Lp Go.Sy
open Go.Proofs.Tryz
attribute [local irreducible] aL aB awp aC fwp
def fT (L : List (List Int)) (a : dy) : List (List Int) := L.set a.from_.toNat (L.getD a.from_.toNat [] ++ [a.to_])
def dJ (N : Nat) (l : List dy) : List (List Int) := l.foldl fT (List.replicate N [])
theorem kE (L : List (List Int)) (a : dy) : (fT L a).length = L.length := by simp [fT]
theorem mi (l : List dy) : ∀ L : List (List Int), (l.foldl fT L).length = L.length := by
 induction l with
 | nil => intro L; rfl
 | cons a l ih => intro L; rw [List.foldl_cons, ih, kE]
theorem dI (N : Nat) (l : List dy) : (dJ N l).length = N := by unfold dJ; rw [mi]; simp
theorem tB (N : Nat) (l : List dy) {k : Nat} {a : dy} (h : l[k]? = some a) : dJ N (l.take (k + 1)) = fT (dJ N (l.take k)) a := by
 unfold dJ; rw [List.take_add_one, h, List.foldl_append]; rfl
theorem mJ (l : List dy) : ∀ (L : List (List Int)) (m : Nat), (∀ r ∈ L, r.length ≤ m) → ∀ r ∈ l.foldl fT L, r.length ≤ m + l.length := by
 induction l with
 | nil => intro L m h r hr; exact h r hr
 | cons a l ih =>
   intro L m h r hr
   rw [List.foldl_cons] at hr
   have := ih (fT L a) (m + 1) (fun r hr => by
     unfold fT at hr
     rcases List.mem_or_eq_of_mem_set hr with h1 | rfl
     · exact Nat.le_succ_of_le (h r h1)
     · have : (L.getD a.from_.toNat []).length ≤ m := by
         by_cases hlt : a.from_.toNat < L.length
         · rw [show L.getD a.from_.toNat [] = L[a.from_.toNat] by simp [List.getD, hlt]]; exact h _ (List.getElem_mem hlt)
         · rw [show L.getD a.from_.toNat [] = [] by simp [List.getD, Nat.not_lt.1 hlt]]; exact Nat.zero_le _
       rw [List.length_append, List.length_singleton]; omega) r hr
   rw [List.length_cons]; omega
theorem qm (N : Nat) (l : List dy) {r : List Int} (h : r ∈ dJ N l) : r.length ≤ l.length := by
 have := mJ l (List.replicate N []) 0 (fun r hr => by rw [(List.mem_replicate.1 hr).2]; exact Nat.le_refl _) r h
 omega
def di (zs : List Int) : List Int := Lib.compact (fO zs)
def fq (N : Nat) (l : List dy) : List (List Int) := (dJ N l).map di
def gq (L : List (List Int)) (k : Nat) : List (List Int) := (L.take k).map di ++ L.drop k
theorem kz (L : List (List Int)) (k : Nat) (h : k ≤ L.length) : (gq L k).length = L.length := by simp [gq]; omega
theorem uS {L : List (List Int)} {k : Nat} {x : List Int} (h : L[k]? = some x) : (gq L k)[k]? = some x := by
 have hk := (List.getElem?_eq_some_iff.1 h).1
 unfold gq
 rw [List.getElem?_append_right (by simp; omega)]
 simp only [List.length_map, List.length_take, List.getElem?_drop]
 rw [show k + (k - min k L.length) = k by omega]; exact h
theorem tG {L : List (List Int)} {k : Nat} {x : List Int} (h : L[k]? = some x) : (gq L k).set k (di x) = gq L (k + 1) := by
 have hk := (List.getElem?_eq_some_iff.1 h).1
 unfold gq
 rw [List.set_append_right _ _ (by simp; omega), List.take_add_one, h, List.map_append, List.append_assoc]
 congr 1
 rw [List.length_map, List.length_take, show k - min k L.length = 0 by omega, List.drop_eq_getElem_cons hk, List.set_cons_zero]
 rfl
theorem p6 (vs : List Value) (k : Nat) (v : Value) : dU (vs.set k v) = (dU vs).set k [.v v] := by simp [dU, List.map_set]
theorem xO {P : Program} {n : Fr} {env : Env} {ps : List Per} {hp : List Res} {c : Code} {Q : Exit → Sta → Prop} {α : Type} {enc : α → Value} {vo : Value} {T E : TypeId} {l : List (List α)} (i : Nat) (hi : hp[i]? = some (mK vo T E enc l)) (h : ∀ ad cp, vo = .slice ad l.length cp → awp P n c Q ⟨env, ps, hp⟩) : awp P n c Q ⟨env, ps, hp⟩ :=
 l8 (φ := ∃ ad cp, vo = .slice ad l.length cp) i hi (fun w S F hh => by
   obtain ⟨vs, hl, G, H, hG, hH, _, e⟩ := hh
   rcases hG with ⟨h1, h2, _⟩ | ⟨B, cp, h1, _⟩
   · refine ⟨none, 0, ?_⟩
     have : vs = [] := by simpa [dU] using h2
     subst this
     rw [← hl]; exact h1
   · exact ⟨_, cp, by rw [h1, qH, hl]⟩) (fun ⟨ad, cp, e⟩ => h ad cp e)
set_option maxHeartbeats 1000000 in
theorem yW (N : Nat) (hN : N ≤ 1000000) (l : Sl dy) (hl : l.l.length ≤ 1000000) (hr : ∀ a ∈ l.l, 0 ≤ a.from_ ∧ a.from_ < N) :
   Con Tryz.prog 221 [.int .i64 N, l.val] [ShF dy.row l] [] fun r ps hp => ps = [] ∧ hp = [mK r 90 3 encI (fq N l.l)] := by
 refine Con.enter Tryz.func221 rfl (by simp [Tryz.ntmps221]) ?_
 show awp _ _ _ _ ⟨[(0, true, _), (1, true, _)], _, _⟩
 refine aSR (aA rfl (aNn (aSR (aM rfl ?_))))
 refine an (q := true) rfl (iC (m := N) (zs := [.slice none 0 0]) el288 (by kernel_rfl) rfl (by decide) (eJ rfl (rfl)) (eJ rfl (rfl)) (by omega) rfl (fun v1_1 => ?_))
 refine aHN ?_
 refine aA rfl (aNs (aH (td (α := Int) (E := 3) (enc := encI) 0 N rfl ?_)))
 refine bA (.of (aF 0 rfl)) (fun hlen => ?_)
 refine aj (aM rfl (aU rfl (aZ Tryz.underlying141 rfl) (aM rfl (aNn (aI (aT [5, 11, 12, 13] [0] [0] (fun (k : Nat) s => k ≤ l.l.length ∧ ∃ vo, s = ⟨[(5, true, vo), (11, true, l.val), (12, true, .int .i64 l.l.length), (13, true, .int .i64 k)], [ShF dy.row l], [mK vo 90 3 encI (dJ N (l.l.take k))]⟩) (fun k => l.l.length - k) rfl (⟨0, Nat.zero_le _, _, rfl⟩) ?_))))))
 rintro k s ⟨hk, vo, rfl⟩
 refine aSR (aU rfl (bw rfl rfl) (aNs ?_))
 refine al _ rfl (fun h1 => ?_) (fun h1 => ?_)
 ·skip
  have hk' : k < l.l.length := by simpa using h1
  obtain ⟨a, ha⟩ : ∃ a, l.l[k]? = some a := ⟨l.l[k]'hk', by simp⟩
  have har := hr a (List.mem_of_getElem? ha)
  refine aq (az (aH (aI (aSR ?_))))
  refine cJ true rfl rfl (fun _ => av Tryz.underlying141 tk215 rfl ((.of (aF 0 rfl))) rfl (aQ ha) rfl rfl) (fun h => absurd h (by decide)) (fun ⟨b4_0, o4_0⟩ => ?_)
  refine aU rfl (aP (o := 0) tk215 rfl (aF 0 rfl) rfl rfl) ?_
  refine an (q := true) rfl (bc (zs := [.int .i64 0, .int .i64 0]) (by kernel_rfl) rfl (fun b4_2 => ?_))
  refine aHN ?_
  refine an rfl (aV 1 tk215 rfl rfl rfl rfl ?_)
  refine aHK ?_
  refine aNn ?_
  have hkk : a.from_.toNat < (dJ N (l.l.take k)).length := by rw [dI]; omega
  obtain ⟨xr, hxr⟩ : ∃ xr, (dJ N (l.l.take k))[a.from_.toNat]? = some xr := ⟨(dJ N (l.l.take k))[a.from_.toNat]'hkk, by simp⟩
  have hxl : xr.length ≤ 1000000 := by have := qm N _ (List.mem_of_getElem? hxr); rw [List.length_take] at this; omega
  refine k9 0 a.from_.toNat rfl hxr (fun vs v hvl hv => ?_)
  rw [dI] at hvl
  have hne : dU vs ≠ [] := fun h0 => by
    have := congrArg List.length h0
    simp [dU, hvl] at this; omega
  refine eH 0 rfl hne (fun B cp hvo => ?_)
  have hvr : (dU vs).length = N := by simp [dU, hvl]
  rw [hvr] at hvo
  subst hvo
  have hrow : (dU vs)[a.from_.toNat]? = some [.v v] := by simp [dU, hv]
  show awp _ _ _ _ ⟨_, _, [_, _, _, _]⟩
  refine cP [11, 13] [13] [b4_2] (by kernel_rfl) ?_
  show aC _ _ _ _ _ _ _ 14 #[false, false, false, false, false, false, false, false, false, false, false, false, false, false] _
  refine bt 0 rfl (by kernel_rfl) true rfl rfl (fun _ => aD rfl) ?_
  refine bt 1 rfl (by kernel_rfl) true rfl rfl (fun _ => qFA (off := 0) rfl) ?_
  refine db 2 1 rfl (by kernel_rfl) true rfl rfl (by simp) tk3 (fun _ => rfl) rfl rfl ?_
  refine bt 3 rfl (by kernel_rfl) true rfl rfl (fun _ => aD rfl) ?_
  refine bt 4 rfl (by kernel_rfl) true rfl rfl (fun _ => qFA (off := 0) rfl) ?_
  refine db 5 1 rfl (by kernel_rfl) true rfl rfl (by simp) tk3 (fun _ => rfl) rfl rfl ?_
  refine bt 6 rfl (by kernel_rfl) true rfl rfl (fun _ => fU a.from_.toNat el288 rfl rfl (by omega) (by omega)) ?_
  refine mO 7 rfl (by kernel_rfl) true rfl rfl (fun _ => eF (v := .slice (some ⟨B, 0, none⟩) N cp) (u := v) 0 a.from_.toNat 0 tk90 rfl rfl hrow rfl rfl) ?_
  refine bt 8 rfl (by kernel_rfl) true rfl rfl (fun _ => qFA (off := 1) rfl) ?_
  refine db 9 1 rfl (by kernel_rfl) true rfl rfl (by simp) tk3 (fun _ => rfl) rfl rfl ?_
  refine cq 10 [] (by kernel_rfl) (bL ?_ bX)
  refine cR 10 rfl rfl (Eff.x ?_)
  refine id (cB (zs := [.int .i64 0]) (l := [(0, .tmp 26)]) el90 (by kernel_rfl) (by decide) (by decide) (by decide) rfl rfl rfl (.more rfl (.v rfl .nil) .nil) rfl rfl (fun v5_10 => ?_))
  refine dD (by (try simp only [nO, nK, nL]); rfl) (by (try simp only [nM, nN]); rfl) (by (try simp only [bK, nQ, nR, dp, place, Nat.reduceBEq, if_true, if_false, reduceIte, Nat.reduceAdd, nW]); rfl) ?_
  refine cq 11 [] (by kernel_rfl) (bL ?_ bX)
  refine cR 11 rfl rfl (Eff.framed (q := false) [2, 4] rfl rfl (jq 1 rfl rfl qN) ?_)
  refine id (cL 0 el90 rfl rfl rfl rfl (dR 1 el90 rfl (by simp)) (by first | assumption | simp) (by simp [cT]; omega) _ rfl (fun v5_11 c5_11 => ?_))
  refine kQ ?_
  refine dD (by (try simp only [nO, nK, nL]); rfl) (by (try simp only [nM, nN]); rfl) (by (try simp only [bK, nQ, nR, dp, place, Nat.reduceBEq, if_true, if_false, reduceIte, Nat.reduceAdd, nW]); rfl) ?_
  refine bt 12 rfl (by kernel_rfl) true rfl rfl (fun _ => fU a.from_.toNat el288 rfl rfl (by omega) (by omega)) ?_
  refine cq 13 [] (by kernel_rfl) (bL ?_ bX)
  refine cR 13 rfl rfl (Eff.wild (q := false) ?_)
  refine eK 0 a.from_.toNat 0 tk90 rfl rfl rfl hrow rfl (.v rfl .nil) rfl (by decide) ?_
  refine dD (by (try simp only [nO, nK, nL]); rfl) (by (try simp only [nM, nN]); rfl) (by (try simp only [bK, nQ, nR, dp, place, Nat.reduceBEq, if_true, if_false, reduceIte, Nat.reduceAdd, nW]); rfl) ?_
  refine eN (by kernel_rfl) ?_
  refine bB (az ?_)
  refine nq (hp' := [bg (.slice (some ⟨B, 0, none⟩) N cp) 90 1 (dU (vs.set a.from_.toNat (.slice v5_11 (xr.length + 1) c5_11))), _, bg (.slice v5_11 (xr.length + 1) c5_11) 3 1 (bS encI (xr ++ [a.to_])), fA ((inner 3 encI vs (dJ N (l.l.take k))).set a.from_.toNat emp), _]) (by rw [p6, cT]; simp [bS, qM]; exact ⟨rfl, rfl⟩) ?_
  refine ko 0 2 3 a.from_.toNat rfl rfl rfl rfl rfl rfl (by rw [hvl, dI]) hkk ?_
  show awp _ _ _ _ ⟨_, _, [_, _, _, _, _]⟩
  refine aj ?_
  refine aU rfl (bd rfl rfl (by omega)) ?_
  refine aM rfl (aNn ?_)
  refine ⟨[5, 11, 12, 13], [0], [0], rfl, ?_⟩
  refine ⟨k + 1, ⟨by omega, .slice (some ⟨B, 0, none⟩) N cp, ?_⟩, by omega⟩
  rw [tB _ _ ha, show fT (dJ N (l.l.take k)) a = (dJ N (l.l.take k)).set a.from_.toNat (xr ++ [a.to_]) by unfold fT; rw [List.getD_eq_getElem?_getD, hxr]; rfl]
  rfl
 ·skip
  have hkl : k = l.l.length := by simp at h1; omega
  rw [hkl, List.take_length]
  refine aX (aY (aY (bf (az (aH (aH ?_))))))
  refine xO 0 rfl (fun ad cp hvo => ?_)
  rw [dI] at hvo
  subst hvo
  refine aj (aM rfl (aU rfl (aZ Tryz.underlying288 rfl) (aM rfl (aNn (aI ?_)))))
  refine aT [5, 32, 33] [] [0] (fun (j : Nat) s => j ≤ N ∧ s = ⟨[(5, true, .slice ad N cp), (32, true, .int .i64 N), (33, true, .int .i64 j)], [], [mK (.slice ad N cp) 90 3 encI (gq (dJ N l.l) j)]⟩) (fun j => N - j) rfl (⟨0, Nat.zero_le _, by rw [show gq (dJ N l.l) 0 = dJ N l.l by simp [gq]]; rfl⟩) ?_
  rintro j s ⟨hj, rfl⟩
  refine aSR (aU rfl (bw rfl rfl) (aNs ?_))
  refine al _ rfl (fun h2 => ?_) (fun h2 => ?_)
  ·skip
   have hj' : j < N := by simpa using h2
   have hjj : j < (dJ N l.l).length := by rw [dI]; omega
   obtain ⟨xr, hxr⟩ : ∃ xr, (dJ N l.l)[j]? = some xr := ⟨(dJ N l.l)[j]'hjj, by simp⟩
   have hxl : xr.length ≤ 1000000 := by have := qm N _ (List.mem_of_getElem? hxr); omega
   refine aq (az (aH (aI (aSR (aM rfl (aA rfl (aNs ?_)))))))
   refine k9 0 j rfl (uS hxr) (fun vs v hvl hv => ?_)
   rw [kz _ _ (by rw [dI]; omega), dI] at hvl
   have hne : dU vs ≠ [] := fun h0 => by
     have := congrArg List.length h0
     simp [dU, hvl] at this; omega
   refine eH 0 rfl hne (fun B cp2 hvo => ?_)
   obtain ⟨rfl, rfl⟩ : ad = some ⟨B, 0, none⟩ ∧ cp = cp2 := by simp at hvo; exact ⟨hvo.1, hvo.2.2⟩
   have hrow : (dU vs)[j]? = some [.v v] := by simp [dU, hv]
   show awp _ _ _ _ ⟨_, _, [_, _, _]⟩
   refine aj (aM rfl (aM rfl ?_))
   refine aU rfl (fU j el288 rfl rfl (by omega) (by omega)) ?_
   refine aU rfl (eF (v := .slice (some ⟨B, 0, none⟩) N cp) (u := v) 0 j 0 tk90 rfl rfl hrow rfl rfl) ?_
   refine an (q := false) rfl (bH [] [1] (by kernel_rfl) rfl rfl rfl rfl (pJ _ (by omega)) ?_)
   rintro _ _ _ ⟨rfl, rfl⟩
   refine aST ?_
   refine aNn (aj (aM rfl (aM rfl (aM rfl (aM rfl ?_)))))
   refine aU rfl (fU j el288 rfl rfl (by omega) (by omega)) ?_
   refine aU rfl (eF (v := .slice (some ⟨B, 0, none⟩) N cp) (u := v) 0 j 0 tk90 rfl rfl hrow rfl rfl) ?_
   refine an (q := false) rfl (bH [] [1] (by kernel_rfl) rfl rfl rfl rfl (ly _) ?_)
   rintro r11 _ _ ⟨rfl, ad2, c2, rfl, rfl⟩
   refine aST ?_
   refine aU rfl (fU j el288 rfl rfl (by omega) (by omega)) ?_
   refine an (q := false) rfl (eK 0 j 0 tk90 rfl rfl rfl hrow rfl (.v rfl .nil) rfl (by decide) ?_)
   refine cn (bB (az ?_))
   refine nq (hp' := [bg (.slice (some ⟨B, 0, none⟩) N cp) 90 1 (dU (vs.set j (.slice ad2 (Lib.compact (fO xr)).length c2))), bg (.slice ad2 (Lib.compact (fO xr)).length c2) 3 1 (bS encI (di xr)), fA ((inner 3 encI vs (gq (dJ N l.l) j)).set j emp)]) (by rw [p6]; simp [qM]; rfl) ?_
   refine ko 0 1 2 j rfl rfl rfl rfl rfl rfl (by rw [hvl, kz _ _ (by rw [dI]; omega), dI]) (by rw [kz _ _ (by rw [dI]; omega)]; exact hjj) ?_
   show awp _ _ _ _ ⟨_, _, [_, _, _]⟩
   refine aj ?_
   refine aU rfl (bd rfl rfl (by omega)) ?_
   refine aM rfl (aNn ?_)
   refine ⟨[5, 32, 33], [], [0], rfl, ?_⟩
   refine ⟨j + 1, ⟨by omega, ?_⟩, by omega⟩
   rw [← tG hxr]; rfl
  ·skip
   have hjl : j = N := by simp at h2; omega
   subst hjl
   have e : gq (dJ j l.l) j = fq j l.l := by have := dI j l.l; unfold gq fq; rw [List.take_of_length_le (by omega), List.drop_of_length_le (by omega), List.append_nil]
   rw [e]
   refine aX (aY (aY (bf (az (aSR (aM rfl (aA rfl (aNn (aJ ?_)))))))))
   refine br [] [0] rfl Tryz.results221 rfl ?_ (.inr rfl)
   exact ⟨rfl, rfl⟩
end Go.Proofs.YtgmiihmahaahiaaGreatDoor


namespace Go.Proofs.YtgmiihmahaahiaaGreatDoor
open Go.RowKit Go.Lp Go.Sy
open Go.Proofs.Tryz
attribute [local irreducible] aL aB awp aC fwp
theorem ab9 (N : Nat) (hN : N ≤ 1000000) (w : World) : Calls Tryz.prog 78 #[.int .u64 (IntKind.u64.wrap 1), .int .u64 (IntKind.u64.wrap (N : Int))] w fun e w' => e = .returned (.tuple #[.int .u64 0, .int .u64 N]) ∧ Go.Sy.Below w.heap.size w w' := by
 have h := Any.bits_Mul Tryz.lays212 1 N (by omega) (by omega) w
 have e1 : IntKind.u64.wrap 1 = 1 := by decide
 have e2 : IntKind.u64.wrap (N : Int) = N := by rw [IntKind.wrap_u64]; omega
 rw [e1, e2]
 refine h.mono fun e w' ⟨h1, h2⟩ => ⟨?_, by rw [h2]; exact Go.Sy.Below.refl _ _⟩
 rw [h1]
 have e3 : 1 * N / 18446744073709551616 = 0 := by omega
 have e4 : 1 * N % 18446744073709551616 = N := by omega
 rw [e3, e4]; rfl
theorem wrapN (N : Nat) (hN : N ≤ 1000000) : IntKind.i64.wrap (N : Int) = N := by rw [IntKind.wrap_i64]; omega
def part (N k : Nat) (v : Int) : List Int := List.replicate k v ++ List.replicate (N - k) 0
theorem sV {N k : Nat} (v : Int) (h : k ≤ N) : (part N k v).length = N := by simp [part]; omega
theorem xM {N k j : Nat} (v : Int) (hj : j ≤ k) (h : k + j ≤ N) : (part N k v).take k ++ (part N k v).take j ++ (part N k v).drop (k + j) = part N (k + j) v := by
 unfold part
 rw [List.take_append_of_le_length (by simp), List.take_append_of_le_length (by simpa using hj), List.drop_append, List.drop_of_length_le (by simp)]
 simp only [List.take_replicate, List.drop_replicate, List.length_replicate, List.nil_append, Nat.min_self, Nat.min_eq_left hj]
 rw [List.replicate_append_replicate]
 congr 2; omega
theorem tC {ad : Option Addr} {c : Nat} (v : Int) : Con Tryz.prog 218 [.slice ad 1 c, .int .i64 ((0 : Nat) : Int)] [Sh (.slice ad 1 c) (.sl (bS encI [v]))] [] fun r ps hp => ps = [] ∧ hp = [bg r 3 1 (bS encI [])] := by
 refine Con.enter Tryz.func218 rfl (by simp [Tryz.ntmps218]) ?_
 show awp _ _ _ _ ⟨[(0, true, _), (1, true, _)], _, _⟩
 refine aSR (aA rfl (aNs (aSR (aM rfl (aU rfl (bw rfl rfl) (aNn ?_))))))
 refine al _ rfl (fun h1 => ?_) (fun h1 => ?_)
 ·skip
  exact absurd h1 (by simp)
 ·skip
  refine aq (az (aSR (aM rfl (aU rfl (aZ Tryz.underlying90 rfl) ?_))))
  refine aU rfl (dh (by kernel_rfl) Tryz.underlying147 rfl) ?_
  refine aM rfl ?_
  refine aU rfl (dh (by kernel_rfl) Tryz.underlying147 rfl) ?_
  refine aU rfl (bC (by kernel_rfl) rfl (fun w S fp hst => ab9 0 (by omega) w)) ?_
  refine aM rfl (aU rfl (bD rfl rfl) (aU rfl (bD rfl rfl) (aA rfl (aA rfl (aNs (aSR (aM rfl (aU rfl (cN rfl rfl) (aM rfl (aG rfl rfl (fun hc => aD rfl) (aG rfl rfl (fun hc => cN (ae rfl hc) rfl) (aU rfl (bY rfl rfl (fun h => gf rfl h)) (aNn ?_)))))))))))))
  refine al _ rfl (fun h2 => ?_) (fun h2 => ?_)
  ·skip
   exact absurd h2 (by decide)
  ·skip
   refine aq (az (aSR (aM rfl ?_)))
   refine aU rfl (dh (by kernel_rfl) Tryz.underlying3 rfl) ?_
   refine an (q := true) rfl (iC (m := 0) (zs := [.int .i64 0]) el90 (by kernel_rfl) rfl (by decide) (eJ rfl (rfl)) (eJ rfl (rfl)) (by omega) rfl (fun v6_2 => ?_))
   refine aHN ?_
   refine aA rfl (aNn (aSR (aM rfl (aM rfl (aU rfl (wG el90 rfl rfl) ?_)))))
   refine aA rfl (aNs (aI (aT [7, 8] [] [0] (fun (k : Nat) s => s = ⟨[(7, true, .slice v6_2 0 0), (8, true, .int .i64 0)], [], [bg (.slice v6_2 0 0) 3 1 (bS encI [])]⟩) (fun k => k) rfl (⟨0, rfl⟩) ?_)))
   rintro k s rfl
   refine aH (aSR (aM rfl (aM rfl (aU rfl (kK 0 Tryz.underlying90 rfl rfl) (aU rfl (bw rfl rfl) (aNn ?_))))))
   refine al _ rfl (fun h3 => ?_) (fun h3 => ?_)
   ·skip
    exact absurd h3 (by decide)
   ·skip
    refine aX (aY (aY (bf (az (aSR (aM rfl (aA rfl (aNn (aJ ?_)))))))))
    refine br [] [0] rfl Tryz.results218 rfl ?_ (.inr rfl)
    exact ⟨rfl, rfl⟩
theorem tM {ad : Option Addr} {c : Nat} (v : Int) (N : Nat) (hN : N ≤ 1000000) (h0 : 0 < N) : Con Tryz.prog 218 [.slice ad 1 c, .int .i64 N] [Sh (.slice ad 1 c) (.sl (bS encI [v]))] [] fun r ps hp => ps = [] ∧ hp = [bg r 3 1 (bS encI (List.replicate N v))] := by
 refine Con.enter Tryz.func218 rfl (by simp [Tryz.ntmps218]) ?_
 show awp _ _ _ _ ⟨[(0, true, _), (1, true, _)], _, _⟩
 refine aSR (aA rfl (aNs (aSR (aM rfl (aU rfl (bw rfl rfl) (aNn ?_))))))
 refine al _ rfl (fun h1 => ?_) (fun h1 => ?_)
 ·skip
  exact absurd h1 (by simp)
 ·skip
  refine aq (az (aSR (aM rfl (aU rfl (aZ Tryz.underlying90 rfl) ?_))))
  refine aU rfl (dh (by kernel_rfl) Tryz.underlying147 rfl) ?_
  refine aM rfl ?_
  refine aU rfl (dh (by kernel_rfl) Tryz.underlying147 rfl) ?_
  refine aU rfl (bC (by kernel_rfl) rfl (fun w S fp hst => ab9 N hN w)) ?_
  refine aM rfl (aU rfl (bD rfl rfl) (aU rfl (bD rfl rfl) (aA rfl (aA rfl (aNs (aSR (aM rfl (aU rfl (cN rfl rfl) (aM rfl (aG rfl rfl (fun hc => aD rfl) (aG rfl rfl (fun hc => cN (ae rfl hc) rfl) (aU rfl (bY rfl rfl (fun h => gf rfl h)) (aNn ?_)))))))))))))
  refine al _ rfl (fun h2 => ?_) (fun h2 => ?_)
  ·skip
   exact absurd h2 (by simp; omega)
  ·skip
   refine aq (az (aH ?_))
   have hw := wrapN N hN
   refine aj (aM rfl ?_)
   refine aU rfl (dh (by kernel_rfl) Tryz.underlying3 rfl) ?_
   refine an (q := true) rfl (iC (m := N) (zs := [.int .i64 0]) el90 (by kernel_rfl) rfl (by decide) (eJ rfl (hw)) (eJ rfl (hw)) (by omega) rfl (fun v6_2 => ?_))
   refine aHN ?_
   refine aA rfl (aNs ?_)
   refine nq (hp' := [bg (.slice v6_2 N N) 3 1 (bS encI (List.replicate N 0))]) (by simp [bS]) ?_
   refine eH 0 rfl (by simp [bS]; omega) (fun B cp hvo => ?_)
   obtain ⟨rfl, rfl⟩ : v6_2 = some ⟨B, 0, none⟩ ∧ N = cp := by simp at hvo; exact ⟨hvo.1, hvo.2.2⟩
   refine aj (aM rfl (aM rfl ?_))
   refine an (q := false) rfl (wO (zs := List.replicate N 0) (xs := [v]) 0 el90 (fun _ => rfl) rfl rfl rfl rfl (by simp) (aF 0 rfl) (by simp) (by simp; omega) (by simp; omega) (part N 1 v) (by simp [part]) rfl ?_)
   refine aA rfl (aNs (aI ?_))
   refine aT [7, 8] [] [0] (fun (k : Nat) s => (1 ≤ k ∧ k ≤ N) ∧ s = ⟨[(7, true, .slice (some ⟨B, 0, none⟩) N N), (8, true, .int .i64 k)], [], [bg (.slice (some ⟨B, 0, none⟩) N N) 3 1 (bS encI (part N k v))]⟩) (fun k => N - k) rfl (⟨1, ⟨by omega, by omega⟩, rfl⟩) ?_
   rintro k s ⟨⟨hk1, hk2⟩, rfl⟩
   refine aH (aSR (aM rfl (aM rfl (aU rfl (aZ Tryz.underlying90 rfl) (aU rfl (bw rfl rfl) (aNn ?_))))))
   refine al _ rfl (fun h3 => ?_) (fun h3 => ?_)
   ·skip
    have hkN : k < N := by simp at h3; omega
    obtain ⟨j, hj⟩ : ∃ j, j = min k (N - k) := ⟨_, rfl⟩
    refine aq (az (aI ?_))
    refine bp [7] (by kernel_rfl) ?_
    show aB _ _ _ _ _ 10 #[false, false, false, false, false, false, false, false, false, false] _
    refine tJ 0 rfl (by kernel_rfl) true rfl rfl (fun _ => aD rfl) ?_
    refine bV 1 rfl rfl (aD rfl) ?_
    refine bV 2 rfl rfl (aD rfl) ?_
    refine bV 3 rfl rfl (lQ k (N - k) k el90 rfl rfl rfl hkN (Nat.le_refl _) rfl (by omega)) ?_
    refine bV 4 rfl rfl (aD rfl) ?_
    refine bV 5 rfl rfl (aD rfl) ?_
    refine bV 6 rfl rfl (qn k el90 rfl rfl rfl (by omega) (Nat.le_refl _)) ?_
    refine cg (q := false) 7 rfl (by kernel_rfl) rfl rfl (vZ (zs := part N k v) 0 el90 (fun _ => rfl) rfl rfl rfl rfl (sV v hk2) j hj (by rw [sV v hk2]; omega) (part N (k + j) v) (xM v (by omega) (by omega)) ?_)
    refine bST rfl ?_
    refine bV 8 rfl rfl (bd rfl rfl (by omega)) ?_
    refine bV 9 rfl rfl (cz rfl) ?_
    refine bO (by kernel_rfl) ?_
    refine bB (az ?_)
    refine ⟨[7, 8], [], [0], rfl, ?_⟩
    refine ⟨k + j, ⟨⟨by omega, by omega⟩, ?_⟩, by omega⟩
    rw [Int.natCast_add]; rfl
   ·skip
    have hkN : k = N := by simp at h3; omega
    subst hkN
    rw [show part k k v = List.replicate k v by simp [part]]
    refine aX (aY (aY (bf (az (aSR (aM rfl (aA rfl (aNn (aJ ?_)))))))))
    refine br [] [0] rfl Tryz.results218 rfl ?_ (.inr rfl)
    exact ⟨rfl, rfl⟩
end Go.Proofs.YtgmiihmahaahiaaGreatDoor

namespace Go.Lv
open Go.Sy
abbrev BS := List Int × List Int
def dX (N : Nat) (s : BS) (v : Int) : BS := if 0 ≤ v ∧ v < N then (s.1.set v.toNat v, s.2 ++ [v]) else s
def dK (N : Nat) (rs : List Int) : BS := rs.foldl (dX N) (List.replicate N (-1), [])
def visit (u : Int) (s : BS) (x : Int) : BS := if elt s.1 x < 0 then (s.1.set x.toNat u, s.2 ++ [x]) else s
def pe (out : List (List Int)) (s : BS) (k : Nat) : BS := match s.2[k]? with
 | none => s
 | some u => (elt out u).foldl (visit u) s
def bfs (out : List (List Int)) (s : BS) : Nat → BS
 | 0 => s
 | k + 1 => pe out (bfs out s k) k
def aab (b : List Int) : Nat := b.countP (fun z => decide (z < 0))
theorem wk {b : List Int} {x y u : Int} (h0 : 0 ≤ x) (h1 : x < b.length) (hy : 0 ≤ y) : elt (b.set x.toNat u) y = if x = y then u else elt b y := by
 unfold elt
 rw [List.getD_eq_getElem?_getD, List.getD_eq_getElem?_getD, List.getElem?_set]
 have hx : x.toNat < b.length := by omega
 by_cases h : x = y
 · subst h; rw [if_pos rfl, if_pos hx, if_pos rfl]; rfl
 · rw [if_neg (by omega), if_neg h]
theorem ym {b : List Int} {x u : Int} (h0 : 0 ≤ x) (h1 : x < b.length) (hx : elt b x < 0) (hu : 0 ≤ u) : aab (b.set x.toNat u) + 1 = aab b := by
 have hlt : x.toNat < b.length := by omega
 have e : b[x.toNat] < 0 := by unfold elt at hx; rw [List.getD_eq_getElem?_getD, List.getElem?_eq_getElem hlt] at hx; exact hx
 unfold aab
 have hm : b[x.toNat] ∈ b := List.getElem_mem hlt
 have hpos : 0 < b.countP (fun z => decide (z < 0)) := List.countP_pos_iff.2 ⟨_, hm, by simpa using e⟩
 rw [List.countP_set hlt]
 rw [if_pos (by simpa using e), if_neg (by simpa using hu)]
 omega
structure BI (N M : Nat) (s : BS) : Prop where
 len : s.1.length = N
 mem : ∀ x ∈ s.2, 0 ≤ x ∧ x < N
 cnt : s.2.length + aab s.1 ≤ M
theorem BI.le {N M : Nat} {s : BS} (h : BI N M s) : s.2.length ≤ M := by have := h.cnt; omega
theorem rA {N : Nat} {s : BS} {v : Int} : (dX N s v).1.length = s.1.length ∧ (dX N s v).2.length ≤ s.2.length + 1 := by
 unfold dX; split <;> simp
theorem jk (N : Nat) (rs : List Int) : (dK N rs).1.length = N ∧ (dK N rs).2.length ≤ rs.length := by
 have : ∀ (rs : List Int) (s : BS), (rs.foldl (dX N) s).1.length = s.1.length ∧ (rs.foldl (dX N) s).2.length ≤ s.2.length + rs.length := by
   intro rs
   induction rs with
   | nil => intro s; exact ⟨rfl, Nat.le_refl _⟩
   | cons v rs ih => intro s; obtain ⟨h1, h2⟩ := ih (dX N s v); obtain ⟨h3, h4⟩ := rA (N := N) (s := s) (v := v); rw [List.foldl_cons, List.length_cons]; exact ⟨by rw [h1, h3], by omega⟩
 have := this rs (List.replicate N (-1), [])
 unfold dK; simpa using this
theorem vT (N : Nat) (rs : List Int) : ∀ x ∈ (dK N rs).2, (0 ≤ x ∧ x < N) ∧ x ∈ rs := by
 have : ∀ (rs rs0 : List Int) (s : BS), (∀ x ∈ s.2, (0 ≤ x ∧ x < (N : Int)) ∧ x ∈ rs0) → ∀ x ∈ (rs.foldl (dX N) s).2, (0 ≤ x ∧ x < (N : Int)) ∧ (x ∈ rs0 ∨ x ∈ rs) := by
   intro rs
   induction rs with
   | nil => intro rs0 s h x hx; exact ⟨(h x hx).1, .inl (h x hx).2⟩
   | cons v rs ih =>
     intro rs0 s h x hx
     rw [List.foldl_cons] at hx
     have := ih (rs0 ++ [v]) (dX N s v) (fun y hy => by
       unfold dX at hy
       split at hy
       · rename_i hv
         rcases List.mem_append.1 hy with h1 | h1
         · exact ⟨(h y h1).1, List.mem_append_left _ (h y h1).2⟩
         · rw [List.mem_singleton.1 h1]; exact ⟨hv, by simp⟩
       · exact ⟨(h y hy).1, List.mem_append_left _ (h y hy).2⟩) x hx
     refine ⟨this.1, ?_⟩
     rcases this.2 with h1 | h1
     · rcases List.mem_append.1 h1 with h2 | h2
       · exact .inl h2
       · rw [List.mem_singleton.1 h2]; exact .inr List.mem_cons_self
     · exact .inr (List.mem_cons_of_mem _ h1)
 intro x hx
 have := this rs [] _ (fun _ h => by cases h) x hx
 exact ⟨this.1, this.2.elim (fun h => by cases h) id⟩
theorem sd (N : Nat) (rs : List Int) {k : Nat} {v : Int} (h : rs[k]? = some v) : dK N (rs.take (k + 1)) = dX N (dK N (rs.take k)) v := by
 unfold dK; rw [List.take_add_one, h, List.foldl_append]; rfl
theorem j6 (N : Nat) (rs : List Int) : BI N (rs.length + N) (dK N rs) where
 len := (jk N rs).1
 mem x hx := (vT N rs x hx).1
 cnt := by
   have h1 := jk N rs
   have h2 : aab (dK N rs).1 ≤ (dK N rs).1.length := List.countP_le_length
   omega
theorem zu {N M : Nat} {s : BS} {u x : Int} (h : BI N M s) (hu : 0 ≤ u) (hx : 0 ≤ x ∧ x < N) : BI N M (visit u s x) := by
 unfold visit
 split
 · rename_i h0
   have hn := ym hx.1 (by rw [h.len]; exact hx.2) h0 hu
   refine ⟨by simpa using h.len, fun y hy => ?_, ?_⟩
   · rcases List.mem_append.1 hy with h1 | h1
     · exact h.mem y h1
     · rw [List.mem_singleton.1 h1]; exact hx
   · have := h.cnt
     rw [List.length_append, List.length_singleton]; dsimp only; omega
 · exact h
theorem pH {s : BS} {u x : Int} : s.2 <+: (visit u s x).2 := by
 unfold visit; split
 · exact List.prefix_append _ _
 · exact List.prefix_refl _
theorem lU {N M : Nat} {u : Int} (hu : 0 ≤ u) : ∀ (l : List Int) (s : BS), BI N M s → (∀ x ∈ l, 0 ≤ x ∧ x < N) → BI N M (l.foldl (visit u) s)
 | [], _, h, _ => h
 | x :: l, s, h, hl => lU hu l _ (zu h hu (hl x List.mem_cons_self)) fun y hy => hl y (List.mem_cons_of_mem _ hy)
theorem jg {u : Int} : ∀ (l : List Int) (s : BS), s.2 <+: (l.foldl (visit u) s).2
 | [], _ => List.prefix_refl _
 | x :: l, s => List.IsPrefix.trans pH (jg l (visit u s x))
theorem tj {u : Int} (l : List Int) (s : BS) {k : Nat} {v : Int} (h : l[k]? = some v) : (l.take (k + 1)).foldl (visit u) s = visit u ((l.take k).foldl (visit u) s) v := by
 rw [List.take_add_one, h, List.foldl_append]; rfl
theorem qY {l l' : List Int} (h : l <+: l') {k : Nat} {u : Int} (hk : l[k]? = some u) : l'[k]? = some u := by
 obtain ⟨t, rfl⟩ := h
 rw [List.getElem?_append_left (List.getElem?_eq_some_iff.1 hk).1]; exact hk
def lg (N : Nat) (out : List (List Int)) : Prop := ∀ u : Int, ∀ x ∈ elt out u, 0 ≤ x ∧ x < N
theorem oC {N M : Nat} {out : List (List Int)} {s : BS} (ho : lg N out) (h : BI N M s) : ∀ k, BI N M (bfs out s k)
 | 0 => h
 | k + 1 => by
   have ih := oC ho h k
   unfold bfs pe
   split
   · exact ih
   · rename_i u hu
     exact lU (ih.mem u (List.mem_of_getElem? hu)).1 _ _ ih (ho u)
theorem ou {out : List (List Int)} {s : BS} {k : Nat} (h : (bfs out s k).2.length ≤ k) : ∀ j, bfs out s (k + j) = bfs out s k
 | 0 => rfl
 | j + 1 => by
   have ih := ou h j
   show pe out (bfs out s (k + j)) (k + j) = _
   rw [ih]
   unfold pe
   rw [List.getElem?_eq_none (by omega)]
def iz (N : Nat) (out : List (List Int)) (rs : List Int) : List Int := (bfs out (dK N rs) (rs.length + N)).1
theorem vg {N : Nat} {out : List (List Int)} {rs : List Int} {k : Nat} (ho : lg N out) (hk : k = (bfs out (dK N rs) k).2.length) : (bfs out (dK N rs) k).1 = iz N out rs := by
 have hle := (oC ho (j6 N rs) k).le
 obtain ⟨j, hj⟩ : ∃ j, rs.length + N = k + j := ⟨rs.length + N - k, by omega⟩
 unfold iz
 rw [hj, ou (by omega)]
end Go.Lv

namespace Go.Sy
open Go.RowKit Go.Lp
theorem iM {P : Program} {n : Fr} {env : Env} {ps : List Per} {hp : List Res} {c : Code} {Q : Exit → Sta → Prop} {v : Value} {E : TypeId} {sz : Nat} {rows : List (List D)} (i : Nat) (hi : hp[i]? = some (bg v E sz rows)) (h : ∀ ad cp, v = .slice ad rows.length cp → awp P n c Q ⟨env, ps, hp⟩) : awp P n c Q ⟨env, ps, hp⟩ :=
 l8 (φ := ∃ ad cp, v = .slice ad rows.length cp) i hi (fun w S F hh => mZ hh) (fun ⟨ad, cp, e⟩ => h ad cp e)
theorem Con.ofOwn {P : Program} {f : FuncId} {args : List Value} {ps : List Per} {v : Value} {E : TypeId} {sz : Nat} {rows : List (List D)} {R : Value → List Per → List Res → Prop} (h : Con P f args (Sh v (.sl rows) :: ps) [] R) : Con P f args ps [bg v E sz rows] R := fun w S fp hst => by
 have h1 := sI hst 0 rfl
 have h2 : St w (fun b => S b ∨ fp 0 b) (fun _ _ => False) (Sh v (.sl rows) :: ps) [] := ⟨h1.per, fun i R hi => by simp at hi, fun i hi => by simp at hi, fun i j hi => by simp at hi, h1.slt⟩
 have hE : Evo w S (tot fp 1) w (fun b => S b ∨ fp 0 b) := ⟨rfl, rfl, rfl, Nat.le_refl _, Nat.le_refl _, fun _ _ _ => rfl, fun _ h => .inl h, fun b hb => hb.elim .inl fun h => .inr (.inl ⟨0, Nat.zero_lt_one, h⟩)⟩
 have h0 : ∀ b, ¬ tot (fun _ _ => False) ([] : List Res).length b := fun b ⟨j, hj, _⟩ => by simp at hj
 exact (h w _ _ h2).mono fun e w' ⟨u, ps', hp', S', fp', he, hR, hst', hE', hb⟩ => ⟨u, ps', hp', S', fp', he, hR, hst', hE.trans hE' (fun b hb => (h0 b hb).elim), fun b hb' => (hb b hb').elim (fun h => (h0 b h).elim) .inr⟩
end Go.Sy
namespace Go.Proofs.YtgmiihmahaahiaaGreatDoor
open Go.RowKit Go.Lp Go.Sy Go.Lv
open Go.Proofs.Tryz
attribute [local irreducible] aL aB awp aC fwp
theorem vD {ad : Option Addr} {c : Nat} (v : Int) (N : Nat) (hN : N ≤ 1000000) : Con Tryz.prog 218 [.slice ad 1 c, .int .i64 N] [Sh (.slice ad 1 c) (.sl (bS encI [v]))] [] fun r ps hp => ps = [] ∧ hp = [bg r 3 1 (bS encI (List.replicate N v))] := by
 cases N with
 | zero => exact tC v
 | succ N => exact tM v (N + 1) hN (Nat.succ_pos _)
def jH (N : Nat) (a : dy) : Prop := (0 ≤ a.from_ ∧ a.from_ < N) ∧ 0 ≤ a.to_ ∧ a.to_ < N
theorem vL (l : List dy) : ∀ (L : List (List Int)) (u : Int) (x : Int), (∀ a ∈ l, 0 ≤ a.from_ ∧ a.from_ < L.length) → (0 ≤ u ∧ u < L.length) → (x ∈ elt (l.foldl fT L) u ↔ x ∈ elt L u ∨ ∃ a ∈ l, a.from_ = u ∧ a.to_ = x) := by
 induction l with
 | nil => intro L u x _ _; simp
 | cons a l ih =>
   intro L u x ha hu
   have hae := ha a List.mem_cons_self
   rw [List.foldl_cons, ih (fT L a) u x (fun b hb => by rw [kE]; exact ha b (List.mem_cons_of_mem _ hb)) (by rw [kE]; exact hu)]
   have e : elt (fT L a) u = if a.from_ = u then elt L u ++ [a.to_] else elt L u := by
     unfold fT elt
     rw [List.getD_eq_getElem?_getD, List.getD_eq_getElem?_getD, List.getD_eq_getElem?_getD, List.getElem?_set]
     by_cases h : a.from_ = u
     · subst h; rw [if_pos rfl, if_pos (by omega), if_pos rfl]; rfl
     · rw [if_neg (by omega), if_neg h]
   rw [e]
   split
   · rename_i h
     rw [List.mem_append, List.mem_singleton]
     simp only [List.mem_cons, exists_eq_or_imp]
     constructor
     · rintro ((h1 | h1) | h1)
       · exact .inl h1
       · exact .inr (.inl ⟨h, h1.symm⟩)
       · exact .inr (.inr h1)
     · rintro (h1 | ⟨_, h1⟩ | h1)
       · exact .inl (.inl h1)
       · exact .inl (.inr h1.symm)
       · exact .inr h1
   · rename_i h
     simp only [List.mem_cons, exists_eq_or_imp]
     constructor
     · rintro (h1 | h1)
       · exact .inl h1
       · exact .inr (.inr h1)
     · rintro (h1 | ⟨h1, _⟩ | h1)
       · exact .inl h1
       · exact (h h1).elim
       · exact .inr h1
theorem iN (d : Array Int) (hs : ∀ i j, i < j → j < d.size → d[i]! ≤ d[j]!) : ∀ m, m ≤ d.size → (Lib.compactUpTo d m).Pairwise (· < ·) ∧ (∀ x ∈ Lib.compactUpTo d m, (∃ j, j < m ∧ d[j]! = x)) ∧ (∀ j, j < m → d[j]! ∈ Lib.compactUpTo d m)
 | 0, _ => ⟨by simp [Lib.compactUpTo], by simp [Lib.compactUpTo], by simp⟩
 | m + 1, hm => by
   obtain ⟨h1, h2, h3⟩ := iN d hs m (by omega)
   rw [Lib.compactUpTo_succ]
   have hk : Lib.keeps d m = true ∨ (0 < m ∧ d[m]! = d[m - 1]! ∧ Lib.keeps d m = false) := by
     rcases Nat.eq_zero_or_pos m with h0 | h0
     · exact .inl (Lib.keeps_lt_one d m (by omega))
     · by_cases he : d[m]! = d[m - 1]!
       · exact .inr ⟨h0, he, Lib.keeps_neg h0 he⟩
       · exact .inl (Lib.keeps_pos he)
   by_cases hkm : Lib.keeps d m = true
   · rw [if_pos hkm]
     refine ⟨?_, fun x hx => ?_, fun j hj => ?_⟩
     · refine List.pairwise_append.2 ⟨h1, List.pairwise_singleton _ _, fun x hx y hy => ?_⟩
       rw [List.mem_singleton.1 hy]
       obtain ⟨j, hj, rfl⟩ := h2 x hx
       have hle := hs j m hj (by omega)
       rcases Nat.eq_zero_or_pos m with h0 | h0
       · omega
       · have hne : d[m]! ≠ d[m - 1]! := fun he => by rw [Lib.keeps_neg h0 he] at hkm; cases hkm
         have hle2 := hs (m - 1) m (by omega) (by omega)
         by_cases hjm : j = m - 1
         · subst hjm; omega
         · have := hs j (m - 1) (by omega) (by omega); omega
     · rcases List.mem_append.1 hx with h | h
       · obtain ⟨j, hj, he⟩ := h2 x h; exact ⟨j, by omega, he⟩
       · exact ⟨m, by omega, (List.mem_singleton.1 h).symm⟩
     · by_cases hjm : j = m
       · subst hjm; simp
       · exact List.mem_append_left _ (h3 j (by omega))
   · obtain ⟨h0, he, _⟩ := hk.resolve_left hkm
     rw [if_neg hkm, List.append_nil]
     refine ⟨h1, fun x hx => ?_, fun j hj => ?_⟩
     · obtain ⟨j, hj, he⟩ := h2 x hx; exact ⟨j, by omega, he⟩
     · by_cases hjm : j = m
       · subst hjm; rw [he]; exact h3 (j - 1) (by omega)
       · exact h3 j (by omega)
theorem ja (zs : List Int) : (di zs).Pairwise (· < ·) ∧ ∀ x, x ∈ di zs ↔ x ∈ zs := by
 have hp : (fO zs).Pairwise (fun x y => (decide (x ≤ y)) = true) := List.pairwise_mergeSort (fun a b c h1 h2 => by simp at *; omega) (fun a b => by simp; omega) zs
 have hg : ∀ j (hj : j < (fO zs).length), (fO zs).toArray[j]! = (fO zs)[j] := fun j hj => by simp [hj]
 have hs : ∀ i j, i < j → j < (fO zs).toArray.size → (fO zs).toArray[i]! ≤ (fO zs).toArray[j]! := fun i j hij hj => by
   have hj' : j < (fO zs).length := by simpa using hj
   rw [hg i (by omega), hg j hj']
   simpa using List.pairwise_iff_getElem.1 hp i j (by omega) hj' hij
 obtain ⟨h1, h2, h3⟩ := iN (fO zs).toArray hs (fO zs).length (by simp)
 refine ⟨h1, fun x => ⟨fun hx => ?_, fun hx => ?_⟩⟩
 · obtain ⟨j, hj, rfl⟩ := h2 x hx
   rw [hg j hj]
   exact List.mem_mergeSort.1 (List.getElem_mem hj)
 · have hm : x ∈ fO zs := List.mem_mergeSort.2 hx
   obtain ⟨j, hj, he⟩ := List.getElem_of_mem hm
   rw [← he, ← hg j hj]; exact h3 j hj
theorem mf {zs : List Int} {x : Int} : x ∈ di zs ↔ x ∈ zs := (ja zs).2 x
theorem yV {α : Type} [Inhabited α] (l : List α) (u : Int) : elt l u = elt l (u.toNat : Int) := rfl
theorem mg {N : Nat} {l : List dy} (h : ∀ a ∈ l, jH N a) {u x : Int} (hu : 0 ≤ u ∧ u < N) : x ∈ elt (fq N l) u ↔ ∃ a ∈ l, a.from_ = u ∧ a.to_ = x := by
 have e : elt (fq N l) u = di (elt (dJ N l) u) := by
   unfold fq elt
   rw [List.getD_eq_getElem?_getD, List.getD_eq_getElem?_getD, List.getElem?_map]
   have hlt : u.toNat < (dJ N l).length := by rw [dI]; omega
   rw [List.getElem?_eq_getElem hlt]; rfl
 rw [e, mf]
 unfold dJ
 rw [vL l (List.replicate N []) u x (fun a ha => by simpa using (h a ha).1) (by simpa using hu)]
 have : elt (List.replicate N ([] : List Int)) u = [] := by
   unfold elt; rw [List.getD_eq_getElem?_getD, List.getElem?_replicate]; split <;> rfl
 rw [this]; simp
theorem mr {N : Nat} {l : List dy} (h : ∀ a ∈ l, jH N a) : lg N (fq N l) := fun u x hx => by
 rw [yV] at hx
 by_cases hu : u.toNat < N
 · obtain ⟨a, ha, _, rfl⟩ := (mg h (by omega)).1 hx; exact (h a ha).2
 · unfold elt at hx
   rw [List.getD_eq_getElem?_getD, List.getElem?_eq_none (by unfold fq; rw [List.length_map, dI]; omega)] at hx
   cases hx
theorem oz (zs : List Int) : (di zs).length ≤ zs.length := by
 unfold di Lib.compact Lib.compactUpTo
 rw [List.length_map]
 refine Nat.le_trans (List.length_filter_le _ _) ?_
 simp [fO]
theorem fR {l : List Int} {k : Nat} {v : Int} (h : l[k]? = some v) : (bS encI l)[k]? = some [.v (encI v)] := by simp [bS, h]
theorem lr {l : List Int} (h : 0 < l.length) : bS encI l ≠ [] := fun h0 => by
 have := congrArg List.length h0
 rw [cT, List.length_nil] at this; omega
theorem uf (l : List Int) (i : Nat) (v : Int) : bS encI (l.set i v) = (bS encI l).set i [.v (encI v)] := by simp [bS, List.map_set]
theorem mm (l : List Int) (v : Int) : bS encI (l ++ [v]) = bS encI l ++ [[.v (encI v)]] := by simp [bS]
set_option maxHeartbeats 4000000 in
theorem uE (N : Nat) (hN : N ≤ 1000000) (l : Sl dy) (hl : l.l.length ≤ 1000000) (hr : ∀ a ∈ l.l, jH N a) (rs : Sl Int) (hrs : rs.l.length ≤ 1000000) :
   Con Tryz.prog 121 [.int .i64 N, l.val, rs.val] [ShF dy.row l, ShF (fun z => [.v (encI z)]) rs] [] fun r ps hp => ps = [] ∧ hp = [bg r 3 1 (bS encI (iz N (fq N l.l) (di rs.l)))] := by
 have hro := mr hr
 have hrl := oz rs.l
 obtain ⟨M, hM⟩ : ∃ M, M = (di rs.l).length + N := ⟨_, rfl⟩
 have hB := j6 N (di rs.l)
 rw [← hM] at hB
 refine Con.enter Tryz.func121 rfl (by simp [Tryz.ntmps121]) ?_
 show awp _ _ _ _ ⟨[(0, true, _), (1, true, _), (2, true, _)], _, _⟩
 refine aSR (aA rfl (aNn (aSR ?_)))
 refine an (q := true) rfl (cB (zs := [.int .i64 0]) (l := [(0, .const (.int .i64 (-1)))]) el90 (by kernel_rfl) (by decide) (by decide) (by decide) rfl rfl rfl (.more rfl (.v rfl .nil) .nil) rfl rfl (fun v1_0 => ?_))
 refine aHN ?_
 refine aM rfl ?_
 refine an (q := false) rfl (bH [] [0] (by kernel_rfl) rfl rfl rfl rfl (Con.ofOwn (vD (-1) N hN)) ?_)
 rintro vb _ _ ⟨rfl, rfl⟩
 refine aST ?_
 refine aA rfl (aNs ?_)
 refine iM 0 rfl (fun ab cb hvb => ?_)
 rw [cT, List.length_replicate] at hvb
 subst hvb
 refine aj (aM rfl ?_)
 refine an (q := true) rfl (bH [0] [] (by kernel_rfl) rfl rfl rfl rfl (uD rs.l hrs) ?_)
 rintro vc _ _ ⟨rfl, rfl⟩
 refine aST ?_
 refine aA rfl (aNn (aSR (aM rfl ?_)))
 refine an (q := false) rfl (bH [] [1] (by kernel_rfl) rfl rfl rfl rfl (pJ rs.l (by omega)) ?_)
 rintro _ _ _ ⟨rfl, rfl⟩
 refine aST ?_
 refine aNs (eD 3 1 ?_)
 show awp _ _ _ _ ⟨_, _, [_, _, _]⟩
 refine aj (aA rfl (aNs (aSR (aM rfl ?_))))
 refine an (q := false) rfl (bH [] [1] (by kernel_rfl) rfl rfl rfl rfl (ly _) ?_)
 rintro _ _ _ ⟨rfl, au, cu, rfl, rfl⟩
 refine aST ?_
 refine aU rfl (aZ Tryz.underlying90 rfl) (aM rfl (aNn (aI (aT [0, 1, 7, 9, 24, 25, 26] [1] [0, 1, 2] (fun (p : Nat × Value) s => p.1 ≤ (di rs.l).length ∧ s = ⟨[(0, true, .int .i64 N), (1, true, l.val), (7, true, .slice ab N cb), (9, true, p.2), (24, true, .slice au (di rs.l).length cu), (25, true, .int .i64 (di rs.l).length), (26, true, .int .i64 p.1)], [ShF dy.row l], [bg (.slice ab N cb) 3 1 (bS encI (dK N ((di rs.l).take p.1)).1), bg (.slice au (di rs.l).length cu) 3 1 (bS encI (di rs.l)), bg p.2 3 1 (bS encI (dK N ((di rs.l).take p.1)).2)]⟩) (fun p => (di rs.l).length - p.1) rfl (⟨(0, .slice none 0 0), Nat.zero_le _, rfl⟩) ?_))))
 rintro ⟨k, vw⟩ s ⟨hk, rfl⟩
 dsimp only at hk
 refine aSR (aU rfl (bw rfl rfl) (aNs ?_))
 refine al _ rfl (fun h1 => ?_) (fun h1 => ?_)
 ·skip
  have hk' : k < (di rs.l).length := by simp at h1; omega
  obtain ⟨v, hv⟩ : ∃ v, (di rs.l)[k]? = some v := ⟨_, List.getElem?_eq_getElem hk'⟩
  have hst := sd N _ hv
  refine aq (az (aH (aI (aH ?_))))
  refine eH 1 rfl (lr (by omega)) (fun Bu cpu hvu => ?_)
  obtain ⟨rfl, rfl⟩ : au = some ⟨Bu, 0, none⟩ ∧ cu = cpu := by simp at hvu; exact ⟨hvu.1, hvu.2.2⟩
  refine aj (aU rfl (fU k el90 rfl rfl rfl hk') (aU rfl (eF (v := .slice (some ⟨Bu, 0, none⟩) (di rs.l).length cu) (u := encI v) 1 k 0 tk3 rfl rfl (fR hv) rfl rfl) (aA rfl (aNn (aSR (aM rfl (aU rfl (eu rfl rfl) (aM rfl (aG rfl rfl (fun hc => aD rfl) (aG rfl rfl (fun hc => aD rfl) (aG rfl rfl (fun hc => bw (ae rfl hc) (ae rfl hc)) (aU rfl (bJ rfl rfl (fun h => gt rfl h)) (aNn ?_)))))))))))))
  refine al _ rfl (fun h2 => ?_) (fun h2 => ?_)
  ·skip
   have hvn : 0 ≤ v ∧ v < N := by simpa using h2
   refine aH ?_
   have hbl := (jk N ((di rs.l).take k)).1
   refine eH 0 rfl (lr (by rw [hbl]; omega)) (fun B cp hvb => ?_)
   obtain ⟨rfl, rfl⟩ : ab = some ⟨B, 0, none⟩ ∧ cb = cp := by simp at hvb; exact ⟨hvb.1, hvb.2.2⟩
   obtain ⟨o, ho⟩ : ∃ o, (dK N ((di rs.l).take k)).1[v.toNat]? = some o := ⟨_, List.getElem?_eq_getElem (by rw [hbl]; omega)⟩
   have hrow := fR ho
   refine aj (aM rfl (aM rfl (aM rfl ?_)))
   refine aU rfl (fU v.toNat el90 rfl rfl (by omega) (by omega)) ?_
   refine an (q := false) rfl (eK 0 v.toNat 0 tk3 rfl rfl rfl hrow rfl (.v rfl .nil) rfl (by decide) ?_)
   refine aNn (aj (aM rfl (aM rfl ?_)))
   refine an (q := true) rfl (cB (zs := [.int .i64 0]) (l := [(0, .tmp 42)]) el90 (by kernel_rfl) (by decide) (by decide) (by decide) rfl rfl rfl (.more rfl (.v rfl .nil) .nil) rfl rfl (fun v10_2 => ?_))
   refine aHN ?_
   refine an rfl (cL 2 el90 rfl rfl rfl rfl (dR 3 el90 rfl (by simp)) (by first | assumption | simp) (by have := (jk N ((di rs.l).take k)).2; rw [List.length_take] at this; simp [cT]; omega) _ rfl (fun v10_3 c10_3 => ?_))
   refine aHK ?_
   refine aA rfl (cn (bB (az (aj ?_))))
   refine aU rfl (bd rfl rfl (by omega)) ?_
   refine aM rfl (aNn ?_)
   refine ⟨[0, 1, 7, 9, 24, 25, 26], [0], [0, 1, 2], rfl, ?_⟩
   refine ⟨(k + 1, .slice v10_3 ((bS encI (dK N ((di rs.l).take k)).2).length + 1) c10_3), ⟨by omega, ?_⟩, by omega⟩
   dsimp only
   rw [hst]
   unfold dX
   rw [if_pos hvn, uf, mm]
   rfl
  ·skip
   have hvn : ¬ (0 ≤ v ∧ v < N) := by simpa using h2
   refine aq (bB (az (aj ?_)))
   refine aU rfl (bd rfl rfl (by omega)) ?_
   refine aM rfl (aNn ?_)
   refine ⟨[0, 1, 7, 9, 24, 25, 26], [0], [0, 1, 2], rfl, ?_⟩
   refine ⟨(k + 1, vw), ⟨by omega, ?_⟩, by omega⟩
   dsimp only
   rw [hst]
   unfold dX
   rw [if_neg hvn]
   rfl
 ·skip
  have hkl : k = (di rs.l).length := by simp at h1; omega
  subst hkl
  rw [List.take_length]
  refine aX (aY (aY (bf (az (aSR (aM rfl (aM rfl ?_)))))))
  refine an (q := true) rfl (bH [0] [] (by kernel_rfl) rfl rfl rfl rfl (yW N hN l hl (fun a ha => (hr a ha).1)) ?_)
  rintro vn _ _ ⟨rfl, rfl⟩
  refine aST ?_
  refine aA rfl (aNs (aH ?_))
  refine pg 3 rfl (fun so hso hsl => ?_)
  subst hso
  refine aj (aA rfl (aNn (aI (aT [7, 9, 12, 13] [2, 1] [0, 2] (fun (p : Nat × Value) s => p.1 ≤ (bfs (fq N l.l) (dK N (di rs.l)) p.1).2.length ∧ s = ⟨[(7, true, .slice ab N cb), (9, true, p.2), (12, true, so.val), (13, true, .int .i64 p.1)], [cv (ShF fun z => [.v (encI z)]) so.l, ShF (fun t : Sl Int => [.v t.val]) so], [bg (.slice ab N cb) 3 1 (bS encI (bfs (fq N l.l) (dK N (di rs.l)) p.1).1), bg p.2 3 1 (bS encI (bfs (fq N l.l) (dK N (di rs.l)) p.1).2)]⟩) (fun p => M - p.1) rfl (⟨(0, vw), Nat.zero_le _, rfl⟩) ?_))))
  rintro ⟨k, vw2⟩ s ⟨hk, rfl⟩
  dsimp only at hk
  have hBk := oC hro hB k
  have hkM := hBk.le
  refine aH (aH ?_)
  obtain ⟨sk, hsk⟩ : ∃ sk, bfs (fq N l.l) (dK N (di rs.l)) k = sk := ⟨_, rfl⟩
  rw [hsk] at hk hBk hkM ⊢
  refine iM 1 rfl (fun aw cw hvw => ?_)
  rw [cT] at hvw
  subst hvw
  refine aj (aM rfl (aM rfl (aU rfl (aZ Tryz.underlying90 rfl) (aU rfl (bw rfl rfl) (aNn ?_)))))
  refine al _ rfl (fun h3 => ?_) (fun h3 => ?_)
  ·skip
   have hk' : k < sk.2.length := by simp at h3; omega
   obtain ⟨u, hu⟩ : ∃ u, sk.2[k]? = some u := ⟨_, List.getElem?_eq_getElem hk'⟩
   have hun := hBk.mem u (List.mem_of_getElem? hu)
   have hsol : so.l.length = N := by rw [← List.length_map (f := Sl.l), hsl]; unfold fq; rw [List.length_map, dI]
   refine aq (az (aH (aI (aH ?_))))
   refine eH 1 rfl (lr (by omega)) (fun Bw cpw hvw => ?_)
   obtain ⟨rfl, rfl⟩ : aw = some ⟨Bw, 0, none⟩ ∧ cw = cpw := by simp at hvw; exact ⟨hvw.1, hvw.2.2⟩
   refine aj (aM rfl (aM rfl (aM rfl (aU rfl (fU k el90 rfl rfl rfl hk') (aU rfl (eF (v := .slice (some ⟨Bw, 0, none⟩) sk.2.length cw) (u := encI u) 1 k 0 tk3 rfl rfl (fR hu) rfl rfl) ?_)))))
   refine cJ true rfl rfl (fun _ => av Tryz.underlying288 tk90 rfl ((.of (aF 1 rfl))) rfl (bI (i := u) (by omega) (by omega)) (by omega) rfl) (fun h => absurd h (by decide)) (fun ⟨b16_5, o16_5⟩ => ?_)
   refine aU rfl (aP (o := 0) tk90 rfl (aF 0 rfl) rfl rfl) (aU rfl (aZ Tryz.underlying90 rfl) (aM rfl (aNn (aI ?_))))
   obtain ⟨row, hrow⟩ : ∃ row, elt so.l u = row := ⟨_, rfl⟩
   have hrm : row ∈ so.l := by rw [← hrow]; exact List.mem_of_getElem? (iQ (by omega) hun.1)
   have hrl : row.l = elt (fq N l.l) u := by rw [← hrow, ← hsl]; unfold elt; rw [List.getD_eq_getElem?_getD, List.getD_eq_getElem?_getD, List.getElem?_map]; cases so.l[u.toNat]? <;> rfl
   have hrb : ∀ x ∈ row.l, 0 ≤ x ∧ x < N := by rw [hrl]; exact hro u
   rw [hrow]
   refine bA (Ent.allm (f := ShF fun z : Int => [.v (encI z)]) (.of (aF 1 rfl)) hrm) (fun hrlen => ?_)
   refine aT [7, 9, 12, 13, 61, 62, 63] [1, 0] [0, 1] (fun (q : Nat × Value) s => q.1 ≤ row.l.length ∧ s = ⟨[(7, true, .slice ab N cb), (9, true, q.2), (12, true, so.val), (13, true, .int .i64 k), (61, true, row.val), (62, true, .int .i64 row.l.length), (63, true, .int .i64 q.1)], [cv (ShF fun z => [.v (encI z)]) so.l, ShF (fun t : Sl Int => [.v t.val]) so], [bg (.slice ab N cb) 3 1 (bS encI ((row.l.take q.1).foldl (visit u) sk).1), bg q.2 3 1 (bS encI ((row.l.take q.1).foldl (visit u) sk).2)]⟩) (fun q => row.l.length - q.1) rfl (⟨(0, .slice (some ⟨Bw, 0, none⟩) sk.2.length cw), Nat.zero_le _, rfl⟩) ?_
   rintro ⟨j, vw3⟩ s ⟨hj, rfl⟩
   dsimp only at hj
   have hBj := lU hun.1 (row.l.take j) sk hBk (fun x hx => hrb x (List.mem_of_mem_take hx))
   have huj := qY (jg (u := u) (row.l.take j) sk) hu
   refine aSR (aU rfl (bw rfl rfl) (aNs ?_))
   refine al _ rfl (fun h4 => ?_) (fun h4 => ?_)
   ·skip
    have hj' : j < row.l.length := by simp at h4; omega
    obtain ⟨x, hx⟩ : ∃ x, row.l[j]? = some x := ⟨_, List.getElem?_eq_getElem hj'⟩
    have hxn := hrb x (List.mem_of_getElem? hx)
    have hvs := tj (u := u) row.l sk hx
    obtain ⟨sj, hsj⟩ : ∃ sj, (row.l.take j).foldl (visit u) sk = sj := ⟨_, rfl⟩
    rw [hsj] at hBj huj hvs ⊢
    refine aq (az (aH (aI (aSR ?_))))
    refine cJ true rfl rfl (fun _ => av Tryz.underlying90 tk3 rfl ((Ent.allm (f := ShF fun z : Int => [.v (encI z)]) (.of (aF 0 rfl)) hrm)) rfl (aQ hx) rfl rfl) (fun h => absurd h (by decide)) (fun ⟨b18_0, o18_0⟩ => ?_)
    refine aU rfl (aP (o := 0) tk3 rfl (aF 0 rfl) rfl rfl) (aA rfl (aNs ?_))
    refine eH 0 rfl (lr (by rw [hBj.len]; omega)) (fun B cp hvb => ?_)
    obtain ⟨rfl, rfl⟩ : ab = some ⟨B, 0, none⟩ ∧ cb = cp := by simp at hvb; exact ⟨hvb.1, hvb.2.2⟩
    have hbx : sj.1[x.toNat]? = some (elt sj.1 x) := iQ (by rw [hBj.len]; exact hxn.2) hxn.1
    refine aj (aM rfl (aM rfl ?_))
    refine aU rfl (fU x.toNat el90 rfl rfl (by omega) (by omega)) ?_
    refine aU rfl (eF (v := .slice (some ⟨B, 0, none⟩) N cb) (u := encI (elt sj.1 x)) 0 x.toNat 0 tk3 rfl rfl (fR hbx) rfl rfl) (aU rfl (bw rfl rfl) (aNn ?_))
    refine al _ rfl (fun h5 => ?_) (fun h5 => ?_)
    ·skip
     have hneg : elt sj.1 x < 0 := by simpa using h5
     refine aH ?_
     have hklt : k < sj.2.length := (List.getElem?_eq_some_iff.1 huj).1
     refine eH 1 rfl (lr (by omega)) (fun Bw2 cpw2 hvw => ?_)
     rw [cT] at hvw
     subst hvw
     refine aj (aM rfl (aM rfl (aM rfl (aM rfl (aU rfl (fU k el90 rfl rfl rfl hklt) (aU rfl (eF (v := .slice (some ⟨Bw2, 0, none⟩) sj.2.length cpw2) (u := encI u) 1 k 0 tk3 rfl rfl (fR huj) rfl rfl) ?_))))))
     refine aU rfl (fU x.toNat el90 rfl rfl (by omega) (by omega)) ?_
     refine an (q := false) rfl (eK 0 x.toNat 0 tk3 rfl rfl rfl (fR hbx) rfl (.v rfl .nil) rfl (by decide) ?_)
     refine aNn (aj (aM rfl (aM rfl ?_)))
     refine an (q := true) rfl (cB (zs := [.int .i64 0]) (l := [(0, .tmp 80)]) el90 (by kernel_rfl) (by decide) (by decide) (by decide) rfl rfl rfl (.more rfl (.v rfl .nil) .nil) rfl rfl (fun v21_2 => ?_))
     refine aHN ?_
     refine an rfl (cL 1 el90 rfl rfl rfl rfl (dR 2 el90 rfl (by simp)) (by first | assumption | simp) (by have := hBj.le; simp [cT]; omega) _ rfl (fun v21_3 c21_3 => ?_))
     refine aHK ?_
     refine aA rfl (cn (bB (az (aj ?_))))
     refine aU rfl (bd rfl rfl (by omega)) ?_
     refine aM rfl (aNn ?_)
     refine ⟨[7, 9, 12, 13, 61, 62, 63], [1, 0], [0, 1], rfl, ?_⟩
     refine ⟨(j + 1, .slice v21_3 ((bS encI sj.2).length + 1) c21_3), ⟨by omega, ?_⟩, by omega⟩
     dsimp only
     rw [hvs]
     unfold visit
     rw [if_pos hneg, uf, mm]
     rfl
    ·skip
     have hneg : ¬ elt sj.1 x < 0 := by simpa using h5
     refine aq (bB (az (aj ?_)))
     refine aU rfl (bd rfl rfl (by omega)) ?_
     refine aM rfl (aNn ?_)
     refine ⟨[7, 9, 12, 13, 61, 62, 63], [1, 0], [0, 1], rfl, ?_⟩
     refine ⟨(j + 1, vw3), ⟨by omega, ?_⟩, by omega⟩
     dsimp only
     rw [hvs]
     unfold visit
     rw [if_neg hneg]
     rfl
   ·skip
    have hjl : j = row.l.length := by simp at h4; omega
    subst hjl
    have hk1 : bfs (fq N l.l) (dK N (di rs.l)) (k + 1) = row.l.foldl (visit u) sk := by show pe _ (bfs (fq N l.l) (dK N (di rs.l)) k) k = _; rw [hsk]; unfold pe; rw [hu, hrl]
    refine aX (aY (aY (bf (bB (az (aj (aM rfl ?_)))))))
    refine aU rfl (bd rfl rfl (by omega)) ?_
    refine aA rfl (aNn ?_)
    refine ⟨[7, 9, 12, 13], [1, 0], [0, 1], rfl, ?_⟩
    refine ⟨(k + 1, vw3), ⟨?_, ?_⟩, ?_⟩
    · dsimp only; rw [hk1, ← List.take_length (l := row.l)]; exact (List.getElem?_eq_some_iff.1 huj).1
    · dsimp only; rw [hk1, List.take_length]; rfl
    · dsimp only; omega
  ·skip
   have hkl : k = sk.2.length := by simp at h3; omega
   refine aX (aY (aY (bf (az (aSR (aM rfl (aA rfl (aNn (aJ ?_)))))))))
   refine br [] [0] rfl Tryz.results121 rfl ?_ (.inr rfl)
   refine ⟨rfl, ?_⟩
   rw [← vg hro (k := k) (by rw [hsk]; exact hkl), hsk]; rfl
end Go.Proofs.YtgmiihmahaahiaaGreatDoor

namespace Go.Proofs.YtgmiihmahaahiaaGreatDoor
open Go.RowKit Go.Lp Go.Sy
open Go.Proofs.Tryz
attribute [local irreducible] aL aB awp aC fwp
def xT (l : List Int) (v : Int) : Prop := 0 ≤ v ∧ v < l.length ∧ 0 ≤ elt l v
def chain (l : List Int) : Nat → Int → List Int
 | 0, v => [v]
 | f + 1, v => if elt l v = v then [v] else v :: chain l f (elt l v)
structure Tree (l : List Int) (ρ : Int → Nat) : Prop where
 step : ∀ v, xT l v → elt l v ≠ v → xT l (elt l v) ∧ ρ (elt l v) < ρ v
theorem sD {l : List Int} {ρ : Int → Nat} (hT : Tree l ρ) : ∀ (f g : Nat) (v : Int), xT l v → ρ v ≤ f → ρ v ≤ g → chain l f v = chain l g v
 | 0, 0, v, _, _, _ => rfl
 | 0, g + 1, v, h, hf, _ => by
   unfold chain
   split
   · rfl
   · rename_i hne; have := (hT.step v h hne).2; omega
 | f + 1, 0, v, h, _, hg => by
   unfold chain
   split
   · rfl
   · rename_i hne; have := (hT.step v h hne).2; omega
 | f + 1, g + 1, v, h, hf, hg => by
   unfold chain
   split
   · rfl
   · rename_i hne
     obtain ⟨h1, h2⟩ := hT.step v h hne
     rw [sD hT f g _ h1 (by omega) (by omega)]
theorem po (l : List Int) (f : Nat) (v : Int) : chain l f v = v :: (chain l f v).tail := by
 cases f with
 | zero => rfl
 | succ f => unfold chain; split <;> rfl
theorem uI {l : List Int} {ρ : Int → Nat} (hT : Tree l ρ) {v : Int} (h : xT l v) (hne : elt l v ≠ v) : (chain l (ρ v) v).tail = chain l (ρ (elt l v)) (elt l v) := by
 obtain ⟨h1, h2⟩ := hT.step v h hne
 obtain ⟨f, hf⟩ : ∃ f, ρ v = f + 1 := ⟨ρ v - 1, by omega⟩
 rw [hf]
 show (if elt l v = v then [v] else v :: chain l f (elt l v)).tail = _
 rw [if_neg hne, List.tail_cons]
 exact sD hT _ _ _ h1 (by omega) (Nat.le_refl _)
theorem xe {l : List Int} (f : Nat) {v : Int} (h : elt l v = v) : chain l f v = [v] := by
 cases f with
 | zero => rfl
 | succ f => unfold chain; rw [if_pos h]
def fu (l : List Int) (ρ : Int → Nat) (to_ : Int) : List Int := if elt l to_ < 0 then [] else (chain l (ρ to_) to_).reverse
theorem xl (l : Sl Int) (ρ : Int → Nat) (hT : Tree l.l ρ) (to_ : Int) (ht : 0 ≤ to_ ∧ to_ < l.l.length) (hb : ρ to_ ≤ 100000) :
   Con Tryz.prog 211 [l.val, .int .i64 to_] [ShF (fun z => [.v (encI z)]) l] [] fun r ps hp => hp = [] ∧ ∃ ad c, r = .slice ad (fu l.l ρ to_).length c ∧ ps = [Sh (.slice ad (fu l.l ρ to_).length c) (.sl (bS encI (fu l.l ρ to_)))] := by
 refine Con.enter Tryz.func211 rfl (by simp [Tryz.ntmps211]) ?_
 show awp _ _ _ _ ⟨[(0, true, _), (1, true, _)], _, _⟩
 refine aSR (aA rfl (aNs (aSR (aM rfl (aM rfl ?_)))))
 refine cJ true rfl rfl (fun _ => av Tryz.underlying90 tk3 rfl ((.of (aF 0 rfl))) rfl (bI (i := to_) (by omega) (by omega)) (by omega) rfl) (fun h => absurd h (by decide)) (fun ⟨b1_2, o1_2⟩ => ?_)
 refine aU rfl (aP (o := 0) tk3 rfl (aF 0 rfl) rfl rfl) (aU rfl (bw rfl rfl) (aNn ?_))
 refine al _ rfl (fun h1 => ?_) (fun h1 => ?_)
 ·skip
  refine aSR (aA rfl (aNn ?_))
  refine ti (Sh (.slice none 0 0) (.sl [])) (fun _ _ _ => eU.e _ _ (by unfold maxLen; omega)) ?_
  refine aJ (aO ?_)
  refine br [2] [] rfl Tryz.results211 rfl ?_ (.inr rfl)
  exact ⟨rfl, none, 0, by rw [show fu l.l ρ to_ = [] from if_pos (by simpa using h1)]; rfl, by rw [show fu l.l ρ to_ = [] from if_pos (by simpa using h1)]; rfl⟩
 ·skip
  have hgo : xT l.l to_ := ⟨ht.1, ht.2, by simpa using h1⟩
  refine aq (az (aSR (aM rfl ?_)))
  refine an (q := true) rfl (cB (zs := [.int .i64 0]) (l := [(0, .tmp 11)]) el90 (by kernel_rfl) (by decide) (by decide) (by decide) rfl rfl rfl (.more rfl (.v rfl .nil) .nil) rfl rfl (fun v3_1 => ?_))
  refine aHN ?_
  refine aA rfl (aNs (aI ?_))
  refine aT [0, 1, 5] [0] [0] (fun (p : Int × List Int × Value) s => (xT l.l p.1 ∧ p.2.1 ++ (chain l.l (ρ p.1) p.1).tail = chain l.l (ρ to_) to_ ∧ p.2.1.length + ρ p.1 ≤ ρ to_ + 1) ∧ s = ⟨[(0, true, l.val), (1, true, .int .i64 p.1), (5, true, p.2.2)], [ShF (fun z => [.v (encI z)]) l], [bg p.2.2 3 1 (bS encI p.2.1)]⟩) (fun p => ρ p.1) rfl (⟨(to_, [to_], _), ⟨hgo, (po _ _ _).symm, by simp; omega⟩, rfl⟩) ?_
  rintro ⟨v, acc, out⟩ s ⟨⟨hv, hch, hlen⟩, rfl⟩
  dsimp only at hv hch hlen
  have hv1 := hv.1
  have hv2 := hv.2.1
  refine aH (aSR (aM rfl (aM rfl ?_)))
  refine cJ true rfl rfl (fun _ => av Tryz.underlying90 tk3 rfl ((.of (aF 0 rfl))) rfl (bI (i := v) (by omega) (by omega)) (by omega) rfl) (fun h => absurd h (by decide)) (fun ⟨b4_2, o4_2⟩ => ?_)
  refine aU rfl (aP (o := 0) tk3 rfl (aF 0 rfl) rfl rfl) (aM rfl (aU rfl (dB rfl rfl) (aNn ?_)))
  refine al _ rfl (fun h2 => ?_) (fun h2 => ?_)
  ·skip
   have hne : elt l.l v ≠ v := by simpa using h2
   have hst := hT.step v hv hne
   have hcs := uI hT hv hne
   refine aq (az (aI (aSR (aM rfl (aM rfl ?_)))))
   refine cJ true rfl rfl (fun _ => av Tryz.underlying90 tk3 rfl ((.of (aF 1 rfl))) rfl (bI (i := v) (by omega) (by omega)) (by omega) rfl) (fun h => absurd h (by decide)) (fun ⟨b5_2, o5_2⟩ => ?_)
   refine aU rfl (aP (o := 0) tk3 rfl (aF 0 rfl) rfl rfl) (aA rfl (aNn (aj (aM rfl (aM rfl ?_)))))
   refine an (q := true) rfl (cB (zs := [.int .i64 0]) (l := [(0, .tmp 24)]) el90 (by kernel_rfl) (by decide) (by decide) (by decide) rfl rfl rfl (.more rfl (.v rfl .nil) .nil) rfl rfl (fun v6_2 => ?_))
   refine aHN ?_
   refine an rfl (cL 0 el90 rfl rfl rfl rfl (dR 1 el90 rfl (by simp)) (by first | assumption | simp) (by simp [cT]; omega) _ rfl (fun v6_3 c6_3 => ?_))
   refine aHK ?_
   refine aA rfl (cn (bB (az ?_)))
   refine ⟨[0, 1, 5], [0], [0], rfl, ?_⟩
   refine ⟨(elt l.l v, acc ++ [elt l.l v], .slice v6_3 ((bS encI acc).length + 1) c6_3), ⟨⟨hst.1, ?_, by simp; omega⟩, ?_⟩, hst.2⟩
   · rw [← hch, hcs, List.append_assoc]
     exact congrArg _ (po _ _ _).symm
   · show _ = (⟨_, _, [bg _ _ 1 (bS encI (acc ++ [elt l.l v]))]⟩ : Sta)
     rw [show bS encI (acc ++ [elt l.l v]) = bS encI acc ++ [[.v (encI (elt l.l v))]] by simp [bS]]
     rfl
  ·skip
   have heq : elt l.l v = v := by simpa using h2
   rw [xe _ heq, List.tail_cons, List.append_nil] at hch
   subst hch
   refine aX (aY (aY (bf (az (aSR (aM rfl ?_))))))
   refine an (q := false) rfl (bH [] [0] (by kernel_rfl) rfl rfl rfl rfl (rE _) ?_)
   rintro r7 _ _ ⟨rfl, rfl⟩
   refine aST ?_
   refine aNn (aSR (aM rfl (aA rfl (aNn ?_))))
   refine fN 0 rfl ?_
   refine jN (.of (aF 0 rfl)) (fun ad kc hv => ?_)
   rw [cT] at hv
   refine aJ ?_
   refine br [2] [] rfl Tryz.results211 rfl ?_ (.inr rfl)
   have e : fu l.l ρ to_ = (chain l.l (ρ to_) to_).reverse := if_neg (by simpa using h1)
   exact ⟨rfl, ad, kc, by rw [e]; exact hv, by rw [e, ← hv]; rfl⟩
end Go.Proofs.YtgmiihmahaahiaaGreatDoor

namespace Go.Lv
open Go.Sy
structure G (N : Nat) (out : List (List Int)) (rs : List Int) (k : Nat) (s : BS) : Prop where
 len : s.1.length = N
 mem : ∀ v ∈ s.2, 0 ≤ v ∧ v < N
 iff : ∀ v : Int, 0 ≤ v → v < N → (0 ≤ elt s.1 v ↔ v ∈ s.2)
 nodup : s.2.Nodup
 par : ∀ (j : Nat) (v : Int), s.2[j]? = some v → (elt s.1 v = v ∧ v ∈ rs) ∨ ∃ (i : Nat) (u : Int), i < j ∧ i ≤ k ∧ s.2[i]? = some u ∧ elt s.1 v = u ∧ v ∈ elt out u ∧ ∀ i' < i, ∀ u', s.2[i']? = some u' → v ∉ elt out u'
 clo : ∀ i < k, ∀ u, s.2[i]? = some u → ∀ x ∈ elt out u, x ∈ s.2
 root : ∀ v ∈ rs, 0 ≤ v → v < N → v ∈ s.2
theorem aat (N : Nat) (v : Int) (h0 : 0 ≤ v) (h1 : v < N) : elt (List.replicate N (-1 : Int)) v = -1 := by
 unfold elt; rw [List.getD_eq_getElem?_getD, List.getElem?_replicate, if_pos (by omega)]; rfl
structure G0 (N : Nat) (rd : List Int) (s : BS) : Prop where
 len : s.1.length = N
 mem : ∀ v ∈ s.2, (0 ≤ v ∧ v < N) ∧ elt s.1 v = v ∧ v ∈ rd
 iff : ∀ v : Int, 0 ≤ v → v < N → (0 ≤ elt s.1 v ↔ v ∈ s.2)
 nodup : s.2.Nodup
 root : ∀ v ∈ rd, 0 ≤ v → v < N → v ∈ s.2
theorem sL {N : Nat} {rd : List Int} {s : BS} {v : Int} (h : G0 N rd s) (hv : v ∉ rd) : G0 N (rd ++ [v]) (dX N s v) := by
 unfold dX
 split
 · rename_i hvn
   have hvs : v ∉ s.2 := fun hm => hv (h.mem v hm).2.2
   have he : ∀ y, 0 ≤ y → elt (s.1.set v.toNat v) y = if v = y then v else elt s.1 y := fun y hy => wk hvn.1 (by rw [h.len]; exact hvn.2) hy
   refine ⟨by simpa using h.len, fun y hy => ?_, fun y hy0 hy1 => ?_, ?_, fun y hy h0 h1 => ?_⟩
   · dsimp only
     rcases List.mem_append.1 hy with hy | hy
     · obtain ⟨h1, h2, h3⟩ := h.mem y hy
       refine ⟨h1, ?_, List.mem_append_left _ h3⟩
       rw [he y h1.1]; split
       · rename_i e; exact e
       · exact h2
     · rw [List.mem_singleton.1 hy]
       exact ⟨hvn, by rw [he v hvn.1, if_pos rfl], by simp⟩
   · dsimp only
     rw [he y hy0, List.mem_append, List.mem_singleton]
     split
     · rename_i e; exact ⟨fun _ => .inr e.symm, fun _ => hvn.1⟩
     · rename_i e
       rw [h.iff y hy0 hy1]
       exact ⟨.inl, fun h => h.elim id fun h => (e h.symm).elim⟩
   · refine List.nodup_append.2 ⟨h.nodup, by simp, fun a ha b hb => ?_⟩
     rw [List.mem_singleton.1 hb]; rintro rfl; exact hvs ha
   · rcases List.mem_append.1 hy with hy | hy
     · exact List.mem_append_left _ (h.root y hy h0 h1)
     · exact List.mem_append_right _ hy
 · rename_i hvn
   refine ⟨h.len, fun y hy => ⟨(h.mem y hy).1, (h.mem y hy).2.1, List.mem_append_left _ (h.mem y hy).2.2⟩, h.iff, h.nodup, fun y hy h0 h1 => ?_⟩
   rcases List.mem_append.1 hy with hy | hy
   · exact h.root y hy h0 h1
   · rw [List.mem_singleton.1 hy] at h0 h1; exact (hvn ⟨h0, h1⟩).elim
theorem pV (N : Nat) : ∀ (l rd : List Int) (s : BS), G0 N rd s → (rd ++ l).Nodup → G0 N (rd ++ l) (l.foldl (dX N) s)
 | [], rd, s, h, _ => by simpa using h
 | v :: l, rd, s, h, hn => by
   rw [List.foldl_cons, show rd ++ v :: l = (rd ++ [v]) ++ l by simp]
   refine pV N l (rd ++ [v]) _ (sL h fun hm => ?_) (by simpa using hn)
   have := (List.nodup_append.1 hn).2.2 v hm v List.mem_cons_self
   exact this rfl
theorem yS {N : Nat} {out : List (List Int)} {rs : List Int} (hn : rs.Nodup) : G N out rs 0 (dK N rs) := by
 have h : G0 N rs (dK N rs) := by
   have h0 : G0 N [] (List.replicate N (-1), []) := by
     refine ⟨by simp, (fun v hv => by cases hv), fun v h0 h1 => ?_, by simp, fun v hv => by cases hv⟩
     dsimp only; rw [aat N v h0 h1]; simp
   have := pV N rs [] _ h0 (by simpa using hn)
   unfold dK; simpa using this
 exact ⟨h.len, fun v hv => (h.mem v hv).1, h.iff, h.nodup, fun j v hj => .inl (h.mem v (List.mem_of_getElem? hj)).2, fun i hi => by omega, h.root⟩
theorem aaX {N : Nat} {out : List (List Int)} {rs : List Int} {k : Nat} {s : BS} {u x : Int} (h : G N out rs k s) (hu : s.2[k]? = some u) (hx : x ∈ elt out u) (hxn : 0 ≤ x ∧ x < N) : G N out rs k (visit u s x) ∧ x ∈ (visit u s x).2 := by
 unfold visit
 split
 · rename_i h0
   have hxs : x ∉ s.2 := fun hm => by have := (h.iff x hxn.1 hxn.2).2 hm; omega
   have hun := h.mem u (List.mem_of_getElem? hu)
   have he : ∀ y, 0 ≤ y → elt (s.1.set x.toNat u) y = if x = y then u else elt s.1 y := fun y hy => wk hxn.1 (by rw [h.len]; exact hxn.2) hy
   have hkl := (List.getElem?_eq_some_iff.1 hu).1
   have hget : ∀ (i : Nat), i < s.2.length → (s.2 ++ [x])[i]? = s.2[i]? := fun i hi => List.getElem?_append_left hi
   refine ⟨⟨by simpa using h.len, fun y hy => ?_, fun y hy0 hy1 => ?_, ?_, fun j v hj => ?_, fun i hi w hw y hy => ?_, fun y hy h1 h2 => List.mem_append_left _ (h.root y hy h1 h2)⟩, by simp⟩
   · rcases List.mem_append.1 hy with hy | hy
     · exact h.mem y hy
     · rw [List.mem_singleton.1 hy]; exact hxn
   · dsimp only
     rw [he y hy0, List.mem_append, List.mem_singleton]
     split
     · rename_i e; exact ⟨fun _ => .inr e.symm, fun _ => hun.1⟩
     · rename_i e
       rw [h.iff y hy0 hy1]
       exact ⟨.inl, fun h => h.elim id fun h => (e h.symm).elim⟩
   · refine List.nodup_append.2 ⟨h.nodup, by simp, fun a ha b hb => ?_⟩
     rw [List.mem_singleton.1 hb]; rintro rfl; exact hxs ha
   · dsimp only at hj ⊢
     by_cases hjl : j < s.2.length
     · rw [hget j hjl] at hj
       have hvm := List.mem_of_getElem? hj
       have hvx : x ≠ v := fun e => hxs (e ▸ hvm)
       rw [he v (h.mem v hvm).1, if_neg hvx]
       rcases h.par j v hj with h1 | ⟨i, w, h1, h2, h3, h4, h5, h6⟩
       · exact .inl h1
       · refine .inr ⟨i, w, h1, h2, by rw [hget i (by omega)]; exact h3, h4, h5, fun i' hi' u' hu' => h6 i' hi' u' ?_⟩
         rwa [hget i' (by omega)] at hu'
     · have hjx : v = x := by
         have hjl2 := (List.getElem?_eq_some_iff.1 hj).1
         rw [List.length_append, List.length_singleton] at hjl2
         rw [List.getElem?_append_right (by omega), show j - s.2.length = 0 by omega] at hj
         simpa using hj.symm
       subst hjx
       refine .inr ⟨k, u, by omega, Nat.le_refl _, by rw [hget k hkl]; exact hu, by rw [he v hxn.1, if_pos rfl], hx, fun i' hi' u' hu' hm => hxs (h.clo i' hi' u' ?_ v hm)⟩
       rwa [hget i' (by omega)] at hu'
   · dsimp only at hw ⊢
     rw [hget i (by omega)] at hw
     exact List.mem_append_left _ (h.clo i hi w hw y hy)
 · rename_i h0
   exact ⟨h, (h.iff x hxn.1 hxn.2).1 (by omega)⟩
theorem sH {N : Nat} {out : List (List Int)} {rs : List Int} {k : Nat} {u : Int} : ∀ (l : List Int) (s : BS), G N out rs k s → s.2[k]? = some u → (∀ x ∈ l, x ∈ elt out u ∧ 0 ≤ x ∧ x < N) → G N out rs k (l.foldl (visit u) s) ∧ ∀ x ∈ l, x ∈ (l.foldl (visit u) s).2
 | [], s, h, _, _ => ⟨h, fun _ h => by cases h⟩
 | x :: l, s, h, hu, hl => by
   obtain ⟨h1, h2⟩ := aaX h hu (hl x List.mem_cons_self).1 (hl x List.mem_cons_self).2
   obtain ⟨h3, h4⟩ := sH l (visit u s x) h1 (qY pH hu) (fun y hy => hl y (List.mem_cons_of_mem _ hy))
   refine ⟨h3, fun y hy => ?_⟩
   rcases List.mem_cons.1 hy with rfl | hy
   · exact (jg l (visit u s y)).subset h2
   · exact h4 y hy
theorem abj {N : Nat} {out : List (List Int)} {rs : List Int} (hn : rs.Nodup) (ho : lg N out) : ∀ k, G N out rs k (bfs out (dK N rs) k)
 | 0 => yS hn
 | k + 1 => by
   have ih := abj hn ho k
   unfold bfs pe
   split
   · rename_i hnone
     refine ⟨ih.len, ih.mem, ih.iff, ih.nodup, fun j v hj => ?_, fun i hi u hu x hx => ?_, ih.root⟩
     · exact (ih.par j v hj).imp id fun ⟨i, u, h1, h2, h⟩ => ⟨i, u, h1, by omega, h⟩
     · by_cases hik : i = k
       · subst hik; rw [hnone] at hu; cases hu
       · exact ih.clo i (by omega) u hu x hx
   · rename_i u hu
     obtain ⟨h1, h2⟩ := sH (elt out u) _ ih hu (fun x hx => ⟨hx, ho u x hx⟩)
     refine ⟨h1.len, h1.mem, h1.iff, h1.nodup, fun j v hj => ?_, fun i hi w hw x hx => ?_, h1.root⟩
     · exact (h1.par j v hj).imp id fun ⟨i, u, h1, h2, h⟩ => ⟨i, u, h1, by omega, h⟩
     · by_cases hik : i = k
       · subst hik
         have := qY (jg (u := u) (elt out u) _) hu
         rw [this] at hw
         simp only [Option.some.injEq] at hw
         subst hw
         exact h2 x hx
       · exact h1.clo i (by omega) w hw x hx
inductive Rch (N : Nat) (out : List (List Int)) (rs : List Int) : Int → Prop where
 | root {v : Int} : v ∈ rs → 0 ≤ v → v < N → Rch N out rs v
 | arc {u v : Int} : Rch N out rs u → v ∈ elt out u → Rch N out rs v
def qv (N : Nat) (out : List (List Int)) (rs : List Int) : List Int := (bfs out (dK N rs) (rs.length + N)).2
section
variable {N : Nat} {out : List (List Int)} {rs : List Int}
theorem nX (ho : lg N out) : (qv N out rs).length ≤ rs.length + N := (oC ho (j6 N rs) _).le
theorem qS (hn : rs.Nodup) (ho : lg N out) : G N out rs (rs.length + N) (iz N out rs, qv N out rs) := abj hn ho _
theorem y8 (hn : rs.Nodup) (ho : lg N out) (v : Int) : v ∈ qv N out rs ↔ Rch N out rs v := by
 have hG := qS (rs := rs) hn ho
 have hl := nX (rs := rs) ho
 constructor
 · have : ∀ (j : Nat) (v : Int), (qv N out rs)[j]? = some v → Rch N out rs v := by
     intro j
     induction j using Nat.strongRecOn with
     | _ j ih =>
       intro v hj
       have hvn := hG.mem v (List.mem_of_getElem? hj)
       rcases hG.par j v hj with ⟨_, h1⟩ | ⟨i, u, h1, _, h3, _, h5, _⟩
       · exact .root h1 hvn.1 hvn.2
       · exact .arc (ih i h1 u h3) h5
   intro hv
   obtain ⟨j, hj⟩ := List.mem_iff_getElem?.1 hv
   exact this j v hj
 · intro h
   induction h with
   | root h h0 h1 => exact hG.root _ h h0 h1
   | arc _ h ih =>
     obtain ⟨i, hi⟩ := List.mem_iff_getElem?.1 ih
     have := (List.getElem?_eq_some_iff.1 hi).1
     exact hG.clo i (by omega) _ hi _ h
theorem oN (ho : lg N out) : (iz N out rs).length = N := (oC ho (j6 N rs) _).len
theorem kl (hn : rs.Nodup) (ho : lg N out) {v : Int} (h0 : 0 ≤ v) (h1 : v < N) : 0 ≤ elt (iz N out rs) v ↔ Rch N out rs v := by
 rw [← y8 hn ho]; exact (qS hn ho).iff v h0 h1
def pG (w : List Int) (v : Int) : Nat := w.idxOf v
theorem uc {w : List Int} (hn : w.Nodup) {j : Nat} {v : Int} (h : w[j]? = some v) : pG w v = j := by
 obtain ⟨hj, rfl⟩ := List.getElem?_eq_some_iff.1 h
 exact hn.idxOf_getElem j hj
end
end Go.Lv

namespace Go.Proofs.YtgmiihmahaahiaaGreatDoor
open Go.RowKit Go.Lp Go.Sy Go.Lv
open Go.Proofs.Tryz
attribute [local irreducible] aL aB awp aC fwp
theorem sx {N : Nat} {l : List dy} (hN : N ≤ 100000) (hr : ∀ a ∈ l, jH N a) : vR (N : Int) l = true := by
 unfold vR
 have h : l.any (ku (N : Int)) = false := by
   rw [List.any_eq_false]
   intro a ha
   have := hr a ha
   unfold jH at this
   obtain ⟨⟨h1, h2⟩, h3, h4⟩ := this
   simp [ku, wz, h1, h2, h3, h4]
 rw [h]
 simp; omega
theorem jw (zs : List Int) : (di zs).Nodup := (ja zs).1.imp fun h => by omega
abbrev fw (N : Nat) (l : List dy) (rs : List Int) : List Int := iz N (fq N l) (di rs)
abbrev fX (N : Nat) (l : List dy) (rs : List Int) : List Int := qv N (fq N l) (di rs)
theorem vt {N : Nat} {l : List dy} (hr : ∀ a ∈ l, jH N a) (rs : List Int) : Tree (fw N l rs) (pG (fX N l rs)) := ⟨fun v hv hne => by
 have hG := qS (rs := di rs) (jw rs) (mr hr)
 have hlen := hG.len
 have hvm := (hG.iff v hv.1 (by have := hv.2.1; rw [← hlen]; exact this)).1 hv.2.2
 obtain ⟨j, hj⟩ := List.mem_iff_getElem?.1 hvm
 rcases hG.par j v hj with ⟨h, _⟩ | ⟨i, u, h1, _, h3, h4, _⟩
 · exact (hne h).elim
 · have h4' : elt (fw N l rs) v = u := h4
   have hum := List.mem_of_getElem? h3
   have hun := hG.mem u hum
   rw [h4', uc hG.nodup h3, uc hG.nodup hj]
   exact ⟨⟨hun.1, by rw [show (fw N l rs).length = N from hlen]; exact hun.2, (hG.iff u hun.1 hun.2).2 hum⟩, h1⟩⟩
theorem we (w : List Int) (v : Int) : pG w v ≤ w.length := List.idxOf_le_length
def fy (N : Nat) (b : List Int) : List Int := ((List.range N).filter fun v : Nat => decide (0 ≤ elt b (v : Int))).map fun v : Nat => (v : Int)
theorem oT (b : List Int) (k : Nat) : fy (k + 1) b = if 0 ≤ elt b (k : Int) then fy k b ++ [(k : Int)] else fy k b := by
 unfold fy
 rw [List.range_succ, List.filter_append, List.map_append]
 split
 · rename_i h; simp [h]
 · rename_i h; simp [h]
theorem tf (b : List Int) (k : Nat) : (fy k b).length ≤ k := by
 unfold fy; rw [List.length_map]; exact Nat.le_trans (List.length_filter_le _ _) (by simp)
theorem mF (N : Nat) (hN : N ≤ 1000000) (l : Sl dy) (hl : l.l.length ≤ 1000000) (hr : ∀ a ∈ l.l, jH N a) (rs : Sl Int) (hrs : rs.l.length ≤ 1000000) {b : List Int} (hb : fw N l.l rs.l = b) :
   Con Tryz.prog 121 [.int .i64 N, l.val, rs.val] [ShF dy.row l, ShF (fun z => [.v (encI z)]) rs] [] fun r ps hp => ps = [] ∧ hp = [bg r 3 1 (bS encI b)] := by
 subst hb; exact uE N hN l hl hr rs hrs
theorem xf (N : Nat) (hN : N ≤ 100000) (l : Sl dy) (hl : l.l.length ≤ 1000000) (hr : ∀ a ∈ l.l, jH N a) (rs : Sl Int) (hrs : rs.l.length ≤ 1000000) :
   Con Tryz.prog 64 [.int .i64 N, l.val, rs.val] [ShF dy.row l, ShF (fun z => [.v (encI z)]) rs] [] fun r ps hp => ps = [] ∧ ∃ ad c, r = .slice ad (fy N (fw N l.l rs.l)).length c ∧ hp = [bg r 3 1 (bS encI (fy N (fw N l.l rs.l)))] := by
 obtain ⟨b, hb⟩ : ∃ b, fw N l.l rs.l = b := ⟨_, rfl⟩
 have hbl : b.length = N := by rw [← hb]; exact oN (mr hr)
 rw [hb]
 refine Con.enter Tryz.func64 rfl (by simp [Tryz.ntmps64]) ?_
 show awp _ _ _ _ ⟨[(0, true, _), (1, true, _), (2, true, _)], _, _⟩
 refine aSR (aA rfl (aNs (aSR (aM rfl (aM rfl ?_)))))
 refine aU rfl (bC (by kernel_rfl) rfl (fun w S fp hst => (qo N l).quiet1 (aF 0 rfl) hst)) ?_
 refine aU rfl (bZ rfl) (aNn ?_)
 refine al _ rfl (fun h1 => ?_) (fun h1 => ?_)
 ·skip
  exact absurd h1 (by rw [sx hN hr]; decide)
 ·skip
  refine aq (az (aH (eD 3 1 ?_)))
  show awp _ _ _ _ ⟨_, _, [_]⟩
  refine aj (aA rfl (aNs (aSR (aM rfl (aM rfl (aM rfl ?_))))))
  refine an (q := true) rfl (bH [1, 0] [] (by kernel_rfl) rfl rfl rfl rfl (mF N (by omega) l hl hr rs hrs hb) ?_)
  rintro vb _ _ ⟨rfl, rfl⟩
  refine aST ?_
  refine aU rfl (kK 1 Tryz.underlying90 rfl rfl) (aM rfl (aNn (aI ?_)))
  refine iM 1 rfl (fun ab cb hvb => ?_)
  simp only [cT, hbl] at hvb ⊢
  subst hvb
  refine fN 1 rfl (aT [7, 17, 18, 19] [2] [0] (fun (p : Nat × Value) s => p.1 ≤ N ∧ s = ⟨[(7, true, p.2), (17, true, .slice ab N cb), (18, true, .int .i64 N), (19, true, .int .i64 p.1)], [Sh (.slice ab N cb) (.sl (bS encI b))], [bg p.2 3 1 (bS encI (fy p.1 b))]⟩) (fun p => N - p.1) rfl (⟨(0, .slice none 0 0), Nat.zero_le _, rfl⟩) ?_)
  rintro ⟨k, vr⟩ s ⟨hk, rfl⟩
  dsimp only at hk
  refine aSR (aU rfl (bw rfl rfl) (aNs ?_))
  refine al _ rfl (fun h2 => ?_) (fun h2 => ?_)
  ·skip
   have hk' : k < N := by simp at h2; omega
   have hbk : b[k]? = some (elt b (k : Int)) := bM (by omega)
   refine aq (az (aH (aI (aSR (aM rfl ?_)))))
   refine cJ true rfl rfl (fun _ => av Tryz.underlying90 tk3 rfl ((.of (aF 0 rfl))) rfl (fR hbk) rfl rfl) (fun h => absurd h (by decide)) (fun ⟨b6_1, o6_1⟩ => ?_)
   refine aU rfl (aP (o := 0) tk3 rfl (aF 0 rfl) rfl rfl) (aA rfl (aA rfl (aNn (aSR (aM rfl (aU rfl (eu rfl rfl) (aNn ?_)))))))
   refine al _ rfl (fun h3 => ?_) (fun h3 => ?_)
   ·skip
    have hge : 0 ≤ elt b (k : Int) := by simpa using h3
    refine aj (aM rfl (aM rfl ?_))
    refine an (q := true) rfl (cB (zs := [.int .i64 0]) (l := [(0, .tmp 27)]) el90 (by kernel_rfl) (by decide) (by decide) (by decide) rfl rfl rfl (.more rfl (.v rfl .nil) .nil) rfl rfl (fun v8_2 => ?_))
    refine aHN ?_
    refine an rfl (cL 0 el90 rfl rfl rfl rfl (dR 1 el90 rfl (by simp)) (by first | assumption | simp) (by have := tf b k; simp [cT]; omega) _ rfl (fun v8_3 c8_3 => ?_))
    refine aHK ?_
    refine aA rfl (cn (bB (az (aj ?_))))
    refine aU rfl (bd rfl rfl (by omega)) ?_
    refine aM rfl (aNn ?_)
    refine ⟨[7, 17, 18, 19], [0], [0], rfl, ?_⟩
    refine ⟨(k + 1, .slice v8_3 ((bS encI (fy k b)).length + 1) c8_3), ⟨by omega, ?_⟩, by omega⟩
    dsimp only
    rw [oT, if_pos hge, mm]
    rfl
   ·skip
    have hge : ¬ 0 ≤ elt b (k : Int) := by simpa using h3
    refine aq (bB (az (aj ?_)))
    refine aU rfl (bd rfl rfl (by omega)) ?_
    refine aM rfl (aNn ?_)
    refine ⟨[7, 17, 18, 19], [0], [0], rfl, ?_⟩
    refine ⟨(k + 1, vr), ⟨by omega, ?_⟩, by omega⟩
    dsimp only
    rw [oT, if_neg hge]
    rfl
  ·skip
   have hkN : k = N := by simp at h2; omega
   subst hkN
   dsimp only
   refine iM 0 rfl (fun ad cd hvr => ?_)
   rw [cT] at hvr
   subst hvr
   refine aX (aY (aY (bf (az (aSR (aM rfl (aA rfl (aNn (aJ ?_)))))))))
   refine br [] [0] rfl Tryz.results64 rfl ?_ (.inr rfl)
   exact ⟨rfl, ad, cd, rfl, rfl⟩
theorem vW (b : List Int) (ρ : Int → Nat) (hT : Tree b ρ) (v : Value) (to_ : Int) (ht : 0 ≤ to_ ∧ to_ < b.length) (hb : ρ to_ ≤ 100000) :
   Con Tryz.prog 211 [v, .int .i64 to_] [] [bg v 3 1 (bS encI b)] fun r ps hp => hp = [] ∧ ∃ ad c, r = .slice ad (fu b ρ to_).length c ∧ ps = [Sh (.slice ad (fu b ρ to_).length c) (.sl (bS encI (fu b ρ to_)))] := fun w S fp hst => by
 obtain ⟨ad, cap, rfl⟩ := mZ (hst.res 0 _ rfl)
 rw [cT] at hst ⊢
 exact Con.ofOwn (xl ⟨ad, cap, b⟩ ρ hT to_ ht hb) w S fp hst
theorem aaw (N : Nat) (hN : N ≤ 10000) (l : Sl dy) (hl : l.l.length ≤ 10000) (hr : ∀ a ∈ l.l, jH N a) (rs : Sl Int) (hrs : rs.l.length ≤ 10000) (to_ : Int) (ht : 0 ≤ to_ ∧ to_ < N) :
   Con Tryz.prog 107 [.int .i64 N, l.val, rs.val, .int .i64 to_] [ShF dy.row l, ShF (fun z => [.v (encI z)]) rs] [] fun r ps hp => hp = [] ∧ ∃ ad c, r = .slice ad (fu (fw N l.l rs.l) (pG (fX N l.l rs.l)) to_).length c ∧ ps = [Sh (.slice ad (fu (fw N l.l rs.l) (pG (fX N l.l rs.l)) to_).length c) (.sl (bS encI (fu (fw N l.l rs.l) (pG (fX N l.l rs.l)) to_)))] := by
 have hT := vt hr rs.l
 have hrk : pG (fX N l.l rs.l) to_ ≤ 100000 := by
   have h1 := we (fX N l.l rs.l) to_
   have h2 : (fX N l.l rs.l).length ≤ _ := nX (rs := di rs.l) (mr hr)
   have h3 := oz rs.l
   omega
 obtain ⟨ρ, hρ⟩ : ∃ ρ, pG (fX N l.l rs.l) = ρ := ⟨_, rfl⟩
 rw [hρ] at hT hrk ⊢
 obtain ⟨b, hb⟩ : ∃ b, fw N l.l rs.l = b := ⟨_, rfl⟩
 have hbl : b.length = N := by rw [← hb]; exact oN (mr hr)
 rw [hb] at hT ⊢
 refine Con.enter Tryz.func107 rfl (by simp [Tryz.ntmps107]) ?_
 show awp _ _ _ _ ⟨[(0, true, _), (1, true, _), (2, true, _), (3, true, _)], _, _⟩
 refine aSR (aA rfl (aNs (aSR (aM rfl (aM rfl ?_)))))
 refine aU rfl (bC (by kernel_rfl) rfl (fun w S fp hst => (qo N l).quiet1 (aF 0 rfl) hst)) ?_
 refine aU rfl (bZ rfl) (aM rfl (aG rfl rfl (fun hc => aD rfl) (aG rfl rfl (fun hc => bw (ae rfl hc) rfl) (aU rfl (bY rfl rfl (fun h => gf rfl h)) (aM rfl (aG rfl rfl (fun hc => aD rfl) (aG rfl rfl (fun hc => aD rfl) (aG rfl rfl (fun hc => eu (ae rfl hc) (ae rfl hc)) (aU rfl (bY rfl rfl (fun h => gf rfl h)) (aNn ?_))))))))))
 refine al _ rfl (fun h1 => ?_) (fun h1 => ?_)
 ·skip
  exact absurd h1 (by rw [sx (by omega) hr]; simp; omega)
 ·skip
  refine aq (az (aSR (aM rfl (aM rfl (aM rfl ?_)))))
  refine an (q := true) rfl (bH [1, 0] [] (by kernel_rfl) rfl rfl rfl rfl (mF N (by omega) l (by omega) hr rs (by omega) hb) ?_)
  rintro vb _ _ ⟨rfl, rfl⟩
  refine aST ?_
  refine aM rfl ?_
  refine an (q := false) rfl (bH [] [0] (by kernel_rfl) rfl rfl rfl rfl (vW b ρ hT vb to_ (by omega) hrk) ?_)
  rintro _ _ _ ⟨rfl, ad, c, rfl, rfl⟩
  refine aST ?_
  refine aA rfl (aNn (aJ ?_))
  refine br [2] [] rfl Tryz.results107 rfl ?_ (.inr rfl)
  exact ⟨rfl, ad, c, rfl, rfl⟩
end Go.Proofs.YtgmiihmahaahiaaGreatDoor

namespace Go.Proofs.YtgmiihmahaahiaaGreatDoor
open Go.RowKit Go.Lp Go.Sy Go.Lv
open Go.Proofs.Tryz
def rq (x : Int) : List Int → List Int
 | [] => [x]
 | y :: l => if x < y then x :: y :: l else if x = y then y :: l else y :: rq x l
def kq (zs : List Int) : List Int := zs.foldr rq []
theorem oy {x z : Int} : ∀ {l : List Int}, z ∈ rq x l ↔ z = x ∨ z ∈ l
 | [] => by simp [rq]
 | y :: l => by
   unfold rq
   split
   · simp
   · split
     · rename_i h1 h2; subst h2; simp
     · rw [List.mem_cons, oy, List.mem_cons]
       constructor
       · rintro (h | h | h)
         · exact .inr (.inl h)
         · exact .inl h
         · exact .inr (.inr h)
       · rintro (h | h | h)
         · exact .inr (.inl h)
         · exact .inl h
         · exact .inr (.inr h)
theorem mv {x : Int} : ∀ {l : List Int}, l.Pairwise (· < ·) → (rq x l).Pairwise (· < ·)
 | [], _ => by simp [rq]
 | y :: l, h => by
   obtain ⟨h1, h2⟩ := List.pairwise_cons.1 h
   unfold rq
   split
   · rename_i hxy
     refine List.pairwise_cons.2 ⟨fun z hz => ?_, h⟩
     rcases List.mem_cons.1 hz with rfl | hz
     · exact hxy
     · exact Int.lt_trans hxy (h1 z hz)
   · split
     · exact h
     · rename_i h3 h4
       refine List.pairwise_cons.2 ⟨fun z hz => ?_, mv h2⟩
       rcases oy.1 hz with rfl | hz
       · omega
       · exact h1 z hz
theorem oV (zs : List Int) : (kq zs).Pairwise (· < ·) ∧ ∀ x, x ∈ kq zs ↔ x ∈ zs := by
 induction zs with
 | nil => exact ⟨List.Pairwise.nil, fun x => Iff.rfl⟩
 | cons z zs ih => exact ⟨mv ih.1, fun x => by show x ∈ rq z (kq zs) ↔ _; rw [oy, ih.2, List.mem_cons]⟩
theorem oJ : ∀ {a b : List Int}, a.Pairwise (· < ·) → b.Pairwise (· < ·) → (∀ x, x ∈ a ↔ x ∈ b) → a = b
 | [], [], _, _, _ => rfl
 | [], y :: b, _, _, h => by have := (h y).2 List.mem_cons_self; cases this
 | x :: a, [], _, _, h => by have := (h x).1 List.mem_cons_self; cases this
 | x :: a, y :: b, ha, hb, h => by
   obtain ⟨a1, a2⟩ := List.pairwise_cons.1 ha
   obtain ⟨b1, b2⟩ := List.pairwise_cons.1 hb
   have hxy : x = y := by
     rcases List.mem_cons.1 ((h x).1 List.mem_cons_self) with e | e
     · exact e
     · rcases List.mem_cons.1 ((h y).2 List.mem_cons_self) with e' | e'
       · exact e'.symm
       · have := b1 x e; have := a1 y e'; omega
   subst hxy
   rw [oJ a2 b2 fun z => ⟨fun hz => ?_, fun hz => ?_⟩]
   · rcases List.mem_cons.1 ((h z).1 (List.mem_cons_of_mem _ hz)) with e | e
     · have := a1 z hz; omega
     · exact e
   · rcases List.mem_cons.1 ((h z).2 (List.mem_cons_of_mem _ hz)) with e | e
     · have := b1 z hz; omega
     · exact e
theorem nx (zs : List Int) : di zs = kq zs := oJ (ja zs).1 (oV zs).1 fun x => by rw [(ja zs).2, (oV zs).2]
theorem ua (N : Nat) (l : List dy) : fq N l = (dJ N l).map kq := by unfold fq; rw [show (di : List Int → List Int) = kq from funext nx]
theorem qI (N : Nat) (l : List dy) (rs : List Int) : fw N l rs = iz N ((dJ N l).map kq) (kq rs) := by unfold fw; rw [ua, nx]
theorem xQ (N : Nat) (l : List dy) (rs : List Int) : fX N l rs = qv N ((dJ N l).map kq) (kq rs) := by unfold fX; rw [ua, nx]
end Go.Proofs.YtgmiihmahaahiaaGreatDoor

namespace Go.Proofs.YtgmiihmahaahiaaGreatDoor
open Go.RowKit Go.Lp Go.Sy
open Go.Proofs.Tryz
attribute [local irreducible] aL aB awp aC fwp
def cS (n len : Int) : Bool := decide (n ≥ 0) && decide (n < len)
def cM (os : List ax) (kp : List (Sl Bool)) (o s : Int) : Bool :=
 cS o os.length && cS s (elt os o).secs.l.length && decide (o < kp.length) && decide (s < (elt kp o).l.length) && elt (elt kp o).l s
theorem fL (n len : Int) : Con Tryz.prog 209 [.int .i64 n, .int .i64 len] [] [] fun r _ _ => r = .bool (cS n len) := by
 refine Con.enter Tryz.func209 rfl (by simp [Tryz.ntmps209]) ?_
 show awp _ _ _ _ ⟨[(0, true, _), (1, true, _)], _, _⟩
 refine aSR (aA rfl (aNn (aSR (aM rfl (aU rfl (eu rfl rfl) (aM rfl (aG rfl rfl (fun hc => aD rfl) (aG rfl rfl (fun hc => aD rfl) (aG rfl rfl (fun hc => bw (ae rfl hc) (ae rfl hc)) (aU rfl (bJ rfl rfl (fun h => gt rfl h)) (aA rfl (aNn (aJ ?_)))))))))))))
 refine br [] [] rfl Tryz.results209 rfl ?_ (.inr rfl)
 rfl
theorem lO (x : bj) (lb : Nat) (o s : Int) : Con Tryz.prog 105 [.pointer (some ⟨lb, 0, none⟩), .agg #[.int .i64 o, .int .i64 s]] [At lb 0 x.row, x.ok] [] fun r _ _ => r = .bool (cM x.objs.l x.keep.l o s) := by
 refine Con.enter Tryz.func105 rfl (by simp [Tryz.ntmps105]) ?_
 show awp _ _ _ _ ⟨[(0, true, _), (1, true, _)], _, _⟩
 refine aSR ?_
 refine an (q := true) rfl (cx rfl rfl rfl (fun b0_0 => ?_))
 refine aHN ?_
 refine aA rfl (aNs ?_)
 refine bp [] (by kernel_rfl) ?_
 show aB _ _ _ _ _ 62 #[false, false, false, false, false, false, false, false, false, false, false, false, false, false, false, false, false, false, false, false, false, false, false, false, false, false, false, false, false, false, false, false, false, false, false, false, false, false, false, false, false, false, false, false, false, false, false, false, false, false, false, false, false, false, false, false, false, false, false, false, false, false] _
 refine bV 0 rfl rfl (qFA (off := 0) rfl) ?_
 refine bV 1 rfl rfl (ah 0 tk3 rfl rfl rfl) ?_
 refine bV 2 rfl rfl (aD rfl) ?_
 refine bV 3 rfl rfl (aR rfl) ?_
 refine bV 4 rfl rfl (qFA (off := 7) rfl) ?_
 refine bV 5 rfl rfl (aN (o := 7) tk22 rfl (.of (aF 0 rfl)) rfl) ?_
 refine bV 6 rfl rfl (aZ Tryz.underlying22 rfl) ?_
 refine bV 7 rfl rfl (bC (by kernel_rfl) rfl (fun w S fp hst => (fL _ _).quiet0 hst)) ?_
 refine bV 8 rfl rfl (aD rfl) ?_
 refine bW 9 rfl rfl rfl (fun hc => qFA (off := 1) rfl) ?_
 refine bW 10 rfl rfl rfl (fun hc => ah 0 tk3 (ae rfl hc) rfl rfl) ?_
 refine bW 11 rfl rfl rfl (fun hc => aD rfl) ?_
 refine bW 12 rfl rfl rfl (fun hc => aR (ae rfl hc)) ?_
 refine bW 13 rfl rfl rfl (fun hc => qFA (off := 7) (ae rfl hc)) ?_
 refine bW 14 rfl rfl rfl (fun hc => aN (o := 7) tk22 (ae rfl hc) (.of (aF 0 rfl)) rfl) ?_
 refine bW 15 rfl rfl rfl (fun hc => qFA (off := 0) rfl) ?_
 refine bW 16 rfl rfl rfl (fun hc => ah 0 tk3 (ae rfl hc) rfl rfl) ?_
 refine dC 17 rfl (by kernel_rfl) _ rfl rfl (fun hc => av Tryz.underlying22 tk61 (ae rfl hc) ((bj.f_objs (.of (aF 1 rfl)))) (ae rfl hc) (bI (i := o) (by simp [cS] at hc; omega) (by simp [cS] at hc; omega)) (by simp [cS] at hc; omega) rfl) (fun _ => ⟨(0, 0)⟩) (fun ⟨b1_17, o1_17⟩ => ?_)
 refine bW 18 rfl rfl rfl (fun hc => qFA (off := 1) (ae rfl hc)) ?_
 refine bW 19 rfl rfl rfl (fun hc => aP (o := 1) tk50 (ae rfl hc) (aF 0 rfl) hc rfl) ?_
 refine bW 20 rfl rfl rfl (fun hc => aZ Tryz.underlying50 (ae rfl hc)) ?_
 refine bW 21 rfl rfl rfl (fun hc => bC (by kernel_rfl) (aS (ae rfl hc) (aS (ae rfl hc) rfl)) (fun w S fp hst => (fL _ _).quiet0 hst)) ?_
 refine bV 22 rfl rfl (bJ rfl rfl (fun h => gt rfl h)) ?_
 refine bV 23 rfl rfl (aD rfl) ?_
 refine bW 24 rfl rfl rfl (fun hc => qFA (off := 0) rfl) ?_
 refine bW 25 rfl rfl rfl (fun hc => ah 0 tk3 (ae rfl hc) rfl rfl) ?_
 refine bW 26 rfl rfl rfl (fun hc => aD rfl) ?_
 refine bW 27 rfl rfl rfl (fun hc => aR (ae rfl hc)) ?_
 refine bW 28 rfl rfl rfl (fun hc => qFA (off := 8) (ae rfl hc)) ?_
 refine bW 29 rfl rfl rfl (fun hc => aN (o := 8) tk27 (ae rfl hc) (.of (aF 1 rfl)) rfl) ?_
 refine bW 30 rfl rfl rfl (fun hc => aZ Tryz.underlying27 (ae rfl hc)) ?_
 refine bW 31 rfl rfl rfl (fun hc => bw (ae rfl hc) (ae rfl hc)) ?_
 refine bV 32 rfl rfl (bJ rfl rfl (fun h => gt rfl h)) ?_
 refine bV 33 rfl rfl (aD rfl) ?_
 refine bW 34 rfl rfl rfl (fun hc => qFA (off := 1) rfl) ?_
 refine bW 35 rfl rfl rfl (fun hc => ah 0 tk3 (ae rfl hc) rfl rfl) ?_
 refine bW 36 rfl rfl rfl (fun hc => aD rfl) ?_
 refine bW 37 rfl rfl rfl (fun hc => aR (ae rfl hc)) ?_
 refine bW 38 rfl rfl rfl (fun hc => qFA (off := 8) (ae rfl hc)) ?_
 refine bW 39 rfl rfl rfl (fun hc => aN (o := 8) tk27 (ae rfl hc) (.of (aF 1 rfl)) rfl) ?_
 refine bW 40 rfl rfl rfl (fun hc => qFA (off := 0) rfl) ?_
 refine bW 41 rfl rfl rfl (fun hc => ah 0 tk3 (ae rfl hc) rfl rfl) ?_
 refine dC 42 rfl (by kernel_rfl) _ rfl rfl (fun hc => av Tryz.underlying27 tk68 (ae rfl hc) ((bj.f_keep (.of (aF 2 rfl)))) (ae rfl hc) (bI (i := o) (by simp [cS] at hc; omega) (by simp [cS] at hc; omega)) (by simp [cS] at hc; omega) rfl) (fun _ => ⟨(0, 0)⟩) (fun ⟨b1_42, o1_42⟩ => ?_)
 refine bW 43 rfl rfl rfl (fun hc => aP (o := 0) tk68 (ae rfl hc) (aF 0 rfl) hc rfl) ?_
 refine bW 44 rfl rfl rfl (fun hc => aZ Tryz.underlying68 (ae rfl hc)) ?_
 refine bW 45 rfl rfl rfl (fun hc => bw (ae rfl hc) (ae rfl hc)) ?_
 refine bV 46 rfl rfl (bJ rfl rfl (fun h => gt rfl h)) ?_
 refine bV 47 rfl rfl (aD rfl) ?_
 refine bW 48 rfl rfl rfl (fun hc => aD rfl) ?_
 refine bW 49 rfl rfl rfl (fun hc => aR (ae rfl hc)) ?_
 refine bW 50 rfl rfl rfl (fun hc => qFA (off := 8) (ae rfl hc)) ?_
 refine bW 51 rfl rfl rfl (fun hc => aN (o := 8) tk27 (ae rfl hc) (.of (aF 2 rfl)) rfl) ?_
 refine bW 52 rfl rfl rfl (fun hc => qFA (off := 0) rfl) ?_
 refine bW 53 rfl rfl rfl (fun hc => ah 0 tk3 (ae rfl hc) rfl rfl) ?_
 refine dC 54 rfl (by kernel_rfl) _ rfl rfl (fun hc => av Tryz.underlying27 tk68 (ae rfl hc) ((bj.f_keep (.of (aF 3 rfl)))) (ae rfl hc) (bI (i := o) (by simp [cS] at hc; omega) (by simp [cS] at hc; omega)) (by simp [cS] at hc; omega) rfl) (fun _ => ⟨(0, 0)⟩) (fun ⟨b1_54, o1_54⟩ => ?_)
 refine bW 55 rfl rfl rfl (fun hc => aP (o := 0) tk68 (ae rfl hc) (aF 0 rfl) hc rfl) ?_
 refine bW 56 rfl rfl rfl (fun hc => qFA (off := 1) rfl) ?_
 refine bW 57 rfl rfl rfl (fun hc => ah 0 tk3 (ae rfl hc) rfl rfl) ?_
 refine dC 58 rfl (by kernel_rfl) _ rfl rfl (fun hc => av Tryz.underlying68 tk4 (ae rfl hc) (((bj.f_keepA (.of (aF 4 rfl))).elt (i := o) (by simp [cS] at hc; omega) (by simp [cS] at hc; omega))) (ae rfl hc) (bI (i := s) (by simp [cS] at hc; omega) (by simp [cS] at hc; omega)) (by simp [cS] at hc; omega) rfl) (fun _ => ⟨(0, 0)⟩) (fun ⟨b1_58, o1_58⟩ => ?_)
 refine bW 59 rfl rfl rfl (fun hc => aP (o := 0) tk4 (ae rfl hc) (aF 0 rfl) hc rfl) ?_
 refine bV 60 rfl rfl (bJ rfl rfl (fun h => gt rfl h)) ?_
 refine bV 61 rfl rfl (cz rfl) ?_
 refine bO (by kernel_rfl) ?_
 refine az (aJ ?_)
 refine br [] [] rfl Tryz.results105 rfl ?_ (.inr rfl)
 rfl
end Go.Proofs.YtgmiihmahaahiaaGreatDoor

