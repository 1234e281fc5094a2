/- Parts of the proof, in build order. No condition. -/
import Derived.Test.YtgmiihmahaahiaaGreatDoorQb06
import Derived.Test.YtgmiihmahaahiaaGreatDoorQb03
import Derived.Shelf.SlSortCmp.WholeK
import Derived.Shelf.SlSortCmp.NoneTotal
import Derived.Test.YtgmiihmahaahiaaGreatDoorProg
import Derived.Ground.SlsfProg
import Derived.Test.YtgmiihmahaahiaaGreatDoorQb11
set_option linter.unusedSimpArgs false
set_option linter.unusedVariables false
set_option maxHeartbeats 1000000
set_option maxRecDepth 20000
namespace Go.Sy
open Go.RowKit Go.Lp Go.Sort Go.Proofs
section
variable {α : Type} [Inhabited α] {enc : α → List Value} {k : Nat}
omit [Inhabited α] in
theorem fY (hk : ∀ x, (enc x).length = k) : ∀ zs : List α, (zs.flatMap enc).length = zs.length * k
 | [] => by simp
 | x :: zs => by rw [List.flatMap_cons, List.length_append, fY hk zs, hk, List.length_cons, Nat.add_mul, Nat.one_mul]; omega
omit [Inhabited α] in
theorem flat_get (hk : ∀ x, (enc x).length = k) : ∀ (zs : List α) (i j : Nat) (x : α), zs[i]? = some x → j < k → (zs.flatMap enc)[i * k + j]? = (enc x)[j]?
 | [], i, j, x, h, _ => by simp at h
 | y :: zs, 0, j, x, h, hj => by
   simp only [List.getElem?_cons_zero, Option.some.injEq] at h
   subst h
   rw [List.flatMap_cons, Nat.zero_mul, Nat.zero_add, List.getElem?_append_left (by rw [hk]; exact hj)]
 | y :: zs, i + 1, j, x, h, hj => by
   rw [List.getElem?_cons_succ] at h
   rw [List.flatMap_cons, List.getElem?_append_right (by rw [hk, Nat.add_mul]; omega), hk, show (i + 1) * k + j - k = i * k + j by rw [Nat.add_mul]; omega]
   exact flat_get hk zs i j x h hj
theorem lP (hk : ∀ x, (enc x).length = k) (d : Array α) : flatK enc k d = (d.toList.flatMap enc).toArray := by
 apply Array.ext'
 apply List.ext_getElem?
 intro t
 show (flatK enc k d).toList[t]? = (d.toList.flatMap enc)[t]?
 by_cases ht : t < d.size * k
 · have k0 : 0 < k := by rcases Nat.eq_zero_or_pos k with h | h
                         · subst h; simp at ht
                         · exact h
   have hd : t / k < d.size := (Nat.div_lt_iff_lt_mul k0).2 ht
   have h1 := flat_get hk d.toList (t / k) (t % k) d[t / k]! (by simp [hd]) (Nat.mod_lt _ k0)
   rw [show t / k * k + t % k = t by rw [Nat.mul_comm]; exact Nat.div_add_mod t k] at h1
   rw [h1, Array.getElem?_toList]
   have h2 := get_flatK enc k d t ht
   have h3 : t % k < (enc d[t / k]!).length := by rw [hk]; exact Nat.mod_lt _ k0
   rw [List.getElem?_eq_getElem h3]
   have hs : t < (flatK enc k d).size := by rw [size_flatK]; exact ht
   rw [Array.getElem?_eq_getElem hs]
   rw [getElem!_pos _ t hs] at h2
   rw [h2, getElem!_pos (enc d[t / k]!) (t % k) h3]
 · rw [List.getElem?_eq_none (by simpa using ht), List.getElem?_eq_none (by rw [fY hk]; simpa using ht)]
abbrev pD (enc : α → List Value) (l : List α) : List (List D) := l.map fun x => (enc x).map D.v
theorem wg (hk : ∀ x, (enc x).length = k) (k0 : 0 < k) {w : World} {S F : bE} {v : Value} {T : TypeId} {zs : List α} (h : (bH v T k (pD enc zs)).holds w S F) :
   (v = .slice none 0 0 ∧ zs = []) ∨ ∃ b cap sp, v = .slice (some ⟨b, 0, none⟩) zs.length cap ∧ w.heap[b]? = some (.cells (zs.flatMap enc ++ sp).toArray T (0, 0)) ∧ zs.length * k + sp.length = cap * k ∧ zs.length ≤ cap ∧ cap ≤ maxLen ∧ (∀ j, F j ↔ j = b) ∧ HoldsK enc k w b 0 zs.toArray := by
 rcases h with ⟨h1, h2, _⟩ | ⟨b, cap, hv, ⟨cs, sp, hb, hr, hl, hle, hc⟩, hF⟩
 · left; exact ⟨h1, by simpa using h2⟩
 · right
   have hlen := hr.len
   rw [List.length_map] at hlen
   have hcs : cs = zs.flatMap enc := by
     apply List.ext_getElem?
     intro t
     by_cases ht : t < zs.length * k
     · have hd : t / k < zs.length := (Nat.div_lt_iff_lt_mul k0).2 ht
       have hj := Nat.mod_lt t k0
       have hx : zs[t / k]? = some (zs[t / k]'hd) := List.getElem?_eq_getElem hd
       have h1 := flat_get hk zs (t / k) (t % k) _ hx hj
       have h3 : t % k < (enc (zs[t / k]'hd)).length := by rw [hk]; exact hj
       obtain ⟨u, hu, hrep⟩ := hr.rep (t / k) (t % k) ((enc (zs[t / k]'hd)).map D.v) (.v ((enc (zs[t / k]'hd))[t % k]'h3)) (by rw [List.getElem?_map, hx]; rfl) (by rw [List.getElem?_map, List.getElem?_eq_getElem h3]; rfl)
       rw [show t / k * k + t % k = t by rw [Nat.mul_comm]; exact Nat.div_add_mod t k] at h1 hu
       cases hrep
       rw [hu, h1, List.getElem?_eq_getElem h3]
     · rw [List.getElem?_eq_none (by omega), List.getElem?_eq_none (by rw [fY hk]; omega)]
   subst hcs
   refine ⟨b, cap, sp, by rw [hv, List.length_map], hb, by rw [← hl, List.length_append, fY hk], by rwa [List.length_map] at hle, hc, hF, fun j hj => ?_⟩
   rw [lP hk] at hj ⊢
   have hj' : j < (zs.flatMap enc).length := by simpa using hj
   refine ⟨?_, ?_⟩
   · rw [Nat.zero_add, dK hb, List.getElem?_append_left hj', List.getElem?_eq_getElem hj']
     congr 1
     show _ = (zs.flatMap enc).toArray[j]!
     rw [getElem!_pos (zs.flatMap enc).toArray j (by simpa using hj')]; simp
   · unfold World.frozen?
     rw [hb]
     simp
theorem mG {P : Program} {ρ : Go.Shelf.Ren} (L : SlLaysF0.n6 P ρ) (k0 : 0 < k) (aE : ∀ w, (isAgg (ρ.t 24)).run P w = .ok true w) (zE : ∀ w, (Go.sizeOf (ρ.t 24)).run P w = .ok k w) (hk : ∀ x, (enc x).length = k) (h1 : ∀ x, ∀ v ∈ enc x, v.oneCell' = true)
   (cf : α → α → Int) (hO : SWO (ltOf cf)) (g : FuncId) (hg : bI P g = true) (hcmp : ∀ x y, Con P g [.agg (enc x).toArray, .agg (enc y).toArray] [] [] fun r _ _ => r = .int .i64 (cf x y)) {T : TypeId} {v : Value} (zs : List α) (hz : zs.length < 4611686018427387904) :
   Con P (ρ.f 6) [v, .func (.func g) #[] #[]] [] [bH v T k (pD enc zs)] fun _ ps' hp' => ps' = [] ∧ ∃ q : List α, q.Perm zs ∧ (q.Pairwise fun a b => ¬ cf b a < 0) ∧ hp' = [bH v T k (pD enc q)] := fun w S fp hst => by
 have hr := hst.res 0 _ rfl
 rcases wg hk k0 hr with ⟨e1, e2⟩ | ⟨b, cap, sp, hv, hb, hl, hle, hc, hF, hH⟩
 · subst e1 e2
   refine (AnyF.slices_SortFunc_none L none 0 (.func (.func g) #[] #[]) w).mono fun e w' ⟨he, hw⟩ => ?_
   have hbl : Go.Sy.Below w.heap.size w w' := by rw [hw]; exact .refl _ _
   exact ⟨_, [], _, S, fp, he, ⟨rfl, [], List.Perm.refl _, List.Pairwise.nil, rfl⟩, ⟨(fun p hp => by cases hp), (hst.below hbl).res, (hst.below hbl).lt, hst.dj, (hst.below hbl).slt⟩, Evo.of_below _ _ hbl, fun b hb => .inl hb⟩
 · have hbl := lt_of_heap hb
   have eg : ∀ args w, (callFunc g args).run P w = .ok (.enter g args) w := gP hg
   have hlays : CmpLays P g #[] enc k cf b 0 zs.toArray.size w := fun m os dk _ x y => by
     have hst0 : ∀ W : World, St W (fun _ => False) (fun _ _ => False) [] [] := fun W => ⟨fun p hp => (by cases hp), fun i R hi => (by simp at hi), fun i hi => (by simp at hi), fun i j hi => (by simp at hi), fun b hb => hb.elim⟩
     refine ((hcmp x y).quiet0 (hst0 (sortWorldK enc k w b 0 m dk os))).mono fun e w' ⟨he, hbw⟩ => ⟨he, ?_⟩
     obtain ⟨objs, d, rfl⟩ := jv hbw.kit
     have hd := hbw.drawn
     refine ⟨d - (sortWorldK enc k w b 0 m dk os).drawn, objs, ?_⟩
     unfold World.ext grow World.drewN
     have hd' : (sortWorldK enc k w b 0 m dk os).drawn ≤ d := hd
     simp only [World.mk.injEq, true_and, and_true]
     omega
   have hcall := AnyQ.slices_SortFunc L k aE zE enc hk h1 cf hO g #[] b 0 cap zs.toArray w eg hlays hH hbl (by simpa using hz)
   rw [show zs.toArray.size = zs.length by simp, ← hv] at hcall
   refine hcall.mono fun e w' ⟨he, d', n, os, hp, hs, hw⟩ => ?_
   obtain ⟨p1, _, p3⟩ := hp
   have hsz' : d'.toList.length = zs.length := by simpa using p1
   have hperm : d'.toList.Perm zs := by
     have e1 : (d'.extract 0 zs.length).toList = d'.toList := by
       rw [Array.toList_extract, List.extract_eq_take_drop, List.drop_zero, List.take_of_length_le (by omega)]
     have e2 : (zs.toArray.extract 0 zs.length).toList = zs := by simp
     rw [e1, e2] at p3; exact p3
   have hsort : d'.toList.Pairwise fun a b => ¬ cf b a < 0 := by
     rw [List.pairwise_iff_getElem]
     intro i j hi hj hij
     have hi' : i < d'.size := by simpa using hi
     have hj' : j < d'.size := by simpa using hj
     have := hs i j (Nat.zero_le _) hij (by omega)
     rw [getElem!_pos d' i hi', getElem!_pos d' j hj'] at this
     unfold ltOf at this
     simpa using this
   have hfl : (flatK enc k d') = (d'.toList.flatMap enc).toArray := lP hk d'
   have hlen' : (d'.toList.flatMap enc).length = zs.length * k := by rw [fY hk, hsz']
   have hb' : w'.heap[b]? = some (.cells (d'.toList.flatMap enc ++ sp).toArray T (0, 0)) := by
     rw [hw]
     show ((w.heap.modify b (onCells (putCells id 0 (flatK enc k d')))) ++ os)[b]? = _
     rw [Array.getElem?_append_left (by simpa using hbl), Array.getElem?_modify, if_pos rfl, hb, Option.map_some]
     show some (Obj.cells (putCells id 0 (flatK enc k d') (zs.flatMap enc ++ sp).toArray) T (0, 0)) = _
     rw [hfl, mv id (d'.toList.flatMap enc) (zs.flatMap enc) sp (by rw [hlen', fY hk]), List.map_id]
   have hoth : ∀ j, j < w.heap.size → j ≠ b → w'.heap[j]? = w.heap[j]? := fun j hj hne => by
     rw [hw]
     show ((w.heap.modify b (onCells (putCells id 0 (flatK enc k d')))) ++ os)[j]? = _
     rw [Array.getElem?_append_left (by simpa using hj), Array.getElem?_modify, if_neg (Ne.symm hne)]
   have hsz : w.heap.size ≤ w'.heap.size := by
     rw [hw]
     show _ ≤ ((w.heap.modify b (onCells (putCells id 0 (flatK enc k d')))) ++ os).size
     simp
   have hfb : fp 0 b := (hF b).2 rfl
   refine ⟨_, [], [bH v T k (pD enc d'.toList)], S, fp, he, ⟨rfl, d'.toList, hperm, hsort, rfl⟩, ⟨(fun p hp => by cases hp), fun i R' hi => ?_, fun i hi j hj => ?_, hst.dj, fun j hj => Nat.lt_of_lt_of_le (hst.slt j hj) hsz⟩, ⟨by rw [hw]; rfl, by rw [hw]; rfl, by rw [hw]; rfl, hsz, by rw [hw]; exact Nat.le_add_right _ _, fun j hj hx => hoth j hj fun e => hx ⟨0, by simp, e ▸ hfb⟩, fun _ h => h, fun _ h => .inl h⟩, fun j hj => .inl hj⟩
   · cases i with
     | succ i => simp at hi
     | zero =>
       simp only [List.getElem?_cons_zero, Option.some.injEq] at hi
       subst hi
       refine .inr ⟨b, cap, by rw [List.length_map, hsz', hv], ⟨d'.toList.flatMap enc, sp, hb', ⟨by rw [List.length_map, fY hk], fun i r hi => ?_, fun u hu => ?_, fun i j r d g1 g2 => ?_⟩, by rw [List.length_append, hlen']; exact hl, by rw [List.length_map, hsz']; exact hle, hc⟩, hF⟩
       · rw [List.getElem?_map, Option.map_eq_some_iff] at hi
         obtain ⟨x, _, rfl⟩ := hi; rw [List.length_map, hk]
       · obtain ⟨x, _, hx⟩ := List.mem_flatMap.1 hu; exact h1 x u hx
       · rw [List.getElem?_map, Option.map_eq_some_iff] at g1
         obtain ⟨x, hx, rfl⟩ := g1
         rw [List.getElem?_map, Option.map_eq_some_iff] at g2
         obtain ⟨u, hu, rfl⟩ := g2
         have hj : j < k := by rw [← hk x]; exact (List.getElem?_eq_some_iff.1 hu).1
         exact ⟨u, by rw [flat_get hk _ i j x hx hj]; exact hu, .v u⟩
   · have hi' : i < [bH v T k (pD enc zs)].length := by simpa using hi
     exact ⟨Nat.lt_of_lt_of_le (hst.lt i hi' j hj).1 hsz, (hst.lt i hi' j hj).2⟩
end
def xz (P : Program) (T : TypeId) (i : Nat) : Option Nat := match P.underlying T with
 | some (.struct fs) => (match fs[i]? with
   | some f => if P.plainKey f.type = true then some f.offset else none
   | none => none)
 | _ => none
theorem pV {P : Program} {n : Fr} {s : Sta} {d : Option Tmp} {ty : TypeId} {pos : String} {af : Array Edge} {gd : Option (Nat × Bool)} {T : TypeId} {i off : Nat} {x : Operand} {xs : Array Value} {v : Value} (hf : xz P T i = some off) (hx : ev s.env x = some (true, .agg xs)) (hv : xs[off]? = some v) :
   Quiet P n ⟨d, .field T x i, ty, pos, af, gd⟩ s v := fun w S fp a hst he hn => by
 have h1 := he.val hx rfl
 unfold xz at hf
 cases hu : P.underlying T with
 | none => rw [hu] at hf; cases hf
 | some t =>
   rw [hu] at hf
   cases t with
   | struct fs =>
     dsimp only at hf
     cases hi : fs[i]? with
     | none => rw [hi] at hf; cases hf
     | some f =>
       rw [hi] at hf
       dsimp only at hf
       split at hf
       · rename_i hp
         obtain rfl := Option.some.inj hf
         have : (execOp a.eval ⟨d, .field T x i, ty, pos, af, gd⟩).run P w = .ok (.value v) w := by
           unfold execOp; dsimp only; rw [h1]
           show ((Instr.field T (.agg xs) i).bind fun r => Sem.pure (Next.value r)).run P w = _
           have h2 : (Instr.field T (.agg xs) i).run P w = .ok v w := by
             simp only [Instr.field, Sem.run_bind, run_underlying hu, Result.andThen, hi, asAgg, Sem.run_pure]
             exact run_part_plain w hp hv
           rw [Sem.run_bind', h2]; rfl
         rw [this]; exact ck _ _
       · cases hf
   | _ => cases hf
end Go.Sy

namespace Go.Proofs
open Go.Shelf
def Tryz.sortO_ren : Go.Shelf.Ren := ⟨fun | 6 => 42 | 15 => 98 | 14 => 97 | 28 => 206 | 29 => 207 | 20 => 198 | 21 => 199 | 22 => 200 | 23 => 201 | 24 => 202 | 25 => 203 | 26 => 204 | 27 => 205 | 46 => 261 | 47 => 262 | 48 => 263 | 49 => 264 | 50 => 265 | 57 => 289 | n => n, fun | 22 => 41 | 24 => 46 | 25 => 123 | 3 => 3 | 39 => 147 | 0 => 0 | 53 => 272 | 55 => 275 | 4 => 4 | 46 => 292 | 45 => 291 | 50 => 176 | 5 => 5 | 9 => 9 | 66 => 328 | 70 => 332 | 76 => 357 | 77 => 358 | n => n, fun | n => n⟩
theorem Tryz.sortO : Go.Proofs.SlLaysF0.n6 Tryz.prog Tryz.sortO_ren := {
 mixed := by kernel_rfl
 f6 := ⟨Tryz.f42.name, by decide, Tryz.func42.trans (congrArg some (by kernel_rfl))⟩
 f14 := ⟨Tryz.f97.name, by decide, Tryz.func97.trans (congrArg some (by kernel_rfl))⟩
 f15 := Tryz.func98.trans (congrArg some (by kernel_rfl))
 f20 := ⟨Tryz.f198.name, by decide, Tryz.func198.trans (congrArg some (by kernel_rfl))⟩
 f21 := ⟨Tryz.f199.name, by decide, Tryz.func199.trans (congrArg some (by kernel_rfl))⟩
 f22 := ⟨Tryz.f200.name, by decide, Tryz.func200.trans (congrArg some (by kernel_rfl))⟩
 f23 := ⟨Tryz.f201.name, by decide, Tryz.func201.trans (congrArg some (by kernel_rfl))⟩
 f24 := ⟨Tryz.f202.name, by decide, Tryz.func202.trans (congrArg some (by kernel_rfl))⟩
 f25 := ⟨Tryz.f203.name, by decide, Tryz.func203.trans (congrArg some (by kernel_rfl))⟩
 f26 := ⟨Tryz.f204.name, by decide, Tryz.func204.trans (congrArg some (by kernel_rfl))⟩
 f27 := ⟨Tryz.f205.name, by decide, Tryz.func205.trans (congrArg some (by kernel_rfl))⟩
 f28 := Tryz.func206.trans (congrArg some (by kernel_rfl))
 f29 := Tryz.func207.trans (congrArg some (by kernel_rfl))
 f46 := ⟨Tryz.f261.name, by decide, Tryz.func261.trans (congrArg some (by kernel_rfl))⟩
 f47 := Tryz.func262.trans (congrArg some (by kernel_rfl))
 f48 := Tryz.func263.trans (congrArg some (by kernel_rfl))
 f49 := ⟨Tryz.f264.name, by decide, Tryz.func264.trans (congrArg some (by kernel_rfl))⟩
 f50 := ⟨Tryz.f265.name, by decide, Tryz.func265.trans (congrArg some (by kernel_rfl))⟩
 f57 := ⟨Tryz.f289.name, by decide, Tryz.func289.trans (congrArg some (by kernel_rfl))⟩
 t0 := Tryz.underlying0
 a0 := Tryz.isAgg0
 z0 := Tryz.sizeOf0
 v0 := Tryz.zeroValue0
 t3 := Tryz.underlying3
 a3 := Tryz.isAgg3
 z3 := Tryz.sizeOf3
 v3 := Tryz.zeroValue3
 t4 := Tryz.underlying4
 a4 := Tryz.isAgg4
 z4 := Tryz.sizeOf4
 v4 := Tryz.zeroValue4
 t5 := Tryz.underlying5
 a5 := Tryz.isAgg5
 z5 := Tryz.sizeOf5
 v5 := Tryz.zeroValue5
 t9 := Tryz.underlying9
 a9 := Tryz.isAgg9
 z9 := Tryz.sizeOf9
 v9 := Tryz.zeroValue9
 t22 := Tryz.underlying41
 a22 := Tryz.isAgg41
 z22 := Tryz.sizeOf41
 v22 := Tryz.zeroValue41
 t25 := Tryz.underlying123
 a25 := Tryz.isAgg123
 z25 := Tryz.sizeOf123
 v25 := Tryz.zeroValue123
 t39 := Tryz.underlying147
 a39 := Tryz.isAgg147
 z39 := Tryz.sizeOf147
 v39 := Tryz.zeroValue147
 t45 := Tryz.underlying291
 a45 := Tryz.isAgg291
 z45 := Tryz.sizeOf291
 v45 := Tryz.zeroValue291
 t46 := Tryz.underlying292
 a46 := Tryz.isAgg292
 z46 := Tryz.sizeOf292
 v46 := Tryz.zeroValue292
 t50 := Tryz.underlying176
 a50 := Tryz.isAgg176
 z50 := Tryz.sizeOf176
 v50 := Tryz.zeroValue176
 t53 := Tryz.underlying272
 a53 := Tryz.isAgg272
 z53 := Tryz.sizeOf272
 v53 := Tryz.zeroValue272
 t55 := Tryz.underlying275
 a55 := Tryz.isAgg275
 z55 := Tryz.sizeOf275
 v55 := Tryz.zeroValue275
 t66 := Tryz.underlying328
 a66 := Tryz.isAgg328
 z66 := Tryz.sizeOf328
 v66 := Tryz.zeroValue328
 t70 := Tryz.underlying332
 a70 := Tryz.isAgg332
 z70 := Tryz.sizeOf332
 v70 := Tryz.zeroValue332
 t76 := Tryz.underlying357
 a76 := Tryz.isAgg357
 z76 := Tryz.sizeOf357
 v76 := Tryz.zeroValue357
 t77 := Tryz.underlying358
 a77 := Tryz.isAgg358
 z77 := Tryz.sizeOf358
 v77 := Tryz.zeroValue358 }
def Tryz.sortC_ren : Go.Shelf.Ren := ⟨fun | 6 => 88 | 15 => 98 | 14 => 191 | 28 => 206 | 29 => 207 | 20 => 252 | 21 => 253 | 22 => 254 | 23 => 255 | 24 => 256 | 25 => 257 | 26 => 258 | 27 => 259 | 46 => 286 | 47 => 262 | 48 => 263 | 49 => 287 | 50 => 288 | 57 => 306 | n => n, fun | 22 => 158 | 24 => 34 | 25 => 163 | 3 => 3 | 39 => 147 | 0 => 0 | 53 => 272 | 55 => 275 | 4 => 4 | 46 => 292 | 45 => 291 | 50 => 176 | 5 => 5 | 9 => 9 | 66 => 328 | 70 => 332 | 76 => 357 | 77 => 358 | n => n, fun | n => n⟩
theorem Tryz.sortC : Go.Proofs.SlLaysF0.n6 Tryz.prog Tryz.sortC_ren := {
 mixed := by kernel_rfl
 f6 := ⟨Tryz.f88.name, by decide, Tryz.func88.trans (congrArg some (by kernel_rfl))⟩
 f14 := ⟨Tryz.f191.name, by decide, Tryz.func191.trans (congrArg some (by kernel_rfl))⟩
 f15 := Tryz.func98.trans (congrArg some (by kernel_rfl))
 f20 := ⟨Tryz.f252.name, by decide, Tryz.func252.trans (congrArg some (by kernel_rfl))⟩
 f21 := ⟨Tryz.f253.name, by decide, Tryz.func253.trans (congrArg some (by kernel_rfl))⟩
 f22 := ⟨Tryz.f254.name, by decide, Tryz.func254.trans (congrArg some (by kernel_rfl))⟩
 f23 := ⟨Tryz.f255.name, by decide, Tryz.func255.trans (congrArg some (by kernel_rfl))⟩
 f24 := ⟨Tryz.f256.name, by decide, Tryz.func256.trans (congrArg some (by kernel_rfl))⟩
 f25 := ⟨Tryz.f257.name, by decide, Tryz.func257.trans (congrArg some (by kernel_rfl))⟩
 f26 := ⟨Tryz.f258.name, by decide, Tryz.func258.trans (congrArg some (by kernel_rfl))⟩
 f27 := ⟨Tryz.f259.name, by decide, Tryz.func259.trans (congrArg some (by kernel_rfl))⟩
 f28 := Tryz.func206.trans (congrArg some (by kernel_rfl))
 f29 := Tryz.func207.trans (congrArg some (by kernel_rfl))
 f46 := ⟨Tryz.f286.name, by decide, Tryz.func286.trans (congrArg some (by kernel_rfl))⟩
 f47 := Tryz.func262.trans (congrArg some (by kernel_rfl))
 f48 := Tryz.func263.trans (congrArg some (by kernel_rfl))
 f49 := ⟨Tryz.f287.name, by decide, Tryz.func287.trans (congrArg some (by kernel_rfl))⟩
 f50 := ⟨Tryz.f288.name, by decide, Tryz.func288.trans (congrArg some (by kernel_rfl))⟩
 f57 := ⟨Tryz.f306.name, by decide, Tryz.func306.trans (congrArg some (by kernel_rfl))⟩
 t0 := Tryz.underlying0
 a0 := Tryz.isAgg0
 z0 := Tryz.sizeOf0
 v0 := Tryz.zeroValue0
 t3 := Tryz.underlying3
 a3 := Tryz.isAgg3
 z3 := Tryz.sizeOf3
 v3 := Tryz.zeroValue3
 t4 := Tryz.underlying4
 a4 := Tryz.isAgg4
 z4 := Tryz.sizeOf4
 v4 := Tryz.zeroValue4
 t5 := Tryz.underlying5
 a5 := Tryz.isAgg5
 z5 := Tryz.sizeOf5
 v5 := Tryz.zeroValue5
 t9 := Tryz.underlying9
 a9 := Tryz.isAgg9
 z9 := Tryz.sizeOf9
 v9 := Tryz.zeroValue9
 t22 := Tryz.underlying158
 a22 := Tryz.isAgg158
 z22 := Tryz.sizeOf158
 v22 := Tryz.zeroValue158
 t25 := Tryz.underlying163
 a25 := Tryz.isAgg163
 z25 := Tryz.sizeOf163
 v25 := Tryz.zeroValue163
 t39 := Tryz.underlying147
 a39 := Tryz.isAgg147
 z39 := Tryz.sizeOf147
 v39 := Tryz.zeroValue147
 t45 := Tryz.underlying291
 a45 := Tryz.isAgg291
 z45 := Tryz.sizeOf291
 v45 := Tryz.zeroValue291
 t46 := Tryz.underlying292
 a46 := Tryz.isAgg292
 z46 := Tryz.sizeOf292
 v46 := Tryz.zeroValue292
 t50 := Tryz.underlying176
 a50 := Tryz.isAgg176
 z50 := Tryz.sizeOf176
 v50 := Tryz.zeroValue176
 t53 := Tryz.underlying272
 a53 := Tryz.isAgg272
 z53 := Tryz.sizeOf272
 v53 := Tryz.zeroValue272
 t55 := Tryz.underlying275
 a55 := Tryz.isAgg275
 z55 := Tryz.sizeOf275
 v55 := Tryz.zeroValue275
 t66 := Tryz.underlying328
 a66 := Tryz.isAgg328
 z66 := Tryz.sizeOf328
 v66 := Tryz.zeroValue328
 t70 := Tryz.underlying332
 a70 := Tryz.isAgg332
 z70 := Tryz.sizeOf332
 v70 := Tryz.zeroValue332
 t76 := Tryz.underlying357
 a76 := Tryz.isAgg357
 z76 := Tryz.sizeOf357
 v76 := Tryz.zeroValue357
 t77 := Tryz.underlying358
 a77 := Tryz.isAgg358
 z77 := Tryz.sizeOf358
 v77 := Tryz.zeroValue358 }
end Go.Proofs

namespace Go.Proofs.YtgmiihmahaahiaaGreatDoor
open Go.RowKit Go.Lp Go.Sy Go.Sort
open Go.Proofs.Tryz
attribute [local irreducible] aL aB awp aC fwp
theorem jP (p q : aD) : ltOf sO p q = decide (ltC p q) := by
 unfold ltOf; rw [Bool.eq_iff_iff, decide_eq_true_eq, decide_eq_true_eq, jo]
theorem uo : SWO (ltOf sO) where
 irrefl x := by rw [jP, decide_eq_false_iff_not]; exact ek x
 trans x y z h1 h2 := by rw [jP, decide_eq_true_eq] at *; exact er h1 h2
 ntrans x y z h1 h2 := by
   rw [jP, decide_eq_false_iff_not] at *
   unfold ltC at *; omega
theorem sW (v : Value) (zs : List aD) (hz : zs.length ≤ 1000) : Con Tryz.prog 88 [v, .func (.func 89) #[] #[]] [] [bH v 34 2 (zs.map aD.row)]
   fun _ ps hp => ps = [] ∧ ∃ q : List aD, q.Perm zs ∧ (q.Pairwise fun a b => ¬ ltC b a) ∧ hp = [bH v 34 2 (q.map aD.row)] :=
 (mG (enc := aD.vs) Tryz.sortC (by decide) Tryz.isAgg34 Tryz.sizeOf34 (fun _ => rfl) (fun x v hv => by simp at hv; rcases hv with rfl | rfl <;> rfl) sO uo 89 (by kernel_rfl) (fun x y => lx x y) (T := 34) (v := v) zs (by omega)).post
   fun _ _ _ ⟨h1, q, h2, h3, h4⟩ => ⟨h1, q, h2, h3.imp fun h => by rw [jo] at h; exact h, h4⟩
section
variable {kp : List (Sl Bool)} {L : List Dfn}
structure mq (kp : List (Sl Bool)) (L : List Dfn) (seen : List ByteArray) (mM : ByteArray → Option aD) (fa : aD × Bool) : Prop where
 got : ∀ n ∈ seen, mM n = (cS kp L n)[0]?.map (·.p)
 not : ∀ n, n ∉ seen → mM n = none
 tw : fa.2 = true → ∃ n ∈ seen, ∃ d, (cS kp L n)[1]? = some d ∧ fa.1 = d.p
 lo : ∀ n ∈ seen, ∀ d, (cS kp L n)[1]? = some d → fa.2 = true ∧ ¬ ltC d.p fa.1
theorem mq.start {fa : aD × Bool} (h : fa.2 = false) : mq kp L [] (fun _ => none) fa := ⟨fun _ h => (by cases h), fun _ _ => rfl, fun h2 => (by rw [h] at h2; cases h2), fun _ h => by cases h⟩
theorem mq.step {seen : List ByteArray} {mM : ByteArray → Option aD} {fa : aD × Bool} (h : mq kp L seen mM fa) {n : ByteArray} (hn : n ∉ seen) {mM' : ByteArray → Option aD} {fa' : aD × Bool}
   (hm : mM' = match (cS kp L n)[0]? with | some d => cE mM n d.p | none => mM) (hf : fa' = match (cS kp L n)[1]? with | some d => dM fa d.p | none => fa) : mq kp L (n :: seen) mM' fa' where
 got a ha := by
   rw [hm]
   rcases List.mem_cons.1 ha with rfl | ha
   · cases h0 : (cS kp L a)[0]? with
     | none => exact h.not a hn
     | some d => exact sn _ _ _
   · have hne : a ≠ n := fun e => hn (e ▸ ha)
     cases h0 : (cS kp L n)[0]? with
     | none => exact h.got a ha
     | some d => exact (rR _ _ hne).trans (h.got a ha)
 not a ha := by
   rw [hm]
   have hne : a ≠ n := fun e => ha (e ▸ List.mem_cons_self)
   have h2 := h.not a fun h => ha (List.mem_cons_of_mem _ h)
   cases h0 : (cS kp L n)[0]? with
   | none => exact h2
   | some d => exact (rR _ _ hne).trans h2
 tw hb := by
   rw [hf] at hb ⊢
   cases h1 : (cS kp L n)[1]? with
   | none =>
     rw [h1] at hb
     obtain ⟨a, ha, d, h2, h3⟩ := h.tw hb
     exact ⟨a, List.mem_cons_of_mem _ ha, d, h2, h3⟩
   | some d =>
     unfold dM
     dsimp only
     split
     · exact ⟨n, List.mem_cons_self, d, h1, rfl⟩
     · rename_i hno
       have hb2 : fa.2 = true := by
         cases hb3 : fa.2 with
         | true => rfl
         | false => exact (hno (.inl hb3)).elim
       obtain ⟨a, ha, d2, h2, h3⟩ := h.tw hb2
       exact ⟨a, List.mem_cons_of_mem _ ha, d2, h2, h3⟩
 lo a ha d hd := by
   rw [hf]
   have old : ∀ p : aD, fa.2 = true → ¬ ltC p fa.1 → ∀ q : aD, (dM fa q).2 = true ∧ ¬ ltC p (dM fa q).1 := fun p hb hp q => by
     unfold dM
     split
     · rename_i hc
       refine ⟨rfl, fun hlt => ?_⟩
       rcases hc with hc | hc
       · rw [hb] at hc; cases hc
       · exact hp (er hlt hc)
     · exact ⟨hb, hp⟩
   rcases List.mem_cons.1 ha with rfl | ha
   · rw [hd]
     dsimp only
     unfold dM
     split
     · exact ⟨rfl, ek _⟩
     · rename_i hno
       refine ⟨?_, fun hlt => hno (.inr hlt)⟩
       cases hb3 : fa.2 with
       | true => rfl
       | false => exact (hno (.inl hb3)).elim
   · obtain ⟨h1, h2⟩ := h.lo a ha d hd
     cases h3 : (cS kp L n)[1]? with
     | none => exact ⟨h1, h2⟩
     | some d2 => exact old _ h1 h2 _
theorem mq.fin {seen : List ByteArray} {mM : ByteArray → Option aD} {fa : aD × Bool} (h : mq kp L seen mM fa) (hA : Asc L) (hall : ∀ n, n ∉ seen → cS kp L n = []) :
   ft kp L = (if fa.2 = true then some fa.1 else none) ∧ ∀ n, mM n = (cS kp L n).head?.map (·.p) := by
 refine ⟨?_, fun n => ?_⟩
 · cases hb : fa.2 with
   | true =>
     obtain ⟨n, hn, d, h1, h2⟩ := h.tw hb
     rw [if_pos rfl, h2]
     refine pH hA h1 fun n2 d2 h3 => ?_
     by_cases hs : n2 ∈ seen
     · rw [← h2]; exact (h.lo n2 hs d2 h3).2
     · rw [hall n2 hs] at h3; cases h3
   | false =>
     rw [if_neg (by decide)]
     refine pw hA fun n => ?_
     by_cases hs : n ∈ seen
     · cases h1 : (cS kp L n)[1]? with
       | none => rfl
       | some d => have := (h.lo n hs d h1).1; rw [hb] at this; cases this
     · rw [hall n hs]; rfl
 · by_cases hs : n ∈ seen
   · rw [h.got n hs, List.head?_eq_getElem?]
   · rw [h.not n hs, hall n hs]; rfl
theorem qu (hA : Asc L) {n : ByteArray} (h : dV kp L n = []) : cS kp L n = [] := by
 apply List.eq_nil_iff_forall_not_mem.2
 intro d hd
 have : d.p ∈ (cS kp L n).map (·.p) := List.mem_map_of_mem hd
 rw [← mE hA, h] at this
 simp [fi] at this
end
def fj (kp : List (Sl Bool)) (L : List Dfn) : Option aD := (fN kp L).or (ft kp L)
theorem nX (x : cg) (hok : gG x.objs.l x.kp.l) (lb b1 a b : Nat) : Con Tryz.prog 36 [.pointer (some ⟨lb, 0, none⟩), .func (.func 84) #[] #[.pointer (some ⟨b1, 0, none⟩), .pointer (some ⟨a, 0, none⟩), .pointer (some ⟨b, 0, none⟩)]]
   [At b1 0 [.v (.pointer (some ⟨lb, 0, none⟩))], At lb 0 x.row, x.ok] (pz x a b [] ⟨fun _ => none, fun _ => none, (⟨0, 0⟩, false)⟩) fun _ ps hp => ps = [] ∧ ∃ st, gO x.kp.l (bQ x.objs.l) st ∧ hp = pz x a b (bQ x.objs.l) st := by
 refine (lN (I := gO x.kp.l []) (I' := gO x.kp.l (bQ x.objs.l)) (l := pz x a b []) (l' := pz x a b (bQ x.objs.l)) (x := ⟨fun _ => none, fun _ => none, (⟨0, 0⟩, false)⟩)
   ((qa x hok.n hok.sy lb 84 [.pointer (some ⟨b1, 0, none⟩), .pointer (some ⟨a, 0, none⟩), .pointer (some ⟨b, 0, none⟩)] (cw (At b1 0 [.v (.pointer (some ⟨lb, 0, none⟩))]) (cw (At lb 0 x.row) x.ok)) (fun L => mi (gO x.kp.l L) (pz x a b L)) (by kernel_rfl)
     fun L d hd hl hp => nf fun st hst => (tW x hok lb b1 a b L d hd hl hp st hst).pre fun p hp => ?_).pre fun p hp => ?_) ⟨fun _ => rfl, fun _ => rfl, rfl⟩)
 · simp only [List.mem_cons, List.not_mem_nil, or_false] at hp
   rcases hp with rfl | rfl | rfl
   · exact (Ent.of (List.mem_singleton.2 rfl)).left
   · exact (Ent.of (List.mem_singleton.2 rfl)).right.left
   · exact (Ent.of (List.mem_singleton.2 rfl)).right.right
 · simp only [List.mem_cons, List.not_mem_nil, or_false] at hp
   rcases hp with rfl | rfl | rfl
   · exact .of (an 1 rfl)
   · exact .of (an 2 rfl)
   · exact .mk2 (.of (an 0 rfl)) (.mk2 (.of (an 1 rfl)) (.of (an 2 rfl)))
theorem oO {os : List ar} {kp : List (Sl Bool)} (hok : gG os kp) : (bQ os).length ≤ 70 := by
 have hfl : ∀ i, i ≤ os.length → (cI os i).length ≤ 14 * i := fun i => by
   induction i with
   | zero => intro _; exact Nat.le_refl _
   | succ i ih =>
     intro hi
     rw [dE, List.length_append]
     have h1 := ih (by omega)
     have h2 := hok.sy _ (List.mem_of_getElem? (bY (l := os) (i := i) (by omega)))
     have h3 : (dy (i : Int) (elt os (i : Int)).syms.l).length = (elt os (i : Int)).syms.l.length := by unfold dy; simp
     omega
 have := hfl _ (Nat.le_refl _)
 have := hok.n
 unfold bQ; omega
theorem pq (x : cg) (hok : gG x.objs.l x.kp.l) (lb : Nat) : Con Tryz.prog 35 [.pointer (some ⟨lb, 0, none⟩)] [At lb 0 x.row, x.ok]
   [cZ x.ball cj slV (fun _ => none : cU → Option (Sl aD)), dP 34 2 aD.row (fun _ => none : cU → Option (Sl aD)), cZ x.bch cj aD.val (chP x.kp.l []), cZ x.bnm dH slV (fun _ => none : ByteArray → Option (Sl cU)), dP 157 2 gE (fun _ => none : ByteArray → Option (Sl cU)), cZ x.bmn dH aD.val (fun _ => none : ByteArray → Option aD)]
   fun r ps hp => ps = [] ∧ ∃ (st : CS) (at_ : aD) (mM : ByteArray → Option aD), gO x.kp.l (bQ x.objs.l) st ∧ r = .tuple #[.int .i64 (if (fj x.kp.l (bQ x.objs.l)).isSome then 4 else 0), at_.val] ∧ (∀ p, fj x.kp.l (bQ x.objs.l) = some p → at_ = p) ∧
     (fj x.kp.l (bQ x.objs.l) = none → ∀ n, mM n = (cS x.kp.l (bQ x.objs.l) n).head?.map (·.p)) ∧
     hp = [cZ x.ball cj slV st.mA, dP 34 2 aD.row st.mA, cZ x.bch cj aD.val (chP x.kp.l (bQ x.objs.l)), cZ x.bnm dH slV st.mN, dP 157 2 gE st.mN, cZ x.bmn dH aD.val mM] := by
 have hA : Asc (bQ x.objs.l) := fo _ _
 have hfl : (bQ x.objs.l).length ≤ 70 := oO hok
 generalize hL : bQ x.objs.l = L at hA hfl
 have hin : ∀ e ∈ L, InD x.objs.l e := fun e he => by rw [← kN, hL]; exact he
 refine Con.enter Tryz.func35 rfl (by simp [Tryz.ntmps35]) ?_
 show awp _ _ _ _ ⟨[(0, true, _)], _, _⟩
 refine aSR ?_
 refine al (q := true) rfl (bO rfl rfl rfl (fun b0_0 => ?_))
 refine aH (by (try simp only [nM, nN]); rfl) ?_
 refine aA rfl ?_
 refine al (q := true) rfl (bp (zs := [.int .i64 0, .int .i64 0]) (by kernel_rfl) rfl (fun b0_2 => ?_))
 refine aH (by (try simp only [nM, nN]); rfl) ?_
 refine aNn (aSR ?_)
 refine al (q := true) rfl (bp (zs := [.int .i64 0, .int .i64 0]) (by kernel_rfl) rfl (fun b1_0 => ?_))
 refine aH (by (try simp only [nM, nN]); rfl) ?_
 refine aNn (aSR ?_)
 refine al (q := true) rfl (bp (zs := [.bool false]) (by kernel_rfl) rfl (fun b2_0 => ?_))
 refine aH (by (try simp only [nM, nN]); rfl) ?_
 refine al rfl (aW 9 tk4 rfl rfl rfl rfl ?_)
 refine aH (by (try simp only [nK, nL]); rfl) ?_
 refine aNs (bT 6 rfl rfl ?_)
 show awp _ _ _ _ ⟨_, At _ 0 _ :: _, _⟩
 refine ai (aU rfl (aK (o := 0) tk101 rfl (.of (an 0 rfl)) rfl) (aU rfl (dn (l := [.tmp 1, .tmp 4, .tmp 5]) rfl) ?_))
 refine al (q := false) rfl (bF [2, 1, 0] [0, 1, 2, 3, 4, 8, 9] (by kernel_rfl) rfl rfl rfl rfl (nX x hok lb b0_0 b1_0 b2_0) ?_)
 rintro _ _ _ ⟨rfl, st, hI, rfl⟩
 refine cB (by (try simp only [nM, nN]); rfl) (by (try simp only [aV, place, Nat.reduceBEq, if_true, if_false, reduceIte, Nat.reduceAdd, nW]); rfl) ?_
 refine aNs (az ?_)
 rw [hL] at hI
 rw [hL]
 refine ai (aU rfl (ae 9 tk4 rfl rfl rfl) (aNn ?_))
 refine ah _ rfl (fun h1 => ?_) (fun h1 => ?_)
 ·skip
  have hce : fj x.kp.l L = some st.fa.1 := by unfold fj; rw [hI.tw, if_pos h1]; rfl
  refine az ?_
  refine bn [2] (by kernel_rfl) ?_
  show aB _ _ _ _ _ 3 #[false, false, false] _
  refine bU 0 rfl (by kernel_rfl) rfl (ae 8 tk34 rfl rfl rfl) ?_
  refine bU 1 rfl (by kernel_rfl) rfl (bk rfl) ?_
  refine bV 2 rfl (by kernel_rfl) rfl rfl (aW 7 tk34 rfl rfl rfl rfl ?_)
  refine cq rfl (by (try simp only [nM, nN]); rfl) (by (try simp only [aV, place, Nat.reduceBEq, if_true, if_false, reduceIte, Nat.reduceAdd, nW]); rfl) ?_
  refine bS (by kernel_rfl) ?_
  refine aw (aj (aO ?_))
  refine fh [] [0, 1, 2, 3, 4, 5] rfl Tryz.results35 (dz rfl) (cT 7 tk34 rfl rfl rfl) ?_ (.inr rfl)
  exact ⟨rfl, st, st.fa.1, fun _ => none, hI, by rw [hce]; rfl, (fun p hp => by rw [hce] at hp; exact Option.some.inj hp), (fun h => by rw [hce] at h; cases h), rfl⟩
 ·skip
  have htw : fN x.kp.l L = none := by rw [hI.tw, if_neg (by rw [h1]; decide)]
  have hst0 : mq x.kp.l L [] (fun _ => none) st.fa := .start (by cases hb : st.fa.2 with | false => rfl | true => rw [hb] at h1; cases h1)
  have hlN : ∀ n, ((ct st.mN n).l).length ≤ 70 := fun n => by rw [hI.names]; have := jI (kp := x.kp.l) L n; omega
  refine au (aw (az (aSR (aU rfl (aK (o := 0) tk101 rfl (.of (an 0 rfl)) rfl) (aU rfl (br rfl) ?_)))))
  refine aU rfl (aa (off := 7) (by kernel_rfl) rfl) ?_
  refine aU rfl (aK (o := 7) tk104 rfl (.of (an 1 rfl)) rfl) ?_
  refine al rfl (wT 3 Tryz.underlying104 rfl rfl rfl (fun r6_4 N6_4 => ?_))
  refine aH (by (try simp only [nK, nL]); rfl) ?_
  refine aNn (ax ?_)
  refine aZ [1, 3, 4, 5, 21] [2, 1, 0] [0, 1, 2, 3, 4, 5, 7, 8, 9] (fun (q : List ByteArray × (ByteArray → Option aD) × (aD × Bool)) s => mq x.kp.l L q.1 q.2.1 q.2.2 ∧ s = ⟨[(1, true, .pointer (some ⟨b0_0, 0, none⟩)), (3, true, .pointer (some ⟨b0_2, 0, none⟩)), (4, true, .pointer (some ⟨b1_0, 0, none⟩)), (5, true, .pointer (some ⟨b2_0, 0, none⟩)), (21, true, .pointer (some ⟨r6_4, 0, none⟩))], [At b0_0 0 [.v (.pointer (some ⟨lb, 0, none⟩))], At lb 0 x.row, x.ok],
    [cZ x.ball cj slV st.mA, dP 34 2 aD.row st.mA, cZ x.bch cj aD.val (chP x.kp.l L), ItR x.bnm r6_4 dH slV st.mN N6_4 q.1, dP 157 2 gE st.mN, cZ x.bmn dH aD.val q.2.1, Box b0_2 34 [.int .i64 0, .int .i64 0], Box b1_0 34 q.2.2.1.vs, Box b2_0 4 [.bool q.2.2.2]]⟩) (fun q => N6_4 - q.1.length) rfl (⟨([], fun _ => none, st.fa), hst0, rfl⟩) ?_
  rintro ⟨seen, mM, fa⟩ s ⟨hM, rfl⟩
  dsimp only at hM
  refine aSR ?_
  refine al rfl (xS 3 (kyT) rfl rfl rfl (fun hend7 => ?_) (fun ka7 va7 hm7 hns7 hlt7 => ?_))
  ·skip
   refine aU rfl (aJ rfl rfl) (aNs ?_)
   refine ah _ rfl (fun h => absurd h (by decide)) (fun _ => ?_)
   refine bg (bj (bj (bz (aw (az (az ?_))))))
   have hfin := mq.fin hM hA (fun n hn => qu hA (by
     rw [← hI.names n]
     unfold ct
     cases hc : st.mN n with
     | none => rfl
     | some v => exact (hn (hend7 n v hc)).elim))
   refine tX 3 rfl (fun J => ?_)
   refine ai (aU rfl (ae 8 tk4 rfl rfl rfl) (aNn ?_))
   refine ah _ rfl (fun h2 => ?_) (fun h2 => ?_)
   ·skip
    have hce : fj x.kp.l L = some fa.1 := by unfold fj; rw [htw, hfin.1, if_pos h2]; rfl
    refine az ?_
    refine bn [2] (by kernel_rfl) ?_
    show aB _ _ _ _ _ 3 #[false, false, false] _
    refine bU 0 rfl (by kernel_rfl) rfl (ae 7 tk34 rfl rfl rfl) ?_
    refine bU 1 rfl (by kernel_rfl) rfl (bk rfl) ?_
    refine bV 2 rfl (by kernel_rfl) rfl rfl (aW 6 tk34 rfl rfl rfl rfl ?_)
    refine cq rfl (by (try simp only [nM, nN]); rfl) (by (try simp only [aV, place, Nat.reduceBEq, if_true, if_false, reduceIte, Nat.reduceAdd, nW]); rfl) ?_
    refine bS (by kernel_rfl) ?_
    refine aw (aj (aO ?_))
    refine fh [] [0, 1, 2, 3, 4, 5] rfl Tryz.results35 (dz rfl) (cT 6 tk34 rfl rfl rfl) ?_ (.inr rfl)
    exact ⟨rfl, st, fa.1, mM, hI, by rw [hce]; rfl, (fun p hp => by rw [hce] at hp; exact Option.some.inj hp), (fun h => by rw [hce] at h; cases h), rfl⟩
   ·skip
    have hce : fj x.kp.l L = none := by unfold fj; rw [htw, hfin.1, if_neg (by rw [h2]; decide)]; rfl
    refine au (aw (az ?_))
    refine bn [2] (by kernel_rfl) ?_
    show aB _ _ _ _ _ 3 #[false, false, false] _
    refine bU 0 rfl (by kernel_rfl) rfl (ae 7 tk34 rfl rfl rfl) ?_
    refine bU 1 rfl (by kernel_rfl) rfl (bk rfl) ?_
    refine bV 2 rfl (by kernel_rfl) rfl rfl (aW 6 tk34 rfl rfl rfl rfl ?_)
    refine cq rfl (by (try simp only [nM, nN]); rfl) (by (try simp only [aV, place, Nat.reduceBEq, if_true, if_false, reduceIte, Nat.reduceAdd, nW]); rfl) ?_
    refine bS (by kernel_rfl) ?_
    refine aw (aj ?_)
    refine fh [] [0, 1, 2, 3, 4, 5] rfl Tryz.results35 (dz rfl) (cT 6 tk34 rfl rfl rfl) ?_ (.inr rfl)
    exact ⟨rfl, st, fa.1, mM, hI, by rw [hce]; rfl, (fun p hp => by rw [hce] at hp; cases hp), (fun _ => hfin.2), rfl⟩
  ·skip
   refine aH (by (try simp only [nK, nL]); rfl) ?_
   refine aU rfl (aJ rfl rfl) (aNs ?_)
   refine ah _ rfl (fun _ => ?_) (fun h => absurd h (by decide))
   refine au (aw (ax (aSR (aU rfl (w5 3 (kyT) rfl rfl (hm7)) (aU rfl (aJ rfl rfl) (aU rfl (aJ rfl rfl) (aA rfl (aA rfl (aNs ?_)))))))))
   have hg : ct st.mN ka7 = va7 := by unfold ct; rw [hm7]; rfl
   have hnm : va7.l = dV x.kp.l L ka7 := by rw [← hg]; exact hI.names ka7
   have hvl : va7.l.length ≤ 70 := by rw [← hg]; exact hlN ka7
   refine fK (row := gE) 4 ka7 rfl ?_
   rw [hg]
   refine ai (aA rfl (aNs (az (eZ 34 2 ?_))))
   show awp _ _ _ _ ⟨_, _, [_, _, _, _, _, _, _, _, _, _, _]⟩
   refine ai (aM rfl (aU rfl (bq Tryz.underlying159 rfl) (aM rfl (aNn (ax ?_)))))
   refine aZ [1, 3, 4, 5, 6, 8, 21, 27, 28, 29] [2, 1, 0] [0, 1, 2, 3, 4, 5, 6, 7, 8, 9, 10] (fun (q : Nat × Value) s => q.1 ≤ va7.l.length ∧ s = ⟨[(1, true, .pointer (some ⟨b0_0, 0, none⟩)), (3, true, .pointer (some ⟨b0_2, 0, none⟩)), (4, true, .pointer (some ⟨b1_0, 0, none⟩)), (5, true, .pointer (some ⟨b2_0, 0, none⟩)), (6, true, .string ka7), (8, true, q.2), (21, true, .pointer (some ⟨r6_4, 0, none⟩)), (27, true, slV va7), (28, true, .int .i64 va7.l.length), (29, true, .int .i64 q.1)], [At b0_0 0 [.v (.pointer (some ⟨lb, 0, none⟩))], At lb 0 x.row, x.ok],
     [cZ x.ball cj slV st.mA, dP 34 2 aD.row st.mA, cZ x.bch cj aD.val (chP x.kp.l L), ItR x.bnm r6_4 dH slV st.mN N6_4 (ka7 :: seen), dP 157 2 gE (lB st.mN ka7), cZ x.bmn dH aD.val mM, Box b0_2 34 [.int .i64 0, .int .i64 0], Box b1_0 34 fa.1.vs, Box b2_0 4 [.bool fa.2], bH (slV va7) 157 2 (va7.l.map gE), bH q.2 34 2 ((fi x.kp.l L (va7.l.take q.1)).map aD.row)]⟩) (fun q => va7.l.length - q.1) rfl (⟨(0, _), Nat.zero_le _, rfl⟩) ?_
   rintro ⟨j, v⟩ s ⟨hj, rfl⟩
   dsimp only at hj
   refine aSR (aU rfl (bJ rfl rfl) (aNs ?_))
   refine ah _ rfl (fun h3 => ?_) (fun h3 => ?_)
   ·skip
    have hj' : j < va7.l.length := by simp at h3; omega
    obtain ⟨kk, hkk⟩ : ∃ kk, va7.l[j]? = some kk := ⟨_, List.getElem?_eq_getElem hj'⟩
    obtain ⟨ee, hee⟩ : ∃ ee, cu x.kp.l L kk = some ee := by
      cases hc : cu x.kp.l L kk with
      | some ee => exact ⟨ee, rfl⟩
      | none => exact ((eN.1 (by rw [← hnm]; exact List.mem_of_getElem? hkk)).1 (ep.1 hc)).elim
    have hmp := qn (kp := x.kp.l) L (va7.l.take j)
    rw [List.length_take] at hmp
    refine au (aw (az (ax (aSR ?_))))
    refine aU rfl (dU 9 j el159 rfl rfl rfl rfl (by rw [List.length_map]; exact hj')) ?_
    refine aU rfl (ej 9 j 0 tk157 rfl rfl (aS hkk) rfl rfl) ?_
    refine al (q := true) rfl (bp (zs := [.string .empty, .string .empty]) (by kernel_rfl) rfl (fun b12_2 => ?_))
    refine aH (by (try simp only [nM, nN]); rfl) ?_
    refine al rfl (aW 11 tk157 rfl rfl rfl rfl ?_)
    refine aH (by (try simp only [nK, nL]); rfl) ?_
    refine aNs ?_
    refine bn [7] (by kernel_rfl) ?_
    show aB _ _ _ _ _ 8 #[false, false, false, false, false, false, false, false] _
    refine bU 0 rfl (by kernel_rfl) rfl (aK (o := 0) tk101 rfl (.of (an 0 rfl)) rfl) ?_
    refine bU 1 rfl (by kernel_rfl) rfl (br rfl) ?_
    refine bU 2 rfl (by kernel_rfl) rfl (aa (off := 6) (by kernel_rfl) rfl) ?_
    refine bU 3 rfl (by kernel_rfl) rfl (aK (o := 6) tk103 rfl (.of (an 1 rfl)) rfl) ?_
    refine bU 4 rfl (by kernel_rfl) rfl (ae 11 tk157 rfl rfl rfl) ?_
    refine bU 5 rfl (by kernel_rfl) rfl ((gg (k := kk) (v0 := (⟨0, 0⟩ : aD)) 2 Tryz.underlying103 (kyK) (by kernel_rfl) rfl rfl rfl).castV (v' := aD.val ee.p) (congrArg aD.val (by unfold chP; rw [hee]; rfl))) ?_
    refine bV (q := true) 6 rfl (by kernel_rfl) rfl rfl (bp (zs := [.int .i64 0, .int .i64 0]) (by kernel_rfl) rfl (fun b13_6 => ?_))
    refine cq rfl (by (try simp only [nM, nN]); rfl) (by (try simp only [aV, place, Nat.reduceBEq, if_true, if_false, reduceIte, Nat.reduceAdd, nW]); rfl) ?_
    refine bV 7 rfl (by kernel_rfl) rfl rfl (aW 12 tk34 rfl rfl rfl rfl ?_)
    refine cq rfl (by (try simp only [nM, nN]); rfl) (by (try simp only [aV, place, Nat.reduceBEq, if_true, if_false, reduceIte, Nat.reduceAdd, nW]); rfl) ?_
    refine bS (by kernel_rfl) ?_
    refine aw (aSR ?_)
    refine aU rfl (aa (off := 1) (by kernel_rfl) rfl) ?_
    refine aU rfl (ae 11 tk9 rfl rfl rfl) (aU rfl (dR rfl rfl) (aM rfl (aG rfl rfl (fun hc => aK (o := 0) tk101 rfl (.of (an 0 rfl)) rfl) (aG rfl rfl (fun hc => ae 12 tk34 rfl rfl rfl) ?_))))
    refine aG rfl rfl (fun hc => bP (by kernel_rfl) (aN (ab rfl hc) (aN (ab rfl hc) rfl)) (fun w S fp hst => (kJ x lb ee (hin ee (dG hee).1)).quiet2 (an 1 rfl) (an 2 rfl) hst)) ?_
    refine aG rfl rfl (fun hc => pV (off := 2) (by kernel_rfl) (ab rfl hc) rfl) ?_
    refine aU rfl (cx rfl rfl (fun h => gf rfl h)) (aNn ?_)
    refine ah _ rfl (fun h4 => ?_) (fun h4 => ?_)
    ·skip
     have hc4 : kk.2 = .empty ∨ ee.s.main = true := by
       rw [Bool.or_eq_true, decide_eq_true_eq] at h4; exact h4
     have hmp2 : fi x.kp.l L (va7.l.take (j + 1)) = fi x.kp.l L (va7.l.take j) ++ [ee.p] := by
       rw [List.take_add_one, hkk, Option.toList_some, lM L _ kk hee, if_pos hc4]
     refine ai (aM rfl (aU rfl (ae 12 tk34 rfl rfl rfl) ?_))
     refine al (q := true) rfl (cz (zs := [.int .i64 0, .int .i64 0]) (l := [(0, .tmp 49)]) el158 (by kernel_rfl) (by decide) (by decide) (by decide) rfl rfl rfl (.more rfl (.v rfl (.v rfl .nil)) .nil) rfl rfl (fun v15_2 => ?_))
     refine aH (by (try simp only [nM, nN]); rfl) ?_
     refine al rfl (bX 10 el158 rfl rfl rfl rfl (cH 13 el158 rfl (by simp)) (by first | assumption | simp) (by show ((fi x.kp.l L (va7.l.take j)).map aD.row).length + 1 ≤ _; rw [List.length_map]; omega) (((fi x.kp.l L (va7.l.take j)) ++ [ee.p]).length) (by show ((fi x.kp.l L (va7.l.take j)).map aD.row).length + 1 = _; rw [List.length_map, List.length_append]; rfl) (fun v15_3 c15_3 => ?_))
     refine aH (by (try simp only [nK, nL]); rfl) ?_
     refine aA rfl (cA (bL (aw (ai ?_))))
     refine aU rfl (bB rfl rfl (by omega)) ?_
     refine aM rfl (aNn ?_)
     refine ⟨[1, 3, 4, 5, 6, 8, 21, 27, 28, 29], [2, 1, 0], [0, 1, 2, 3, 4, 5, 6, 7, 8, 9, 10], rfl, ?_⟩
     exact ⟨(j + 1, _), ⟨by dsimp only; omega, by dsimp only; rw [hmp2, List.map_append]; rfl⟩, by dsimp only; omega⟩
    ·skip
     have hc4 : ¬ (kk.2 = .empty ∨ ee.s.main = true) := by
       rw [← decide_eq_true_eq (p := kk.2 = .empty), ← Bool.or_eq_true]; exact fun h => by rw [show (decide (kk.2 = ByteArray.empty) || ee.s.main) = false from h4] at h; cases h
     have hmp2 : fi x.kp.l L (va7.l.take (j + 1)) = fi x.kp.l L (va7.l.take j) := by
       rw [List.take_add_one, hkk, Option.toList_some, lM L _ kk hee, if_neg hc4, List.append_nil]
     refine au (bL (aw (ai ?_)))
     refine aU rfl (bB rfl rfl (by omega)) ?_
     refine aM rfl (aNn ?_)
     refine ⟨[1, 3, 4, 5, 6, 8, 21, 27, 28, 29], [2, 1, 0], [0, 1, 2, 3, 4, 5, 6, 7, 8, 9, 10], rfl, ?_⟩
     exact ⟨(j + 1, _), ⟨by dsimp only; omega, by dsimp only; rw [hmp2]; rfl⟩, by dsimp only; omega⟩
   ·skip
    have hjl : j = va7.l.length := by simp at h3; omega
    have hmpl := qn (kp := x.kp.l) L va7.l
    dsimp only
    rw [hjl, List.take_length]
    refine bg (bj (bj (bz (aw (aSR (aM rfl ?_))))))
    refine al (q := false) rfl (bF [] [10] (by kernel_rfl) rfl rfl rfl rfl (sW v (fi x.kp.l L va7.l) (by omega)) ?_)
    rintro _ _ _ ⟨rfl, q, hqp, hqs, rfl⟩
    refine cB (by (try simp only [nM, nN]); rfl) (by (try simp only [aV, place, Nat.reduceBEq, if_true, if_false, reduceIte, Nat.reduceAdd, nW]); rfl) ?_
    refine aNs (az ?_)
    have hq : q = (cS x.kp.l L ka7).map (·.p) := oz hA (by rw [← hnm]; exact hqp) hqs
    refine ai (aM rfl (aU rfl (fq 10 Tryz.underlying158 rfl rfl) (aU rfl (dp rfl rfl) (aNn ?_))))
    refine ah _ rfl (fun h5 => ?_) (fun h5 => ?_)
    ·skip
     obtain ⟨p1, hp1⟩ : ∃ p1, q[1]? = some p1 := ⟨_, List.getElem?_eq_getElem (by simp at h5; omega)⟩
     refine ai (aM rfl ?_)
     refine aU rfl (dU 10 1 el158 rfl rfl rfl rfl (by rw [List.length_map]; exact (List.getElem?_eq_some_iff.1 hp1).1)) ?_
     refine aU rfl (ej 10 1 0 tk34 rfl rfl (aS hp1) rfl rfl) ?_
     refine al (q := false) rfl (bF [] [7, 8] (by kernel_rfl) rfl rfl rfl rfl (iC b1_0 b2_0 fa p1) ?_)
     rintro _ _ _ ⟨rfl, rfl⟩
     refine cB (by (try simp only [nM, nN]); rfl) (by (try simp only [aV, place, Nat.reduceBEq, if_true, if_false, reduceIte, Nat.reduceAdd, nW]); rfl) ?_
     refine aNs (nx (row := gE) 4 9 ka7 va7 rfl rfl rfl rfl (gJ _ _) rfl ?_)
     rw [ix, nw hm7]
     refine ai (aM rfl (aU rfl (fq 10 Tryz.underlying158 rfl rfl) (aU rfl (dp rfl rfl) (aNn ?_))))
     refine ah _ rfl (fun h6 => ?_) (fun h6 => ?_)
     ·skip
      obtain ⟨p0, hp0⟩ : ∃ p0, q[0]? = some p0 := ⟨_, List.getElem?_eq_getElem (by simp at h6; omega)⟩
      refine bn [8] (by kernel_rfl) ?_
      show aB _ _ _ _ _ 9 #[false, false, false, false, false, false, false, false, false] _
      refine bU 0 rfl (by kernel_rfl) rfl (aK (o := 0) tk101 rfl (.of (an 0 rfl)) rfl) ?_
      refine bU 1 rfl (by kernel_rfl) rfl (br rfl) ?_
      refine bU 2 rfl (by kernel_rfl) rfl (aa (off := 8) (by kernel_rfl) rfl) ?_
      refine bU 3 rfl (by kernel_rfl) rfl (aK (o := 8) tk105 rfl (.of (an 1 rfl)) rfl) ?_
      refine bU 4 rfl (by kernel_rfl) rfl (aq rfl) ?_
      refine bU 5 rfl (by kernel_rfl) rfl (aq rfl) ?_
      refine bU 6 rfl (by kernel_rfl) rfl (dU 10 0 el158 rfl rfl rfl rfl (by rw [List.length_map]; exact (List.getElem?_eq_some_iff.1 hp0).1)) ?_
      refine bU 7 rfl (by kernel_rfl) rfl (ej 10 0 0 tk34 rfl rfl (aS hp0) rfl rfl) ?_
      refine bV 8 rfl (by kernel_rfl) rfl rfl (cV (k := ka7) (v := p0) 5 Tryz.underlying105 (kyT) rfl rfl rfl rfl ?_)
      refine cq rfl (by (try simp only [nM, nN]); rfl) (by (try simp only [aV, place, Nat.reduceBEq, if_true, if_false, reduceIte, Nat.reduceAdd, nW]); rfl) ?_
      refine bS (by kernel_rfl) ?_
      refine bL (aw ?_)
      refine ⟨[1, 3, 4, 5, 21], [2, 1, 0], [0, 1, 2, 3, 4, 5, 6, 7, 8], rfl, ?_⟩
      rw [hq, List.getElem?_map, Option.map_eq_some_iff] at hp0 hp1
      obtain ⟨d0, hd0, rfl⟩ := hp0
      obtain ⟨d1, hd1, rfl⟩ := hp1
      exact ⟨(ka7 :: seen, cE mM ka7 d0.p, dM fa d1.p), ⟨hM.step hns7 (by rw [hd0]) (by rw [hd1]), rfl⟩, by dsimp only at hlt7 ⊢; rw [List.length_cons]; omega⟩
     ·skip
      exfalso; have := (List.getElem?_eq_some_iff.1 hp1).1; simp at h6; rw [h6] at this; simp at this
    ·skip
     refine au (aw (az (nx (row := gE) 4 9 ka7 va7 rfl rfl rfl rfl (gJ _ _) rfl ?_)))
     rw [ix, nw hm7]
     refine ai (aM rfl (aU rfl (fq 10 Tryz.underlying158 rfl rfl) (aU rfl (dp rfl rfl) (aNn ?_))))
     refine ah _ rfl (fun h7 => ?_) (fun h7 => ?_)
     ·skip
      obtain ⟨p0, hp0⟩ : ∃ p0, q[0]? = some p0 := ⟨_, List.getElem?_eq_getElem (by simp at h7; omega)⟩
      refine bn [8] (by kernel_rfl) ?_
      show aB _ _ _ _ _ 9 #[false, false, false, false, false, false, false, false, false] _
      refine bU 0 rfl (by kernel_rfl) rfl (aK (o := 0) tk101 rfl (.of (an 0 rfl)) rfl) ?_
      refine bU 1 rfl (by kernel_rfl) rfl (br rfl) ?_
      refine bU 2 rfl (by kernel_rfl) rfl (aa (off := 8) (by kernel_rfl) rfl) ?_
      refine bU 3 rfl (by kernel_rfl) rfl (aK (o := 8) tk105 rfl (.of (an 1 rfl)) rfl) ?_
      refine bU 4 rfl (by kernel_rfl) rfl (aq rfl) ?_
      refine bU 5 rfl (by kernel_rfl) rfl (aq rfl) ?_
      refine bU 6 rfl (by kernel_rfl) rfl (dU 10 0 el158 rfl rfl rfl rfl (by rw [List.length_map]; exact (List.getElem?_eq_some_iff.1 hp0).1)) ?_
      refine bU 7 rfl (by kernel_rfl) rfl (ej 10 0 0 tk34 rfl rfl (aS hp0) rfl rfl) ?_
      refine bV 8 rfl (by kernel_rfl) rfl rfl (cV (k := ka7) (v := p0) 5 Tryz.underlying105 (kyT) rfl rfl rfl rfl ?_)
      refine cq rfl (by (try simp only [nM, nN]); rfl) (by (try simp only [aV, place, Nat.reduceBEq, if_true, if_false, reduceIte, Nat.reduceAdd, nW]); rfl) ?_
      refine bS (by kernel_rfl) ?_
      refine bL (aw ?_)
      refine ⟨[1, 3, 4, 5, 21], [2, 1, 0], [0, 1, 2, 3, 4, 5, 6, 7, 8], rfl, ?_⟩
      have hn1 : (cS x.kp.l L ka7)[1]? = none := List.getElem?_eq_none (by rw [hq, List.length_map] at h5; simp at h5; omega)
      rw [hq, List.getElem?_map, Option.map_eq_some_iff] at hp0
      obtain ⟨d0, hd0, rfl⟩ := hp0
      exact ⟨(ka7 :: seen, cE mM ka7 d0.p, fa), ⟨hM.step hns7 (by rw [hd0]) (by rw [hn1]), rfl⟩, by dsimp only at hlt7 ⊢; rw [List.length_cons]; omega⟩
     ·skip
      refine au (bL (aw ?_))
      refine ⟨[1, 3, 4, 5, 21], [2, 1, 0], [0, 1, 2, 3, 4, 5, 6, 7, 8], rfl, ?_⟩
      have hn1 : (cS x.kp.l L ka7)[1]? = none := List.getElem?_eq_none (by rw [hq, List.length_map] at h5; simp at h5; omega)
      have hn0 : (cS x.kp.l L ka7)[0]? = none := List.getElem?_eq_none (by rw [hq, List.length_map] at h7; simp at h7; rw [h7]; simp)
      exact ⟨(ka7 :: seen, mM, fa), ⟨hM.step hns7 (by rw [hn0]) (by rw [hn1]), rfl⟩, by dsimp only at hlt7 ⊢; rw [List.length_cons]; omega⟩
end Go.Proofs.YtgmiihmahaahiaaGreatDoor

namespace Go.Proofs.YtgmiihmahaahiaaGreatDoor
open Go.RowKit Go.Lp Go.Sy
open Go.Proofs.Tryz
attribute [local irreducible] aL aB awp aC fwp
def jk (n : ByteArray) (v : Int) (d : Dfn) : Int := if d.s.name = n ∧ d.s.bind ≠ 0 then max v d.s.vis else v
theorem sx (L : List Dfn) (d : Dfn) (n : ByteArray) : iJ (L ++ [d]) n = jk n (iJ L n) d := by unfold iJ jk; rw [List.foldl_append]; rfl
theorem sk (l : Sl ar) (n : ByteArray) : Con Tryz.prog 16 [l.val, .string n] [ShF ar.row l, bW ar.ok l.l] [] (fun r _ _ => r = .int .i64 (iJ (bQ l.l) n)) := by
 refine Con.enter Tryz.func16 rfl (by simp [Tryz.ntmps16]) ?_
 show awp _ _ _ _ ⟨[(0, true, _), (1, true, _)], _, _⟩
 refine bf (.of (an 0 rfl)) (fun hlen => ?_)
 refine aSR (aA rfl (aNn (aSR (aA rfl (aNs (aSR (aM rfl (aU rfl (bq Tryz.underlying22 rfl) (aM rfl ?_)))))))))
 refine aNn (ax (aZ [1, 5, 10, 11, 12] [1, 0] [] (fun (i : Nat) st => i ≤ l.l.length ∧ st = ⟨[(1, true, .string n), (5, true, .int .i64 (iJ (cI l.l i) n)), (10, true, l.val), (11, true, .int .i64 l.l.length), (12, true, .int .i64 i)], [ShF ar.row l, bW ar.ok l.l], []⟩) (fun i => l.l.length - i) rfl (⟨0, Nat.zero_le _, rfl⟩) ?_))
 rintro i st ⟨hi, rfl⟩
 refine aSR (aU rfl (bJ rfl rfl) (aNs ?_))
 refine ah _ rfl (fun h1 => ?_) (fun h1 => ?_)
 ·skip
  have hi' : i < l.l.length := by simp at h1; omega
  have ho := bY hi'
  generalize hoo : elt l.l (i : Int) = o at ho
  refine au (aw (az (ax (aSR ?_))))
  refine cF true rfl rfl (fun _ => av Tryz.underlying22 tk61 rfl ((.of (an 0 rfl))) rfl (aS ho) rfl rfl) (fun h => absurd h (by decide)) (fun ⟨b4_0, o4_0⟩ => ?_)
  refine aU rfl (aR (o := 0) tk61 rfl (an 0 rfl) rfl rfl) ?_
  refine al (q := true) rfl (bp (zs := [.string .empty, .slice none 0 0, .slice none 0 0, .slice none 0 0, .slice none 0 0, .slice none 0 0, .slice none 0 0, .slice none 0 0, .slice none 0 0, .slice none 0 0, .slice none 0 0]) (by kernel_rfl) rfl (fun b4_2 => ?_))
  refine aH (by (try simp only [nM, nN]); rfl) ?_
  refine al rfl (aW 0 tk61 rfl rfl rfl rfl ?_)
  refine aH (by (try simp only [nK, nL]); rfl) ?_
  refine aNs ?_
  refine bf (ar.f_syms (Ent.all (.of (an 2 rfl)) ho)) (fun hlen2 => ?_)
  refine ai ?_
  refine aU rfl (aa (off := 2) (by kernel_rfl) rfl) ?_
  refine aU rfl (ae 0 tk51 rfl rfl rfl) (aU rfl (bq Tryz.underlying51 rfl) (aM rfl (aNn (ax ?_))))
  refine aZ [1, 5, 10, 11, 12, 17, 18, 19] [1, 0] [] (fun (k : Nat) st => k ≤ o.syms.l.length ∧ st = ⟨[(1, true, .string n), (5, true, .int .i64 (iJ (cI l.l i ++ dy (i : Int) (o.syms.l.take k)) n)), (10, true, l.val), (11, true, .int .i64 l.l.length), (12, true, .int .i64 i), (17, true, o.syms.val), (18, true, .int .i64 o.syms.l.length), (19, true, .int .i64 k)], [ShF ar.row l, bW ar.ok l.l], []⟩) (fun k => o.syms.l.length - k) rfl (⟨0, Nat.zero_le _, by rw [List.take_zero, show dy (i : Int) [] = [] from rfl, List.append_nil]; rfl⟩) ?_
  rintro k st ⟨hk, rfl⟩
  refine aSR (aU rfl (bJ rfl rfl) (aNs ?_))
  refine ah _ rfl (fun h2 => ?_) (fun h2 => ?_)
  ·skip
   have hk' : k < o.syms.l.length := by simp at h2; omega
   obtain ⟨s, hs'⟩ : ∃ s, o.syms.l[k]? = some s := ⟨_, List.getElem?_eq_getElem hk'⟩
   have hstep : iJ (cI l.l i ++ dy (i : Int) (o.syms.l.take (k + 1))) n = jk n (iJ (cI l.l i ++ dy (i : Int) (o.syms.l.take k)) n) ⟨⟨(i : Int), (k : Int)⟩, s⟩ := by
     rw [iI hs', ← List.append_assoc, sx]
   refine au (aw (az (ax (aSR ?_))))
   refine cF true rfl rfl (fun _ => av Tryz.underlying51 tk63 rfl ((ar.f_syms (Ent.all (.of (an 1 rfl)) ho))) rfl (aS hs') rfl rfl) (fun h => absurd h (by decide)) (fun ⟨b7_0, o7_0⟩ => ?_)
   refine aU rfl (aR (o := 0) tk63 rfl (an 0 rfl) rfl rfl) ?_
   refine al (q := true) rfl (bp (zs := [.string .empty, .string .empty, .bool false, .int .i64 0, .int .i64 0, .int .i64 0, .int .i64 0, .int .i64 0, .int .i64 0, .int .i64 0]) (by kernel_rfl) rfl (fun b7_2 => ?_))
   refine aH (by (try simp only [nM, nN]); rfl) ?_
   refine al rfl (aW 0 tk63 rfl rfl rfl rfl ?_)
   refine aH (by (try simp only [nK, nL]); rfl) ?_
   refine aNn (aSR ?_)
   refine aU rfl (aa (off := 0) (by kernel_rfl) rfl) ?_
   refine aU rfl (ae 0 tk9 rfl rfl rfl) (aM rfl (aU rfl (dR rfl rfl) (aM rfl ?_)))
   refine aG rfl rfl (fun hc => aa (off := 3) (by kernel_rfl) rfl) ?_
   refine aG rfl rfl (fun hc => ae 0 tk3 (ab rfl hc) rfl rfl) (aG rfl rfl (fun hc => cN (ab rfl hc) rfl) (aU rfl (bA rfl rfl (fun h => gt rfl h)) (aNn ?_)))
   refine ah _ rfl (fun h3 => ?_) (fun h3 => ?_)
   ·skip
    have hc3 : s.name = n ∧ s.bind ≠ 0 := by simpa using h3
    refine ai (aM rfl ?_)
    refine aU rfl (aa (off := 4) (by kernel_rfl) rfl) ?_
    refine aU rfl (ae 0 tk3 rfl rfl rfl) (aU rfl (yz rfl rfl) (aA rfl (cA (bL (aw (ai ?_))))))
    refine aU rfl (bB rfl rfl (by omega)) ?_
    refine aM rfl (aNn ?_)
    refine ⟨[1, 5, 10, 11, 12, 17, 18, 19], [1, 0], [], rfl, ?_⟩
    exact ⟨k + 1, ⟨by omega, by rw [hstep]; unfold jk; rw [if_pos hc3]; rfl⟩, by omega⟩
   ·skip
    have hc3 : ¬ (s.name = n ∧ s.bind ≠ 0) := by simpa using h3
    refine au (bL (aw (ai ?_)))
    refine aU rfl (bB rfl rfl (by omega)) ?_
    refine aM rfl (aNn ?_)
    refine ⟨[1, 5, 10, 11, 12, 17, 18, 19], [1, 0], [], rfl, ?_⟩
    exact ⟨k + 1, ⟨by omega, by rw [hstep]; unfold jk; rw [if_neg hc3]; rfl⟩, by omega⟩
  ·skip
   refine bg (bj (bj (bz (bL (aw (ai ?_))))))
   refine aU rfl (bB rfl rfl (by omega)) ?_
   refine aM rfl (aNn ?_)
   refine ⟨[1, 5, 10, 11, 12], [1, 0], [], rfl, ?_⟩
   rw [List.take_of_length_le (by simp at h2; omega)]
   exact ⟨i + 1, ⟨by omega, by rw [dE, hoo]; rfl⟩, by omega⟩
 ·skip
  refine bg (bj (bj (bz (aw (aSR (aM rfl (aA rfl (aNn (aj ?_)))))))))
  refine bc [] [] rfl Tryz.results16 rfl ?_ (.inr rfl)
  rw [show i = l.l.length by simp at h1; omega]; rfl
def cg.fin (x : cg) (L : List Dfn) (st : CS) (mM : ByteArray → Option aD) : Per :=
 cw (ShM x.ball cj slV st.mA) (cw (ShM x.bch cj aD.val (chP x.kp.l L)) (cw (ShM x.bnm dH slV st.mN) (cw (ShM x.bmn dH aD.val mM) (Go.Sy.fB gE st.mN))))
section
variable {ps : List Per} {x : cg} {L : List Dfn} {st : CS} {mM : ByteArray → Option aD} (h : Ent ps (x.fin L st mM))
include h
theorem cg.g_all : Ent ps (ShM x.ball cj slV st.mA) := h.left
theorem cg.g_ch : Ent ps (ShM x.bch cj aD.val (chP x.kp.l L)) := h.right.left
theorem cg.g_nm : Ent ps (ShM x.bnm dH slV st.mN) := h.right.right.left
theorem cg.g_mn : Ent ps (ShM x.bmn dH aD.val mM) := h.right.right.right.left
theorem cg.g_keys : Ent ps (Go.Sy.fB gE st.mN) := h.right.right.right.right
end
structure j6 (x : cg) (L : List Dfn) (st : CS) (mM : ByteArray → Option aD) : Prop where
 flat : L = bQ x.objs.l
 inv : gO x.kp.l L st
 mains : ∀ n, mM n = (cS x.kp.l L n).head?.map (·.p)
 twice : ft x.kp.l L = none
theorem j6.asc {x : cg} {L : List Dfn} {st : CS} {mM : ByteArray → Option aD} (h : j6 x L st mM) : Asc L := by rw [h.flat]; exact fo _ _
theorem w8 (x : cg) (hok : gG x.objs.l x.kp.l) (lb : Nat) (L : List Dfn) (st : CS) (mM : ByteArray → Option aD) (hF : j6 x L st mM) (s : bu) (e : Dfn) (he : e ∈ L) : Con Tryz.prog 91 [.pointer (some ⟨lb, 0, none⟩), s.val, e.p.val] [At lb 0 x.row, x.ok, x.fin L st mM] [] (fun r _ _ => r = .int .i64 (lR x.kp.l L s e)) := by
 have hin : InD x.objs.l e := by rw [← kN, ← hF.flat]; exact he
 have hl : ((st.mA e.key).getD ⟨none, 0, []⟩).l.length = (dA x.kp.l L e.key).length := by
   have := congrArg List.length (hF.inv.all e.key)
   rw [List.length_map] at this; exact this
 refine Con.enter Tryz.func91 rfl (by simp [Tryz.ntmps91]) ?_
 show awp _ _ _ _ ⟨[(0, true, _), (1, true, _), (2, true, _)], _, _⟩
 refine aSR ?_
 refine al (q := true) rfl (bO rfl rfl rfl (fun b0_0 => ?_))
 refine aH (by (try simp only [nM, nN]); rfl) ?_
 refine al (q := true) rfl (bO rfl rfl rfl (fun b0_1 => ?_))
 refine aH (by (try simp only [nM, nN]); rfl) ?_
 refine aA rfl (aNn (aSR (aM rfl (aU rfl (ae 1 tk34 rfl rfl rfl) ?_))))
 refine aU rfl (bP (by kernel_rfl) rfl (fun w S fp hst => (kJ x lb e hin).quiet2 (an 0 rfl) (an 1 rfl) hst)) ?_
 refine al (q := true) rfl (bp (zs := [.string .empty, .string .empty, .bool false, .int .i64 0, .int .i64 0, .int .i64 0, .int .i64 0, .int .i64 0, .int .i64 0, .int .i64 0]) (by kernel_rfl) rfl (fun b1_3 => ?_))
 refine aH (by (try simp only [nM, nN]); rfl) ?_
 refine al rfl (aW 2 tk63 rfl rfl rfl rfl ?_)
 refine aH (by (try simp only [nK, nL]); rfl) ?_
 refine aNs (ax (aSR ?_))
 refine aU rfl (aa (off := 3) (by kernel_rfl) rfl) ?_
 refine aU rfl (ae 2 tk3 rfl rfl rfl) (aU rfl (bK rfl rfl) (aA rfl (aNn ?_)))
 refine ah _ rfl (fun h1 => ?_) (fun h1 => ?_)
 ·skip
  have c1 : e.s.bind = 3 := by simpa using h1
  refine aSR (aA rfl (aNn (aj (bC (aO ?_)))))
  refine bc [] [] rfl Tryz.results91 rfl ?_ (.inr rfl)
  unfold lR; rw [if_pos c1]
 ·skip
  have c1 : ¬ e.s.bind = 3 := by simpa using h1
  refine aSR ?_
  refine aU rfl (aa (off := 1) (by kernel_rfl) rfl) ?_
  refine aU rfl (ae 2 tk9 rfl rfl rfl) ?_
  refine aU rfl (aa (off := 1) (by kernel_rfl) rfl) ?_
  refine aU rfl (ae 0 tk9 rfl rfl rfl) (aU rfl (jn rfl rfl) (aA rfl (aNn ?_)))
  refine ah _ rfl (fun h2 => ?_) (fun h2 => ?_)
  ·skip
   have c2 : e.s.version ≠ s.version := by simpa using h2
   refine aSR (aA rfl (aNn (aj (bC (aO ?_)))))
   refine bc [] [] rfl Tryz.results91 rfl ?_ (.inr rfl)
   unfold lR; rw [if_neg c1, if_pos c2]
  ·skip
   have c2 : ¬ e.s.version ≠ s.version := by simpa using h2
   refine az ?_
   refine bn [] (by kernel_rfl) ?_
   show aB _ _ _ _ _ 13 #[false, false, false, false, false, false, false, false, false, false, false, false, false] _
   refine bU 0 rfl (by kernel_rfl) rfl (aq rfl) ?_
   refine bU 1 rfl (by kernel_rfl) rfl (br rfl) ?_
   refine bU 2 rfl (by kernel_rfl) rfl (aa (off := 5) (by kernel_rfl) rfl) ?_
   refine bU 3 rfl (by kernel_rfl) rfl (aK (o := 5) tk102 rfl (.of (an 0 rfl)) rfl) ?_
   refine bU 4 rfl (by kernel_rfl) rfl (aa (off := 0) (by kernel_rfl) rfl) ?_
   refine bU 5 rfl (by kernel_rfl) rfl (ae 2 tk9 rfl rfl rfl) ?_
   refine bU 6 rfl (by kernel_rfl) rfl (aa (off := 1) (by kernel_rfl) rfl) ?_
   refine bU 7 rfl (by kernel_rfl) rfl (ae 2 tk9 rfl rfl rfl) ?_
   refine bU 8 rfl (by kernel_rfl) rfl (dF (l := [(0, .tmp 27), (1, .tmp 29)]) (zs := [.string .empty, .string .empty]) (pl := [(0, 1), (1, 1)]) (by kernel_rfl) (by kernel_rfl) (by kernel_rfl) rfl rfl rfl) ?_
   refine bU 9 rfl (by kernel_rfl) rfl (oy (k := e.key) (v0 := (⟨none, 0, []⟩ : Sl aD)) Tryz.underlying102 (kyK) (by kernel_rfl) rfl rfl ((cg.g_all (.of (an 2 rfl))))) ?_
   refine bU 10 rfl (by kernel_rfl) rfl (bq Tryz.underlying158 rfl) ?_
   refine bU 11 rfl (by kernel_rfl) rfl (bK rfl rfl) ?_
   refine bU 12 rfl (by kernel_rfl) rfl (bk rfl) ?_
   refine bS (by kernel_rfl) ?_
   refine aw ?_
   refine ah _ rfl (fun h3 => ?_) (fun h3 => ?_)
   ·skip
    have c3 : (dA x.kp.l L e.key).length = 1 := by
      have := of_decide_eq_true h3; rw [hl] at this; omega
    refine aSR (aA rfl (aNn (aj (bC (aO ?_)))))
    refine bc [] [] rfl Tryz.results91 rfl ?_ (.inr rfl)
    unfold lR; rw [if_neg c1, if_neg c2, if_pos c3]
   ·skip
    have c3 : ¬ (dA x.kp.l L e.key).length = 1 := by
      have := of_decide_eq_false h3; rw [hl] at this; omega
    refine aSR ?_
    refine aU rfl (aa (off := 3) (by kernel_rfl) rfl) ?_
    refine aU rfl (ae 2 tk3 rfl rfl rfl) (aU rfl (bK rfl rfl) (aA rfl (aNn ?_)))
    refine ah _ rfl (fun h4 => ?_) (fun h4 => ?_)
    ·skip
     have c4 : e.s.bind = 1 := by simpa using h4
     refine aSR (aA rfl (aNn (aj (bC (aO ?_)))))
     refine bc [] [] rfl Tryz.results91 rfl ?_ (.inr rfl)
     unfold lR; rw [if_neg c1, if_neg c2, if_neg c3, if_pos c4]
    ·skip
     have c4 : ¬ e.s.bind = 1 := by simpa using h4
     refine au (bL (aw (aSR (aA rfl (aNn (aj ?_))))))
     refine bc [] [] rfl Tryz.results91 rfl ?_ (.inr rfl)
     unfold lR; rw [if_neg c1, if_neg c2, if_neg c3, if_neg c4]
end Go.Proofs.YtgmiihmahaahiaaGreatDoor

namespace Go.Proofs.YtgmiihmahaahiaaGreatDoor
open Go.RowKit Go.Lp Go.Sy
open Go.Proofs.Tryz
attribute [local irreducible] aL aB awp aC fwp
theorem pf (x : cg) (a b : ByteArray) (SV : ByteArray → ByteArray → Bool) (hSV : ∀ p q, SV p q = true ↔ Srv x.vs.l p q) : Con Tryz.prog 22 [x.vs.val, .string a, .string b] [x.ok] [] fun r _ _ => r = .bool (SV a b) :=
 (lU x.vs a b SV hSV).pre fun p hp => by
   simp only [List.mem_cons, List.not_mem_nil, or_false] at hp
   rcases hp with rfl | rfl
   · exact cg.f_vs (.of (an 0 rfl))
   · exact cg.f_vsA (.of (an 0 rfl))
structure gT (kp : List (Sl Bool)) (L : List Dfn) (SV : ByteArray → ByteArray → Bool) (v : ByteArray) (ks : List cU) (fa : aD × Bool) : Prop where
 tw : fa.2 = true → ∃ k ∈ ks, ∃ e, cu kp L k = some e ∧ SV k.2 v = true ∧ fa.1 = e.p
 lo : ∀ k ∈ ks, ∀ e, cu kp L k = some e → SV k.2 v = true → fa.2 = true ∧ ¬ ltC e.p fa.1
section
variable {kp : List (Sl Bool)} {L : List Dfn} {SV : ByteArray → ByteArray → Bool} {v : ByteArray} {ks : List cU} {fa : aD × Bool}
theorem gT.start (p : aD) : gT kp L SV v [] (p, false) := ⟨fun h => (by cases h), fun _ h => by cases h⟩
theorem gT.hit (h : gT kp L SV v ks fa) {k : cU} {e : Dfn} (he : cu kp L k = some e) (hs : SV k.2 v = true) : gT kp L SV v (ks ++ [k]) (dM fa e.p) where
 tw hb := by
   unfold dM at hb ⊢
   split
   · exact ⟨k, by simp, e, he, hs, rfl⟩
   · rename_i hno
     rw [if_neg hno] at hb
     obtain ⟨k2, h1, h2⟩ := h.tw hb
     exact ⟨k2, List.mem_append_left _ h1, h2⟩
 lo k2 hk e2 he2 hs2 := by
   rcases List.mem_append.1 hk with hk | hk
   · obtain ⟨h1, h2⟩ := h.lo k2 hk e2 he2 hs2
     unfold dM
     split
     · rename_i hc
       refine ⟨rfl, fun hlt => ?_⟩
       rcases hc with hc | hc
       · rw [h1] at hc; cases hc
       · exact h2 (er hlt hc)
     · exact ⟨h1, h2⟩
   · rw [List.mem_singleton.1 hk, he] at he2
     obtain rfl := Option.some.inj he2
     unfold dM
     split
     · exact ⟨rfl, ek _⟩
     · rename_i hno
       refine ⟨?_, fun hlt => hno (.inr hlt)⟩
       cases hb3 : fa.2 with
       | true => rfl
       | false => exact (hno (.inl hb3)).elim
theorem gT.miss (h : gT kp L SV v ks fa) {k : cU} (hs : ¬ SV k.2 v = true) : gT kp L SV v (ks ++ [k]) fa where
 tw hb := by
   obtain ⟨k2, h1, h2⟩ := h.tw hb
   exact ⟨k2, List.mem_append_left _ h1, h2⟩
 lo k2 hk e2 he2 hs2 := by
   rcases List.mem_append.1 hk with hk | hk
   · exact h.lo k2 hk e2 he2 hs2
   · rw [List.mem_singleton.1 hk] at hs2; exact (hs hs2).elim
theorem gT.fin {n : ByteArray} (h : gT kp L SV v (dV kp L n) fa) (hA : Asc L) : match L.find? fun d => decide (d.s.name = n) && (lr kp L d && SV d.s.version v) with
   | some d => fa.2 = true ∧ fa.1 = d.p
   | none => fa.2 = false := by
 have pred : ∀ k ∈ dV kp L n, ∀ e, cu kp L k = some e → SV k.2 v = true → e ∈ L ∧ (decide (e.s.name = n) && (lr kp L e && SV e.s.version v)) = true := fun k hk e he hs => by
   obtain ⟨m1, _, m3⟩ := dG he
   refine ⟨m1, ?_⟩
   have h1 : e.s.name = n := by rw [← (eN.1 hk).2, ← m3]
   have h2 : SV e.s.version v = true := by rw [show e.s.version = k.2 from congrArg Prod.snd m3]; exact hs
   simp [h1, h2, j1 hA he]
 cases hf : L.find? fun d => decide (d.s.name = n) && (lr kp L d && SV d.s.version v) with
 | none =>
   rw [List.find?_eq_none] at hf
   dsimp only
   cases hb : fa.2 with
   | false => rfl
   | true =>
     obtain ⟨k, hk, e, he, hs, _⟩ := h.tw hb
     obtain ⟨m1, m2⟩ := pred k hk e he hs
     exact (hf e m1 m2).elim
 | some d =>
   have h1 := List.find?_some hf
   have hm := List.mem_of_find?_eq_some hf
   simp only [Bool.and_eq_true, decide_eq_true_eq] at h1
   have hc := (l8 hA hm).1 h1.2.1
   have hk : d.key ∈ dV kp L n := eN.2 ⟨fun h0 => (by rw [← ep (kp := kp)] at h0; rw [h0] at hc; cases hc), h1.1⟩
   obtain ⟨g1, g2⟩ := h.lo d.key hk d hc h1.2.2
   refine ⟨g1, ?_⟩
   obtain ⟨k, hk2, e, he, hs, hp⟩ := h.tw g1
   obtain ⟨m1, m2⟩ := pred k hk2 e he hs
   rcases find?_asc hA m1 m2 hf with hd | hd
   · rw [hp, hd]
   · rw [← hp] at hd; exact (g2 hd).elim
end
theorem vj (x : cg) (hok : gG x.objs.l x.kp.l) (lb : Nat) (L : List Dfn) (st : CS) (mM : ByteArray → Option aD) (hF : j6 x L st mM) (SV : ByteArray → ByteArray → Bool) (hSV : ∀ p q, SV p q = true ↔ Srv x.vs.l p q) (n v : ByteArray) :
   Con Tryz.prog 90 [.pointer (some ⟨lb, 0, none⟩), cj (n, v)] [At lb 0 x.row, x.ok, x.fin L st mM] [] (fun r ps hp => ps = [] ∧ hp = [] ∧ ∃ p : aD, r = .tuple #[p.val, .bool (fl x.kp.l L SV n v).isSome] ∧ ∀ e, fl x.kp.l L SV n v = some e → p = e.p) := by
 have hlN : ((ct st.mN n).l).length ≤ 70 := by
   rw [hF.inv.names]
   have := jI (kp := x.kp.l) L n
   have h2 := oO hok
   rw [← hF.flat] at h2; omega
 refine Con.enter Tryz.func90 rfl (by simp [Tryz.ntmps90]) ?_
 show awp _ _ _ _ ⟨[(0, true, _), (1, true, _)], _, _⟩
 refine aSR ?_
 refine al (q := true) rfl (bO rfl rfl rfl (fun b0_0 => ?_))
 refine aH (by (try simp only [nM, nN]); rfl) ?_
 refine al (q := true) rfl (bp (zs := [.int .i64 0, .int .i64 0]) (by kernel_rfl) rfl (fun b0_1 => ?_))
 refine aH (by (try simp only [nM, nN]); rfl) ?_
 refine aA rfl (aNs (aSR ?_))
 refine aU rfl (aa (off := 1) (by kernel_rfl) rfl) ?_
 refine aU rfl (ae 0 tk9 rfl rfl rfl) (aU rfl (dR rfl rfl) (aNn ?_))
 refine ah _ rfl (fun h1 => ?_) (fun h1 => ?_)
 ·skip
  have c1 : v = .empty := of_decide_eq_true h1
  refine az ?_
  refine bn [11] (by kernel_rfl) ?_
  show aB _ _ _ _ _ 13 #[false, false, false, false, false, false, false, false, false, false, false, false, false] _
  refine bU 0 rfl (by kernel_rfl) rfl (aq rfl) ?_
  refine bU 1 rfl (by kernel_rfl) rfl (br rfl) ?_
  refine bU 2 rfl (by kernel_rfl) rfl (aa (off := 8) (by kernel_rfl) rfl) ?_
  refine bU 3 rfl (by kernel_rfl) rfl (aK (o := 8) tk105 rfl (.of (an 0 rfl)) rfl) ?_
  refine bU 4 rfl (by kernel_rfl) rfl (aa (off := 0) (by kernel_rfl) rfl) ?_
  refine bU 5 rfl (by kernel_rfl) rfl (ae 0 tk9 rfl rfl rfl) ?_
  refine bU 6 rfl (by kernel_rfl) rfl (jY (k := n) (v0 := (⟨0, 0⟩ : aD)) Tryz.underlying105 (kyT) (by kernel_rfl) rfl rfl ((cg.g_mn (.of (an 2 rfl))))) ?_
  refine bU 7 rfl (by kernel_rfl) rfl (aq rfl) ?_
  refine bU 8 rfl (by kernel_rfl) rfl (aJ rfl rfl) ?_
  refine qS 9 rfl (by kernel_rfl) true rfl rfl (fun _ => aJ rfl rfl) ?_
  refine bV (q := true) 10 rfl (by kernel_rfl) rfl rfl (bp (zs := [.int .i64 0, .int .i64 0]) (by kernel_rfl) rfl (fun b2_10 => ?_))
  refine cq rfl (by (try simp only [nM, nN]); rfl) (by (try simp only [aV, place, Nat.reduceBEq, if_true, if_false, reduceIte, Nat.reduceAdd, nW]); rfl) ?_
  refine bV 11 rfl (by kernel_rfl) rfl rfl (aW 2 tk34 rfl rfl rfl rfl ?_)
  refine cq rfl (by (try simp only [nM, nN]); rfl) (by (try simp only [aV, place, Nat.reduceBEq, if_true, if_false, reduceIte, Nat.reduceAdd, nW]); rfl) ?_
  refine bU 12 rfl (by kernel_rfl) rfl (bk rfl) ?_
  refine bS (by kernel_rfl) ?_
  refine aw (aSR (aU rfl (ae 2 tk34 rfl rfl rfl) (aM rfl ?_)))
  refine al rfl (aW 1 tk34 rfl rfl rfl rfl ?_)
  refine aH (by (try simp only [nK, nL]); rfl) ?_
  refine aA rfl (aNn (aj (aO ?_)))
  refine fh [] [] rfl Tryz.results90 (cT 1 tk34 rfl rfl rfl) (dz rfl) ?_ (.inr rfl)
  have hfr : fl x.kp.l L SV n v = (cS x.kp.l L n).head? := by unfold fl; rw [if_pos c1]
  refine ⟨rfl, rfl, (mM n).getD ⟨0, 0⟩, ?_, fun e he => ?_⟩
  · rw [hfr, hF.mains]; cases (cS x.kp.l L n).head? <;> rfl
  · rw [hF.mains, ← hfr, he]; rfl
 ·skip
  have c1 : ¬ v = .empty := of_decide_eq_false h1
  refine au (aw (az (az ?_)))
  refine bn [10] (by kernel_rfl) ?_
  show aB _ _ _ _ _ 12 #[false, false, false, false, false, false, false, false, false, false, false, false] _
  refine bU 0 rfl (by kernel_rfl) rfl (aq rfl) ?_
  refine bU 1 rfl (by kernel_rfl) rfl (br rfl) ?_
  refine bU 2 rfl (by kernel_rfl) rfl (aa (off := 6) (by kernel_rfl) rfl) ?_
  refine bU 3 rfl (by kernel_rfl) rfl (aK (o := 6) tk103 rfl (.of (an 0 rfl)) rfl) ?_
  refine bU 4 rfl (by kernel_rfl) rfl (ae 0 tk157 rfl rfl rfl) ?_
  refine bU 5 rfl (by kernel_rfl) rfl (jY (k := (n, v)) (v0 := (⟨0, 0⟩ : aD)) Tryz.underlying103 (kyK) (by kernel_rfl) rfl rfl ((cg.g_ch (.of (an 2 rfl))))) ?_
  refine bU 6 rfl (by kernel_rfl) rfl (aq rfl) ?_
  refine bU 7 rfl (by kernel_rfl) rfl (aJ rfl rfl) ?_
  refine qS 8 rfl (by kernel_rfl) true rfl rfl (fun _ => aJ rfl rfl) ?_
  refine bV (q := true) 9 rfl (by kernel_rfl) rfl rfl (bp (zs := [.int .i64 0, .int .i64 0]) (by kernel_rfl) rfl (fun b4_9 => ?_))
  refine cq rfl (by (try simp only [nM, nN]); rfl) (by (try simp only [aV, place, Nat.reduceBEq, if_true, if_false, reduceIte, Nat.reduceAdd, nW]); rfl) ?_
  refine bV 10 rfl (by kernel_rfl) rfl rfl (aW 2 tk34 rfl rfl rfl rfl ?_)
  refine cq rfl (by (try simp only [nM, nN]); rfl) (by (try simp only [aV, place, Nat.reduceBEq, if_true, if_false, reduceIte, Nat.reduceAdd, nW]); rfl) ?_
  refine bU 11 rfl (by kernel_rfl) rfl (bk rfl) ?_
  refine bS (by kernel_rfl) ?_
  refine aw (aSR (aM rfl (aNn ?_)))
  refine ah _ rfl (fun h2 => ?_) (fun h2 => ?_)
  ·skip
   obtain ⟨e, he⟩ : ∃ e, cu x.kp.l L (n, v) = some e := by
     cases hc : cu x.kp.l L (n, v) with
     | some e => exact ⟨e, rfl⟩
     | none => unfold chP at h2; rw [hc] at h2; cases h2
   have hp0 : (chP x.kp.l L (n, v)).getD ⟨0, 0⟩ = e.p := by unfold chP; rw [he]; rfl
   refine aSR (aU rfl (ae 2 tk34 rfl rfl rfl) ?_)
   refine al rfl (aW 1 tk34 rfl rfl rfl rfl ?_)
   refine aH (by (try simp only [nK, nL]); rfl) ?_
   refine aA rfl (aNn (aj (aO ?_)))
   refine fh [] [] rfl Tryz.results90 (cT 1 tk34 rfl rfl rfl) (dz rfl) ?_ (.inr rfl)
   have hfr : fl x.kp.l L SV n v = some e := by unfold fl; rw [if_neg c1, he]; rfl
   refine ⟨rfl, rfl, (chP x.kp.l L (n, v)).getD ⟨0, 0⟩, by rw [hfr]; rfl, fun e2 he2 => ?_⟩
   rw [hfr] at he2
   rw [hp0, Option.some.inj he2]
  ·skip
   have he : cu x.kp.l L (n, v) = none := by
     cases hc : cu x.kp.l L (n, v) with
     | none => rfl
     | some e => unfold chP at h2; rw [hc] at h2; cases h2
   refine au (aw (aSR ?_))
   refine al (q := true) rfl (bp (zs := [.int .i64 0, .int .i64 0]) (by kernel_rfl) rfl (fun b7_0 => ?_))
   refine aH (by (try simp only [nM, nN]); rfl) ?_
   refine aNn (aSR ?_)
   refine al (q := true) rfl (bp (zs := [.bool false]) (by kernel_rfl) rfl (fun b8_0 => ?_))
   refine aH (by (try simp only [nM, nN]); rfl) ?_
   refine al rfl (aW 4 tk4 rfl rfl rfl rfl ?_)
   refine aH (by (try simp only [nK, nL]); rfl) ?_
   refine aNs (az ?_)
   refine bn [] (by kernel_rfl) ?_
   show aB _ _ _ _ _ 9 #[false, false, false, false, false, false, false, false, false] _
   refine bU 0 rfl (by kernel_rfl) rfl (aq rfl) ?_
   refine bU 1 rfl (by kernel_rfl) rfl (br rfl) ?_
   refine bU 2 rfl (by kernel_rfl) rfl (aa (off := 7) (by kernel_rfl) rfl) ?_
   refine bU 3 rfl (by kernel_rfl) rfl (aK (o := 7) tk104 rfl (.of (an 0 rfl)) rfl) ?_
   refine bU 4 rfl (by kernel_rfl) rfl (aa (off := 0) (by kernel_rfl) rfl) ?_
   refine bU 5 rfl (by kernel_rfl) rfl (ae 0 tk9 rfl rfl rfl) ?_
   refine bU 6 rfl (by kernel_rfl) rfl (oy (k := n) (v0 := (⟨none, 0, []⟩ : Sl cU)) Tryz.underlying104 (kyT) (by kernel_rfl) rfl rfl ((cg.g_nm (.of (an 2 rfl))))) ?_
   refine bU 7 rfl (by kernel_rfl) rfl (bq Tryz.underlying159 rfl) ?_
   refine bU 8 rfl (by kernel_rfl) rfl (aq rfl) ?_
   refine bS (by kernel_rfl) ?_
   refine aw (ax ?_)
   refine aZ [0, 3, 4, 10, 11, 46, 47, 48] [2, 1, 0] [0, 1, 3, 4] (fun (q : Nat × (aD × Bool)) s => (q.1 ≤ (ct st.mN n).l.length ∧ gT x.kp.l L SV v ((ct st.mN n).l.take q.1) q.2) ∧ s = ⟨[(0, true, .pointer (some ⟨lb, 0, none⟩)), (3, true, .pointer (some ⟨b0_0, 0, none⟩)), (4, true, .pointer (some ⟨b0_1, 0, none⟩)), (10, true, .pointer (some ⟨b7_0, 0, none⟩)), (11, true, .pointer (some ⟨b8_0, 0, none⟩)), (46, true, slV (ct st.mN n)), (47, true, .int .i64 (ct st.mN n).l.length), (48, true, .int .i64 q.1)],
     [At lb 0 x.row, x.ok, x.fin L st mM], [Box b0_0 157 [.string n, .string v], Box b0_1 34 [.int .i64 0, .int .i64 0], Box b7_0 34 q.2.1.vs, Box b8_0 4 [.bool q.2.2]]⟩) (fun q => (ct st.mN n).l.length - q.1) rfl (⟨(0, (⟨0, 0⟩, false)), ⟨Nat.zero_le _, .start _⟩, rfl⟩) ?_
   rintro ⟨j, fa⟩ s ⟨⟨hj, hL⟩, rfl⟩
   dsimp only at hj hL
   refine aSR (aU rfl (bJ rfl rfl) (aNs ?_))
   refine ah _ rfl (fun h3 => ?_) (fun h3 => ?_)
   ·skip
    have hj' : j < (ct st.mN n).l.length := by simp at h3; omega
    obtain ⟨kk, hkk⟩ : ∃ kk, (ct st.mN n).l[j]? = some kk := ⟨_, List.getElem?_eq_getElem hj'⟩
    obtain ⟨ee, hee⟩ : ∃ ee, cu x.kp.l L kk = some ee := by
      cases hc : cu x.kp.l L kk with
      | some ee => exact ⟨ee, rfl⟩
      | none => exact ((eN.1 (by rw [← hF.inv.names]; exact List.mem_of_getElem? hkk)).1 (ep.1 hc)).elim
    refine au (aw (az (ax (aSR ?_))))
    refine cF true rfl rfl (fun _ => av Tryz.underlying159 tk157 rfl ((Ent.ct (cg.g_keys (.of (an 2 rfl))) n)) rfl (aS hkk) rfl rfl) (fun h => absurd h (by decide)) (fun ⟨b11_0, o11_0⟩ => ?_)
    refine aU rfl (aR (o := 0) tk157 rfl (an 0 rfl) rfl rfl) ?_
    refine al (q := true) rfl (bp (zs := [.string .empty, .string .empty]) (by kernel_rfl) rfl (fun b11_2 => ?_))
    refine aH (by (try simp only [nM, nN]); rfl) ?_
    refine al rfl (aW 4 tk157 rfl rfl rfl rfl ?_)
    refine aH (by (try simp only [nK, nL]); rfl) ?_
    refine aNs ?_
    refine bn [] (by kernel_rfl) ?_
    show aB _ _ _ _ _ 9 #[false, false, false, false, false, false, false, false, false] _
    refine bU 0 rfl (by kernel_rfl) rfl (aq rfl) ?_
    refine bU 1 rfl (by kernel_rfl) rfl (br rfl) ?_
    refine bU 2 rfl (by kernel_rfl) rfl (aa (off := 4) (by kernel_rfl) rfl) ?_
    refine bU 3 rfl (by kernel_rfl) rfl (aK (o := 4) tk24 rfl (.of (an 1 rfl)) rfl) ?_
    refine bU 4 rfl (by kernel_rfl) rfl (aa (off := 1) (by kernel_rfl) rfl) ?_
    refine bU 5 rfl (by kernel_rfl) rfl (ae 4 tk9 rfl rfl rfl) ?_
    refine bU 6 rfl (by kernel_rfl) rfl (aa (off := 1) (by kernel_rfl) rfl) ?_
    refine bU 7 rfl (by kernel_rfl) rfl (ae 0 tk9 rfl rfl rfl) ?_
    refine bU 8 rfl (by kernel_rfl) rfl (bP (by kernel_rfl) rfl (fun w S fp hst => (pf x kk.2 v SV hSV).quiet1 (an 2 rfl) hst)) ?_
    refine bS (by kernel_rfl) ?_
    refine aw ?_
    refine ah _ rfl (fun h4 => ?_) (fun h4 => ?_)
    ·skip
     refine bn [6] (by kernel_rfl) ?_
     show aB _ _ _ _ _ 7 #[false, false, false, false, false, false, false] _
     refine bU 0 rfl (by kernel_rfl) rfl (aq rfl) ?_
     refine bU 1 rfl (by kernel_rfl) rfl (br rfl) ?_
     refine bU 2 rfl (by kernel_rfl) rfl (aa (off := 6) (by kernel_rfl) rfl) ?_
     refine bU 3 rfl (by kernel_rfl) rfl (aK (o := 6) tk103 rfl (.of (an 1 rfl)) rfl) ?_
     refine bU 4 rfl (by kernel_rfl) rfl (ae 4 tk157 rfl rfl rfl) ?_
     refine bU 5 rfl (by kernel_rfl) rfl ((oy (k := kk) (v0 := (⟨0, 0⟩ : aD)) Tryz.underlying103 (kyK) (by kernel_rfl) rfl rfl ((cg.g_ch (.of (an 3 rfl))))).castV (v' := aD.val ee.p) (congrArg aD.val (by unfold chP; rw [hee]; rfl))) ?_
     refine bV (q := false) 6 rfl (by kernel_rfl) rfl rfl (bF [] [2, 3] (by kernel_rfl) rfl rfl rfl rfl (iC b7_0 b8_0 fa ee.p) ?_)
     rintro _ _ _ ⟨rfl, rfl⟩
     refine cq rfl (by (try simp only [nM, nN]); rfl) (by (try simp only [aV, place, Nat.reduceBEq, if_true, if_false, reduceIte, Nat.reduceAdd, nW]); rfl) ?_
     refine bS (by kernel_rfl) ?_
     refine bL (aw (ai ?_))
     refine aU rfl (bB rfl rfl (by omega)) ?_
     refine aM rfl (aNn ?_)
     refine ⟨[0, 3, 4, 10, 11, 46, 47, 48], [2, 1, 0], [0, 1, 2, 3], rfl, ?_⟩
     exact ⟨(j + 1, dM fa ee.p), ⟨⟨by dsimp only; omega, by dsimp only; rw [List.take_add_one, hkk]; exact hL.hit hee h4⟩, rfl⟩, by dsimp only; omega⟩
    ·skip
     refine au (bL (aw (ai ?_)))
     refine aU rfl (bB rfl rfl (by omega)) ?_
     refine aM rfl (aNn ?_)
     refine ⟨[0, 3, 4, 10, 11, 46, 47, 48], [2, 1, 0], [0, 1, 2, 3], rfl, ?_⟩
     exact ⟨(j + 1, fa), ⟨⟨by dsimp only; omega, by dsimp only; rw [List.take_add_one, hkk]; exact hL.miss (by rw [h4]; decide)⟩, rfl⟩, by dsimp only; omega⟩
   ·skip
    have hfin : gT x.kp.l L SV v (dV x.kp.l L n) fa := by
      rw [List.take_of_length_le (by simp at h3; omega), hF.inv.names] at hL; exact hL
    have hlast := hfin.fin hF.asc
    have hfr : fl x.kp.l L SV n v = L.find? fun d => decide (d.s.name = n) && (lr x.kp.l L d && SV d.s.version v) := by unfold fl; rw [if_neg c1, he]; rfl
    rw [← hfr] at hlast
    refine bg (bj (bj (bz (aw (az ?_)))))
    refine bn [2] (by kernel_rfl) ?_
    show aB _ _ _ _ _ 4 #[false, false, false, false] _
    refine bU 0 rfl (by kernel_rfl) rfl (ae 2 tk34 rfl rfl rfl) ?_
    refine xr (qi := true) (qj := false) 1 2 (by kernel_rfl) rfl rfl rfl rfl rfl rfl ?_ ?_
    ·skip
     refine Quiet.eff (ae 3 tk4 rfl rfl rfl) rfl ?_
     refine cq rfl (by (try simp only [nM, nN]); rfl) (by (try simp only [aV, place, Nat.reduceBEq, if_true, if_false, reduceIte, Nat.reduceAdd, nW]); rfl) ?_
     refine bV 2 rfl (by kernel_rfl) rfl rfl (aW 1 tk34 rfl rfl rfl rfl ?_)
     refine cq rfl (by (try simp only [nM, nN]); rfl) (by (try simp only [aV, place, Nat.reduceBEq, if_true, if_false, reduceIte, Nat.reduceAdd, nW]); rfl) ?_
     refine bU 3 rfl (by kernel_rfl) rfl (bk rfl) ?_
     refine bS (by kernel_rfl) ?_
     refine aw (aj ?_)
     refine fh [] [] rfl Tryz.results90 (cT 1 tk34 rfl rfl rfl) (dz rfl) ?_ (.inr rfl)
     refine ⟨rfl, rfl, fa.1, ?_, fun e2 he2 => ?_⟩
     · cases hc : fl x.kp.l L SV n v with
       | none => rw [hc] at hlast; dsimp only at hlast; show Value.tuple #[_, Value.bool fa.2] = _; rw [hlast]; rfl
       | some d => rw [hc] at hlast; dsimp only at hlast; show Value.tuple #[_, Value.bool fa.2] = _; rw [hlast.1]; rfl
     · rw [he2] at hlast; exact hlast.2
    ·skip
     refine id (aW 1 tk34 rfl rfl rfl rfl ?_)
     refine cq rfl (by (try simp only [nM, nN]); rfl) (by (try simp only [aV, place, Nat.reduceBEq, if_true, if_false, reduceIte, Nat.reduceAdd, nW]); rfl) ?_
     refine bU 1 rfl (by kernel_rfl) rfl (ae 3 tk4 rfl rfl rfl) ?_
     refine bU 3 rfl (by kernel_rfl) rfl (bk rfl) ?_
     refine bS (by kernel_rfl) ?_
     refine aw (aj ?_)
     refine fh [] [] rfl Tryz.results90 (cT 1 tk34 rfl rfl rfl) (dz rfl) ?_ (.inr rfl)
     refine ⟨rfl, rfl, fa.1, ?_, fun e2 he2 => ?_⟩
     · cases hc : fl x.kp.l L SV n v with
       | none => rw [hc] at hlast; dsimp only at hlast; show Value.tuple #[_, Value.bool fa.2] = _; rw [hlast]; rfl
       | some d => rw [hc] at hlast; dsimp only at hlast; show Value.tuple #[_, Value.bool fa.2] = _; rw [hlast.1]; rfl
     · rw [he2] at hlast; exact hlast.2
end Go.Proofs.YtgmiihmahaahiaaGreatDoor

namespace Go.Proofs.YtgmiihmahaahiaaGreatDoor
open Go.RowKit Go.Lp Go.Sy
open Go.Proofs.Tryz
attribute [local irreducible] aL aB awp aC fwp
open Classical in
noncomputable def eB (vs : List aF) (a b : ByteArray) : Bool := decide (Srv vs a b)
open Classical in
theorem gV {vs : List aF} {a b : ByteArray} : eB vs a b = true ↔ Srv vs a b := by unfold eB; exact decide_eq_true_iff
noncomputable def exR (f : bw) (k : cU) (e : cG) : Bool := decide (e.name = k.1) && (if k.2 = .empty then e.main || decide (e.version = .empty) else eB f.versions.l e.version k.2)
noncomputable def ifR (k : cU) (f : bw) : Bool := f.exports.l.any (exR f k)
def jD (o : Option Nat) : Int := match o with
 | some i => i
 | none => -1
noncomputable def cK (ifs : List bw) (n v : ByteArray) : Int := jD (ifs.findIdx? (ifR (n, v)))
theorem xb {α : Type} (p : α → Bool) (l : List α) : decide (jD (l.findIdx? p) ≥ 0) = l.any p := by
 cases h : l.findIdx? p with
 | none =>
   rw [List.findIdx?_eq_none_iff] at h
   have : l.any p = false := by rw [List.any_eq_false]; exact fun x hx => by rw [h x hx]; simp
   rw [this]; rfl
 | some i =>
   rw [List.findIdx?_eq_some_iff_getElem] at h
   obtain ⟨hi, h1, _⟩ := h
   have : l.any p = true := List.any_eq_true.2 ⟨_, List.getElem_mem hi, h1⟩
   rw [this, decide_eq_true_eq]; exact Int.natCast_nonneg i
theorem findIdx_take {α : Type} {p : α → Bool} {l : List α} {k : Nat} {a : α} (h : ∀ x ∈ l.take k, p x = false) (ha : l[k]? = some a) (hp : p a = true) : l.findIdx? p = some k := by
 obtain ⟨hk, rfl⟩ := List.getElem?_eq_some_iff.1 ha
 rw [List.findIdx?_eq_some_iff_getElem]
 refine ⟨hk, hp, fun j hj => ?_⟩
 rw [h _ (List.mem_take_iff_getElem.2 ⟨j, by omega, rfl⟩)]; simp
theorem oV (f : bw) (a b : ByteArray) : Con Tryz.prog 22 [f.versions.val, .string a, .string b] [f.ok] [] fun r _ _ => r = .bool (eB f.versions.l a b) :=
 (lU f.versions a b (eB f.versions.l) (fun _ _ => gV)).pre fun p hp => by
   simp only [List.mem_cons, List.not_mem_nil, or_false] at hp
   rcases hp with rfl | rfl
   · exact bw.f_versions (.of (an 0 rfl))
   · exact bw.f_versionsA (.of (an 0 rfl))
theorem xF (kb fb : Nat) (k : cU) (f : bw) (e : cG) : Con Tryz.prog 195 [e.val, .pointer (some ⟨kb, 0, none⟩), .pointer (some ⟨fb, 0, none⟩)] [At kb 0 [.v (.string k.1), .v (.string k.2)], At fb 0 f.row, f.ok] [] (fun r _ _ => r = .bool (exR f k e)) := by
 obtain ⟨n, v⟩ := k
 refine Con.enter Tryz.func195 rfl (by simp [Tryz.ntmps195]) ?_
 show awp _ _ _ _ ⟨[(0, true, _), (1, true, _), (2, true, _)], _, _⟩
 refine aSR ?_
 refine al (q := true) rfl (bO rfl rfl rfl (fun b0_0 => ?_))
 refine aH (by (try simp only [nM, nN]); rfl) ?_
 refine aA rfl (aNs (aSR ?_))
 refine aU rfl (aa (off := 0) (by kernel_rfl) rfl) ?_
 refine aU rfl (ae 0 tk9 rfl rfl rfl) ?_
 refine aU rfl (aa (off := 0) (by kernel_rfl) rfl) ?_
 refine aU rfl (aK (o := 0) tk9 rfl (.of (an 0 rfl)) rfl) (aU rfl (jn rfl rfl) (aNn ?_))
 refine ah _ rfl (fun h1 => ?_) (fun h1 => ?_)
 ·skip
  have c1 : ¬ e.name = n := by simpa using h1
  refine aSR (aA rfl (aNn (aj (aO ?_))))
  refine bc [] [] rfl Tryz.results195 rfl ?_ (.inr rfl)
  unfold exR; rw [decide_eq_false c1]; rfl
 ·skip
  have c1 : e.name = n := by simpa using h1
  refine au (aw (az (aSR ?_)))
  refine aU rfl (aa (off := 1) (by kernel_rfl) rfl) ?_
  refine aU rfl (aK (o := 1) tk9 rfl (.of (an 0 rfl)) rfl) (aU rfl (dR rfl rfl) (aNn ?_))
  refine ah _ rfl (fun h2 => ?_) (fun h2 => ?_)
  ·skip
   have c2 : v = .empty := of_decide_eq_true h2
   refine aSR ?_
   refine aU rfl (aa (off := 2) (by kernel_rfl) rfl) ?_
   refine aU rfl (ae 0 tk4 rfl rfl rfl) (aM rfl ?_)
   refine aG rfl rfl (fun hc => aa (off := 1) (by kernel_rfl) rfl) ?_
   refine aG rfl rfl (fun hc => ae 0 tk9 (ab rfl hc) rfl rfl) (aG rfl rfl (fun hc => dR (ab rfl hc) rfl) (aU rfl (cx rfl rfl (fun h => gf rfl h)) (aA rfl (aNn (aj (aO ?_))))))
   refine bc [] [] rfl Tryz.results195 rfl ?_ (.inr rfl)
   unfold exR; rw [decide_eq_true c1, if_pos c2]; rfl
  ·skip
   have c2 : ¬ v = .empty := of_decide_eq_false h2
   refine au (aw (aSR ?_))
   refine aU rfl (aa (off := 2) (by kernel_rfl) rfl) ?_
   refine aU rfl (aK (o := 2) tk24 rfl (.of (an 1 rfl)) rfl) ?_
   refine aU rfl (aa (off := 1) (by kernel_rfl) rfl) ?_
   refine aU rfl (ae 0 tk9 rfl rfl rfl) ?_
   refine aU rfl (aa (off := 1) (by kernel_rfl) rfl) ?_
   refine aU rfl (aK (o := 1) tk9 rfl (.of (an 0 rfl)) rfl) ?_
   refine aU rfl (bP (by kernel_rfl) rfl (fun w S fp hst => (oV f e.version v).quiet1 (an 2 rfl) hst)) ?_
   refine aA rfl (aNn (aj ?_))
   refine bc [] [] rfl Tryz.results195 rfl ?_ (.inr rfl)
   unfold exR; rw [decide_eq_true c1, if_neg c2]; rfl
theorem kz (l : Sl cG) (F : FuncId) (caps : List Value) (p : Per) (g : cG → Bool) (hF : bI Tryz.prog F = true) (h : ∀ a ∈ l.l, Con Tryz.prog F (a.val :: caps) [p] [] (fun r _ _ => r = .bool (g a))) : Con Tryz.prog 260 [l.val, .func (.func F) #[] caps.toArray] [ShF cG.row l, p] []
   (fun r _ _ => r = .int .i64 (jD (l.l.findIdx? g))) := by
 refine Con.enter Tryz.func260 rfl (by simp [Tryz.ntmps260]) ?_
 show awp _ _ _ _ ⟨[(0, true, _), (1, true, _)], _, _⟩
 refine bf (.of (an 0 rfl)) (fun hlen => ?_)
 refine aSR (aA rfl (aNs (aSR (aM rfl (aU rfl (bq Tryz.underlying71 rfl) (aM rfl (aNn (ax ?_))))))))
 refine aZ [0, 1, 7, 8] [1, 0] [] (fun (k : Nat) s => (k ≤ l.l.length ∧ ∀ a ∈ l.l.take k, g a = false) ∧ s = ⟨[(0, true, l.val), (1, true, .func (.func F) #[] caps.toArray), (7, true, .int .i64 l.l.length), (8, true, .int .i64 k)], [ShF cG.row l, p], []⟩) (fun k => l.l.length - k) rfl (⟨0, ⟨Nat.zero_le _, fun a ha => by cases ha⟩, rfl⟩) ?_
 rintro k s ⟨⟨hk, hno⟩, rfl⟩
 refine aSR (aU rfl (bJ rfl rfl) (aNs ?_))
 refine ah _ rfl (fun h1 => ?_) (fun h1 => ?_)
 ·skip
  have hk' : k < l.l.length := by simpa using h1
  obtain ⟨a, ha⟩ : ∃ a, l.l[k]? = some a := ⟨l.l[k]'hk', by simp⟩
  refine au (aw (az (ax (aSR (aM rfl (aA rfl (aNn (aSR (aM rfl (aM rfl (aM rfl ?_)))))))))))
  refine cF true rfl rfl (fun _ => av Tryz.underlying71 tk128 rfl ((.of (an 0 rfl))) rfl (aS ha) rfl rfl) (fun h => absurd h (by decide)) (fun ⟨b4_3, o4_3⟩ => ?_)
  refine aU rfl (aR (o := 0) tk128 rfl (an 0 rfl) rfl rfl) (aU rfl (kM hF rfl rfl (fun w S fp hst => (h a (List.mem_of_getElem? ha)).quiet1 (an 2 rfl) hst)) (aNn ?_))
  refine ah _ rfl (fun h2 => ?_) (fun h2 => ?_)
  ·skip
   refine aSR (aM rfl (aA rfl (aNn (aj (bC (aO (aO (bC (aO ?_)))))))))
   refine bc [] [] rfl Tryz.results260 rfl ?_ (.inr rfl)
   rw [findIdx_take hno ha h2]; rfl
  ·skip
   refine au (bL (aw (ai ?_)))
   refine aU rfl (bB rfl rfl (by omega)) ?_
   refine aM rfl (aNn ?_)
   refine ⟨[0, 1, 7, 8], [1, 0], [], rfl, ?_⟩
   refine ⟨k + 1, ⟨⟨by omega, ?_⟩, rfl⟩, by omega⟩
   intro y hy
   rw [List.take_add_one, ha, List.mem_append] at hy
   rcases hy with hy | hy
   · exact hno y hy
   · simp at hy; subst hy; exact h2
 ·skip
  refine bg (bj (bj (bz (aw (aSR (aA rfl (aNn (aj ?_))))))))
  refine bc [] [] rfl Tryz.results260 rfl ?_ (.inr rfl)
  rw [List.take_of_length_le (by simpa using h1)] at hno
  rw [List.findIdx?_eq_none_iff.2 fun x hx => hno x hx]; rfl
theorem kA (l : Sl cG) (F : FuncId) (caps : List Value) (p : Per) (g : cG → Bool) (hF : bI Tryz.prog F = true) (h : ∀ a ∈ l.l, Con Tryz.prog F (a.val :: caps) [p] [] (fun r _ _ => r = .bool (g a))) : Con Tryz.prog 194 [l.val, .func (.func F) #[] caps.toArray] [ShF cG.row l, p] []
   (fun r _ _ => r = .bool (l.l.any g)) := by
 refine Con.enter Tryz.func194 rfl (by simp [Tryz.ntmps194]) ?_
 show awp _ _ _ _ ⟨[(0, true, _), (1, true, _)], _, _⟩
 refine aSR (aA rfl (aNn (aSR (aM rfl (aM rfl ?_)))))
 refine aU rfl (bP (by kernel_rfl) rfl (fun w S fp hst => (kz l F caps p g hF h).quiet2 (an 0 rfl) (an 1 rfl) hst)) ?_
 refine aU rfl (cQ rfl rfl) (aA rfl (aNn (aj ?_)))
 refine bc [] [] rfl Tryz.results194 rfl ?_ (.inr rfl)
 rw [← xb]
theorem wv (kb fb : Nat) (k : cU) (f : bw) (e : cG) : Con Tryz.prog 195 [e.val, .pointer (some ⟨kb, 0, none⟩), .pointer (some ⟨fb, 0, none⟩)] [cw (At kb 0 [.v (.string k.1), .v (.string k.2)]) (cw (At fb 0 f.row) f.ok)] [] (fun r _ _ => r = .bool (exR f k e)) :=
 (xF kb fb k f e).pre fun p hp => by
   simp only [List.mem_cons, List.not_mem_nil, or_false] at hp
   rcases hp with rfl | rfl | rfl
   · exact .left (.of (an 0 rfl))
   · exact .left (.right (.of (an 0 rfl)))
   · exact .right (.right (.of (an 0 rfl)))
theorem sH (kb fb : Nat) (k : cU) (f : bw) : Con Tryz.prog 194 [f.exports.val, .func (.func 195) #[] #[.pointer (some ⟨kb, 0, none⟩), .pointer (some ⟨fb, 0, none⟩)]] [At fb 0 f.row, At kb 0 [.v (.string k.1), .v (.string k.2)], f.ok] []
   (fun r _ _ => r = .bool (ifR k f)) :=
 (kA f.exports 195 [.pointer (some ⟨kb, 0, none⟩), .pointer (some ⟨fb, 0, none⟩)] _ (exR f k) (by kernel_rfl) (fun a _ => wv kb fb k f a)).pre fun p hp => by
   simp only [List.mem_cons, List.not_mem_nil, or_false] at hp
   rcases hp with rfl | rfl
   · exact bw.f_exports (.of (an 2 rfl))
   · exact .mk2 (.of (an 1 rfl)) (.mk2 (.of (an 0 rfl)) (.of (an 2 rfl)))
theorem xZ (kb : Nat) (k : cU) (f : bw) : Con Tryz.prog 193 [f.val, .pointer (some ⟨kb, 0, none⟩)] [At kb 0 [.v (.string k.1), .v (.string k.2)], f.ok] [] (fun r _ _ => r = .bool (ifR k f)) := by
 refine Con.enter Tryz.func193 rfl (by simp [Tryz.ntmps193]) ?_
 show awp _ _ _ _ ⟨[(0, true, _), (1, true, _)], _, _⟩
 refine aSR ?_
 refine al (q := true) rfl (bO rfl rfl rfl (fun b0_0 => ?_))
 refine aH (by (try simp only [nM, nN]); rfl) ?_
 refine aA rfl (aNs (bT 0 rfl rfl ?_))
 show awp _ _ _ _ ⟨_, At _ 0 _ :: _, _⟩
 refine ai ?_
 refine aU rfl (aa (off := 1) (by kernel_rfl) rfl) ?_
 refine aU rfl (aK (o := 1) tk71 rfl (.of (an 0 rfl)) rfl) (aU rfl (dn (l := [.tmp 1, .tmp 2]) rfl) ?_)
 refine aU rfl (bP (by kernel_rfl) rfl (fun w S fp hst => (sH kb b0_0 k f).oH (an 0 rfl) (an 1 rfl) (an 2 rfl) hst)) ?_
 refine aA rfl (aNn (aj ?_))
 refine bc [] [] rfl Tryz.results193 rfl ?_ (.inr rfl)
 rfl
theorem kV (l : Sl bw) (F : FuncId) (caps : List Value) (p : Per) (g : bw → Bool) (hF : bI Tryz.prog F = true) (h : ∀ a ∈ l.l, Con Tryz.prog F (a.val :: caps) [p] [] (fun r _ _ => r = .bool (g a))) : Con Tryz.prog 192 [l.val, .func (.func F) #[] caps.toArray] [ShF bw.row l, p] []
   (fun r _ _ => r = .int .i64 (jD (l.l.findIdx? g))) := by
 refine Con.enter Tryz.func192 rfl (by simp [Tryz.ntmps192]) ?_
 show awp _ _ _ _ ⟨[(0, true, _), (1, true, _)], _, _⟩
 refine bf (.of (an 0 rfl)) (fun hlen => ?_)
 refine aSR (aA rfl (aNs (aSR (aM rfl (aU rfl (bq Tryz.underlying23 rfl) (aM rfl (aNn (ax ?_))))))))
 refine aZ [0, 1, 7, 8] [1, 0] [] (fun (k : Nat) s => (k ≤ l.l.length ∧ ∀ a ∈ l.l.take k, g a = false) ∧ s = ⟨[(0, true, l.val), (1, true, .func (.func F) #[] caps.toArray), (7, true, .int .i64 l.l.length), (8, true, .int .i64 k)], [ShF bw.row l, p], []⟩) (fun k => l.l.length - k) rfl (⟨0, ⟨Nat.zero_le _, fun a ha => by cases ha⟩, rfl⟩) ?_
 rintro k s ⟨⟨hk, hno⟩, rfl⟩
 refine aSR (aU rfl (bJ rfl rfl) (aNs ?_))
 refine ah _ rfl (fun h1 => ?_) (fun h1 => ?_)
 ·skip
  have hk' : k < l.l.length := by simpa using h1
  obtain ⟨a, ha⟩ : ∃ a, l.l[k]? = some a := ⟨l.l[k]'hk', by simp⟩
  refine au (aw (az (ax (aSR (aM rfl (aA rfl (aNn (aSR (aM rfl (aM rfl (aM rfl ?_)))))))))))
  refine cF true rfl rfl (fun _ => av Tryz.underlying23 tk73 rfl ((.of (an 0 rfl))) rfl (aS ha) rfl rfl) (fun h => absurd h (by decide)) (fun ⟨b4_3, o4_3⟩ => ?_)
  refine aU rfl (aR (o := 0) tk73 rfl (an 0 rfl) rfl rfl) (aU rfl (kM hF rfl rfl (fun w S fp hst => (h a (List.mem_of_getElem? ha)).quiet1 (an 2 rfl) hst)) (aNn ?_))
  refine ah _ rfl (fun h2 => ?_) (fun h2 => ?_)
  ·skip
   refine aSR (aM rfl (aA rfl (aNn (aj (bC (aO (aO (bC (aO ?_)))))))))
   refine bc [] [] rfl Tryz.results192 rfl ?_ (.inr rfl)
   rw [findIdx_take hno ha h2]; rfl
  ·skip
   refine au (bL (aw (ai ?_)))
   refine aU rfl (bB rfl rfl (by omega)) ?_
   refine aM rfl (aNn ?_)
   refine ⟨[0, 1, 7, 8], [1, 0], [], rfl, ?_⟩
   refine ⟨k + 1, ⟨⟨by omega, ?_⟩, rfl⟩, by omega⟩
   intro y hy
   rw [List.take_add_one, ha, List.mem_append] at hy
   rcases hy with hy | hy
   · exact hno y hy
   · simp at hy; subst hy; exact h2
 ·skip
  refine bg (bj (bj (bz (aw (aSR (aA rfl (aNn (aj ?_))))))))
  refine bc [] [] rfl Tryz.results192 rfl ?_ (.inr rfl)
  rw [List.take_of_length_le (by simpa using h1)] at hno
  rw [List.findIdx?_eq_none_iff.2 fun x hx => hno x hx]; rfl
theorem wu (ifs : Sl bw) (kb : Nat) (k : cU) (f : bw) (hf : f ∈ ifs.l) : Con Tryz.prog 193 [f.val, .pointer (some ⟨kb, 0, none⟩)] [cw (At kb 0 [.v (.string k.1), .v (.string k.2)]) (bW bw.ok ifs.l)] [] (fun r _ _ => r = .bool (ifR k f)) :=
 (xZ kb k f).pre fun p hp => by
   simp only [List.mem_cons, List.not_mem_nil, or_false] at hp
   rcases hp with rfl | rfl
   · exact .left (.of (an 0 rfl))
   · exact .allm (.right (.of (an 0 rfl))) hf
theorem uy (x : cg) (kb : Nat) (k : cU) : Con Tryz.prog 192 [x.ifs.val, .func (.func 193) #[] #[.pointer (some ⟨kb, 0, none⟩)]] [At kb 0 [.v (.string k.1), .v (.string k.2)], x.ok] []
   (fun r _ _ => r = .int .i64 (cK x.ifs.l k.1 k.2)) :=
 (kV x.ifs 193 [.pointer (some ⟨kb, 0, none⟩)] _ (ifR k) (by kernel_rfl) (fun a ha => wu x.ifs kb k a ha)).pre fun p hp => by
   simp only [List.mem_cons, List.not_mem_nil, or_false] at hp
   rcases hp with rfl | rfl
   · exact cg.f_ifs (.of (an 1 rfl))
   · exact .mk2 (.of (an 0 rfl)) (cg.f_ifsA (.of (an 1 rfl)))
theorem pk (x : cg) (lb : Nat) (n v : ByteArray) : Con Tryz.prog 92 [.pointer (some ⟨lb, 0, none⟩), cj (n, v)] [At lb 0 x.row, x.ok] [] (fun r _ _ => r = .int .i64 (cK x.ifs.l n v)) := by
 refine Con.enter Tryz.func92 rfl (by simp [Tryz.ntmps92]) ?_
 show awp _ _ _ _ ⟨[(0, true, _), (1, true, _)], _, _⟩
 refine aSR ?_
 refine al (q := true) rfl (bO rfl rfl rfl (fun b0_0 => ?_))
 refine aH (by (try simp only [nM, nN]); rfl) ?_
 refine aA rfl (aNs (bT 0 rfl rfl ?_))
 show awp _ _ _ _ ⟨_, At _ 0 _ :: _, _⟩
 refine ai (aM rfl (aU rfl (br rfl) ?_))
 refine aU rfl (aa (off := 3) (by kernel_rfl) rfl) ?_
 refine aU rfl (aK (o := 3) tk23 rfl (.of (an 1 rfl)) rfl) (aU rfl (dn (l := [.tmp 3]) rfl) ?_)
 refine aU rfl (bP (by kernel_rfl) rfl (fun w S fp hst => (uy x b0_0 (n, v)).quiet2 (an 0 rfl) (an 2 rfl) hst)) ?_
 refine aA rfl (aNn (aj ?_))
 refine bc [] [] rfl Tryz.results92 rfl ?_ (.inr rfl)
 rfl
end Go.Proofs.YtgmiihmahaahiaaGreatDoor

