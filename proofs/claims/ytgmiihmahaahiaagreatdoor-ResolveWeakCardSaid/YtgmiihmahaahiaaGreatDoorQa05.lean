/- Parts of the proof, in build order. No condition. -/
import Derived.Test.YtgmiihmahaahiaaGreatDoorQa04
import Derived.MapKept
import Derived.Test.YtgmiihmahaahiaaGreatDoorQa02
import Derived.Laws.StructEq
import Derived.Laws.Small
import Derived.ChangeKeysEq
import Derived.DeepKeys3
set_option linter.unusedSimpArgs false
set_option linter.unusedVariables false
set_option maxHeartbeats 1000000
set_option maxRecDepth 20000
namespace Go.Sy
open Go.RowKit Go.Lp Go.MapKept
structure KeyOK {α : Type} (P : Program) (kt : TypeId) (κ : α → Value) : Prop where
 inj : ∀ a b, κ a = κ b → a = b
 check : ∀ (w : World) (em : Bool) (a : α), (Instr.checkKey em 10000 kt (κ a)).run P w = .ok () w
 find : ∀ (w : World) (x : α) (es : List MapEntry), (∀ e ∈ es, ∃ a, e.key = κ a) →
   ((Instr.findKey kt (κ x) es).run P w = .ok none w ∧ ∀ e ∈ es, e.key ≠ κ x) ∨ ∃ j e, (Instr.findKey kt (κ x) es).run P w = .ok (some (j, e.val)) w ∧ es[j]? = some e ∧ e.key = κ x
 stays : ∀ (w : World) (a : α), (Instr.keyThatStays (κ a) (κ a)).run P w = .ok (κ a) w
theorem keyOK_basic {α : Type} {P : Program} {kt : TypeId} {d : TypeDesc} {κ : α → Value} (hd : P.underlying kt = some d) (hk : ∀ a, IsKey d (κ a)) (inj : ∀ a b, κ a = κ b → a = b) : KeyOK P kt κ where
 inj := inj
 check w em a := run_checkKey hd (hk a) em 9999
 find w x es hes := by
   rcases findNow_spec (hk x) es 0 (fun e he => by obtain ⟨a, ha⟩ := hes e he; rw [ha]; exact hk a) with ⟨h1, h2⟩ | ⟨j, e, h1, h2, h3⟩
   · exact .inl ⟨run_findKey hd h1, h2⟩
   · exact .inr ⟨j, e, by rw [Nat.zero_add] at h1; exact run_findKey hd h1, h2, h3⟩
 stays w a := run_keyThatStays (hk a)
theorem keyStr {P : Program} {kt : TypeId} (hd : P.underlying kt = some .string) : KeyOK P kt (fun s : ByteArray => Value.string s) := keyOK_basic hd (fun _ => trivial) (fun _ _ h => by injection h)
theorem keyInt {P : Program} {kt : TypeId} (hd : P.underlying kt = some (.int .i64)) : KeyOK P kt (fun z : Int => Value.int .i64 z) := keyOK_basic hd (fun _ => rfl) (fun _ _ h => by injection h)
section
variable {α β : Type}
structure Ents (κ : α → Value) (ν : β → Value) (m : α → Option β) (es : List MapEntry) : Prop where
 of : ∀ e ∈ es, ∃ a v, e.key = κ a ∧ e.val = ν v ∧ m a = some v
 mem : ∀ a v, m a = some v → ∃ e ∈ es, e.key = κ a ∧ e.val = ν v
 apart : es.Pairwise fun e e' => e.key ≠ e'.key
def MapR (b : Nat) (κ : α → Value) (ν : β → Value) (m : α → Option β) : Res :=
 ⟨fun w _ F => (∃ es clock, w.heap[b]? = some (.map es clock) ∧ Ents κ ν m es.toList ∧ Stamped es clock) ∧ ∀ k, F k ↔ k = b, fun ⟨⟨es, clock, h, he⟩, hF⟩ h1 _ _ => ⟨⟨es, clock, (h1 b ((hF b).2 rfl)).trans h, he⟩, hF⟩⟩
def mput [DecidableEq α] (m : α → Option β) (k : α) (v : β) : α → Option β := fun a => if a = k then some v else m a
variable {κ : α → Value} {ν : β → Value} {m : α → Option β} {P : Program} {kt : TypeId}
theorem Ents.put [DecidableEq α] (K : KeyOK P kt κ) {es : Array MapEntry} (h : Ents κ ν m es.toList) (k : α) (v : β) {clock : Nat} (h0 : ∀ e ∈ es.toList, e.key ≠ κ k) : Ents κ ν (mput m k v) (es.push { key := κ k, val := ν v, born := clock }).toList where
 of e he := by
   rw [Array.toList_push, List.mem_append, List.mem_singleton] at he
   rcases he with he | rfl
   · obtain ⟨a, u, h1, h2, h3⟩ := h.of e he
     refine ⟨a, u, h1, h2, ?_⟩
     have : a ≠ k := fun e' => h0 e he (by rw [h1, e'])
     simp [mput, this, h3]
   · exact ⟨k, v, rfl, rfl, by simp [mput]⟩
 mem a u ha := by
   unfold mput at ha
   split at ha
   · rename_i hak
     simp only [Option.some.injEq] at ha
     subst hak ha
     exact ⟨_, by rw [Array.toList_push]; exact List.mem_append_right _ (List.mem_singleton.2 rfl), rfl, rfl⟩
   · obtain ⟨e, he, h1, h2⟩ := h.mem a u ha
     exact ⟨e, by rw [Array.toList_push]; exact List.mem_append_left _ he, h1, h2⟩
 apart := by
   rw [Array.toList_push, List.pairwise_append]
   exact ⟨h.apart, List.pairwise_singleton _ _, fun e he e' he' => by rw [List.mem_singleton.1 he']; exact h0 e he⟩
theorem Ents.turn [DecidableEq α] (K : KeyOK P kt κ) {es : Array MapEntry} (h : Ents κ ν m es.toList) (k : α) (v : β) {j : Nat} {e0 : MapEntry} (hj : es.toList[j]? = some e0) (h0 : e0.key = κ k) :
   Ents κ ν (mput m k v) (es.modify j fun e => { e with key := κ k, val := ν v }).toList := by
 have hjl : j < es.toList.length := (List.getElem?_eq_some_iff.1 hj).1
 have hg : ∀ i, (es.modify j fun e => { e with key := κ k, val := ν v }).toList[i]? = if i = j then some { e0 with key := κ k, val := ν v } else es.toList[i]? := fun i => by
   rw [Array.getElem?_toList, Array.getElem?_modify]
   by_cases hij : i = j
   · subst hij
     rw [if_pos rfl, if_pos rfl, ← Array.getElem?_toList, hj]; rfl
   · rw [if_neg hij, if_neg (Ne.symm hij), Array.getElem?_toList]
 have hpw := List.pairwise_iff_getElem.1 h.apart
 have hne : ∀ i e, es.toList[i]? = some e → i ≠ j → e.key ≠ κ k := fun i e hi hij hk => by
   obtain ⟨hil, rfl⟩ := List.getElem?_eq_some_iff.1 hi
   obtain ⟨_, rfl⟩ := List.getElem?_eq_some_iff.1 hj
   rcases Nat.lt_or_gt_of_ne hij with hlt | hlt
   · exact hpw i j hil hjl hlt (by rw [hk, h0])
   · exact hpw j i hjl hil hlt (by rw [hk, h0])
 refine ⟨fun e he => ?_, fun a u ha => ?_, ?_⟩
 · obtain ⟨i, hi⟩ := List.mem_iff_getElem?.1 he
   rw [hg] at hi
   split at hi
   · simp only [Option.some.injEq] at hi
     subst hi
     exact ⟨k, v, rfl, rfl, by simp [mput]⟩
   · rename_i hij
     obtain ⟨a, u, h1, h2, h3⟩ := h.of e (List.mem_of_getElem? hi)
     refine ⟨a, u, h1, h2, ?_⟩
     have : a ≠ k := fun e' => hne i e hi hij (by rw [h1, e'])
     simp [mput, this, h3]
 · unfold mput at ha
   split at ha
   · rename_i hak
     simp only [Option.some.injEq] at ha
     subst hak ha
     exact ⟨_, List.mem_of_getElem? (by rw [hg, if_pos rfl]), rfl, rfl⟩
   · rename_i hak
     obtain ⟨e, he, h1, h2⟩ := h.mem a u ha
     obtain ⟨i, hi⟩ := List.mem_iff_getElem?.1 he
     have hij : i ≠ j := fun hij => by
       rw [hij, hj] at hi
       simp only [Option.some.injEq] at hi
       subst hi
       exact hak (K.inj _ _ (by rw [← h1, h0]))
     exact ⟨e, List.mem_of_getElem? (i := i) (by rw [hg, if_neg hij, hi]), h1, h2⟩
 · rw [List.pairwise_iff_getElem]
   intro i i' hi hi' hlt
   have l1 := List.getElem?_eq_getElem hi
   have l2 := List.getElem?_eq_getElem hi'
   rw [hg] at l1 l2
   split at l1
   · rename_i hij
     rw [if_neg (by omega)] at l2
     simp only [Option.some.injEq] at l1
     rw [← l1]
     exact fun e => hne i' _ l2 (by omega) e.symm
   · rename_i hij
     split at l2
     · simp only [Option.some.injEq] at l2
       rw [← l2]
       exact hne i _ l1 hij
     · obtain ⟨q1, e1⟩ := List.getElem?_eq_some_iff.1 l1
       obtain ⟨q2, e2⟩ := List.getElem?_eq_some_iff.1 l2
       rw [← e1, ← e2]
       exact hpw i i' q1 q2 hlt
variable {n : Fr} {env : Env} {ps : List Per} {hp : List Res} {ty : TypeId} {pos : String} {af : Array Edge} {gd : Option (Nat × Bool)} {K : Sta → Prop} {d : Option Tmp} {q : Bool}
theorem e_makeMap {t : Nat} {T : TypeId} (κ : α → Value) (ν : β → Value) (ht : fits n (some t) = true) (hK : ∀ b, K ⟨(t, true, .map (some b)) :: env, ps, hp ++ [MapR b κ ν fun _ => none]⟩) :
   Eff P n ⟨some t, .makeMap T none, ty, pos, af, gd⟩ ⟨env, ps, hp⟩ q K := .push fun w S fp a hst he hn => by
 have : (execOp a.eval ⟨some t, .makeMap T none, ty, pos, af, gd⟩).run P w = .ok (.value (.map (some w.heap.size))) (w.alloc (.map #[] 0)) := by
   show ((Instr.makeMap T none).bind fun r => Sem.pure (Next.value r)).run P w = _
   rw [Sem.run_bind']
   have : (Instr.makeMap T none).run P w = .ok (.map (some w.heap.size)) (w.alloc (.map #[] 0)) := by
     simp [Instr.makeMap, Sem.run_bind, Result.andThen, newObj, Sem.run]
   rw [this]; rfl
 rw [this]
 refine ⟨MapR w.heap.size κ ν fun _ => none, fun b => b = w.heap.size, _, hK w.heap.size, rfl, rfl, he.put (g := true) (by rw [hn]; simpa [fits] using ht) _, below_new _ _, ⟨⟨#[], 0, heap_new _ _, ⟨fun e he => (by simp at he), fun a v h => (by cases h), List.Pairwise.nil⟩, stamped_empty 0⟩, fun _ => Iff.rfl⟩, fun b hb => ?_⟩
 subst hb
 exact ⟨Nat.le_refl _, by rw [World.size_alloc]; omega⟩
theorem e_mapUpdate [DecidableEq α] {T E : TypeId} {x y z : Operand} {b : Nat} {k : α} {v : β} (i : Nat) (hT : P.underlying T = some (.map kt E)) (KO : KeyOK P kt κ) (hx : ev env x = some (true, .map (some b))) (hy : ev env y = some (true, κ k)) (hz : ev env z = some (true, ν v)) (hi : hp[i]? = some (MapR b κ ν m))
   (hK : K ⟨env, ps, hp.set i (MapR b κ ν (mput m k v))⟩) : Eff P n ⟨none, .mapUpdate T x y z, ty, pos, af, gd⟩ ⟨env, ps, hp⟩ false K := .change i hi fun w S fp a hst he hn ⟨⟨es, clock, hb, hes, hsm⟩, hF⟩ => by
 have h1 := he.val hx rfl
 have h2 := he.val hy rfl
 have h3 := he.val hz rfl
 have key : ∃ es' clock', (Instr.mapUpdate T (.map (some b)) (κ k) (ν v)).run P w = .ok () (w.putObj b (.map es' clock')) ∧ Ents κ ν (mput m k v) es'.toList ∧ Stamped es' clock' := by
   rcases KO.find w k es.toList (fun e he => let ⟨a, _, h, _⟩ := hes.of e he; ⟨a, h⟩) with ⟨f1, f2⟩ | ⟨j, e0, f1, f2, f3⟩
   · refine ⟨es.push { key := κ k, val := ν v, born := clock }, clock + 1, ?_, hes.put KO k v f2, stamped_push hsm f2⟩
     simp only [Instr.mapUpdate, Sem.run_bind, run_underlying hT, Result.andThen, Go.MapKept.run_getObj_map hb, KO.check, f1, Go.MapKept.run_setObj_map _ hb]
     rfl
   · refine ⟨es.modify j fun e => { e with key := κ k, val := ν v }, clock, ?_, hes.turn KO k v f2 f3, stamped_modify hsm j _ (fun _ _ => rfl) (fun e he h => by rw [← Array.getElem?_toList, f2] at h; obtain rfl := Option.some.inj h; exact f3.symm)⟩
     have f2' : es[j]? = some e0 := by rw [← Array.getElem?_toList]; exact f2
     simp only [Instr.mapUpdate, Sem.run_bind, run_underlying hT, Result.andThen, Go.MapKept.run_getObj_map hb, KO.check, f1, f2', Option.map_some, Option.getD_some, f3, KO.stays, Go.MapKept.run_setObj_map _ hb]
     rfl
 obtain ⟨es', clock', hrun, hes'⟩ := key
 have : (execOp a.eval ⟨none, .mapUpdate T x y z, ty, pos, af, gd⟩).run P w = .ok .skip (w.putObj b (.map es' clock')) := by
   unfold execOp; dsimp only; rw [h1, h2, h3]
   show ((Instr.mapUpdate T (.map (some b)) (κ k) (ν v)).bind fun _ => Sem.pure Next.skip).run P w = _
   rw [Sem.run_bind', hrun]; rfl
 rw [this]
 have hbl := (Array.getElem?_eq_some_iff.1 hb).1
 exact ⟨MapR b κ ν (mput m k v), _, hK, rfl, rfl, he, ⟨⟨es', clock', World.putObj_heap_same hbl, hes'⟩, hF⟩, rfl, rfl, ⟨rfl, rfl⟩, by rw [World.putObj_size]; exact Nat.le_refl _, fun b' _ hb' => World.putObj_heap_other (fun e => hb' ((hF b').2 e))⟩
theorem q_lookup {T E : TypeId} {x y : Operand} {b : Nat} {k : α} {v0 : β} (i : Nat) (ok : Bool) (hT : P.underlying T = some (.map kt E)) (KO : KeyOK P kt κ) (hz : (P.info? E).bind (·.zero) = some (ν v0)) (hx : ev env x = some (true, .map (some b))) (hy : ev env y = some (true, κ k)) (hi : hp[i]? = some (MapR b κ ν m)) :
   Quiet P n ⟨d, .lookup T x y ok, ty, pos, af, gd⟩ ⟨env, ps, hp⟩ (bif ok then .tuple #[ν ((m k).getD v0), .bool (m k).isSome] else ν ((m k).getD v0)) := fun w S fp a hst he hn => by
 have h1 := he.val hx rfl
 have h2 := he.val hy rfl
 obtain ⟨⟨es, clock, hb, hes, _⟩, hF⟩ := hst.res i _ hi
 have hzr : (zeroValue E).run P w = .ok (ν v0) w := by
   cases hE : P.info? E with
   | none => rw [hE] at hz; cases hz
   | some it =>
     rw [hE, Option.bind_some] at hz
     simp [zeroValue, typeInfo, hE, hz]
 have hrun : (Instr.lookup T (.map (some b)) (κ k) ok).run P w = .ok (bif ok then .tuple #[ν ((m k).getD v0), .bool (m k).isSome] else ν ((m k).getD v0)) w := by
   rcases KO.find w k es.toList (fun e he => let ⟨a, _, h, _⟩ := hes.of e he; ⟨a, h⟩) with ⟨f1, f2⟩ | ⟨j, e0, f1, f2, f3⟩
   · have hm : m k = none := by
       cases hmk : m k with
       | none => rfl
       | some u => obtain ⟨e, he, g1, _⟩ := hes.mem k u hmk; exact (f2 e he g1).elim
     rw [hm]
     simp only [Instr.lookup, Sem.run_bind, run_underlying hT, Result.andThen, Go.MapKept.run_getObj_map hb, KO.check, f1, hzr, Sem.run_pure]
     cases ok <;> rfl
   · obtain ⟨a, u, g1, g2, g3⟩ := hes.of e0 (List.mem_of_getElem? f2)
     obtain rfl : a = k := KO.inj _ _ (by rw [← g1, f3])
     rw [g3]
     simp only [Instr.lookup, Sem.run_bind, run_underlying hT, Result.andThen, Go.MapKept.run_getObj_map hb, KO.check, f1, Sem.run_pure, g2]
     cases ok <;> rfl
 have : (execOp a.eval ⟨d, .lookup T x y ok, ty, pos, af, gd⟩).run P w = .ok (.value (bif ok then .tuple #[ν ((m k).getD v0), .bool (m k).isSome] else ν ((m k).getD v0))) w := by
   unfold execOp; dsimp only; rw [h1, h2]
   show ((Instr.lookup T (.map (some b)) (κ k) ok).bind fun r => Sem.pure (Next.value r)).run P w = _
   rw [Sem.run_bind', hrun]; rfl
 rw [this]; exact uponQ_ok _ _
theorem q_look {T E : TypeId} {x y : Operand} {b : Nat} {k : α} {v0 : β} (i : Nat) (hT : P.underlying T = some (.map kt E)) (KO : KeyOK P kt κ) (hz : (P.info? E).bind (·.zero) = some (ν v0)) (hx : ev env x = some (true, .map (some b))) (hy : ev env y = some (true, κ k)) (hi : hp[i]? = some (MapR b κ ν m)) :
   Quiet P n ⟨d, .lookup T x y false, ty, pos, af, gd⟩ ⟨env, ps, hp⟩ (ν ((m k).getD v0)) := q_lookup i false hT KO hz hx hy hi
theorem q_lookOk {T E : TypeId} {x y : Operand} {b : Nat} {k : α} {v0 : β} (i : Nat) (hT : P.underlying T = some (.map kt E)) (KO : KeyOK P kt κ) (hz : (P.info? E).bind (·.zero) = some (ν v0)) (hx : ev env x = some (true, .map (some b))) (hy : ev env y = some (true, κ k)) (hi : hp[i]? = some (MapR b κ ν m)) :
   Quiet P n ⟨d, .lookup T x y true, ty, pos, af, gd⟩ ⟨env, ps, hp⟩ (.tuple #[ν ((m k).getD v0), .bool (m k).isSome]) := q_lookup i true hT KO hz hx hy hi
end
end Go.Sy

namespace Go.Sy
open Go.RowKit
section
variable {P : Program} {n : Fr} {s : Sta} {d : Option Tmp} {ty : TypeId} {pos : String} {af : Array Edge} {gd : Option (Nat × Bool)} {x y : Operand} {t t' : TypeId}
theorem qb_neq {b1 b2 : Bool} (hT : P.underlying t = some .bool) (hx : ev s.env x = some (true, .bool b1)) (hy : ev s.env y = some (true, .bool b2)) : Quiet P n ⟨d, .binOp .neq t x y t', ty, pos, af, gd⟩ s (.bool (!(b1 == b2))) :=
 .run2 hx hy fun ρ w h1 h2 => by
   unfold execOp; dsimp only; rw [h1, h2]
   simp only [eqGuard_at_bool, binOp, Sem.run_bind, Sem.run_pure, run_equal_bool w t b1 b2 hT, Result.andThen_ok]
theorem qa_eql {xs ys : Array Value} {b : Bool} (hT : P.underlying t = some (.struct (P.fieldsOf t))) (hp : P.stoodInHeld t = false) (hm : P.eqGuardType P.depth t = false)
   (hr : ∀ w, (Op.eqFields 9999 xs ys (P.fieldsOf t).toList).run P w = .ok b w) (hx : ev s.env x = some (true, .agg xs)) (hy : ev s.env y = some (true, .agg ys)) : Quiet P n ⟨d, .binOp .eql t x y t', ty, pos, af, gd⟩ s (.bool b) :=
 .run2 hx hy fun ρ w h1 h2 => by
   unfold execOp; dsimp only; rw [h1, h2]
   simp only [Sem.run_bind, run_eqGuard_agg w _ t _ _ xs ys hm, Result.andThen_ok, run_eql_struct, run_equalIn_struct w 9999 t xs ys hT hp, hr w]
   rfl
theorem qa_neq {xs ys : Array Value} {b : Bool} (hT : P.underlying t = some (.struct (P.fieldsOf t))) (hp : P.stoodInHeld t = false) (hm : P.eqGuardType P.depth t = false)
   (hr : ∀ w, (Op.eqFields 9999 xs ys (P.fieldsOf t).toList).run P w = .ok b w) (hx : ev s.env x = some (true, .agg xs)) (hy : ev s.env y = some (true, .agg ys)) : Quiet P n ⟨d, .binOp .neq t x y t', ty, pos, af, gd⟩ s (.bool (!b)) :=
 .run2 hx hy fun ρ w h1 h2 => by
   unfold execOp; dsimp only; rw [h1, h2]
   simp only [Sem.run_bind, run_eqGuard_agg w _ t _ _ xs ys hm, Result.andThen_ok, run_neq_struct, run_equalIn_struct w 9999 t xs ys hT hp, hr w]
   rfl
theorem q_shl {k yk : IntKind} {a b : Int} (hx : ev s.env x = some (true, .int k a)) (hy : ev s.env y = some (true, .int yk b)) (hb : 0 ≤ b) : Quiet P n ⟨d, .binOp .shl t x y t', ty, pos, af, gd⟩ s (.int k (k.wrap (a * 2 ^ min b.toNat k.bits))) :=
 .run2 hx hy fun ρ w h1 h2 => by
   have e : Op.shift .shl k a yk b = pure (.int k (k.wrap (a * 2 ^ min b.toNat k.bits))) := by unfold Op.shift; rw [if_neg (by omega)]
   unfold execOp; dsimp only; rw [h1, h2]
   have e2 : (do eqGuard BinOp.shl t x y (Value.int k a) (Value.int yk b); binOp BinOp.shl t (Value.int k a) (Value.int yk b)) = Op.shift .shl k a yk b := by cases k <;> cases yk <;> rfl
   rw [e2, e]; rfl
theorem q_shr {k yk : IntKind} {a b : Int} (hx : ev s.env x = some (true, .int k a)) (hy : ev s.env y = some (true, .int yk b)) (hb : 0 ≤ b) : Quiet P n ⟨d, .binOp .shr t x y t', ty, pos, af, gd⟩ s (.int k (a.fdiv (2 ^ min b.toNat k.bits))) :=
 .run2 hx hy fun ρ w h1 h2 => by
   have e : Op.shift .shr k a yk b = pure (.int k (a.fdiv (2 ^ min b.toNat k.bits))) := by unfold Op.shift; rw [if_neg (by omega)]
   unfold execOp; dsimp only; rw [h1, h2]
   have e2 : (do eqGuard BinOp.shr t x y (Value.int k a) (Value.int yk b); binOp BinOp.shr t (Value.int k a) (Value.int yk b)) = Op.shift .shr k a yk b := by cases k <;> cases yk <;> rfl
   rw [e2, e]; rfl
theorem q_orB {k : IntKind} {a b : Int} (hx : ev s.env x = some (true, .int k a)) (hy : ev s.env y = some (true, .int k b)) : Quiet P n ⟨d, .binOp .or t x y t', ty, pos, af, gd⟩ s (.int k (k.wrap (BitVec.ofInt k.bits a ||| BitVec.ofInt k.bits b).toNat)) :=
 .run2 hx hy fun ρ w h1 h2 => by
   unfold execOp; dsimp only; rw [h1, h2]; cases k <;> rfl
theorem q_andB {k : IntKind} {a b : Int} (hx : ev s.env x = some (true, .int k a)) (hy : ev s.env y = some (true, .int k b)) : Quiet P n ⟨d, .binOp .and t x y t', ty, pos, af, gd⟩ s (.int k (k.wrap (BitVec.ofInt k.bits a &&& BitVec.ofInt k.bits b).toNat)) :=
 .run2 hx hy fun ρ w h1 h2 => by
   unfold execOp; dsimp only; rw [h1, h2]; cases k <;> rfl
end
end Go.Sy
namespace Go.Sy
open Go.RowKit
def isIntB (P : Program) (t : TypeId) : Bool := match P.underlying t with
 | some (.int _) => true
 | _ => false
def intAt (xs : Array Value) (o : Nat) : Option Int := match xs[o]? with
 | some (.int .i64 a) => some a
 | _ => none
def eqInts (xs ys : Array Value) (l : List Nat) : Bool := l.all fun o => match intAt xs o, intAt ys o with
 | some a, some b => a == b
 | _, _ => true
def allInts (xs : Array Value) (l : List Nat) : Bool := l.all fun o => (intAt xs o).isSome
end Go.Sy

namespace Go.Sy
open Go.RowKit Go.Lp Go.MapKept
section
variable {P : Program}
def kPair (k : ByteArray × ByteArray) : Value := .agg #[.string k.1, .string k.2]
theorem kPair_inj (a b : ByteArray × ByteArray) (h : kPair a = kPair b) : a = b := by
 unfold kPair at h
 injection h with h
 simp at h
 exact Prod.ext h.1 h.2
theorem equalIn_str (d : Nat) (t : TypeId) (a b : ByteArray) (w : World) (h : P.underlying t = some .string) : (Op.equalIn (d + 1) t (.string a) (.string b)).run P w = .ok (decide (a = b)) w := by
 have : (a == b) = decide (a = b) := by rw [Bool.eq_iff_iff, bytes_beq, decide_eq_true_eq]
 simp [Op.equalIn, run_underlying h, this]
theorem part_str {e : TypeId} (he : P.underlying e = some .string) {xs : Array Value} {off : Nat} {v : Value} (hx : xs[off]? = some v) (w : World) : (part e xs off).run P w = .ok v w :=
 run_part_plain w (by unfold Program.plainKey; rw [he]) hx
theorem pair_find {kt : TypeId} (hwide : (match P.underlying kt with | some (.array _ _) | some (.struct _) => true | _ => false) = true) (heq : ∀ (w : World) (a b : ByteArray × ByteArray), (Op.equal kt (kPair a) (kPair b)).run P w = .ok (decide (a = b)) w) (w : World) (x : ByteArray × ByteArray) (es : List MapEntry) (hes : ∀ e ∈ es, ∃ a, e.key = kPair a) :
   ((Instr.findKey kt (kPair x) es).run P w = .ok none w ∧ ∀ e ∈ es, e.key ≠ kPair x) ∨ ∃ j e, (Instr.findKey kt (kPair x) es).run P w = .ok (some (j, e.val)) w ∧ es[j]? = some e ∧ e.key = kPair x := by
 have key : ∀ (es : List MapEntry) (i : Nat), (∀ e ∈ es, ∃ a, e.key = kPair a) →
     ((Instr.findAsking kt (kPair x) es i).run P w = .ok none w ∧ ∀ e ∈ es, e.key ≠ kPair x) ∨ ∃ j e, (Instr.findAsking kt (kPair x) es i).run P w = .ok (some (i + j, e.val)) w ∧ es[j]? = some e ∧ e.key = kPair x := by
   intro es
   induction es with
   | nil => intro i _; exact .inl ⟨by simp [Instr.findAsking], fun e he => by cases he⟩
   | cons e es ih =>
     intro i hall
     obtain ⟨a, ha⟩ := hall e List.mem_cons_self
     have hr := heq w x a
     by_cases hxa : x = a
     · refine .inr ⟨0, e, ?_, rfl, by rw [ha, hxa]⟩
       rw [decide_eq_true hxa] at hr
       simp [Instr.findAsking, ha, hr]
     · rw [decide_eq_false hxa] at hr
       rcases ih (i + 1) (fun y hy => hall y (List.mem_cons_of_mem _ hy)) with ⟨h1, h2⟩ | ⟨j, e', h1, h2, h3⟩
       · refine .inl ⟨by simp [Instr.findAsking, ha, hr, h1], fun y hy => ?_⟩
         rcases List.mem_cons.1 hy with rfl | hy
         · rw [ha]; exact fun hh => hxa (kPair_inj _ _ hh).symm
         · exact h2 y hy
       · exact .inr ⟨j + 1, e', by simp [Instr.findAsking, ha, hr, h1, Nat.add_assoc, Nat.add_comm 1 j], by simpa using h2, h3⟩
 rw [run_findKey_eq w hwide]
 rcases key es 0 hes with h | ⟨j, e, h1, h2, h3⟩
 · exact .inl h
 · exact .inr ⟨j, e, by simpa using h1, h2, h3⟩
theorem pair_stays (w : World) (a : ByteArray × ByteArray) : (Instr.keyThatStays (kPair a) (kPair a)).run P w = .ok (kPair a) w := by
 have : Instr.sameBits 10000 (kPair a) (kPair a) = true := by simp [kPair, Instr.sameBits, bytes_beq]
 simp [Instr.keyThatStays, this]
theorem check_str (em : Bool) (m : Nat) {e : TypeId} (he : P.underlying e = some .string) (v : ByteArray) (w : World) : (Instr.checkKey em (m + 1) e (.string v)).run P w = .ok () w := by simp [Instr.checkKey, run_underlying he]
theorem pairA_check {kt e : TypeId} {i : TypeInfo} (hu : P.underlying kt = some (.array 2 e)) (hi : P.info? e = some i) (hc : P.cellsOf e = 1) (he : P.underlying e = some .string) (w : World) (em : Bool) (m : Nat) (a : ByteArray × ByteArray) : (Instr.checkKey em (m + 1 + 1) kt (kPair a)).run P w = .ok () w := by
 have h1 : (part e #[Value.string a.1, Value.string a.2] 0).run P w = .ok (.string a.1) w := part_str he rfl w
 have h2 : (part e #[Value.string a.1, Value.string a.2] 1).run P w = .ok (.string a.2) w := part_str he rfl w
 unfold kPair Instr.checkKey
 simp only [Sem.run_bind, run_underlying hu, Result.andThen_ok]
 simp only [Std.Legacy.Range.forIn_eq_forIn_range', Std.Legacy.Range.size]
 simp [List.range', run_sizeOf w hi, hc, h1, h2, check_str em m he]
theorem pairS_check {kt : TypeId} (hu : P.underlying kt = some (.struct (P.fieldsOf kt))) {f g : Field} (hf : (P.fieldsOf kt).toList = [f, g]) (n1 : f.name ≠ "_") (n2 : g.name ≠ "_") (o1 : f.offset = 0) (o2 : g.offset = 1) (t1 : P.underlying f.type = some .string) (t2 : P.underlying g.type = some .string) (w : World) (em : Bool) (m : Nat) (a : ByteArray × ByteArray) : (Instr.checkKey em (m + 1 + 1) kt (kPair a)).run P w = .ok () w := by
 have h1 : (part f.type #[Value.string a.1, Value.string a.2] 0).run P w = .ok (.string a.1) w := part_str t1 rfl w
 have h2 : (part g.type #[Value.string a.1, Value.string a.2] 1).run P w = .ok (.string a.2) w := part_str t2 rfl w
 unfold kPair Instr.checkKey
 simp only [Sem.run_bind, run_underlying hu, Result.andThen_ok]
 rw [← Array.forIn_toList, hf]
 simp [n1, n2, o1, o2, h1, h2, check_str em m t1, check_str em m t2]
theorem pairA_eq {kt e : TypeId} {i : TypeInfo} (hu : P.underlying kt = some (.array 2 e)) (hi : P.info? e = some i) (hc : P.cellsOf e = 1) (he : P.underlying e = some .string) (w : World) (m : Nat) (a b : ByteArray × ByteArray) : (Op.equalIn (m + 1 + 1) kt (kPair a) (kPair b)).run P w = .ok (decide (a = b)) w := by
 have h1 : ∀ x y : ByteArray, (part e #[Value.string x, Value.string y] 0).run P w = .ok (.string x) w := fun x y => part_str he rfl w
 have h2 : ∀ x y : ByteArray, (part e #[Value.string x, Value.string y] 1).run P w = .ok (.string y) w := fun x y => part_str he rfl w
 unfold kPair
 rw [run_equalIn_array w (m + 1) _ _ hu hi, hc]
 simp only [List.range_succ, List.range_zero, List.nil_append, List.cons_append, Op.eqItems, Sem.run_bind, Nat.zero_mul, Nat.one_mul, h1, h2, Result.andThen_ok, equalIn_str m e _ _ w he]
 by_cases e1 : a.1 = b.1 <;> by_cases e2 : a.2 = b.2 <;> simp [e1, e2, h2, equalIn_str m e _ _ w he, Prod.ext_iff]
theorem pairS_eq {kt : TypeId} (hu : P.underlying kt = some (.struct (P.fieldsOf kt))) (hp : P.stoodInHeld kt = false) {f g : Field} (hf : (P.fieldsOf kt).toList = [f, g]) (n1 : f.name ≠ "_") (n2 : g.name ≠ "_") (o1 : f.offset = 0) (o2 : g.offset = 1) (t1 : P.underlying f.type = some .string) (t2 : P.underlying g.type = some .string) (w : World) (m : Nat) (a b : ByteArray × ByteArray) : (Op.equalIn (m + 1 + 1) kt (kPair a) (kPair b)).run P w = .ok (decide (a = b)) w := by
 have h1 : ∀ x y : ByteArray, (part f.type #[Value.string x, Value.string y] 0).run P w = .ok (.string x) w := fun x y => part_str t1 rfl w
 have h2 : ∀ x y : ByteArray, (part g.type #[Value.string x, Value.string y] 1).run P w = .ok (.string y) w := fun x y => part_str t2 rfl w
 unfold kPair
 rw [run_equalIn_struct w (m + 1) kt _ _ hu hp, hf]
 simp only [Op.eqFields, if_pos n1, if_pos n2, o1, o2, Sem.run_bind, h1, h2, Result.andThen_ok, equalIn_str m _ _ _ w t1, equalIn_str m _ _ _ w t2]
 by_cases e1 : a.1 = b.1 <;> by_cases e2 : a.2 = b.2 <;> simp [e1, e2, h2, equalIn_str m _ _ _ w t2, Prod.ext_iff]
theorem keyPairA {kt e : TypeId} {i : TypeInfo} (hu : P.underlying kt = some (.array 2 e)) (hi : P.info? e = some i) (hc : P.cellsOf e = 1) (he : P.underlying e = some .string) : KeyOK P kt kPair where
 inj := kPair_inj
 check w em a := pairA_check hu hi hc he w em 9998 a
 find := pair_find (by rw [hu]) fun w a b => pairA_eq hu hi hc he w 9998 a b
 stays := pair_stays
theorem keyPairA' {kt e : TypeId} (hu : P.underlying kt = some (.array 2 e)) (hi : (P.info? e).isSome = true) (hc : P.cellsOf e = 1) (he : P.underlying e = some .string) : KeyOK P kt kPair :=
 let ⟨_, h⟩ := Option.isSome_iff_exists.1 hi
 keyPairA hu h hc he
theorem keyPairS {kt : TypeId} (hu : P.underlying kt = some (.struct (P.fieldsOf kt))) (hp : P.stoodInHeld kt = false) {f g : Field} (hf : (P.fieldsOf kt).toList = [f, g]) (n1 : f.name ≠ "_") (n2 : g.name ≠ "_") (o1 : f.offset = 0) (o2 : g.offset = 1) (t1 : P.underlying f.type = some .string) (t2 : P.underlying g.type = some .string) : KeyOK P kt kPair where
 inj := kPair_inj
 check w em a := pairS_check hu hf n1 n2 o1 o2 t1 t2 w em 9998 a
 find := pair_find (by rw [hu]) fun w a b => pairS_eq hu hp hf n1 n2 o1 o2 t1 t2 w 9998 a b
 stays := pair_stays
end
end Go.Sy

namespace Go.Sy
open Go.RowKit Go.Lp
abbrev eI (z : Int) : Value := .int .i64 z
def kStr (s : ByteArray) : Value := .string s
def vBo (b : Bool) : Value := .bool b
def setM {α : Type} [DecidableEq α] (l : List α) : α → Option Bool := fun a => if a ∈ l then some true else none
theorem setM_put {α : Type} [DecidableEq α] (l : List α) (a : α) : setM (l ++ [a]) = mput (setM l) a true := by
 funext b; unfold setM mput
 by_cases h : b = a
 · subst h; simp
 · by_cases hb : b ∈ l <;> simp [h, hb]
theorem setM_get {α : Type} [DecidableEq α] (l : List α) (a : α) : (setM l a).getD false = decide (a ∈ l) := by
 unfold setM; by_cases h : a ∈ l <;> simp [h]
end Go.Sy

