/- Parts of the proof, in build order. No condition. -/
import Derived.Test.YtgmiihmahaahiaaGreatDoorQd01
import Derived.OwnWalk
import Derived.Laws.MakeOwn
import Derived.Great.BuildSlice
import Derived.Test.YtgmiihmahaahiaaGreatDoorChecked
import Derived.Deep.Slices
set_option linter.unusedSimpArgs false
set_option linter.unusedVariables false
set_option maxHeartbeats 1000000
set_option maxRecDepth 20000
namespace Go.Sy
open Go.RowKit Go.Lp
section
variable {P : Program} {n : Fr} {s : Sta} {d : Option Tmp} {ty : TypeId} {pos : String} {af : Array Edge} {gd : Option (Nat × Bool)} {v : Value} {K : Sta → Prop}

def evs (env : Env) : List Operand → Option (List Value)
 | [] => some []
 | x :: l => match ev env x, evs env l with
   | some (true, v), some vs => some (v :: vs)
   | _, _ => none
theorem gP {a : Act} {env : Env} (he : cW a env) : ∀ (l : List Operand) (vs : List Value), evs env l = some vs → l.map a.eval = vs
 | [], vs, h => by simp only [evs, Option.some.injEq] at h; subst h; rfl
 | x :: l, vs, h => by
   unfold evs at h
   split at h
   · rename_i v vs' hx hl
     simp only [Option.some.injEq] at h
     subst h
     rw [List.map_cons, he.val hx rfl, gP he l vs' hl]
   · cases h

theorem im {fn : Fn} {l : List Operand} {vs : List Value} (hx : evs s.env l = some vs) : Quiet P n ⟨d, .makeFunc fn #[] l.toArray, ty, pos, af, gd⟩ s (.func fn #[] vs.toArray) := ve fun a he => gP he l vs hx
def vX (P : Program) (T : TypeId) (i : Nat) : Option Nat :=
 match P.underlying T with
 | some (.struct fs) => (fs[i]?).bind fun f => (P.info? f.type).bind fun j => if j.size = 0 then none else some f.offset
 | _ => none
theorem ub {x : Operand} {T : TypeId} {i b o off : Nat} (hf : vX P T i = some off) (hx : ev s.env x = some (true, .pointer (some ⟨b, o, none⟩))) :
   Quiet P n ⟨d, .fieldAddr T x i, ty, pos, af, gd⟩ s (.pointer (some ⟨b, o + off, none⟩)) := .run1 hx fun ρ w h1 => by
 unfold vX at hf
 split at hf
 · rename_i fs hT
   cases hi : fs[i]? with
   | none => rw [hi] at hf; cases hf
   | some f =>
     rw [hi] at hf
     cases hj : P.info? f.type with
     | none => rw [Option.bind_some, hj] at hf; cases hf
     | some j =>
       rw [Option.bind_some, hj, Option.bind_some] at hf
       split at hf
       · cases hf
       · rename_i h0
         simp only [Option.some.injEq] at hf
         subst hf
         unfold execOp; dsimp only; rw [h1]
         show ((Instr.fieldAt T (.pointer (some ⟨b, o, none⟩)) i).bind fun r => Sem.pure (Next.value r)).run P w = _
         rw [Sem.run_bind']
         have : (Instr.fieldAt T (.pointer (some ⟨b, o, none⟩)) i).run P w = .ok (.pointer (some ⟨b, o + f.offset, none⟩)) w := by
           have hadd : (Addr.mk b o none).add f.offset = ⟨b, o + f.offset, none⟩ := by
             unfold Addr.add; split
             · rename_i h; rw [h]; rfl
             · rfl
           simp only [Instr.fieldAt, Sem.run_bind, run_underlying hT, Result.andThen, hi, Instr.sureAddr, fieldPlace, Sem.run_pure, dm hj, if_neg h0, hadd]
         rw [this]; rfl
 · cases hf
theorem aZ {x : Operand} {T E : TypeId} {ad : Option Addr} {k c : Nat} (hT : P.underlying T = some (.slice E)) (hx : ev s.env x = some (true, .slice ad k c)) :
   Quiet P n ⟨d, .call ⟨.builtin .len, #[x], #[T]⟩, ty, pos, af, gd⟩ s (.int .i64 k) := .run1 hx fun ρ w h1 => by
 have hT' : P.underlying T = some (.slice (P.elem T)) := by rw [hT]; unfold Program.elem; rw [hT]
 have : (Builtin.len_ #[T] ty #[.slice ad k c]).run P w = .ok (.int .i64 k) w := run_len_slice _ _ _ _ _ _ hT'
 have e : (execOp ρ ⟨d, .call ⟨.builtin .len, #[x], #[T]⟩, ty, pos, af, gd⟩) = (Builtin.len_ #[T] ty (#[x].map ρ)).bind fun r => Sem.pure (Next.value r) := rfl
 rw [e, show #[x].map ρ = #[.slice ad k c] by simp [h1], Sem.run_bind', this]; rfl
theorem eA {x : Operand} {T : TypeId} {b : ByteArray} (hT : P.underlying T = some .string) (hx : ev s.env x = some (true, .string b)) :
   Quiet P n ⟨d, .call ⟨.builtin .len, #[x], #[T]⟩, ty, pos, af, gd⟩ s (.int .i64 b.size) := .run1 hx fun ρ w h1 => by
 have : (Builtin.len_ #[T] ty #[.string b]).run P w = .ok (.int .i64 b.size) w := run_len_string _ _ _ _ hT
 have e : (execOp ρ ⟨d, .call ⟨.builtin .len, #[x], #[T]⟩, ty, pos, af, gd⟩) = (Builtin.len_ #[T] ty (#[x].map ρ)).bind fun r => Sem.pure (Next.value r) := rfl
 rw [e, show #[x].map ρ = #[.string b] by simp [h1], Sem.run_bind', this]; rfl
theorem acu {x y : Operand} {ts : Array TypeId} {k : IntKind} {a b : Int} (hx : ev s.env x = some (true, .int k a)) (hy : ev s.env y = some (true, .int k b)) :
   Quiet P n ⟨d, .call ⟨.builtin .max, #[x, y], ts⟩, ty, pos, af, gd⟩ s (.int k (max a b)) := .run2 hx hy fun ρ w h1 h2 => by
 have e : (execOp ρ ⟨d, .call ⟨.builtin .max, #[x, y], ts⟩, ty, pos, af, gd⟩) = (Builtin.max_ ts ty (#[x, y].map ρ)).bind fun r => Sem.pure (Next.value r) := rfl
 rw [e, show #[x, y].map ρ = #[.int k a, .int k b] by simp [h1, h2], Sem.run_bind', run_max_int2]
 have : (if b > a then b else a) = max a b := by omega
 rw [this]; rfl
def e8 (P : Program) (f : FuncId) : Bool :=
 match P.funcs[f]? with
 | some fn => fn.name != "runtime.NumGoroutine" && fn.body.isSome
 | none => false
theorem jc {f : FuncId} (hf : e8 P f = true) (args : Array Value) (w : World) : (callFunc f args).run P w = .ok (.enter f args) w := by
 unfold e8 at hf
 cases h : P.funcs[f]? with
 | none => rw [h] at hf; cases hf
 | some fn =>
   rw [h] at hf
   simp only [Bool.and_eq_true, bne_iff_ne, ne_eq] at hf
   obtain ⟨h1, h2⟩ := hf
   cases hb : fn.body with
   | none => rw [hb] at h2; cases h2
   | some c => simp [callFunc, program, Sem.run_bind, Sem.run, h, Result.andThen, h1, hb]
theorem lZ {f : FuncId} (hf : e8 P f = true) {l : List Operand} {ts : Array TypeId} {g : Operand} {caps : Array Value} {ρ : Operand → Value} (hg : ρ g = .func (.func f) #[] caps) {vs : List Value} (hv : l.map ρ = vs) (w : World) :
   (execOp ρ ⟨d, .call ⟨.value g, l.toArray, ts⟩, ty, pos, af, gd⟩).run P w = .ok (.enter f (vs.toArray ++ caps)) w := by
 unfold execOp
 dsimp only
 show ((resolve ρ ⟨.value g, l.toArray, ts⟩ ty).bind fun x => invoke x.target x.args).run P w = _
 have : resolve ρ ⟨.value g, l.toArray, ts⟩ ty = Sem.pure { target := .fn (.func f) caps, args := vs.toArray } := by
   unfold resolve
   dsimp only
   rw [hg]
   show Deferred.ofValue _ _ = _
   unfold Deferred.ofValue
   dsimp only
   rw [List.map_toArray, hv, Array.empty_append]
   rfl
 rw [this]
 show (callFunc f (vs.toArray ++ caps)).run P w = _
 exact jc hf _ w
theorem bC {f : FuncId} (hf : e8 P f = true) {l : List Operand} {ts : Array TypeId} {vs : List Value} (hx : evs s.env l = some vs)
   (hc : ∀ w S fp, St w S fp s.ps s.hp → Calls P f vs.toArray w fun e w' => e = .returned v ∧ Below w.heap.size w w') :
   Quiet P n ⟨d, .call ⟨.value (.func f), l.toArray, ts⟩, ty, pos, af, gd⟩ s v := fun w S fp a hst he hn => by
 rw [lZ hf (caps := #[]) rfl (gP he l vs hx), Array.append_empty]
 exact (hc w S fp hst).mono fun e w' ⟨h1, h2⟩ => ⟨v, h1, rfl, h2⟩

def Con (P : Program) (f : FuncId) (args : List Value) (ps : List Per) (hp : List Res) (R : Value → List Per → List Res → Prop) : Prop :=
 ∀ (w : World) (S : bz) (fp : Nat → bz), St w S fp ps hp → Calls P f args.toArray w fun e w' => ∃ v ps' hp' S' fp', e = .returned v ∧ R v ps' hp' ∧ St w' S' fp' ps' hp' ∧ Evo w S (tot fp hp.length) w' S' ∧
   ∀ b, tot fp' hp'.length b → tot fp hp.length b ∨ w.heap.size ≤ b
def oq (P : Program) (fn : Func) (R : Value → List Per → List Res → Prop) (e : Exit) (s : Sta) : Prop :=
 (e = .normal ∨ e = .ret) ∧ ∃ v lp lh, okH s.hp lh = true ∧ (∀ a w S fp, St w S fp s.ps s.hp → cW a s.env → (results fn a.tmps).run P w = .ok v w) ∧ R v (fH s.ps lp) (bK s.hp lh)
theorem rW (args : List Value) (m : Nat) : cW { tmps := args.toArray ++ Array.replicate (m - args.toArray.size) undef, defers := [] } ((List.range args.length).zipWith (fun i v => (i, true, v)) args) := by
 intro t g v ht
 have key : ∀ (l : List Value) (k : Nat), look ((List.range' k l.length).zipWith (fun i v => (i, true, v)) l) t = some (g, v) → k ≤ t ∧ g = true ∧ l[t - k]? = some v := by
   intro l
   induction l with
   | nil => intro k h; simp [look] at h
   | cons x l ih =>
     intro k h
     rw [List.length_cons, List.range'_succ, List.zipWith_cons_cons] at h
     unfold look at h
     split at h
     · rename_i hkt
       obtain rfl : k = t := by simpa using hkt
       simp only [Option.some.injEq, Prod.mk.injEq] at h
       obtain ⟨rfl, rfl⟩ := h
       simp
     · obtain ⟨h1, h2, h3⟩ := ih (k + 1) h
       refine ⟨by omega, h2, ?_⟩
       rw [show t - k = (t - (k + 1)) + 1 by omega, List.getElem?_cons_succ]
       exact h3
 rw [List.range_eq_range'] at ht
 obtain ⟨_, rfl, h3⟩ := key args 0 ht
 simp only [Nat.sub_zero] at h3
 have hlt := (List.getElem?_eq_some_iff.1 h3).1
 simp only [Array.getD_eq_getD_getElem?, Array.getElem?_append, List.size_toArray, if_pos hlt, List.getElem?_toArray, h3, cond_true, Option.getD_some]
theorem Con.enter {f : FuncId} {fn : Func} {c : Code} {args : List Value} {ps : List Per} {hp : List Res} {R : Value → List Per → List Res → Prop} (hf : P.funcs[f]? = some fn) (hb : fn.body = some c) (hle : args.length ≤ fn.ntmps)
   (h : awp P ⟨fn.ntmps, none, []⟩ c (oq P fn R) ⟨(List.range args.length).zipWith (fun i v => (i, true, v)) args, ps, hp⟩) : Con P f args ps hp R := fun w S fp hst => by
 refine calls_of_wp hf hb ((wpIn_wide (n := 0)).1 (dq (F := fnc none) (fun e a w' hq => ?_) (h w S fp { tmps := args.toArray ++ Array.replicate (fn.ntmps - args.toArray.size) undef, defers := [] } hst ?_ ?_ rfl)))
 · obtain ⟨s', S', fp', ⟨he, v, lp, lh, ok, hr, hR⟩, hst', henv, hn, hd, hE, hg⟩ := hq
   obtain ⟨k1, k2⟩ := hst'.bK lp lh ok
   have := hr a w' S' fp' hst' henv
   rcases he with rfl | rfl
   · exact ⟨hd, v, this, v, _, _, S', _, rfl, hR, k1, hE, fun b hb => hg b (k2 b hb)⟩
   · exact ⟨hd, v, this, v, _, _, S', _, rfl, hR, k1, hE, fun b hb => hg b (k2 b hb)⟩
 · exact rW args fn.ntmps
 · simp
   omega
theorem Evo.toX {w w' : World} {S X S' : bz} (h : Evo w S X w' S') (hX : ∀ b, ¬ X b) : Below w.heap.size w w' := h.toBelow fun b _ => hX b
theorem Con.quiet {f : FuncId} {args : List Value} {ps : List Per} (h : Con P f args ps [] fun u _ _ => u = v) {w : World} {S : bz} {fp : Nat → bz} {ps' : List Per} {hp : List Res} (hsub : ∀ p ∈ ps, p ∈ ps') (hst : St w S fp ps' hp) :
   Calls P f args.toArray w fun e w' => e = .returned v ∧ Below w.heap.size w w' :=
 (h w S fp ⟨fun p hp => hst.per p (hsub p hp), fun i R hR => by simp at hR, fun i hi => by simp at hi, fun i j hi => by simp at hi, hst.slt⟩).mono fun e w' ⟨u, _, _, _, _, he, hu, _, hE, _⟩ => ⟨hu ▸ he, hE.toX fun b ⟨i, hi, _⟩ => by simp at hi⟩
theorem Con.quiet0 {f : FuncId} {args : List Value} (h : Con P f args [] [] fun u _ _ => u = v) {w : World} {S : bz} {fp : Nat → bz} {ps' : List Per} {hp : List Res} (hst : St w S fp ps' hp) :
   Calls P f args.toArray w fun e w' => e = .returned v ∧ Below w.heap.size w w' := h.quiet (fun _ h => by cases h) hst
theorem Con.quiet1 {f : FuncId} {args : List Value} {p : Per} (h : Con P f args [p] [] fun u _ _ => u = v) {w : World} {S : bz} {fp : Nat → bz} {ps' : List Per} {hp : List Res} (hp1 : p ∈ ps') (hst : St w S fp ps' hp) :
   Calls P f args.toArray w fun e w' => e = .returned v ∧ Below w.heap.size w w' := h.quiet (fun _ h => by rw [List.mem_singleton.1 h]; exact hp1) hst
end
end Go.Sy

namespace Go.Sy
open Go.RowKit
section
variable {P : Program} {n : Fr} {ops : Array Oper} {Q : Exit → Sta → Prop} {s : Sta} {K : Sta → Prop}
section
variable {env : Env} {ps : List Per} {hp : List Res} {d : Nat} {op : Op} {ty : TypeId} {pos : String} {af : Array Edge} {gd : Option (Nat × Bool)} {rest : List Oper} {v : Value}
theorem acr (c : Bool) (hc : guardOf ops env ⟨some d, op, ty, pos, af, gd⟩ = some c) (hd : fits n (some d) = true) (hq : c = true → Quiet P n ⟨some d, op, ty, pos, af, gd⟩ ⟨env, ps, hp⟩ v)
   (h : aL P n ops Q rest ⟨(d, c, v) :: env, ps, hp⟩) : aL P n ops Q (⟨some d, op, ty, pos, af, gd⟩ :: rest) ⟨env, ps, hp⟩ := pc c hc hd hq h
theorem cJ {β : Type} {v : β → Value} {p1 : β → Per} (c : Bool) (hc : guardOf ops env ⟨some d, op, ty, pos, af, gd⟩ = some c) (hd : fits n (some d) = true) (hq : c = true → jQ P n ⟨some d, op, ty, pos, af, gd⟩ ⟨env, ps, hp⟩ v (fun x => [p1 x])) (hin : c = false → Nonempty β)
   (h : ∀ x, aL P n ops Q rest ⟨(d, c, v x) :: env, cnd c (p1 x) :: ps, hp⟩) : aL P n ops Q (⟨some d, op, ty, pos, af, gd⟩ :: rest) ⟨env, ps, hp⟩ := qE c hc hd hq hin h
variable {V : List Nat} {k : Nat} {L : Array Bool}
theorem aci (i : Nat) (hi : ops[i]? = some ⟨some d, op, ty, pos, af, gd⟩) (hf : ga ops V L i = true) (c : Bool) (hc : guardOf ops env ⟨some d, op, ty, pos, af, gd⟩ = some c) (hd : fits n (some d) = true)
   (hq : c = true → Quiet P n ⟨some d, op, ty, pos, af, gd⟩ ⟨env, ps, hp⟩ v) (h : aB P n ops V Q k (L.setIfInBounds i true) ⟨(d, c, v) :: env, ps, hp⟩) : aB P n ops V Q (k + 1) L ⟨env, ps, hp⟩ := yq i hi hf c hc hd hq h
theorem dC {β : Type} {v : β → Value} {p1 : β → Per} (i : Nat) (hi : ops[i]? = some ⟨some d, op, ty, pos, af, gd⟩) (hf : ga ops V L i = true) (c : Bool) (hc : guardOf ops env ⟨some d, op, ty, pos, af, gd⟩ = some c) (hd : fits n (some d) = true)
   (hq : c = true → jQ P n ⟨some d, op, ty, pos, af, gd⟩ ⟨env, ps, hp⟩ v (fun x => [p1 x])) (hin : c = false → Nonempty β)
   (h : ∀ x, aB P n ops V Q k (L.setIfInBounds i true) ⟨(d, c, v x) :: env, cnd c (p1 x) :: ps, hp⟩) : aB P n ops V Q (k + 1) L ⟨env, ps, hp⟩ := qB i hi hf c hc hd hq hin h
theorem aS {x : Operand} {l : List Operand} {v : Value} {vs : List Value} (h : ev env x = some (true, v)) (h' : evs env l = some vs) : evs env (x :: l) = some (v :: vs) := by unfold evs; rw [h, h']
end
theorem az (h : K s) : thn K Q .normal s := h
theorem aY {id : Nat} (h : Q (.exit id) s) : thn K Q (.exit id) s := h
theorem aO (h : Q .ret s) : thn K Q .ret s := h
theorem bB {id : Nat} (h : Q .normal s) : blk id Q .normal s := h
theorem bu {id : Nat} (h : Q .ret s) : blk id Q .ret s := h
theorem bf {id : Nat} (h : Q .normal s) : blk id Q (.exit id) s := by unfold blk; dsimp only; rw [if_pos rfl]; exact h
theorem gt {a b : Bool} (ha : a = true) (h : b = true) : (a && (b == true)) = true := by rw [ha, h]; rfl
theorem gf {a b : Bool} (ha : a = true) (h : b = false) : (a && (b == false)) = true := by rw [ha, h]; rfl
theorem aF {l : List Per} {p : Per} (i : Nat) (h : l[i]? = some p) : p ∈ l := List.mem_of_getElem? h
theorem br {fn : Func} {t : Nat} {v : Value} {R : Value → List Per → List Res → Prop} {e : Exit} (lp lh : List Nat) (ok : okH s.hp lh = true) (hr : fn.results = #[.tmp t]) (hl : look s.env t = some (true, v)) (h : R v (fH s.ps lp) (bK s.hp lh)) (he : e = .normal ∨ e = .ret) : oq P fn R e s :=
 ⟨he, v, lp, lh, ok, fun a w S fp hst henv => by have := henv t true v hl; simp only [cond_true] at this; rw [results_tmp hr, this], h⟩
theorem aaD {fn : Func} {t u : Nat} {v v' : Value} {R : Value → List Per → List Res → Prop} {e : Exit} (lp lh : List Nat) (ok : okH s.hp lh = true) (hr : fn.results = #[.tmp t, .tmp u]) (hl : look s.env t = some (true, v)) (hl' : look s.env u = some (true, v')) (h : R (.tuple #[v, v']) (fH s.ps lp) (bK s.hp lh)) (he : e = .normal ∨ e = .ret) : oq P fn R e s :=
 ⟨he, .tuple #[v, v'], lp, lh, ok, fun a w S fp hst henv => by have h1 := henv t true v hl; have h2 := henv u true v' hl'; simp only [cond_true] at h1 h2; rw [results_tmp2 hr, h1, h2], h⟩
theorem ir {fn : Func} {R : Value → List Per → List Res → Prop} {e : Exit} (lp lh : List Nat) (ok : okH s.hp lh = true) (hr : fn.results = #[]) (h : R (.tuple #[]) (fH s.ps lp) (bK s.hp lh)) (he : e = .normal ∨ e = .ret) : oq P fn R e s :=
 ⟨he, .tuple #[], lp, lh, ok, fun a w S fp hst henv => by simp [results, hr], h⟩
end
end Go.Sy

namespace Go.Sy
open Go.RowKit Go.Lp
section
variable {P : Program} {n : Fr} {s : Sta} {d : Option Tmp} {ty : TypeId} {pos : String} {af : Array Edge} {gd : Option (Nat × Bool)} {v : Value} {K : Sta → Prop} {q : Bool}
variable {w : World} {S : bz} {fp : Nat → bz} {ps : List Per} {hp : List Res}

theorem iW (w : World) (o : Obj) : (w.alloc o).heap[w.heap.size]? = some o := by
 show (w.heap.push o)[w.heap.size]? = _
 simp
theorem eW (w : World) (o : Obj) : Below w.heap.size w (w.alloc o) := (Below.refl _ _).alloc (Nat.le_refl _) _
theorem St.push (h : St w S fp ps hp) {w' : World} (hb : Below w.heap.size w w') (R : Res) (F : bz) (hR : R.holds w' S F) (hF : ∀ b, F b → w.heap.size ≤ b ∧ b < w'.heap.size) : St w' S (fun i => if i = hp.length then F else fp i) ps (hp ++ [R]) := by
 have h' := h.below hb
 refine ⟨h'.per, fun i R' hi => ?_, fun i hi b hb' => ?_, fun i j hi hj hne b hbi hbj => ?_, h'.slt⟩
 · by_cases hil : i = hp.length
   · subst hil
     simp only [List.getElem?_concat_length, Option.some.injEq] at hi
     subst hi
     simpa using hR
   · have : i < hp.length := by have := (List.getElem?_eq_some_iff.1 hi).1; simp at this; omega
     rw [List.getElem?_append_left this] at hi
     simpa [hil] using h'.res i R' hi
 · by_cases hil : i = hp.length
   · subst hil
     simp only [if_true] at hb'
     exact ⟨(hF b hb').2, fun hS => by have := h.slt b hS; have := (hF b hb').1; omega⟩
   · rw [if_neg hil] at hb'
     exact h'.lt i (by simp at hi; omega) b hb'
 · simp only [List.length_append, List.length_cons, List.length_nil] at hi hj
   by_cases hil : i = hp.length
   · rw [if_pos hil] at hbi
     rw [if_neg (by omega)] at hbj
     have := (h.lt j (by omega) b hbj).1
     have := (hF b hbi).1
     omega
   · rw [if_neg hil] at hbi
     by_cases hjl : j = hp.length
     · rw [if_pos hjl] at hbj
       have := (h.lt i (by omega) b hbi).1
       have := (hF b hbj).1
       omega
     · rw [if_neg hjl] at hbj
       exact h.dj i j (by omega) (by omega) hne b hbi hbj
theorem oF {F : bz} {m : Nat} {b : Nat} (h : tot (fun i => if i = m then F else fp i) (m + 1) b) : tot fp m b ∨ F b := by
 obtain ⟨i, hi, hb⟩ := h
 by_cases hil : i = m
 · rw [if_pos hil] at hb; exact .inr hb
 · rw [if_neg hil] at hb; exact .inl ⟨i, by omega, hb⟩
theorem Eff.push {o : Oper} (h : ∀ w S fp a, St w S fp s.ps s.hp → cW a s.env → a.tmps.size = n.size →
     gB P (fun u w' => ∃ R F s', K s' ∧ s'.ps = s.ps ∧ s'.hp = s.hp ++ [R] ∧ cW (a.put o.dst u) s'.env ∧ Below w.heap.size w w' ∧ R.holds w' S F ∧ ∀ b, F b → w.heap.size ≤ b ∧ b < w'.heap.size) ((execOp a.eval o).run P w)) : Eff P n o s q K := fun w S fp a hst he hn => by
 refine ct (fun u w' hh => ?_) (h w S fp a hst he hn)
 obtain ⟨R, F, s', hK, hps, hhp, he', hb, hR, hF⟩ := hh
 refine ⟨s', S, _, hK, by rw [hps, hhp]; exact hst.push hb R F hR hF, he', Evo.of_below _ _ hb, fun b hb' => ?_, fun _ => hb⟩
 rw [hhp, List.length_append, List.length_cons, List.length_nil] at hb'
 exact (oF hb').imp id (fun h => (hF b h).1)
def gl (P : Program) (T : TypeId) : Option (List Value) := (P.info? T).bind fun i => i.zero.map fun z => z.cells.toList
theorem zp {T : TypeId} {zs : List Value} (h : gl P T = some zs) (w : World) : ∃ z, (zeroValue T).run P w = .ok z w ∧ z.cells.toList = zs := by
 unfold gl at h
 cases hi : P.info? T with
 | none => rw [hi] at h; cases h
 | some i =>
   rw [hi] at h
   cases hz : i.zero with
   | none => rw [Option.bind_some, hz] at h; cases h
   | some z =>
     rw [Option.bind_some, hz] at h
     simp only [Option.map_some, Option.some.injEq] at h
     exact ⟨z, by simp [zeroValue, typeInfo, hi, hz], h⟩
theorem wR (w : World) (S : bz) (T : TypeId) (cs : List Value) : (Box w.heap.size T cs).holds (w.alloc (.cells cs.toArray T)) S (fun b => b = w.heap.size) := ⟨iW _ _, fun _ => Iff.rfl⟩
theorem aaP {t : Nat} {T : TypeId} {zs : List Value} (hz : gl P T = some zs) (ht : fits n (some t) = true) (hK : ∀ b, K ⟨(t, true, .pointer (some ⟨b, 0, none⟩)) :: s.env, s.ps, s.hp ++ [Box b T zs]⟩) :
   Eff P n ⟨some t, .alloc T, ty, pos, af, gd⟩ s q K := .push fun w S fp a hst he hn => by
 obtain ⟨z, h1, h2⟩ := zp hz w
 have : (execOp a.eval ⟨some t, .alloc T, ty, pos, af, gd⟩).run P w = .ok (.value (.pointer (some ⟨w.heap.size, 0, none⟩))) (w.alloc (.cells zs.toArray T)) := by
   show ((Instr.alloc T true (.tuple #[])).bind fun r => Sem.pure (Next.value r)).run P w = _
   rw [Sem.run_bind']
   have : (Instr.alloc T true (.tuple #[])).run P w = .ok (.pointer (some ⟨w.heap.size, 0, none⟩)) (w.alloc (.cells zs.toArray T)) := by
     have e : z.cells = zs.toArray := by rw [← h2]
     simp [Instr.alloc, Sem.run_bind, h1, Result.andThen, newVar, newRow, newObj, Sem.run, e]
   rw [this]; rfl
 rw [this]
 refine ⟨Box w.heap.size T zs, fun b => b = w.heap.size, _, hK w.heap.size, rfl, rfl, ?_, eW _ _, wR _ _ _ _, fun b hb => ?_⟩
 · exact he.put (g := true) (by rw [hn]; simpa [fits] using ht) _
 · subst hb; simp
def cpL : List Value → Option (List Value)
 | [] => some []
 | c :: cs => match cpL cs with
   | some l => some (c :: l)
   | none => none
theorem y5 : ∀ (cs l : List Value), cpL cs = some l → l = cs
 | [], l, h => by simp only [cpL, Option.some.injEq] at h; exact h.symm
 | c :: cs, l, h => by
   unfold cpL at h
   split at h
   · rename_i l' hl
     simp only [Option.some.injEq] at h
     rw [← h, y5 cs l' hl]
   · cases h
theorem abg {t : Nat} {T : TypeId} {x : Operand} {vx : Value} {cs : List Value} (hx : ev s.env x = some (true, vx)) (hc0 : cpL vx.cells.toList = some cs) (ht : fits n (some t) = true) (hK : ∀ b, K ⟨(t, true, .pointer (some ⟨b, 0, none⟩)) :: s.env, s.ps, s.hp ++ [Box b T cs]⟩) :
   Eff P n ⟨some t, .box T x, ty, pos, af, gd⟩ s q K := .push fun w S fp a hst he hn => by
 have hc := (y5 _ _ hc0).symm
 have h1 := he.val hx rfl
 have : (execOp a.eval ⟨some t, .box T x, ty, pos, af, gd⟩).run P w = .ok (.value (.pointer (some ⟨w.heap.size, 0, none⟩))) (w.alloc (.cells cs.toArray T)) := by
   have e : vx.cells = cs.toArray := by rw [← hc]
   show ((Instr.box T (a.eval x)).bind fun r => Sem.pure (Next.value r)).run P w = _
   rw [h1, Sem.run_bind']
   have : (Instr.box T vx).run P w = .ok (.pointer (some ⟨w.heap.size, 0, none⟩)) (w.alloc (.cells cs.toArray T)) := by
     simp [Instr.box, Sem.run_bind, Result.andThen, newVar, newRow, newObj, Sem.run, e]
   rw [this]; rfl
 rw [this]
 refine ⟨Box w.heap.size T cs, fun b => b = w.heap.size, _, hK w.heap.size, rfl, rfl, ?_, eW _ _, wR _ _ _ _, fun b hb => ?_⟩
 · exact he.put (g := true) (by rw [hn]; simpa [fits] using ht) _
 · subst hb; simp

theorem St.change (h : St w S fp ps hp) {w' : World} {i : Nat} (hi : i < hp.length) (hs : w.heap.size ≤ w'.heap.size) (hw : ∀ b, b < w.heap.size → ¬ fp i b → w'.heap[b]? = w.heap[b]?) (R : Res) (hR : R.holds w' S (fp i)) : St w' S fp ps (hp.set i R) := by
 have hS : ∀ b, S b → w'.heap[b]? = w.heap[b]? := fun b hb => hw b (h.slt b hb) (fun hf => (h.lt i hi b hf).2 hb)
 refine ⟨fun p hp' => p.mono (h.per p hp') hS (fun _ h => h), fun j R' hj => ?_, fun j hj b hb => ?_, fun j k hj hk => h.dj j k (by simpa using hj) (by simpa using hk), fun b hb => Nat.lt_of_lt_of_le (h.slt b hb) hs⟩
 · by_cases hij : i = j
   · subst hij
     rw [List.getElem?_set_self hi] at hj
     simp only [Option.some.injEq] at hj
     subst hj; exact hR
   · rw [List.getElem?_set_ne hij] at hj
     have hjl := (List.getElem?_eq_some_iff.1 hj).1
     exact R'.mono (h.res j R' hj) (fun b hb => hw b (h.lt j hjl b hb).1 (fun hf => h.dj i j hi hjl hij b hf hb)) hS (fun _ h => h)
 · have hj' : j < hp.length := by simpa using hj
   exact ⟨Nat.lt_of_lt_of_le (h.lt j hj' b hb).1 hs, (h.lt j hj' b hb).2⟩
theorem Eff.change {o : Oper} (i : Nat) {R0 : Res} (hi : s.hp[i]? = some R0) (h : ∀ w S fp a, St w S fp s.ps s.hp → cW a s.env → a.tmps.size = n.size → R0.holds w S (fp i) →
     gB P (fun u w' => ∃ R s', K s' ∧ s'.ps = s.ps ∧ s'.hp = s.hp.set i R ∧ cW (a.put o.dst u) s'.env ∧ R.holds w' S (fp i) ∧ w'.os = w.os ∧ w'.tape = w.tape ∧ (w'.output = w.output ∧ w'.drawn = w.drawn) ∧ w.heap.size ≤ w'.heap.size ∧
       ∀ b, b < w.heap.size → ¬ fp i b → w'.heap[b]? = w.heap[b]?) ((execOp a.eval o).run P w)) : Eff P n o s false K := fun w S fp a hst he hn => by
 have hil := (List.getElem?_eq_some_iff.1 hi).1
 refine ct (fun u w' hh => ?_) (h w S fp a hst he hn (hst.res i R0 hi))
 obtain ⟨R, s', hK, hps, hhp, he', hR, h1, h2, h3, h4, h5⟩ := hh
 refine ⟨s', S, fp, hK, by rw [hps, hhp]; exact hst.change hil h4 h5 R hR, he', ⟨h1, h2, h3.1, h4, Nat.le_of_eq h3.2.symm, fun b hb hx => h5 b hb (fun hf => hx ⟨i, hil, hf⟩), fun _ h => h, fun _ h => .inl h⟩, fun b hb => ?_, fun h => by cases h⟩
 obtain ⟨j, hj, hb⟩ := hb
 exact .inl ⟨j, by rw [hhp] at hj; simpa using hj, hb⟩
def wrC (cs : List Value) (o : Nat) (vs : List Value) : List Value := cs.take o ++ (vs ++ cs.drop (o + vs.length))
theorem gV (b : Nat) (T : TypeId) (o : Nat) : ∀ (vs : List Value) (i : Nat) (cs : List Value) (w : World), w.heap[b]? = some (.cells cs.toArray T (0, 0)) → (∀ v ∈ vs, v.oneCell' = true) → o + i + vs.length ≤ cs.length →
   (storeCells ⟨b, o, none⟩ vs i).run P w = .ok () (w.setRow b (wrC cs (o + i) vs).toArray)
 | [], i, cs, w, hb, _, _ => by
   have : wrC cs (o + i) [] = cs := by unfold wrC; simp
   rw [this]
   show Result.ok () w = _
   congr 1
   unfold World.setRow
   cases w with | mk heap tape drawn os output =>
   simp only [World.mk.injEq, and_true]
   apply Array.ext_getElem?
   intro k
   rw [Array.getElem?_modify]
   split
   · rename_i hk; subst hk
     simp only at hb
     rw [hb]; rfl
   · rfl
 | v :: vs, i, cs, w, hb, h1, hl => by
   have hlt : o + i < cs.length := by simp at hl; omega
   have hadd : (Addr.mk b o none).add i = ⟨b, o + i, none⟩ := by
     unfold Addr.add; split
     · rename_i h; rw [h]; rfl
     · rfl
   have hc : w.cell? ⟨b, o + i, none⟩ = some cs[o + i] := by rw [ef hb]; simp [hlt]
   have hf : w.frozen? ⟨b, o + i, none⟩ = false := by unfold World.frozen?; simp [hb]
   unfold storeCells
   show ((store ((Addr.mk b o none).add i) v).bind fun _ => storeCells ⟨b, o, none⟩ vs (i + 1)).run P w = _
   rw [Sem.run_bind', hadd, run_store P w _ v _ (h1 v (by simp)), hc]
   simp only [hf, Bool.false_eq_true, if_false, Result.andThen]
   have hb' : (w.setCell ⟨b, o + i, none⟩ v).heap[b]? = some (.cells (cs.set (o + i) v).toArray T (0, 0)) := by
     unfold World.setCell
     simp only [Array.getElem?_modify, hb]
     simp
   rw [gV b T o vs (i + 1) (cs.set (o + i) v) _ hb' (fun u hu => h1 u (by simp [hu])) (by simp at hl ⊢; omega)]
   congr 1
   have e : wrC (cs.set (o + i) v) (o + (i + 1)) vs = wrC cs (o + i) (v :: vs) := by
     unfold wrC
     apply List.ext_getElem?
     intro k
     simp only [List.getElem?_append, List.length_take, List.length_set, List.getElem?_take, List.getElem?_drop, List.getElem?_set, List.length_cons, List.getElem?_cons]
     rw [Nat.min_eq_left (by simp at hl; omega), Nat.min_eq_left (by omega)]
     by_cases h1 : k < o + i
     · simp [show k < o + (i + 1) by omega, h1, show ¬ o + i = k by omega]
     · by_cases h2 : k = o + i
       · subst h2; simp [hlt]
       · have h3 : ¬ k < o + (i + 1) := by omega
         have h4 : k - (o + i) = (k - (o + (i + 1))) + 1 := by omega
         simp only [h1, h3, if_false]
         by_cases h5 : k - (o + (i + 1)) < vs.length
         · rw [if_pos h5, if_pos (by omega), if_neg (by omega)]
           congr 1 <;> omega
         · rw [if_neg h5, if_neg (by omega), if_neg (by omega)]
           congr 1 <;> omega
   rw [e]
   unfold World.setRow World.setCell
   simp only [World.mk.injEq, and_true]
   apply Array.ext_getElem?
   intro k
   simp only [Array.getElem?_modify]
   split
   · rename_i hk; subst hk
     rw [hb]; rfl
   · rfl
theorem setRow_other (w : World) (g : Nat) (cs : Array Value) (k : Nat) (hk : k ≠ g) : (w.setRow g cs).heap[k]? = w.heap[k]? := tI w g cs k hk
def wrL : Nat → List Value → Nat → List Value → Option (List Value)
 | 0, cs, 0, [] => some cs
 | k + 1, _ :: cs, 0, v :: vs => match v.oneCell' with
   | true => match wrL k cs 0 vs with
     | some l => some (v :: l)
     | none => none
   | false => none
 | k, c :: cs, o + 1, vs => match wrL k cs o vs with
   | some l => some (c :: l)
   | none => none
 | _, _, _, _ => none
theorem rh : ∀ (cs : List Value) (k o : Nat) (vs cs' : List Value), wrL k cs o vs = some cs' → vs.length = k ∧ (∀ v ∈ vs, v.oneCell' = true) ∧ o + vs.length ≤ cs.length ∧ cs' = wrC cs o vs
 | cs, 0, 0, [], cs', h => by
   have : some cs = some cs' := by cases cs <;> exact h
   simp only [Option.some.injEq] at this
   subst this
   exact ⟨rfl, by simp, by simp, by simp [wrC]⟩
 | [], 0, 0, _ :: _, _, h => by cases h
 | _ :: _, 0, 0, _ :: _, _, h => by cases h
 | _ :: cs, k + 1, 0, v :: vs, cs', h => by
   unfold wrL at h
   split at h
   · rename_i hv
     split at h
     · rename_i l hl
       simp only [Option.some.injEq] at h
       subst h
       obtain ⟨h1, h2, h3, rfl⟩ := rh cs k 0 vs l hl
       refine ⟨by simp [h1], fun u hu => ?_, by simp at h3 ⊢; omega, by simp [wrC]⟩
       rcases List.mem_cons.1 hu with rfl | hu
       · exact hv
       · exact h2 u hu
     · cases h
   · cases h
 | [], k + 1, 0, _ :: _, _, h => by cases h
 | [], k + 1, 0, [], _, h => by cases h
 | _ :: _, k + 1, 0, [], _, h => by cases h
 | [], 0, o + 1, _, _, h => by cases h
 | [], k + 1, o + 1, _, _, h => by cases h
 | c :: cs, k, o + 1, vs, cs', h => by
   have h' : (match wrL k cs o vs with | some l => some (c :: l) | none => none) = some cs' := by cases k <;> exact h
   split at h'
   · rename_i l hl
     simp only [Option.some.injEq] at h'
     subst h'
     obtain ⟨h1, h2, h3, rfl⟩ := rh cs k o vs l hl
     exact ⟨h1, h2, by simp; omega, by simp [wrC, show o + 1 + vs.length = (o + vs.length) + 1 by omega]⟩
   · cases h'
theorem wM {x y : Operand} {U T : TypeId} {ag : Bool} {k b o : Nat} {cs cs' : List Value} {vy : Value} (i : Nat) (hk : tyk P U = some (ag, k)) (hx : ev s.env x = some (true, .pointer (some ⟨b, o, none⟩))) (hy : ev s.env y = some (true, vy)) (hi : s.hp[i]? = some (Box b T cs))
   (hw : wrL k cs o vy.cells.toList = some cs') (hK : K ⟨s.env, s.ps, s.hp.set i (Box b T cs')⟩) :
   Eff P n ⟨none, .store U x y, ty, pos, af, gd⟩ s false K := .change i hi fun w S fp a hst he hn hR => by
 have e1 := he.val hx rfl
 have e2 := he.val hy rfl
 obtain ⟨_, j, _, hj, _, hjk⟩ := gT hk
 obtain ⟨hb, hF⟩ := hR
 obtain ⟨hl, h1', hle, rfl⟩ := rh _ _ _ _ _ hw
 generalize hv : vy.cells.toList = vs at hl h1' hle hK
 have : (execOp a.eval ⟨none, .store U x y, ty, pos, af, gd⟩).run P w = .ok .skip (w.setRow b (wrC cs o vs).toArray) := by
   show ((Instr.storeAt U (a.eval x) (a.eval y)).bind fun _ => Sem.pure Next.skip).run P w = _
   rw [e1, e2, Sem.run_bind']
   have : (Instr.storeAt U (.pointer (some ⟨b, o, none⟩)) vy).run P w = .ok () (w.setRow b (wrC cs o vs).toArray) := by
     show (storeVar U ⟨b, o, none⟩ vy).run P w = _
     unfold storeVar
     simp only [Sem.run_bind, dm hj, Result.andThen]
     have hsz : vy.cells.size = j.size := by rw [hjk, ← hl, ← hv]; simp
     rw [if_neg (by simpa using hsz)]
     rw [hv]
     exact gV b T o vs 0 cs w hb h1' (by omega)
   rw [this]; rfl
 rw [this]
 refine ⟨Box b T (wrC cs o vs), _, hK, rfl, rfl, he, ⟨setRow_heap _ _ _ _ _ _ hb, hF⟩, rfl, rfl, ⟨rfl, rfl⟩, by simp [World.setRow], fun b' hb' hne => setRow_other _ _ _ _ (fun h => hne ((hF b').2 h))⟩
end
end Go.Sy

namespace Go.Sy
open Go.RowKit Go.Lp
def place : List Nat → Nat → Option Nat
 | [], _ => none
 | k :: l, i => if k == i then some 0 else (place l i).map (· + 1)
theorem ij : ∀ (l : List Nat) (i k : Nat), place l i = some k → k < l.length ∧ l.getD k 0 = i
 | [], _, _, h => by cases h
 | a :: l, i, k, h => by
   unfold place at h
   split at h
   · rename_i hai
     obtain rfl : a = i := by simpa using hai
     simp only [Option.some.injEq] at h
     subst h
     exact ⟨by simp, rfl⟩
   · cases hp : place l i with
     | none => rw [hp] at h; cases h
     | some m =>
       rw [hp] at h
       simp only [Option.map_some, Option.some.injEq] at h
       subst h
       obtain ⟨h1, h2⟩ := ij l i m hp
       exact ⟨by simp; omega, by simpa [List.getD] using h2⟩
theorem og : ∀ (l : List Nat) (i : Nat), place l i = none → i ∉ l
 | [], _, _ => by simp
 | a :: l, i, h => by
   unfold place at h
   split at h
   · cases h
   · rename_i hai
     have hne : ¬ a = i := by simpa using hai
     cases hp : place l i with
     | none => simp [og l i hp]; exact fun h => hne h.symm
     | some m => rw [hp] at h; cases h
def dp (lh : List Nat) (new : List Res) : Nat → List Res → List Res
 | i, r :: hp => (match place lh i with
   | some k => new.getD k emp
   | none => r) :: dp lh new (i + 1) hp
 | _, [] => new.drop lh.length
theorem iY (lh : List Nat) (new : List Res) : ∀ (hp : List Res) (i j : Nat), (dp lh new i hp)[j]? = if j < hp.length then (match place lh (i + j) with
   | some k => some (new.getD k emp)
   | none => hp[j]?) else new[j - hp.length + lh.length]?
 | [], i, j => by simp [dp, List.getElem?_drop, Nat.add_comm]
 | r :: hp, i, 0 => by
   simp only [dp, List.getElem?_cons_zero, List.length_cons, Nat.zero_lt_succ, if_true, Nat.add_zero]
   cases place lh i <;> rfl
 | r :: hp, i, j + 1 => by
   simp only [dp, List.getElem?_cons_succ, iY lh new hp (i + 1) j, List.length_cons, Nat.add_lt_add_iff_right]
   rw [show i + 1 + j = i + (j + 1) by omega, show j + 1 - (hp.length + 1) = j - hp.length by omega]
theorem oE (lh : List Nat) (new : List Res) : ∀ (hp : List Res) (i : Nat), (dp lh new i hp).length = hp.length + (new.length - lh.length)
 | [], i => by simp [dp]
 | r :: hp, i => by simp [dp, oE lh new hp (i + 1)]; omega
def fpB (lh : List Nat) (m k : Nat) (fp fp' : Nat → bz) : Nat → bz := fun i =>
 if i < m then (match place lh i with
   | some j => if j < k then fp' j else fun _ => False
   | none => fp i) else fp' (i - m + lh.length)
section
variable {w w' : World} {S S' : bz} {fp fp' : Nat → bz} {ps ps' : List Per} {hp new : List Res}
theorem St.back (h : St w S fp ps hp) (lp lh : List Nat) (ok : okH hp lh = true) (h' : St w' S' fp' ps' new) (hE : Evo w S (tot (fun k => fp (lh.getD k 0)) (Sy.bK hp lh).length) w' S')
   (hg : ∀ b, tot fp' new.length b → tot (fun k => fp (lh.getD k 0)) (Sy.bK hp lh).length b ∨ w.heap.size ≤ b) :
   St w' S' (fpB lh hp.length new.length fp fp') (ps' ++ ps) (dp lh new 0 hp) ∧ (∀ b, tot (fpB lh hp.length new.length fp fp') (dp lh new 0 hp).length b → tot fp hp.length b ∨ w.heap.size ≤ b) := by
 have ok' := ok
 simp only [okH, Bool.and_eq_true, decide_eq_true_eq] at ok
 have hlt : ∀ k, k < lh.length → lh.getD k 0 < hp.length := fun k hk => by simpa [List.getD, hk] using List.all_eq_true.1 ok.1 _ (List.getElem_mem hk)
 have hkl : (Sy.bK hp lh).length = lh.length := by simp [Sy.bK]
 rw [hkl] at hE hg
 -- a block that a resource that stays behind owns
 have out : ∀ i, i < hp.length → place lh i = none → ∀ b, fp i b → ¬ tot (fun k => fp (lh.getD k 0)) lh.length b := fun i hi hpl b hb ⟨k, hk, hbk⟩ => by
   have hne : i ≠ lh.getD k 0 := fun e => by
     refine og lh i hpl ?_
     rw [e]
     simp [List.getD, hk]
   exact h.dj i _ hi (hlt k hk) hne b hb hbk
 have hS : ∀ b, S b → w'.heap[b]? = w.heap[b]? := fun b hb => hE.block b (h.slt b hb) (fun ⟨k, hk, hbk⟩ => (h.lt _ (hlt k hk) b hbk).2 hb)
 have fpcase : ∀ i, i < (dp lh new 0 hp).length → ∀ b, fpB lh hp.length new.length fp fp' i b →
     (∃ j, j < new.length ∧ fp' j b ∧ ((i < hp.length ∧ place lh i = some j) ∨ (hp.length ≤ i ∧ j = i - hp.length + lh.length))) ∨ (i < hp.length ∧ place lh i = none ∧ fp i b) := fun i hi b hb => by
   unfold fpB at hb
   rw [oE] at hi
   by_cases him : i < hp.length
   · rw [if_pos him] at hb
     cases hpl : place lh i with
     | some j =>
       rw [hpl] at hb
       dsimp only at hb
       by_cases hjk : j < new.length
       · rw [if_pos hjk] at hb; exact .inl ⟨j, hjk, hb, .inl ⟨him, rfl⟩⟩
       · rw [if_neg hjk] at hb; exact hb.elim
     | none =>
       rw [hpl] at hb
       exact .inr ⟨him, rfl, hb⟩
   · rw [if_neg him] at hb
     exact .inl ⟨i - hp.length + lh.length, by omega, hb, .inr ⟨by omega, rfl⟩⟩
 refine ⟨⟨fun p hp' => ?_, fun i R hR => ?_, fun i hi b hb => ?_, fun i j hi hj hne b hbi hbj => ?_, h'.slt⟩, fun b ⟨i, hi, hb⟩ => ?_⟩
 · rcases List.mem_append.1 hp' with h1 | h1
   · exact h'.per p h1
   · exact p.mono (h.per p h1) hS hE.more
 · rw [iY] at hR
   unfold fpB
   split at hR
   · rename_i him
     rw [if_pos him]
     rw [Nat.zero_add] at hR
     cases hpl : place lh i with
     | some j =>
       rw [hpl] at hR
       simp only [Option.some.injEq] at hR
       subst hR
       dsimp only
       by_cases hjk : j < new.length
       · rw [if_pos hjk]
         refine h'.res j _ ?_
         simp [List.getD, hjk]
       · rw [if_neg hjk]
         have : new.getD j emp = emp := by simp [List.getD, Nat.not_lt.1 hjk]
         rw [this]
         exact fun b hb => hb
     | none =>
       rw [hpl] at hR
       dsimp only at hR ⊢
       exact R.mono (h.res i R hR) (fun b hb => hE.block b (h.lt i him b hb).1 (out i him hpl b hb)) hS hE.more
   · rename_i him
     rw [if_neg him]
     exact h'.res _ R hR
 · rcases fpcase i hi b hb with ⟨j, hj, hbj, _⟩ | ⟨him, hpl, hb'⟩
   · exact h'.lt j hj b hbj
   · refine ⟨Nat.lt_of_lt_of_le (h.lt i him b hb').1 hE.size, fun hS' => ?_⟩
     rcases hE.new b hS' with h1 | h1 | h1
     · exact (h.lt i him b hb').2 h1
     · exact out i him hpl b hb' h1
     · have := (h.lt i him b hb').1; omega
 · have key : ∀ i j, i < (dp lh new 0 hp).length → j < (dp lh new 0 hp).length → i ≠ j → ∀ b, (∃ k, k < new.length ∧ fp' k b ∧ ((i < hp.length ∧ place lh i = some k) ∨ (hp.length ≤ i ∧ k = i - hp.length + lh.length))) → (j < hp.length ∧ place lh j = none ∧ fp j b) → False := fun i j hi hj hne b ⟨k, hk, hb, _⟩ ⟨hjm, hpl, hbj⟩ => by
     rcases hg b ⟨k, hk, hb⟩ with h1 | h1
     · exact out j hjm hpl b hbj h1
     · have := (h.lt j hjm b hbj).1; omega
   rcases fpcase i hi b hbi with h1 | h1
   · rcases fpcase j hj b hbj with h2 | h2
     · obtain ⟨k, hk, hb1, hk'⟩ := h1
       obtain ⟨m, hm, hb2, hm'⟩ := h2
       have hkm : k ≠ m := fun e => by
         subst e
         rcases hk' with ⟨a1, a2⟩ | ⟨a1, a2⟩
         · rcases hm' with ⟨c1, c2⟩ | ⟨c1, c2⟩
           · have := (ij _ _ _ a2).2; have := (ij _ _ _ c2).2; omega
           · have := (ij _ _ _ a2).1; omega
         · rcases hm' with ⟨c1, c2⟩ | ⟨c1, c2⟩
           · have := (ij _ _ _ c2).1; omega
           · omega
       exact h'.dj k m hk hm hkm b hb1 hb2
     · exact key i j hi hj hne b h1 h2
   · rcases fpcase j hj b hbj with h2 | h2
     · exact key j i hj hi (Ne.symm hne) b h2 h1
     · exact h.dj i j h1.1 h2.1 hne b h1.2.2 h2.2.2
 · rcases fpcase i hi b hb with ⟨j, hj, hbj, _⟩ | ⟨him, hpl, hb'⟩
   · rcases hg b ⟨j, hj, hbj⟩ with ⟨k, hk, hbk⟩ | h1
     · exact .inl ⟨_, hlt k hk, hbk⟩
     · exact .inr h1
   · exact .inl ⟨i, him, hb'⟩
end
section
variable {P : Program} {n : Fr} {env : Env} {ps : List Per} {hp : List Res} {ty : TypeId} {pos : String} {af : Array Edge} {gd : Option (Nat × Bool)} {K : Sta → Prop}
theorem aa9 (fp : Nat → bz) (b : Nat) : ¬ tot fp 0 b := fun ⟨_, hi, _⟩ => by omega
theorem gA {t : Nat} {f : FuncId} {g : Operand} {caps : List Value} {l : List Operand} {ts : Array TypeId} {vs : List Value} {q : Bool} {R : Value → List Per → List Res → Prop} (lp lh : List Nat) (hf : e8 P f = true) (hgv : ev env g = some (true, .func (.func f) #[] caps.toArray)) (hx : evs env l = some vs) (ht : fits n (some t) = true) (ok : okH hp lh = true)
   (hq : (!q || lh.isEmpty) = true) (hc : Con P f (vs ++ caps) (fH ps lp) (bK hp lh) R) (hK : ∀ v ps' hp', R v ps' hp' → K ⟨(t, true, v) :: env, ps' ++ ps, dp lh hp' 0 hp⟩) :
   Eff P n ⟨some t, .call ⟨.value g, l.toArray, ts⟩, ty, pos, af, gd⟩ ⟨env, ps, hp⟩ q K := fun w S fp a hst he hn => by
 rw [lZ hf (he.val hgv rfl) (gP he l vs hx)]
 obtain ⟨k1, k2⟩ := hst.bK lp lh ok
 have hcc := hc w S _ k1
 rw [show (vs ++ caps).toArray = vs.toArray ++ caps.toArray by simp] at hcc
 refine hcc.mono fun e w' ⟨v, ps', hp', S', fp', he', hR, hst', hE, hg⟩ => ⟨v, he', ?_⟩
 obtain ⟨m1, m2⟩ := hst.back lp lh ok hst' hE hg
 refine ⟨_, S', _, hK v ps' hp' hR, m1, ?_, hE.wider k2, m2, fun hq' => ?_⟩
 · exact he.put (g := true) (by rw [hn]; simpa [fits] using ht) v
 · rw [hq'] at hq
   have : lh = [] := by simpa using hq
   subst this
   exact hE.toX (fun b hb => aa9 _ b hb)
theorem bH {t : Nat} {f : FuncId} {l : List Operand} {ts : Array TypeId} {vs : List Value} {q : Bool} {R : Value → List Per → List Res → Prop} (lp lh : List Nat) (hf : e8 P f = true) (hx : evs env l = some vs) (ht : fits n (some t) = true) (ok : okH hp lh = true)
   (hq : (!q || lh.isEmpty) = true) (hc : Con P f vs (fH ps lp) (bK hp lh) R) (hK : ∀ v ps' hp', R v ps' hp' → K ⟨(t, true, v) :: env, ps' ++ ps, dp lh hp' 0 hp⟩) :
   Eff P n ⟨some t, .call ⟨.value (.func f), l.toArray, ts⟩, ty, pos, af, gd⟩ ⟨env, ps, hp⟩ q K :=
 gA (caps := []) lp lh hf rfl hx ht ok hq (by rw [List.append_nil]; exact hc) hK
end
end Go.Sy

namespace Go.Sy
open Go.RowKit Go.Lp
section
variable {w w' : World} {S S' : bz} {fp : Nat → bz} {ps : List Per} {hp : List Res}
theorem St.change2 (h : St w S fp ps hp) {i : Nat} (hi : i < hp.length) (hs : w.heap.size ≤ w'.heap.size) (hw : ∀ b, b < w.heap.size → ¬ fp i b → w'.heap[b]? = w.heap[b]?) (R : Res) (F : bz) (hR : R.holds w' S F)
   (hF : ∀ b, F b → (fp i b ∨ w.heap.size ≤ b) ∧ b < w'.heap.size) : St w' S (fun k => if k = i then F else fp k) ps (hp.set i R) := by
 have hS : ∀ b, S b → w'.heap[b]? = w.heap[b]? := fun b hb => hw b (h.slt b hb) (fun hf => (h.lt i hi b hf).2 hb)
 refine ⟨fun p hp' => p.mono (h.per p hp') hS (fun _ h => h), fun j R' hj => ?_, fun j hj b hb => ?_, fun j k hj hk hne b hbj hbk => ?_, fun b hb => Nat.lt_of_lt_of_le (h.slt b hb) hs⟩
 · by_cases hij : i = j
   · subst hij
     rw [List.getElem?_set_self hi] at hj
     simp only [Option.some.injEq] at hj
     subst hj; rw [if_pos rfl]; exact hR
   · rw [List.getElem?_set_ne hij] at hj
     have hjl := (List.getElem?_eq_some_iff.1 hj).1
     rw [if_neg (Ne.symm hij)]
     exact R'.mono (h.res j R' hj) (fun b hb => hw b (h.lt j hjl b hb).1 (fun hf => h.dj i j hi hjl hij b hf hb)) hS (fun _ h => h)
 · have hj' : j < hp.length := by simpa using hj
   by_cases hij : j = i
   · rw [if_pos hij] at hb
     refine ⟨(hF b hb).2, fun hS' => ?_⟩
     rcases (hF b hb).1 with h1 | h1
     · exact (h.lt i hi b h1).2 hS'
     · have := h.slt b hS'; omega
   · rw [if_neg hij] at hb
     exact ⟨Nat.lt_of_lt_of_le (h.lt j hj' b hb).1 hs, (h.lt j hj' b hb).2⟩
 · have hj' : j < hp.length := by simpa using hj
   have hk' : k < hp.length := by simpa using hk
   have key : ∀ m, m < hp.length → m ≠ i → fp m b → F b → False := fun m hm hmi hbm hbF => by
     rcases (hF b hbF).1 with h1 | h1
     · exact h.dj m i hm hi hmi b hbm h1
     · have := (h.lt m hm b hbm).1; omega
   by_cases hji : j = i
   · rw [if_pos hji] at hbj
     rw [if_neg (by omega)] at hbk
     exact key k hk' (by omega) hbk hbj
   · rw [if_neg hji] at hbj
     by_cases hki : k = i
     · rw [if_pos hki] at hbk; exact key j hj' hji hbj hbk
     · rw [if_neg hki] at hbk; exact h.dj j k hj' hk' hne b hbj hbk
theorem St.drop (h : St w S fp ps hp) (i : Nat) : St w S (fun k => if k = i then (fun _ => False) else fp k) ps (hp.set i emp) := by
 by_cases hi : i < hp.length
 · exact h.change2 hi (Nat.le_refl _) (fun _ _ _ => rfl) emp _ (fun b hb => hb) (fun b hb => hb.elim)
 · rw [List.set_eq_of_length_le (Nat.not_lt.1 hi)]
   refine ⟨h.per, fun j R hj => ?_, fun j hj b hb => ?_, fun j k hj hk hne b hbj hbk => ?_, h.slt⟩
   · rw [if_neg (by have := (List.getElem?_eq_some_iff.1 hj).1; omega)]; exact h.res j R hj
   · rw [if_neg (by omega)] at hb; exact h.lt j hj b hb
   · rw [if_neg (by omega)] at hbj hbk; exact h.dj j k hj hk hne b hbj hbk
end
def bg (v : Value) (E : TypeId) (sz : Nat) (rows : List (List D)) : Res :=
 ⟨fun w S F => (v = .slice none 0 0 ∧ rows = [] ∧ ∀ b, ¬ F b) ∨ ∃ b cap, v = .slice (some ⟨b, 0, none⟩) rows.length cap ∧ (Own b E sz cap rows).holds w S F,
  fun h h1 h2 h3 => h.imp id fun ⟨b, cap, hv, ho⟩ => ⟨b, cap, hv, (Own b E sz cap rows).mono ho h1 h2 h3⟩⟩
inductive RC (ps : List Per) : List Value → List D → Prop where
 | nil : RC ps [] []
 | v {u : Value} {us : List Value} {ds : List D} : u.oneCell' = true → RC ps us ds → RC ps (u :: us) (.v u :: ds)
 | s {u : Value} {d : D} {us : List Value} {ds : List D} : u.oneCell' = true → Sh u d ∈ ps → RC ps us ds → RC ps (u :: us) (d :: ds)
theorem RC.get {ps : List Per} {us : List Value} {ds : List D} (h : RC ps us ds) : us.length = ds.length ∧ (∀ u ∈ us, u.oneCell' = true) ∧ ∀ (j : Nat) (d : D), ds[j]? = some d → ∃ u, us[j]? = some u ∧ (d = .v u ∨ Sh u d ∈ ps) := by
 induction h with
 | nil => exact ⟨rfl, by simp, fun j d h => by simp at h⟩
 | v ho _ ih =>
   obtain ⟨h1, h2, h3⟩ := ih
   refine ⟨by simp [h1], fun u hu => ?_, fun j d hj => ?_⟩
   · rcases List.mem_cons.1 hu with rfl | hu
     · exact ho
     · exact h2 u hu
   · cases j with
     | zero => simp only [List.getElem?_cons_zero, Option.some.injEq] at hj; exact ⟨_, rfl, .inl hj.symm⟩
     | succ j => exact h3 j d hj
 | s ho hs _ ih =>
   obtain ⟨h1, h2, h3⟩ := ih
   refine ⟨by simp [h1], fun u hu => ?_, fun j d hj => ?_⟩
   · rcases List.mem_cons.1 hu with rfl | hu
     · exact ho
     · exact h2 u hu
   · cases j with
     | zero => simp only [List.getElem?_cons_zero, Option.some.injEq] at hj; subst hj; exact ⟨_, rfl, .inr hs⟩
     | succ j => exact h3 j d hj
inductive RCs (ps : List Per) (sz : Nat) : List Value → List (List D) → Prop where
 | nil : RCs ps sz [] []
 | cons {us vs : List Value} {r : List D} {rows : List (List D)} : us.length = sz → RC ps us r → RCs ps sz vs rows → RCs ps sz (us ++ vs) (r :: rows)
theorem RCs.rows {ps : List Per} {sz : Nat} {cs : List Value} {rows : List (List D)} (h : RCs ps sz cs rows) {w : World} {S : bz} (hp : ∀ p ∈ ps, p.holds w S) : ew w S sz cs rows := by
 induction h with
 | nil => exact ⟨by simp, by simp, by simp, by simp⟩
 | @cons us vs r rows hl hr _ ih =>
   obtain ⟨h1, h2, h3⟩ := hr.get
   refine ⟨by simp [ih.len, hl, Nat.add_mul, Nat.add_comm], fun i r' hi => ?_, fun v hv => ?_, fun i j r' d hi hj => ?_⟩
   · cases i with
     | zero => simp only [List.getElem?_cons_zero, Option.some.injEq] at hi; subst hi; omega
     | succ i => exact ih.row i r' hi
   · rcases List.mem_append.1 hv with h | h
     · exact h2 v h
     · exact ih.one v h
   · cases i with
     | zero =>
       simp only [List.getElem?_cons_zero, Option.some.injEq] at hi; subst hi
       obtain ⟨u, hu, hd⟩ := h3 j d hj
       refine ⟨u, ?_, ?_⟩
       · rw [Nat.zero_mul, Nat.zero_add, List.getElem?_append_left (List.getElem?_eq_some_iff.1 hu).1]; exact hu
       · rcases hd with rfl | hd
         · exact .v u
         · exact hp _ hd
     | succ i =>
       obtain ⟨u, hu, hr⟩ := ih.rep i j r' d hi hj
       refine ⟨u, ?_, hr⟩
       rw [List.getElem?_append_right (by rw [Nat.add_mul]; omega), hl, show (i + 1) * sz + j - sz = i * sz + j by rw [Nat.add_mul]; omega]; exact hu
theorem ew.append {w : World} {S : bz} {sz : Nat} {cs cs' : List Value} {rows rows' : List (List D)} (h : ew w S sz cs rows) (h' : ew w S sz cs' rows') : ew w S sz (cs ++ cs') (rows ++ rows') := by
 refine ⟨by simp [h.len, h'.len, Nat.add_mul], fun i r hi => ?_, fun v hv => ?_, fun i j r d hi hj => ?_⟩
 · rw [List.getElem?_append] at hi
   split at hi
   · exact h.row i r hi
   · exact h'.row _ r hi
 · rcases List.mem_append.1 hv with h1 | h1
   · exact h.one v h1
   · exact h'.one v h1
 · rw [List.getElem?_append] at hi
   split at hi
   · obtain ⟨u, hu, hr⟩ := h.rep i j r d hi hj
     exact ⟨u, by rw [List.getElem?_append_left (List.getElem?_eq_some_iff.1 hu).1]; exact hu, hr⟩
   · rename_i hge
     obtain ⟨u, hu, hr⟩ := h'.rep _ j r d hi hj
     refine ⟨u, ?_, hr⟩
     have e : i * sz = cs.length + (i - rows.length) * sz := by
       rw [h.len, ← Nat.add_mul]; congr 1; omega
     rw [e, Nat.add_assoc, List.getElem?_append_right (by omega), Nat.add_sub_cancel_left]; exact hu

section
variable {P : Program} {n : Fr} {env : Env} {ps : List Per} {hp : List Res} {ty : TypeId} {pos : String} {af : Array Edge} {gd : Option (Nat × Bool)} {K : Sta → Prop} {d : Option Tmp} {v : Value} {q : Bool}
theorem kK {x : Operand} {T T' E : TypeId} {sz : Nat} {rows : List (List D)} (i : Nat) (hT : P.underlying T = some (.slice E)) (hx : ev env x = some (true, v)) (hi : hp[i]? = some (bg v T' sz rows)) :
   Quiet P n ⟨d, .call ⟨.builtin .len, #[x], #[T]⟩, ty, pos, af, gd⟩ ⟨env, ps, hp⟩ (.int .i64 rows.length) := fun w S fp a hst he hn => by
 have hr := hst.res i _ hi
 have hl : ∃ ad c, v = .slice ad rows.length c := by
   rcases hr with ⟨rfl, rfl, _⟩ | ⟨b, c, rfl, _⟩
   · exact ⟨none, 0, rfl⟩
   · exact ⟨_, _, rfl⟩
 obtain ⟨ad, c, rfl⟩ := hl
 exact aZ (P := P) (n := n) (s := ⟨env, ps, hp⟩) hT hx w S fp a hst he hn
theorem eD {c : Code} {Q : Exit → Sta → Prop} (T : TypeId) (sz : Nat) (h : awp P n c Q ⟨env, ps, hp ++ [bg (.slice none 0 0) T sz []]⟩) : awp P n c Q ⟨env, ps, hp⟩ := fun w S fp a hst he hn hd => by
 have h1 := hst.push (Below.refl _ _) (bg (.slice none 0 0) T sz []) (fun _ => False) (.inl ⟨rfl, rfl, fun b h => h⟩) (fun b h => h.elim)
 refine dq (fun e a' w' hp' => e9.trans (Evo.refl _ _ _) (fun b hb => ?_) hp') (h w S _ a h1 he hn hd)
 have hb' : tot (fun i => if i = hp.length then (fun _ => False) else fp i) (hp.length + 1) b := by simpa using hb
 exact (oF hb').elim .inl (fun h => h.elim)
theorem fN {c : Code} {Q : Exit → Sta → Prop} {T : TypeId} {sz : Nat} {rows : List (List D)} (i : Nat) (hi : hp[i]? = some (bg v T sz rows)) (h : awp P n c Q ⟨env, Sh v (.sl rows) :: ps, hp.set i emp⟩) : awp P n c Q ⟨env, ps, hp⟩ := fun w S fp a hst he hn hd => by
 have hil := (List.getElem?_eq_some_iff.1 hi).1
 have hr := hst.res i _ hi
 have hst0 := hst.drop i
 have hS : ∀ b, S b → (S b ∨ fp i b) := fun _ h => .inl h
 have h1 : St w (fun b => S b ∨ fp i b) (fun k => if k = i then (fun _ => False) else fp k) (Sh v (.sl rows) :: ps) (hp.set i emp) := by
   refine ⟨fun p hp' => ?_, fun j R hj => R.mono (hst0.res j R hj) (fun _ _ => rfl) (fun _ _ => rfl) hS, fun j hj b hb => ?_, hst0.dj, fun b hb => hb.elim (hst.slt b) (fun h => (hst.lt i hil b h).1)⟩
   · rcases List.mem_cons.1 hp' with rfl | h2
     · rcases hr with ⟨rfl, rfl, _⟩ | ⟨b, cap, rfl, ⟨cs, sp, hb, hrows, hl, hle, hcap⟩, hF⟩
       · exact .e none 0 (by unfold maxLen; omega)
       · refine .sl b 0 cap sz rows (fun i j => cs.getD (i * sz + j) undef) (.inr ((hF b).2 rfl)) hle hcap hrows.row (fun i j r d h1 h2 => ?_) (fun i j r d h1 h2 => ?_)
         · obtain ⟨u, hu, _⟩ := hrows.rep i j r d h1 h2
           have e : cs.getD (i * sz + j) undef = u := by simp [List.getD, hu]
           rw [e]
           refine ⟨?_, hrows.one u (List.mem_of_getElem? hu)⟩
           rw [Nat.zero_add, ef hb, List.getElem?_append_left (List.getElem?_eq_some_iff.1 hu).1]; exact hu
         · obtain ⟨u, hu, hr⟩ := hrows.rep i j r d h1 h2
           have e : cs.getD (i * sz + j) undef = u := by simp [List.getD, hu]
           rw [e]
           exact hr.mono (fun _ _ => rfl) hS
     · exact p.mono (hst.per p h2) (fun _ _ => rfl) hS
   · have hj' : j < hp.length := by simpa using hj
     by_cases hji : j = i
     · rw [if_pos hji] at hb; exact hb.elim
     · rw [if_neg hji] at hb
       exact ⟨(hst.lt j hj' b hb).1, fun h => h.elim (hst.lt j hj' b hb).2 (hst.dj j i hj' hil hji b hb)⟩
 refine dq (fun e a' w' hp' => e9.trans (X := tot fp hp.length) ⟨rfl, rfl, rfl, Nat.le_refl _, Nat.le_refl _, fun _ _ _ => rfl, hS, fun b hb => hb.elim .inl (fun h => .inr (.inl ⟨i, hil, h⟩))⟩ (fun b hb => ?_) hp') (h w _ _ a h1 he hn hd)
 obtain ⟨k, hk, hbk⟩ := hb
 have hk' : k < hp.length := by simpa using hk
 by_cases hki : k = i
 · simp only [hki, if_true] at hbk
 · simp only [if_neg hki] at hbk
   exact .inl ⟨k, hk', hbk⟩
structure ml (P : Program) (s : Sta) (tx : TypeId) (sz : Nat) (x : Value) (rows : List (List D)) : Prop where
 src : ∀ w S fp, St w S fp s.ps s.hp → ∃ news, ew w S sz news rows ∧ Src P sz tx x rows.length news w
theorem ew.src {w : World} {S : bz} {tx e' : TypeId} {sz V o vc : Nat} {cs : List Value} {rows : List (List D)} (h : ew w S sz cs rows) (hk : P.underlying tx = some (.slice e')) (hV : ∀ j u, cs[j]? = some u → w.cell? ⟨V, o + j, none⟩ = some u) :
   Src P sz tx (.slice (some ⟨V, o, none⟩) rows.length vc) rows.length cs w := Src.row w tx e' hk sz V o rows.length vc cs h.len hV h.one
theorem aay {T E' : TypeId} {tx : TypeId} {sz : Nat} {x : Value} {rows : List (List D)} (j : Nat) (hk : P.underlying tx = some (.slice E')) (hj : hp[j]? = some (bg x T sz rows)) (hne : rows ≠ []) : ml P ⟨env, ps, hp⟩ tx sz x rows := ⟨fun w S fp hst => by
 rcases hst.res j _ hj with ⟨_, rfl, _⟩ | ⟨b, cap, rfl, ⟨cs, sp, hb, hr, _⟩, _⟩
 · exact absurd rfl hne
 · exact ⟨cs, hr, hr.src hk fun j u hu => by rw [Nat.zero_add, ef hb, List.getElem?_append_left (List.getElem?_eq_some_iff.1 hu).1]; exact hu⟩⟩
theorem abH {E' : TypeId} {tx : TypeId} {sz : Nat} {x : Value} {rows : List (List D)} (hk : P.underlying tx = some (.slice E')) (hs : Sh x (.sl rows) ∈ ps) (hrl : ∀ r ∈ rows, r.length = sz) (hne : rows ≠ []) : ml P ⟨env, ps, hp⟩ tx sz x rows := ⟨fun w S fp hst => by
 have hh := hst.per _ hs
 cases hh with
 | e a c hc => exact absurd rfl hne
 | sl b o c sz' _ us hb hn hc hr hcell hd =>
   have hsz : sz' = sz := by
     cases rows with
     | nil => exact absurd rfl hne
     | cons r rs => rw [← hr 0 r rfl]; exact hrl r (by simp)
   subst hsz
   have hR : ew w S sz' ((List.range (rows.length * sz')).map fun k => us (k / sz') (k % sz')) rows := by
     refine ⟨by simp, hr, fun v hv => ?_, fun i j r d h1 h2 => ?_⟩
     · obtain ⟨k, hk, rfl⟩ := List.mem_map.1 hv
       have hk' := List.mem_range.1 hk
       have h0 : 0 < sz' := by
         rcases Nat.eq_zero_or_pos sz' with h | h
         · rw [h] at hk'; simp at hk'
         · exact h
       have hi : k / sz' < rows.length := (Nat.div_lt_iff_lt_mul h0).2 hk'
       have hrl' := hr (k / sz') rows[k / sz'] (by simp [hi])
       have hj : k % sz' < rows[k / sz'].length := by rw [hrl']; exact Nat.mod_lt _ h0
       exact (hcell (k / sz') (k % sz') rows[k / sz'] rows[k / sz'][k % sz'] (by simp [hi]) (by simp [hj])).2
     · have hj : j < sz' := by rw [← hr i r h1]; exact (List.getElem?_eq_some_iff.1 h2).1
       have hi := (List.getElem?_eq_some_iff.1 h1).1
       have hlt : i * sz' + j < rows.length * sz' := by
         have := Nat.mul_le_mul_right sz' (show i + 1 ≤ rows.length by omega)
         rw [Nat.add_mul] at this; omega
       refine ⟨us i j, ?_, hd i j r d h1 h2⟩
       rw [List.getElem?_map, List.getElem?_range hlt]
       simp only [Option.map_some]
       rw [Nat.mul_comm, Nat.mul_add_div (by omega), Nat.div_eq_of_lt hj, Nat.mul_add_mod, Nat.mod_eq_of_lt hj, Nat.add_zero]
   refine ⟨_, hR, hR.src hk fun k u hu => ?_⟩
   have hk' := (List.getElem?_eq_some_iff.1 hu).1
   simp only [List.length_map, List.length_range] at hk'
   rw [List.getElem?_map, List.getElem?_range hk'] at hu
   simp only [Option.map_some, Option.some.injEq] at hu
   have h0 : 0 < sz' := by
     rcases Nat.eq_zero_or_pos sz' with h | h
     · rw [h] at hk'; simp at hk'
     · exact h
   have hi : k / sz' < rows.length := (Nat.div_lt_iff_lt_mul h0).2 hk'
   have hrl' := hr (k / sz') rows[k / sz'] (by simp [hi])
   have hj : k % sz' < rows[k / sz'].length := by rw [hrl']; exact Nat.mod_lt _ h0
   have := (hcell (k / sz') (k % sz') rows[k / sz'] rows[k / sz'][k % sz'] (by simp [hi]) (by simp [hj])).1
   rw [Nat.add_assoc, Nat.mul_comm, Nat.div_add_mod] at this
   rw [this, hu]⟩
theorem yr {t : Nat} {x y : Operand} {T tx E : TypeId} {it : TypeInfo} {sz : Nat} {vy : Value} {rows rows2 : List (List D)} (i : Nat) (hT : P.underlying T = some (.slice E)) (hin : P.info? E = some it) (hiz : (it.zero.map fun z => z.cells.size) = some it.size) (hsz : it.size = sz) (hby : it.bytes ≤ 4096)
   (hx : ev env x = some (true, v)) (hy : ev env y = some (true, vy)) (ht : fits n (some t) = true) (hi : hp[i]? = some (bg v E sz rows)) (hs : ml P ⟨env, ps, hp⟩ tx sz vy rows2) (h0 : rows2 ≠ []) (hle : rows.length + rows2.length ≤ 1000000000)
   (m : Nat) (hm : rows.length + rows2.length = m) (hK : ∀ ad c, K ⟨(t, true, .slice ad m c) :: env, ps, hp.set i (bg (.slice ad m c) E sz (rows ++ rows2))⟩) :
   Eff P n ⟨some t, .call ⟨.builtin .append, #[x, y], #[T, tx]⟩, ty, pos, af, gd⟩ ⟨env, ps, hp⟩ false K := fun w S fp a hst he hn => by
 subst hm
 have e1 := he.val hx rfl
 have e2 := he.val hy rfl
 have hil := (List.getElem?_eq_some_iff.1 hi).1
 obtain ⟨news, hnews, hsrc⟩ := hs.src w S fp hst
 obtain ⟨z, hz, hzs⟩ : ∃ z, it.zero = some z ∧ z.cells.size = it.size := by
   cases hz : it.zero with
   | none => rw [hz] at hiz; cases hiz
   | some z => rw [hz] at hiz; exact ⟨z, rfl, by simpa using hiz⟩
 have hk0 : 0 < rows2.length := by cases rows2 with
   | nil => exact absurd rfl h0
   | cons => simp
 subst hsz
 have hexec : execOp a.eval ⟨some t, .call ⟨.builtin .append, #[x, y], #[T, tx]⟩, ty, pos, af, gd⟩ = (Builtin.append_ #[T, tx] ty (#[x, y].map a.eval)).bind fun r => Sem.pure (Next.value r) := rfl
 have hargs : #[x, y].map a.eval = #[v, vy] := by simp [e1, e2]
 rw [hexec, hargs, Sem.run_bind']
 have fin : ∀ (b C : Nat) (w1 : World) (cur : List Value), (Builtin.append_ #[T, tx] ty #[v, vy]).run P w = .ok (.slice (some ⟨b, 0, none⟩) (rows.length + rows2.length) C) w1 → w.heap.size ≤ w1.heap.size →
     (∀ b', b' < w.heap.size → ¬ fp i b' → w1.heap[b']? = w.heap[b']?) → w1.os = w.os → w1.tape = w.tape → w1.output = w.output → w1.heap[b]? = some (.cells cur.toArray E (0, 0)) → (fp i b ∨ w.heap.size ≤ b) →
     (∃ cs, ew w S it.size cs rows ∧ cur.take ((rows.length + rows2.length) * it.size) = cs ++ news) → cur.length = C * it.size → rows.length + rows2.length ≤ C → C ≤ maxLen →
     gB P (fun u w' => ∃ s' S' fp', K s' ∧ St w' S' fp' s'.ps s'.hp ∧ cW (a.put (some t) u) s'.env ∧ Evo w S (tot fp hp.length) w' S' ∧ (∀ b, tot fp' s'.hp.length b → tot fp hp.length b ∨ w.heap.size ≤ b) ∧ (false = true → Below w.heap.size w w'))
       (((Builtin.append_ #[T, tx] ty #[v, vy]).run P w).andThen fun r w' => (Sem.pure (Next.value r)).run P w') := by
   intro b C w1 cur hrun hsz1 hw1 o1 o2 o3 hb hbF ⟨cs, hcs, htake⟩ hlen hC hCm
   rw [hrun]
   have hlt : b < w1.heap.size := (Array.getElem?_eq_some_iff.1 hb).1
   have hR : (bg (.slice (some ⟨b, 0, none⟩) (rows.length + rows2.length) C) E it.size (rows ++ rows2)).holds w1 S (fun k => k = b) := by
     refine .inr ⟨b, C, by simp, ⟨cs ++ news, cur.drop ((rows.length + rows2.length) * it.size), ?_, ?_, ?_, by simpa using hC, hCm⟩, fun _ => Iff.rfl⟩
     · rw [← htake, List.take_append_drop]; exact hb
     · refine (hcs.append hnews).mono (fun b' hb' => hw1 b' (hst.slt b' hb') (fun hf => (hst.lt i hil b' hf).2 hb')) (fun _ h => h)
     · rw [← htake, List.take_append_drop]; exact hlen
   have hst' := hst.change2 hil hsz1 hw1 _ (fun k => k = b) hR (fun k hk => by subst hk; exact ⟨hbF, hlt⟩)
   refine ⟨_, S, _, hK _ _, hst', he.put (g := true) (by rw [hn]; simpa [fits] using ht) _, ⟨o1, o2, o3, hsz1, pS _ _ _ _ hrun, fun b' hb' hx' => hw1 b' hb' (fun hf => hx' ⟨i, hil, hf⟩), fun _ h => h, fun _ h => .inl h⟩, fun b' ⟨k, hk, hbk⟩ => ?_, fun h => by cases h⟩
   have hk' : k < hp.length := by simpa using hk
   dsimp only at hbk
   by_cases hki : k = i
   · rw [if_pos hki] at hbk
     subst hbk
     exact hbF.imp (fun h => ⟨i, hil, h⟩) id
   · rw [if_neg hki] at hbk; exact .inl ⟨k, hk', hbk⟩
 rcases hst.res i _ hi with ⟨hv, hr0, _⟩ | ⟨B, c, hv, ⟨cs, sp, hB, hrows, hl, hc, hcm⟩, hF⟩
 · subst hv; subst hr0
   obtain ⟨C, w1, h1, h2, hrun, ⟨cur1, g1, g2, g3⟩, g4, g5⟩ := mz (P := P) w T tx ty E it z hT hin hz hzs none 0 0 rows2.length [] (by simp [Builtin.firstCells]) (by simp) vy news hsrc (by omega) (by simpa using hle) hby
   have hrun' : (Builtin.append_ #[T, tx] ty #[.slice none 0 0, vy]).run P w = .ok (.slice (some ⟨w.heap.size, 0, none⟩) (([] : List (List D)).length + rows2.length) C) w1 := by rw [hrun]; rfl
   exact fin w.heap.size C w1 cur1 hrun' g5.size (fun b' hb' _ => g5.block b' hb') g5.os g5.tape g5.output g1 (.inr (Nat.le_refl _)) ⟨[], ⟨by simp, by simp, by simp, by simp⟩, by simpa using g3⟩ g2 (by simpa using h1) h2
 · subst hv
   by_cases hroom : rows.length + rows2.length ≤ c
   · have hfit : 0 + rows.length * it.size + news.length ≤ (cs ++ sp).toArray.size := by
       have h1 := hsrc.newsLen
       have := Nat.mul_le_mul_right it.size hroom
       rw [Nat.add_mul] at this
       simp only [List.size_toArray, hl]; omega
     have hrun := tR (P := P) w T tx ty E it hT hin B 0 rows.length c vy rows2.length news hsrc hroom (cs ++ sp).toArray E hB hfit
     have hlen : (splice (cs ++ sp) (0 + rows.length * it.size) news).length = c * it.size := by
       unfold splice
       have h1 := hsrc.newsLen
       have := Nat.mul_le_mul_right it.size hroom
       rw [Nat.add_mul] at this
       simp only [List.length_append, List.length_take, List.length_drop] at hl ⊢
       omega
     refine fin B c _ _ hrun (by simp [World.setRow]) (fun b' hb' hne => setRow_other _ _ _ _ (fun h => hne ((hF b').2 h))) rfl rfl rfl (setRow_heap _ _ _ _ _ _ hB) (.inl ((hF B).2 rfl)) ⟨cs, hrows, ?_⟩ hlen hroom hcm
     have hcl := hrows.len
     unfold splice
     rw [Nat.zero_add, Nat.add_mul, ← hcl, List.take_append_of_le_length (Nat.le_refl _), List.take_length, ← hsrc.newsLen, ← List.append_assoc, ← List.length_append, List.take_append_of_le_length (Nat.le_refl _), List.take_length]
   · have hfc := kr (P := P) w.drew B 0 it.size rows.length c (cs ++ sp) E (0, 0) hB (by rw [hl, Nat.zero_add]; exact Nat.mul_le_mul_right _ hc)
     obtain ⟨C, w1, h1, h2, hrun, ⟨cur1, g1, g2, g3⟩, g4, g5⟩ := mz (P := P) w T tx ty E it z hT hin hz hzs (some ⟨B, 0, none⟩) rows.length c rows2.length cs (by
       rw [hfc]
       congr 2
       rw [List.drop_zero, ← hrows.len, List.take_append_of_le_length (Nat.le_refl _), List.take_length]) hrows.len vy news hsrc (by omega) hle hby
     exact fin w.heap.size C w1 cur1 hrun g5.size (fun b' hb' _ => g5.block b' hb') g5.os g5.tape g5.output g1 (.inr (Nat.le_refl _)) ⟨cs, hrows, g3⟩ g2 h1 h2
end
end Go.Sy

namespace Go.Sy
open Go.RowKit Go.Lp
def bld (place : Nat → Option (Nat × Nat)) : List Value → List (Nat × Value) → Option (List Value)
 | cells, [] => some cells
 | cells, (i, v) :: rest => match place i with
   | some (off, size) => match wrL size cells off v.cells.toList with
     | some cells' => bld place cells' rest
     | none => none
   | none => none
theorem sN (off : Nat) : ∀ (vs : List Value) (k : Nat) (cs : List Value), off + k + vs.length ≤ cs.length →
   (vs.zipIdx k).foldl (fun (cs : Array Value) (x : Value × Nat) => cs.setIfInBounds (off + x.2) x.1) cs.toArray = (wrC cs (off + k) vs).toArray
 | [], k, cs, _ => by simp [wrC]
 | v :: vs, k, cs, h => by
   have hlt : off + k < cs.length := by simp at h; omega
   rw [List.zipIdx_cons, List.foldl_cons]
   have e : (cs.toArray.setIfInBounds (off + k) v) = (cs.set (off + k) v).toArray := by simp
   rw [e, sN off vs (k + 1) (cs.set (off + k) v) (by simp at h ⊢; omega)]
   congr 1
   unfold wrC
   apply List.ext_getElem?
   intro j
   simp only [List.getElem?_append, List.length_take, List.length_set, List.getElem?_take, List.getElem?_drop, List.getElem?_set, List.length_cons, List.getElem?_cons]
   rw [Nat.min_eq_left (by simp at h; omega), Nat.min_eq_left (by omega)]
   by_cases h1 : j < off + k
   · simp [show j < off + (k + 1) by omega, h1, show ¬ off + k = j by omega]
   · by_cases h2 : j = off + k
     · subst h2; simp [hlt]
     · have h3 : ¬ j < off + (k + 1) := by omega
       simp only [h1, h3, if_false]
       by_cases h5 : j - (off + (k + 1)) < vs.length
       · rw [if_pos h5, if_pos (by omega), if_neg (by omega)]
         congr 1 <;> omega
       · rw [if_neg h5, if_neg (by omega), if_neg (by omega)]
         congr 1 <;> omega
theorem nT (place : Nat → Option (Nat × Nat)) : ∀ (parts : List (Nat × Value)) (cells cells' : List Value), bld place cells parts = some cells' → Instr.fill place cells.toArray parts = some cells'.toArray
 | [], cells, cells', h => by simp only [bld, Option.some.injEq] at h; subst h; rfl
 | (i, v) :: rest, cells, cells', h => by
   unfold bld at h
   split at h
   · rename_i off size hp
     split at h
     · rename_i c1 hc1
       obtain ⟨h1, _, h3, rfl⟩ := rh _ _ _ _ _ hc1
       have ih := nT place rest _ cells' h
       have hsz : v.cells.size = size := by rw [← h1]; simp
       have hf : v.cells.zipIdx.foldl (fun cs (x : Value × Nat) => cs.setIfInBounds (off + x.2) x.1) cells.toArray = (wrC cells off v.cells.toList).toArray := by
         rw [← Array.foldl_toList, Array.toList_zipIdx]
         exact sN off v.cells.toList 0 cells (by omega)
       have hle : ¬ off + v.cells.size > cells.toArray.size := by simp at h3 ⊢; omega
       simp only [Instr.fill, hp]
       rw [if_neg (by simp [hsz]; simpa [hsz] using hle)]
       have : (v.cells.zipIdx.foldl (fun cs (c, j) => cs.setIfInBounds (off + j) c) cells.toArray) = (wrC cells off v.cells.toList).toArray := hf
       rw [this]
       exact ih
     · cases h
   · cases h
def placesOf (P : Program) (T : TypeId) : Option (List (Nat × Nat)) :=
 match P.underlying T with
 | some (.struct fields) => fields.toList.mapM (fun f => (P.info? f.type).map fun i => (f.offset, i.size))
 | some (.array n e) => (P.info? e).map fun i => (List.range n).map fun k => (k * i.size, i.size)
 | _ => none
def wK (P : Program) (T : TypeId) : Bool := match P.underlying T with
 | some (.struct _) => true
 | _ => false
section
variable {P : Program} {n : Fr} {env : Env} {ps : List Per} {hp : List Res} {ty : TypeId} {pos : String} {af : Array Edge} {gd : Option (Nat × Bool)} {K : Sta → Prop} {d : Option Tmp} {v : Value} {q : Bool}
theorem dz {T : TypeId} {l : List (Nat × Operand)} {xs : List Operand} {vs : List Value} {zs cells : List Value} {pl : List (Nat × Nat)} (hst : wK P T = true) (hz : gl P T = some zs) (hpl : placesOf P T = some pl) (hxs : l.map (·.2) = xs) (hx : evs env xs = some vs)
   (hb : bld (pl[·]?) zs ((l.map (·.1)).zip vs) = some cells) :
   Quiet P n ⟨d, .build T l.toArray, ty, pos, af, gd⟩ ⟨env, ps, hp⟩ (.agg cells.toArray) := fun w S fp a hs he hn => by
 have hm := gP he xs vs hx
 have hf := nT _ _ _ _ hb
 have hbuilt : P.built T ((l.map (·.1)).zip vs) = some cells.toArray := by
   unfold wK at hst
   unfold placesOf at hpl
   unfold gl at hz
   unfold Program.built
   cases hi : P.info? T with
   | none => rw [hi] at hz; cases hz
   | some it =>
     rw [hi] at hz
     cases hzz : it.zero with
     | none => rw [Option.bind_some, hzz] at hz; cases hz
     | some z =>
       rw [Option.bind_some, hzz] at hz
       simp only [Option.map_some, Option.some.injEq] at hz
       cases hu : P.underlying T with
       | none => rw [hu] at hst; cases hst
       | some dd =>
         rw [hu] at hst hpl
         cases dd with
         | struct fields =>
           simp only at hpl
           simp only [hzz, hpl]
           have e : z.cells = zs.toArray := by rw [← hz]
           rw [e]
           simpa using hf
         | _ => cases hst
 have : (execOp a.eval ⟨d, .build T l.toArray, ty, pos, af, gd⟩).run P w = .ok (.value (.agg cells.toArray)) w := by
   have e : (execOp a.eval ⟨d, .build T l.toArray, ty, pos, af, gd⟩) = (Instr.build T (l.toArray.map fun (i, x) => (i, a.eval x))).bind fun r => Sem.pure (Next.value r) := rfl
   have e2 : l.toArray.map (fun (i, x) => (i, a.eval x)) = ((l.map (·.1)).zip vs).toArray := by
     rw [← hm, ← hxs]
     simp only [List.map_toArray, List.map_map]
     congr 1
     rw [List.zip_map']
     rfl
   rw [e, e2, Sem.run_bind', run_build w T _ cells.toArray (by simpa using hbuilt)]; rfl
 rw [this]; exact ck _ _
def lB : Nat → List Value → List Value
 | 0, _ => []
 | n + 1, zs => zs ++ lB n zs
theorem sB (n : Nat) (zs : List Value) : (lB n zs).length = n * zs.length := by
 induction n with
 | zero => simp [lB]
 | succ n ih => simp [lB, ih, Nat.add_mul]; omega
theorem oY (zs : List Value) (h0 : 0 < zs.length) : ∀ (n j : Nat), j < n * zs.length → (lB n zs)[j]? = zs[j % zs.length]?
 | 0, j, h => by omega
 | n + 1, j, h => by
   unfold lB
   rw [List.getElem?_append]
   split
   · rename_i hj; rw [Nat.mod_eq_of_lt hj]
   · rename_i hj
     have e : j % zs.length = (j - zs.length) % zs.length := Nat.mod_eq_sub_mod (by omega)
     rw [oY zs h0 n (j - zs.length) (by rw [Nat.add_mul] at h; omega), e]
theorem wc (z : Array Value) (n : Nat) (h0 : 0 < z.size) : (madeCells z (n * z.size)) = (lB n z.toList).toArray := by
 apply Array.ext'
 rw [List.toList_toArray]
 apply List.ext_getElem?
 intro j
 by_cases hj : j < n * z.size
 · rw [oY z.toList (by simpa using h0) n j (by simpa using hj)]
   have hm : j % z.size < z.size := Nat.mod_lt _ h0
   simp only [madeCells, Array.toList_map, Array.toList_range, List.getElem?_map, List.getElem?_range hj, Option.map_some, Array.length_toList, Array.getElem?_toList]
   simp [hm]
 · rw [List.getElem?_eq_none (by simp [madeCells]; omega), List.getElem?_eq_none (by rw [sB]; simpa using hj)]
theorem xn {w : World} {S : bz} {zs : List Value} (h1 : ∀ v ∈ zs, v.oneCell' = true) (n : Nat) : ew w S zs.length (lB n zs) (List.replicate n (zs.map .v)) := by
 refine ⟨by simp [sB], fun i r h => ?_, fun v hv => ?_, fun i j r dd h1' h2 => ?_⟩
 · rw [List.getElem?_replicate] at h
   split at h
   · simp only [Option.some.injEq] at h; rw [← h]; simp
   · cases h
 · induction n with
   | zero => simp [lB] at hv
   | succ n ih =>
     unfold lB at hv
     rcases List.mem_append.1 hv with h | h
     · exact h1 v h
     · exact ih h
 · rw [List.getElem?_replicate] at h1'
   split at h1'
   · rename_i hi
     simp only [Option.some.injEq] at h1'
     rw [← h1', List.getElem?_map] at h2
     cases hj : zs[j]? with
     | none => rw [hj] at h2; cases h2
     | some u =>
       rw [hj] at h2
       simp only [Option.map_some, Option.some.injEq] at h2
       have hjl := (List.getElem?_eq_some_iff.1 hj).1
       refine ⟨u, ?_, by rw [← h2]; exact .v u⟩
       have hlt : i * zs.length + j < n * zs.length := by
         have := Nat.mul_le_mul_right zs.length (show i + 1 ≤ n by omega)
         rw [Nat.add_mul] at this; omega
       rw [oY zs (by omega) n _ hlt, Nat.mul_comm, Nat.mul_add_mod, Nat.mod_eq_of_lt hjl]; exact hj
   · cases h1'
theorem rk {w : World} {S : bz} {E : TypeId} {sz m : Nat} {cs : List Value} {rows : List (List D)} (h : ew w S sz cs rows) (hst : ∀ b, S b → b < w.heap.size) (hm : rows.length = m) (hle : m ≤ maxLen) :
   (bg (.slice (some ⟨w.heap.size, 0, none⟩) m m) E sz rows).holds (w.alloc (.cells cs.toArray E)) S (fun b => b = w.heap.size) := by
 refine .inr ⟨w.heap.size, m, by rw [hm], ⟨cs, [], by rw [List.append_nil]; exact iW _ _, h.mono (fun b hb => (eW w _).block b (hst b hb)) (fun _ h => h), by rw [List.append_nil, h.len, hm], by omega, hle⟩, fun _ => Iff.rfl⟩
theorem ab5 {t : Nat} {T E : TypeId} {it : TypeInfo} {x y : Operand} {m : Nat} {zs : List Value} (hT : P.underlying T = some (.slice E)) (hi : P.info? E = some it) (hz : gl P E = some zs) (h1 : zs.all (·.oneCell') = true) (hsz : it.size = zs.length) (h0 : 0 < zs.length) (hby : it.bytes ≤ 4096)
   (hx : ev env x = some (true, .int .i64 m)) (hy : ev env y = some (true, .int .i64 m)) (hm : m ≤ 1000000000) (ht : fits n (some t) = true)
   (hK : ∀ ad, K ⟨(t, true, .slice ad m m) :: env, ps, hp ++ [bg (.slice ad m m) E zs.length (List.replicate m (zs.map .v))]⟩) :
   Eff P n ⟨some t, .makeSlice T x y, ty, pos, af, gd⟩ ⟨env, ps, hp⟩ q K := .push fun w S fp a hst he hn => by
 have e1 := he.val hx rfl
 have e2 := he.val hy rfl
 obtain ⟨z, hzz, hzc⟩ : ∃ z, it.zero = some z ∧ z.cells.toList = zs := by
   unfold gl at hz
   rw [hi] at hz
   cases hzz : it.zero with
   | none => rw [Option.bind_some, hzz] at hz; cases hz
   | some z => rw [Option.bind_some, hzz] at hz; simp only [Option.map_some, Option.some.injEq] at hz; exact ⟨z, rfl, hz⟩
 have hzl : z.cells.size = zs.length := by rw [← hzc]; simp
 have hb : (it.bytes : Int) * (m : Int) ≤ 281474976710656 := by
   have h1 : it.bytes * m ≤ 4096 * 1000000000 := Nat.mul_le_mul hby hm
   have : ((it.bytes * m : Nat) : Int) ≤ ((4096 * 1000000000 : Nat) : Int) := by exact_mod_cast h1
   rw [← Int.natCast_mul]; omega
 have hrun := run_make (P := P) w T E it z hT hi hzz .i64 .i64 m m (by omega) (by omega) hb (by omega)
 rw [Int.toNat_natCast, hsz, ← hzl, wc _ _ (by omega), hzc] at hrun
 have : (execOp a.eval ⟨some t, .makeSlice T x y, ty, pos, af, gd⟩).run P w = .ok (.value (.slice (some ⟨w.heap.size, 0, none⟩) m m)) (w.alloc (.cells (lB m zs).toArray E)) := by
   show ((Instr.makeSlice T (a.eval x) (a.eval y)).bind fun r => Sem.pure (Next.value r)).run P w = _
   rw [e1, e2, Sem.run_bind', hrun]; rfl
 rw [this]
 refine ⟨_, fun b => b = w.heap.size, _, hK (some ⟨w.heap.size, 0, none⟩), rfl, rfl, he.put (g := true) (by rw [hn]; simpa [fits] using ht) _, eW _ _, rk (xn (fun v hv => List.all_eq_true.1 h1 v hv) m) hst.slt (by simp) (by unfold maxLen; omega), fun b hb => ?_⟩
 subst hb; simp
theorem rP {t : Nat} {T E : TypeId} {it : TypeInfo} {len : Nat} {l : List (Nat × Operand)} {xs : List Operand} {vs zs cs : List Value} {rows : List (List D)} (hT : P.underlying T = some (.slice E)) (hi : P.info? E = some it) (hz : gl P E = some zs) (hsz : it.size = zs.length) (h0 : 0 < zs.length)
   (hlen : 0 < len) (hsm : len * zs.length ≤ 16777216) (hxs : l.map (·.2) = xs) (hx : evs env xs = some vs) (hb : bld (fun i => some (i * zs.length, zs.length)) (lB len zs) ((l.map (·.1)).zip vs) = some cs) (hr : RCs ps zs.length cs rows) (hrl : rows.length = len) (ht : fits n (some t) = true)
   (hK : ∀ ad, K ⟨(t, true, .slice ad len len) :: env, ps, hp ++ [bg (.slice ad len len) E zs.length rows]⟩) :
   Eff P n ⟨some t, .buildSlice T len l.toArray, ty, pos, af, gd⟩ ⟨env, ps, hp⟩ q K := .push fun w S fp a hst he hn => by
 have hm := gP he xs vs hx
 obtain ⟨z, hzz, hzc⟩ : ∃ z, it.zero = some z ∧ z.cells.toList = zs := by
   unfold gl at hz
   rw [hi] at hz
   cases hzz : it.zero with
   | none => rw [Option.bind_some, hzz] at hz; cases hz
   | some z => rw [Option.bind_some, hzz] at hz; simp only [Option.map_some, Option.some.injEq] at hz; exact ⟨z, rfl, hz⟩
 have hzl : z.cells.size = zs.length := by rw [← hzc]; simp
 have hf := nT _ _ _ _ hb
 have hme := wc z.cells len (by omega)
 rw [hzc] at hme
 unfold madeCells at hme
 have hrun := run_buildSlice (P := P) w T E len ((l.map (·.1)).zip vs).toArray cs.toArray it z hT hi hzz (by rw [hsz]; omega) (by rw [hsz]; have := Nat.mul_pos hlen h0; omega) (by rw [hsz, ← hzl, hme, hzl]; simpa using hf)
 have e2 : l.toArray.map (fun (i, x) => (i, a.eval x)) = ((l.map (·.1)).zip vs).toArray := by
   rw [← hm, ← hxs]
   simp only [List.map_toArray, List.map_map]
   congr 1
   rw [List.zip_map']
   rfl
 have : (execOp a.eval ⟨some t, .buildSlice T len l.toArray, ty, pos, af, gd⟩).run P w = .ok (.value (.slice (some ⟨w.heap.size, 0, none⟩) len len)) (w.alloc (.cells cs.toArray E)) := by
   show ((Instr.buildSlice T len (l.toArray.map fun (i, x) => (i, a.eval x))).bind fun r => Sem.pure (Next.value r)).run P w = _
   rw [e2, Sem.run_bind', hrun]; rfl
 rw [this]
 refine ⟨_, fun b => b = w.heap.size, _, hK (some ⟨w.heap.size, 0, none⟩), rfl, rfl, he.put (g := true) (by rw [hn]; simpa [fits] using ht) _, eW _ _, rk (hr.rows hst.per) hst.slt hrl (by unfold maxLen; have := Nat.le_mul_of_pos_right len h0; omega), fun b hb => ?_⟩
 subst hb; simp
end
end Go.Sy

namespace Go.Sy
open Go.RowKit Go.Lp
def elB (P : Program) (T E : TypeId) (sz : Nat) : Bool :=
 match P.underlying T with
 | some (.slice e) => e == E && match P.info? E with
   | some it => it.zero.map (·.cells.size) == some it.size && it.size == sz && decide (it.bytes ≤ 4096)
   | none => false
 | _ => false
theorem dL {P : Program} {T E : TypeId} {sz : Nat} (h : elB P T E sz = true) : P.underlying T = some (.slice E) ∧ ∃ it, P.info? E = some it ∧ (it.zero.map fun z => z.cells.size) = some it.size ∧ it.size = sz ∧ it.bytes ≤ 4096 := by
 unfold elB at h
 split at h
 · rename_i e hu
   simp only [Bool.and_eq_true, beq_iff_eq] at h
   obtain ⟨rfl, h⟩ := h
   split at h
   · rename_i it hi
     simp only [Bool.and_eq_true, beq_iff_eq, decide_eq_true_eq] at h
     exact ⟨hu, it, hi, h.1.1, h.1.2, h.2⟩
   · cases h
 · cases h
theorem RCs.more {ps : List Per} {sz : Nat} {cs us : List Value} {r : List D} {rows : List (List D)} (h1 : tkL sz cs = some us) (hr : RC ps us r) (h2 : RCs ps sz (cs.drop sz) rows) : RCs ps sz cs (r :: rows) := by
 obtain ⟨hl, rfl⟩ := vK _ _ _ h1
 have := RCs.cons (by simp; omega) hr h2
 rwa [List.take_append_drop] at this
section
variable {P : Program} {n : Fr} {env : Env} {ps : List Per} {hp : List Res} {ty : TypeId} {pos : String} {af : Array Edge} {gd : Option (Nat × Bool)} {K : Sta → Prop} {d : Option Tmp} {v : Value} {q : Bool}
theorem zy {x : Operand} {t t' : TypeId} {a : Addr} (hT : (match P.underlying t with | some (.pointer _) => true | _ => false) = true) (hx : ev env x = some (true, .pointer (some a))) : Quiet P n ⟨d, .binOp .eql t x (.const (.pointer none)) t', ty, pos, af, gd⟩ ⟨env, ps, hp⟩ (.bool false) := .run2 hx (y := .const (.pointer none)) (vy := .pointer none) rfl fun ρ w h1 h2 => by
 have hu : ∃ e, P.underlying t = some (.pointer e) := by
   cases h : P.underlying t with
   | none => rw [h] at hT; cases hT
   | some dd => rw [h] at hT; cases dd <;> first | exact ⟨_, rfl⟩ | cases hT
 obtain ⟨e, hu⟩ := hu
 unfold execOp; dsimp only; rw [h1, h2]
 have e1 : (do eqGuard BinOp.eql t x (.const (.pointer none)) (Value.pointer (some a)) (Value.pointer none); binOp BinOp.eql t (Value.pointer (some a)) (Value.pointer none)) = binOp BinOp.eql t (Value.pointer (some a)) (Value.pointer none) := rfl
 have e2 : (binOp BinOp.eql t (Value.pointer (some a)) (Value.pointer none)).run P w = .ok (.bool false) w := by
   have := run_eql_pointer_nil (P := P) (w := w) t (some a) (by rw [hu]; unfold Program.pointee; rw [hu])
   exact this
 show ((do eqGuard BinOp.eql t x (.const (.pointer none)) (Value.pointer (some a)) (Value.pointer none); binOp BinOp.eql t (Value.pointer (some a)) (Value.pointer none)).bind fun r => Sem.pure (Next.value r)).run P w = _
 rw [e1, Sem.run_bind', e2]; rfl
theorem cL {t : Nat} {x y : Operand} {T tx E : TypeId} {sz : Nat} {vy : Value} {rows rows2 : List (List D)} (i : Nat) (hel : elB P T E sz = true)
   (hx : ev env x = some (true, v)) (hy : ev env y = some (true, vy)) (ht : fits n (some t) = true) (hi : hp[i]? = some (bg v E sz rows)) (hs : ml P ⟨env, ps, hp⟩ tx sz vy rows2) (h0 : rows2 ≠ []) (hle : rows.length + rows2.length ≤ 1000000000)
   (m : Nat) (hm : rows.length + rows2.length = m) (hK : ∀ ad c, K ⟨(t, true, .slice ad m c) :: env, ps, hp.set i (bg (.slice ad m c) E sz (rows ++ rows2))⟩) :
   Eff P n ⟨some t, .call ⟨.builtin .append, #[x, y], #[T, tx]⟩, ty, pos, af, gd⟩ ⟨env, ps, hp⟩ false K := by
 obtain ⟨h1, it, h2, h3, h4, h5⟩ := dL hel
 exact yr i h1 h2 h3 h4 h5 hx hy ht hi hs h0 hle m hm hK
theorem dR {T : TypeId} {tx E : TypeId} {sz : Nat} {x : Value} {rows : List (List D)} (j : Nat) (hel : elB P tx E sz = true) (hj : hp[j]? = some (bg x T sz rows)) (hne : rows ≠ []) : ml P ⟨env, ps, hp⟩ tx sz x rows := aay j (dL hel).1 hj hne
theorem ab2 {tx E : TypeId} {sz : Nat} {x : Value} {rows : List (List D)} (hel : elB P tx E sz = true) (hs : Sh x (.sl rows) ∈ ps) (hrl : ∀ r ∈ rows, r.length = sz) (hne : rows ≠ []) : ml P ⟨env, ps, hp⟩ tx sz x rows := abH (dL hel).1 hs hrl hne
theorem iC {t : Nat} {T E : TypeId} {x y : Operand} {m : Nat} {zs : List Value} (hel : elB P T E zs.length = true) (hz : gl P E = some zs) (h1 : zs.all (·.oneCell') = true) (h0 : 0 < zs.length)
   (hx : ev env x = some (true, .int .i64 m)) (hy : ev env y = some (true, .int .i64 m)) (hm : m ≤ 1000000000) (ht : fits n (some t) = true)
   (hK : ∀ ad, K ⟨(t, true, .slice ad m m) :: env, ps, hp ++ [bg (.slice ad m m) E zs.length (List.replicate m (zs.map .v))]⟩) :
   Eff P n ⟨some t, .makeSlice T x y, ty, pos, af, gd⟩ ⟨env, ps, hp⟩ q K := by
 obtain ⟨h1', it, h2, h3, h4, h5⟩ := dL hel
 exact ab5 h1' h2 hz h1 h4 h0 h5 hx hy hm ht hK
theorem cB {t : Nat} {T E : TypeId} {len : Nat} {l : List (Nat × Operand)} {xs : List Operand} {vs zs cs : List Value} {rows : List (List D)} (hel : elB P T E zs.length = true) (hz : gl P E = some zs) (h0 : 0 < zs.length)
   (hlen : 0 < len) (hsm : len * zs.length ≤ 16777216) (hxs : l.map (·.2) = xs) (hx : evs env xs = some vs) (hb : bld (fun i => some (i * zs.length, zs.length)) (lB len zs) ((l.map (·.1)).zip vs) = some cs) (hr : RCs ps zs.length cs rows) (hrl : rows.length = len) (ht : fits n (some t) = true)
   (hK : ∀ ad, K ⟨(t, true, .slice ad len len) :: env, ps, hp ++ [bg (.slice ad len len) E zs.length rows]⟩) :
   Eff P n ⟨some t, .buildSlice T len l.toArray, ty, pos, af, gd⟩ ⟨env, ps, hp⟩ q K := by
 obtain ⟨h1', it, h2, h3, h4, h5⟩ := dL hel
 exact rP h1' h2 hz h4 h0 hlen hsm hxs hx hb hr hrl ht hK
end
end Go.Sy

namespace Go.Proofs.YtgmiihmahaahiaaGreatDoor
open Go.RowKit Go.Lp Go.Sy
theorem tk3 : tyk Tryz.prog 3 = some (false, 1) := by kernel_rfl
theorem tk4 : tyk Tryz.prog 4 = some (false, 1) := by kernel_rfl
theorem tk5 : tyk Tryz.prog 5 = some (false, 1) := by kernel_rfl
theorem tk9 : tyk Tryz.prog 9 = some (false, 1) := by kernel_rfl
theorem tk22 : tyk Tryz.prog 22 = some (false, 1) := by kernel_rfl
theorem tk23 : tyk Tryz.prog 23 = some (false, 1) := by kernel_rfl
theorem tk24 : tyk Tryz.prog 24 = some (false, 1) := by kernel_rfl
theorem tk27 : tyk Tryz.prog 27 = some (false, 1) := by kernel_rfl
theorem tk31 : tyk Tryz.prog 31 = some (false, 1) := by kernel_rfl
theorem tk34 : tyk Tryz.prog 34 = some (true, 2) := by kernel_rfl
theorem tk46 : tyk Tryz.prog 46 = some (true, 7) := by kernel_rfl
theorem tk50 : tyk Tryz.prog 50 = some (false, 1) := by kernel_rfl
theorem tk51 : tyk Tryz.prog 51 = some (false, 1) := by kernel_rfl
theorem tk52 : tyk Tryz.prog 52 = some (false, 1) := by kernel_rfl
theorem tk53 : tyk Tryz.prog 53 = some (false, 1) := by kernel_rfl
theorem tk54 : tyk Tryz.prog 54 = some (false, 1) := by kernel_rfl
theorem tk55 : tyk Tryz.prog 55 = some (false, 1) := by kernel_rfl
theorem tk56 : tyk Tryz.prog 56 = some (false, 1) := by kernel_rfl
theorem tk57 : tyk Tryz.prog 57 = some (false, 1) := by kernel_rfl
theorem tk58 : tyk Tryz.prog 58 = some (false, 1) := by kernel_rfl
theorem tk59 : tyk Tryz.prog 59 = some (false, 1) := by kernel_rfl
theorem tk61 : tyk Tryz.prog 61 = some (true, 11) := by kernel_rfl
theorem tk63 : tyk Tryz.prog 63 = some (true, 10) := by kernel_rfl
theorem tk65 : tyk Tryz.prog 65 = some (true, 6) := by kernel_rfl
theorem tk66 : tyk Tryz.prog 66 = some (false, 1) := by kernel_rfl
theorem tk68 : tyk Tryz.prog 68 = some (false, 1) := by kernel_rfl
theorem tk71 : tyk Tryz.prog 71 = some (false, 1) := by kernel_rfl
theorem tk73 : tyk Tryz.prog 73 = some (true, 3) := by kernel_rfl
theorem tk77 : tyk Tryz.prog 77 = some (false, 1) := by kernel_rfl
theorem tk79 : tyk Tryz.prog 79 = some (true, 7) := by kernel_rfl
theorem tk85 : tyk Tryz.prog 85 = some (true, 6) := by kernel_rfl
theorem tk90 : tyk Tryz.prog 90 = some (false, 1) := by kernel_rfl
theorem tk92 : tyk Tryz.prog 92 = some (true, 2) := by kernel_rfl
theorem tk95 : tyk Tryz.prog 95 = some (true, 3) := by kernel_rfl
theorem tk101 : tyk Tryz.prog 101 = some (false, 1) := by kernel_rfl
theorem tk102 : tyk Tryz.prog 102 = some (false, 1) := by kernel_rfl
theorem tk103 : tyk Tryz.prog 103 = some (false, 1) := by kernel_rfl
theorem tk104 : tyk Tryz.prog 104 = some (false, 1) := by kernel_rfl
theorem tk105 : tyk Tryz.prog 105 = some (false, 1) := by kernel_rfl
theorem tk125 : tyk Tryz.prog 125 = some (false, 1) := by kernel_rfl
theorem tk128 : tyk Tryz.prog 128 = some (true, 6) := by kernel_rfl
theorem tk133 : tyk Tryz.prog 133 = some (true, 2) := by kernel_rfl
theorem tk136 : tyk Tryz.prog 136 = some (false, 1) := by kernel_rfl
theorem tk141 : tyk Tryz.prog 141 = some (false, 1) := by kernel_rfl
theorem tk157 : tyk Tryz.prog 157 = some (true, 2) := by kernel_rfl
theorem tk173 : tyk Tryz.prog 173 = some (false, 1) := by kernel_rfl
theorem tk178 : tyk Tryz.prog 178 = some (true, 2) := by kernel_rfl
theorem tk182 : tyk Tryz.prog 182 = some (true, 5) := by kernel_rfl
theorem tk184 : tyk Tryz.prog 184 = some (false, 1) := by kernel_rfl
theorem tk195 : tyk Tryz.prog 195 = some (true, 3) := by kernel_rfl
theorem tk197 : tyk Tryz.prog 197 = some (true, 4) := by kernel_rfl
theorem tk200 : tyk Tryz.prog 200 = some (true, 6) := by kernel_rfl
theorem tk204 : tyk Tryz.prog 204 = some (true, 6) := by kernel_rfl
theorem tk207 : tyk Tryz.prog 207 = some (true, 4) := by kernel_rfl
theorem tk208 : tyk Tryz.prog 208 = some (false, 1) := by kernel_rfl
theorem tk210 : tyk Tryz.prog 210 = some (true, 4) := by kernel_rfl
theorem tk215 : tyk Tryz.prog 215 = some (true, 2) := by kernel_rfl
theorem tk233 : tyk Tryz.prog 233 = some (true, 5) := by kernel_rfl
theorem tk264 : tyk Tryz.prog 264 = some (true, 3) := by kernel_rfl
theorem tk275 : tyk Tryz.prog 275 = some (false, 1) := by kernel_rfl
theorem tk280 : tyk Tryz.prog 280 = some (false, 1) := by kernel_rfl
theorem tk313 : tyk Tryz.prog 313 = some (false, 1) := by kernel_rfl
theorem tk367 : tyk Tryz.prog 367 = some (true, 24) := by kernel_rfl
theorem el22 : elB Tryz.prog 22 61 11 = true := by kernel_rfl
theorem el27 : elB Tryz.prog 27 68 1 = true := by kernel_rfl
theorem el28 : elB Tryz.prog 28 100 3 = true := by kernel_rfl
theorem el31 : elB Tryz.prog 31 66 1 = true := by kernel_rfl
theorem el41 : elB Tryz.prog 41 46 7 = true := by kernel_rfl
theorem el50 : elB Tryz.prog 50 85 6 = true := by kernel_rfl
theorem el51 : elB Tryz.prog 51 63 10 = true := by kernel_rfl
theorem el52 : elB Tryz.prog 52 182 5 = true := by kernel_rfl
theorem el66 : elB Tryz.prog 66 65 6 = true := by kernel_rfl
theorem el68 : elB Tryz.prog 68 4 1 = true := by kernel_rfl
theorem el77 : elB Tryz.prog 77 9 1 = true := by kernel_rfl
theorem el90 : elB Tryz.prog 90 3 1 = true := by kernel_rfl
theorem el130 : elB Tryz.prog 130 133 2 = true := by kernel_rfl
theorem el141 : elB Tryz.prog 141 215 2 = true := by kernel_rfl
theorem el158 : elB Tryz.prog 158 34 2 = true := by kernel_rfl
theorem el159 : elB Tryz.prog 159 157 2 = true := by kernel_rfl
theorem el280 : elB Tryz.prog 280 5 1 = true := by kernel_rfl
theorem el288 : elB Tryz.prog 288 90 1 = true := by kernel_rfl
theorem el316 : elB Tryz.prog 316 275 1 = true := by kernel_rfl
end Go.Proofs.YtgmiihmahaahiaaGreatDoor

namespace Go.Sy
open Go.RowKit Go.Deep
section
variable (P : Program)
def kU : Nat → List Field → Nat → Bool
 | off, [], tot => off == tot
 | off, f :: fs, tot => f.offset == off && decide (off + P.cellsOf f.type ≤ tot) && kU (off + P.cellsOf f.type) fs tot
def rdT : Nat → TypeId → Bool
 | 0, _ => false
 | k + 1, t => match P.underlying t with
   | some .bool => true
   | some (.int _) => true
   | some .string => true
   | some (.slice e) => decide (0 < P.cellsOf e) && rdT k e
   | some (.struct fs) => kU P 0 fs.toList (P.cellsOf t) && fs.toList.all (fun f => rdT k f.type)
   | _ => false
def okF (ok : TypeId → List D → Prop) : List Field → List D → Prop
 | [], ds => ds = []
 | f :: fs, ds => ∃ d1 d2, ds = d1 ++ d2 ∧ ok f.type d1 ∧ okF ok fs d2
def okD : Nat → TypeId → List D → Prop
 | 0, _, _ => False
 | k + 1, t, ds => match P.underlying t with
   | some .bool => ∃ b, ds = [.v (.bool b)]
   | some (.int i) => ∃ n, ds = [.v (.int i n)] ∧ (Lit.int i n).wf = true
   | some .string => ∃ s, ds = [.v (.string s)] ∧ s.size ≤ maxLen
   | some (.slice e) => ∃ rows, ds = [.sl rows] ∧ rows.length ≤ maxLen ∧ ∀ r ∈ rows, okD k e r
   | some (.struct fs) => okF (okD k) fs.toList ds
   | _ => False
end
variable {P : Program} {H : Type} {enc : TypeId × Value → H} {w : World} {base : Nat} {spare : Nat → Bool} {held : Bool}
def Rds (w : World) (cs : List Value) (off : Nat) (ds : List D) : Prop := ∀ (j : Nat) (d : D), ds[j]? = some d → ∃ u, cs[off + j]? = some u ∧ u.oneCell' = true ∧ eU w (fun b => b < w.heap.size) u d
section
theorem jT {u : Value} {d : D} (h1 : u.oneCell' = true) (h : eU w (fun b => b < w.heap.size) u d) : Rds w [u] 0 [d] := fun j e hj => by
 cases j with
 | zero => simp at hj; subst hj; exact ⟨u, rfl, h1, h⟩
 | succ j => simp at hj
theorem nu {k fuel : Nat} {cs : List Value} {tot : Nat} (hcs : cs.length = tot)
   (ih : ∀ (t : TypeId) (cs : List Value) (x : DataW H × List MemPlace), rdT P k t = true → DataW.trod enc P w base spare held fuel t cs = some x → ∃ ds, ds.length = cs.length ∧ okD P k t ds ∧ Rds w cs 0 ds) :
   ∀ (fs : List Field) (off : Nat), kU P off fs tot = true → fs.all (fun f => rdT P k f.type) = true →
     (∀ f ∈ fs, ∃ y, DataW.trod enc P w base spare held fuel f.type ((cs.drop f.offset).take (P.cellsOf f.type)) = some y) → ∃ ds, off + ds.length = tot ∧ okF (okD P k) fs ds ∧ Rds w cs off ds
 | [], off, hc, _, _ => ⟨[], by simpa [kU] using hc, rfl, fun j d hj => by cases hj⟩
 | f :: fs, off, hc, hr, ht => by
   simp only [kU, Bool.and_eq_true, beq_iff_eq, decide_eq_true_eq] at hc
   obtain ⟨⟨hc1, hc2⟩, hc3⟩ := hc
   simp only [List.all_cons, Bool.and_eq_true] at hr
   obtain ⟨y, hy⟩ := ht f (List.mem_cons_self ..)
   obtain ⟨d1, l1, o1, r1⟩ := ih _ _ _ hr.1 hy
   obtain ⟨d2, l2, o2, r2⟩ := nu hcs ih fs _ hc3 hr.2 (fun g hg => ht g (List.mem_cons_of_mem _ hg))
   rw [List.length_take, List.length_drop, hc1, hcs] at l1
   have l1 : d1.length = P.cellsOf f.type := by omega
   refine ⟨d1 ++ d2, by rw [List.length_append]; omega, ⟨d1, d2, rfl, o1, o2⟩, fun j d hj => ?_⟩
   by_cases hjl : j < d1.length
   · rw [List.getElem?_append_left hjl] at hj
     obtain ⟨u, hu, h1, h2⟩ := r1 j d hj
     rw [Nat.zero_add, List.getElem?_take, if_pos (by omega), List.getElem?_drop, hc1] at hu
     exact ⟨u, hu, h1, h2⟩
   · rw [List.getElem?_append_right (by omega)] at hj
     obtain ⟨u, hu, h1, h2⟩ := r2 _ d hj
     rw [show off + P.cellsOf f.type + (j - d1.length) = off + j by omega] at hu
     exact ⟨u, hu, h1, h2⟩
theorem pZ {a : Addr} {u : Value} (h : w.cell? a = some u) : a = ⟨a.block, a.off, none⟩ ∧ a.block < w.heap.size := by
 obtain ⟨b, o, sp⟩ := a
 unfold World.cell? at h
 split at h
 · rename_i hb
   refine ⟨?_, (Array.getElem?_eq_some_iff.1 hb).1⟩
   cases sp with
   | none => rfl
   | some z => simp at h
 · cases h
theorem lx : ∀ (k fuel : Nat) (t : TypeId) (cs : List Value) (x : DataW H × List MemPlace), rdT P k t = true → DataW.trod enc P w base spare held fuel t cs = some x → ∃ ds, ds.length = cs.length ∧ okD P k t ds ∧ Rds w cs 0 ds
 | 0, _, _, _, _, h, _ => by cases h
 | k + 1, fuel, t, cs, x, hr, h => by
   unfold rdT at hr
   unfold okD
   split at hr
   · rename_i hu
     obtain ⟨b, rfl, _⟩ := DataW.trod_bool hu h
     exact ⟨[.v (.bool b)], rfl, ⟨b, rfl⟩, jT rfl (.v _)⟩
   · rename_i i hu
     obtain ⟨n, rfl, _, hw⟩ := DataW.trod_int hu h
     exact ⟨[.v (.int i n)], rfl, ⟨n, rfl, hw⟩, jT rfl (.v _)⟩
   · rename_i hu
     obtain ⟨s, rfl, _, hs⟩ := DataW.trod_string hu h
     exact ⟨[.v (.string s)], rfl, ⟨s, rfl, hs⟩, jT rfl (.v _)⟩
   · rename_i e hu
     rw [Bool.and_eq_true, decide_eq_true_eq] at hr
     obtain ⟨hp, hr⟩ := hr
     rcases open_slice hu h with ⟨rfl, _⟩ | ⟨a, len, cap, m, n, _, _, rfl, _, hl, hm, hmm, _, hx⟩
     · exact ⟨[.sl []], rfl, ⟨[], rfl, by simp, fun r hr => by cases hr⟩, jT rfl (.e none 0 (by simp))⟩
     · have hlm : len ≤ m := by rw [hmm]; split <;> omega
       by_cases hl0 : len = 0
       · subst hl0
         exact ⟨[.sl []], rfl, ⟨[], rfl, by simp, fun r hr => by cases hr⟩, jT rfl (.e (some a) cap hm)⟩
       · have each : ∀ i, ∃ r : List D, i < len → r.length = P.cellsOf e ∧ okD P k e r ∧ ∀ (j : Nat) (d : D), r[j]? = some d → ∃ u, w.cell? ((a.add (i * P.cellsOf e)).add j) = some u ∧ u.oneCell' = true ∧ eU w (fun b => b < w.heap.size) u d := fun i => by
           by_cases hi : i < len
           · obtain ⟨cs', h1, h2⟩ := hx i (by omega)
             obtain ⟨ds, l1, o1, r1⟩ := lx k _ _ _ _ hr h2
             obtain ⟨_, hcl, hc⟩ := World.cells?_some h1
             refine ⟨ds, fun _ => ⟨by omega, o1, fun j d hj => ?_⟩⟩
             obtain ⟨u, hu, q1, q2⟩ := r1 j d hj
             have := (List.getElem?_eq_some_iff.1 hj).1
             rw [hc j (by omega)]
             exact ⟨u, by rw [← hu, Nat.zero_add], q1, q2⟩
           · exact ⟨[], fun h => absurd h hi⟩
         obtain ⟨R, hR⟩ := Classical.skolem.1 each
         have ha : a = ⟨a.block, a.off, none⟩ ∧ a.block < w.heap.size := by
           obtain ⟨e1, _, e3⟩ := hR 0 (by omega)
           obtain ⟨d, hd⟩ : ∃ d, (R 0)[0]? = some d := ⟨(R 0)[0]'(by omega), by simp⟩
           obtain ⟨u, hu, _⟩ := e3 0 d hd
           have : (a.add (0 * P.cellsOf e)).add 0 = a := by simp [Addr.add]
           rw [this] at hu
           exact pZ hu
         obtain ⟨ha, hb⟩ := ha
         have hadd : ∀ i j, (a.add (i * P.cellsOf e)).add j = ⟨a.block, a.off + i * P.cellsOf e + j, none⟩ := fun i j => by
           rw [ha]; unfold Addr.add
           by_cases h1 : i * P.cellsOf e = 0 <;> by_cases h2 : j = 0 <;> simp [h1, h2]
         have hrow : ∀ (i : Nat) (r : List D), ((List.range len).map R)[i]? = some r → i < len ∧ r = R i := fun i r hi => by
           have := (List.getElem?_eq_some_iff.1 hi).1
           simp at this
           rw [List.getElem?_map, List.getElem?_range this] at hi
           exact ⟨this, by simpa using hi.symm⟩
         refine ⟨[.sl ((List.range len).map R)], rfl, ⟨_, rfl, by simp; omega, fun r hr => ?_⟩, jT rfl ?_⟩
         · obtain ⟨i, hi, rfl⟩ := List.mem_map.1 hr
           exact (hR i (List.mem_range.1 hi)).2.1
         · have := eU.sl (w := w) (S := fun b => b < w.heap.size) a.block a.off cap (P.cellsOf e) ((List.range len).map R) (fun i j => (w.cell? ⟨a.block, a.off + i * P.cellsOf e + j, none⟩).getD (.bool false)) hb (by simpa using hl) hm
             (fun i r hi => by obtain ⟨h1, rfl⟩ := hrow i r hi; exact (hR i h1).1)
             (fun i j r d hi hj => by
               obtain ⟨h1, rfl⟩ := hrow i r hi
               obtain ⟨u, hu, q1, q2⟩ := (hR i h1).2.2 j d hj
               rw [hadd] at hu
               rw [hu]; exact ⟨rfl, q1⟩)
             (fun i j r d hi hj => by
               obtain ⟨h1, rfl⟩ := hrow i r hi
               obtain ⟨u, hu, q1, q2⟩ := (hR i h1).2.2 j d hj
               rw [hadd] at hu
               rw [hu]; exact q2)
           rw [← ha] at this
           simpa using this
   · rename_i fs hu
     rw [Bool.and_eq_true] at hr
     obtain ⟨xs, n, _, _, hcl, hxl, hf⟩ := DataW.trod_struct hu h
     obtain ⟨ds, l1, o1, r1⟩ := nu (tot := P.cellsOf t) hcl (fun t cs x h1 h2 => lx k n t cs x h1 h2) fs.toList 0 hr.1 hr.2 (fun f hff => by
       obtain ⟨i, hi, rfl⟩ := List.getElem_of_mem hff
       rw [hf i _ (by simp at hi ⊢)]
       simp at hi
       exact ⟨xs[i]'(by omega), by simp [hxl, hi]⟩)
     exact ⟨ds, by omega, o1, r1⟩
   · cases hr
theorem cj {k : Nat} {t : TypeId} {ds : List D} {i : IntKind} (hu : P.underlying t = some (.int i)) (h : okD P (k + 1) t ds) : ∃ n, ds = [.v (.int i n)] ∧ (Lit.int i n).wf = true := by unfold okD at h; rw [hu] at h; exact h
theorem lG {k : Nat} {t : TypeId} {ds : List D} (hu : P.underlying t = some .bool) (h : okD P (k + 1) t ds) : ∃ b, ds = [.v (.bool b)] := by unfold okD at h; rw [hu] at h; exact h
theorem dt {k : Nat} {t : TypeId} {ds : List D} (hu : P.underlying t = some .string) (h : okD P (k + 1) t ds) : ∃ s, ds = [.v (.string s)] ∧ s.size ≤ maxLen := by unfold okD at h; rw [hu] at h; exact h
theorem dA {k : Nat} {t e : TypeId} {ds : List D} (hu : P.underlying t = some (.slice e)) (h : okD P (k + 1) t ds) : ∃ rows, ds = [.sl rows] ∧ rows.length ≤ maxLen ∧ ∀ r ∈ rows, okD P k e r := by unfold okD at h; rw [hu] at h; exact h
theorem dE {k : Nat} {t : TypeId} {ds : List D} {fs : Array Field} (hu : P.underlying t = some (.struct fs)) (h : okD P (k + 1) t ds) : okF (okD P k) fs.toList ds := by unfold okD at h; rw [hu] at h; exact h
theorem acm {ps : List Per} (h : ∀ p ∈ ps, p.holds w fun b => b < w.heap.size) : St w (fun b => b < w.heap.size) (fun _ _ => False) ps [] :=
 ⟨h, fun i R hR => by simp at hR, fun i hi => by simp at hi, fun i j hi => by simp at hi, fun _ h => h⟩
end
end Go.Sy

