/- A logic of states: calls, new blocks, stores. No condition. -/
import Derived.Test.YtpgcoceggacplaaGreatDoorSyMem
set_option linter.unusedVariables false
set_option linter.unusedSimpArgs false
set_option maxRecDepth 20000
namespace Go.Sy
open Go.RowKit Go.Lp
section
variable {P : Program} {n : Nat} {s : Sta} {d : Option Tmp} {ty : TypeId} {pos : String} {af : Array Edge} {gd : Option (Nat × Bool)} {v : Value} {K : Sta → Prop}

/-- the values of operands -/
def evs (env : Env) : List Operand → Option (List Value)
  | [] => some []
  | x :: l => match ev env x, evs env l with
    | some (true, v), some vs => some (v :: vs)
    | _, _ => none
theorem evs_map {a : Act} {env : Env} (he : EnvOk a env) : ∀ (l : List Operand) (vs : List Value), evs env l = some vs → l.map a.eval = vs
  | [], vs, h => by simp only [evs, Option.some.injEq] at h; subst h; rfl
  | x :: l, vs, h => by
    unfold evs at h
    split at h
    · rename_i v vs' hx hl
      simp only [Option.some.injEq] at h
      subst h
      rw [List.map_cons, he.val hx rfl, evs_map he l vs' hl]
    · cases h

theorem q_func {fn : Fn} {l : List Operand} {vs : List Value} (hx : evs s.env l = some vs) : Quiet P n ⟨d, .makeFunc fn #[] l.toArray, ty, pos, af, gd⟩ s (.func fn #[] vs.toArray) := q_func_gen fun a he => evs_map he l vs hx
/-! more operations that touch no memory, or only read it -/
def fldOff (P : Program) (T : TypeId) (i : Nat) : Option Nat :=
  match P.underlying T with
  | some (.struct fs) => (fs[i]?).bind fun f => (P.info? f.type).bind fun j => if j.size = 0 then none else some f.offset
  | _ => none
theorem q_fieldAddr {x : Operand} {T : TypeId} {i b o off : Nat} (hf : fldOff P T i = some off) (hx : ev s.env x = some (true, .pointer (some ⟨b, o, none⟩))) :
    Quiet P n ⟨d, .fieldAddr T x i, ty, pos, af, gd⟩ s (.pointer (some ⟨b, o + off, none⟩)) := .run1 hx fun ρ w h1 => by
  unfold fldOff at hf
  split at hf
  · rename_i fs hT
    cases hi : fs[i]? with
    | none => rw [hi] at hf; cases hf
    | some f =>
      rw [hi] at hf
      cases hj : P.info? f.type with
      | none => rw [Option.bind_some, hj] at hf; cases hf
      | some j =>
        rw [Option.bind_some, hj, Option.bind_some] at hf
        split at hf
        · cases hf
        · rename_i h0
          simp only [Option.some.injEq] at hf
          subst hf
          unfold execOp; dsimp only; rw [h1]
          show ((Instr.fieldAt T (.pointer (some ⟨b, o, none⟩)) i).bind fun r => Sem.pure (Next.value r)).run P w = _
          rw [Sem.run_bind']
          have : (Instr.fieldAt T (.pointer (some ⟨b, o, none⟩)) i).run P w = .ok (.pointer (some ⟨b, o + f.offset, none⟩)) w := by
            have hadd : (Addr.mk b o none).add f.offset = ⟨b, o + f.offset, none⟩ := by
              unfold Addr.add; split
              · rename_i h; rw [h]; rfl
              · rfl
            simp only [Instr.fieldAt, Sem.run_bind, run_underlying hT, Result.andThen, hi, Instr.sureAddr, fieldPlace, Sem.run_pure, run_sizeOf' hj, if_neg h0, hadd]
          rw [this]; rfl
  · cases hf
theorem q_lenS {x : Operand} {T E : TypeId} {ad : Option Addr} {k c : Nat} (hT : P.underlying T = some (.slice E)) (hx : ev s.env x = some (true, .slice ad k c)) :
    Quiet P n ⟨d, .call ⟨.builtin .len, #[x], #[T]⟩, ty, pos, af, gd⟩ s (.int .i64 k) := .run1 hx fun ρ w h1 => by
  have hT' : P.underlying T = some (.slice (P.elem T)) := by rw [hT]; unfold Program.elem; rw [hT]
  have : (Builtin.len_ #[T] ty #[.slice ad k c]).run P w = .ok (.int .i64 k) w := run_len_slice _ _ _ _ _ _ hT'
  have e : (execOp ρ ⟨d, .call ⟨.builtin .len, #[x], #[T]⟩, ty, pos, af, gd⟩) = (Builtin.len_ #[T] ty (#[x].map ρ)).bind fun r => Sem.pure (Next.value r) := rfl
  rw [e, show #[x].map ρ = #[.slice ad k c] by simp [h1], Sem.run_bind', this]; rfl
theorem q_lenStr {x : Operand} {T : TypeId} {b : ByteArray} (hT : P.underlying T = some .string) (hx : ev s.env x = some (true, .string b)) :
    Quiet P n ⟨d, .call ⟨.builtin .len, #[x], #[T]⟩, ty, pos, af, gd⟩ s (.int .i64 b.size) := .run1 hx fun ρ w h1 => by
  have : (Builtin.len_ #[T] ty #[.string b]).run P w = .ok (.int .i64 b.size) w := run_len_string _ _ _ _ hT
  have e : (execOp ρ ⟨d, .call ⟨.builtin .len, #[x], #[T]⟩, ty, pos, af, gd⟩) = (Builtin.len_ #[T] ty (#[x].map ρ)).bind fun r => Sem.pure (Next.value r) := rfl
  rw [e, show #[x].map ρ = #[.string b] by simp [h1], Sem.run_bind', this]; rfl
theorem q_min {x y : Operand} {ts : Array TypeId} {k : IntKind} {a b : Int} (hx : ev s.env x = some (true, .int k a)) (hy : ev s.env y = some (true, .int k b)) :
    Quiet P n ⟨d, .call ⟨.builtin .min, #[x, y], ts⟩, ty, pos, af, gd⟩ s (.int k (min a b)) := .run2 hx hy fun ρ w h1 h2 => by
  have e : (execOp ρ ⟨d, .call ⟨.builtin .min, #[x, y], ts⟩, ty, pos, af, gd⟩) = (Builtin.min_ ts ty (#[x, y].map ρ)).bind fun r => Sem.pure (Next.value r) := rfl
  rw [e, show #[x, y].map ρ = #[.int k a, .int k b] by simp [h1, h2], Sem.run_bind', run_min_int2]
  have : (if b < a then b else a) = min a b := by omega
  rw [this]; rfl
theorem q_max {x y : Operand} {ts : Array TypeId} {k : IntKind} {a b : Int} (hx : ev s.env x = some (true, .int k a)) (hy : ev s.env y = some (true, .int k b)) :
    Quiet P n ⟨d, .call ⟨.builtin .max, #[x, y], ts⟩, ty, pos, af, gd⟩ s (.int k (max a b)) := .run2 hx hy fun ρ w h1 h2 => by
  have e : (execOp ρ ⟨d, .call ⟨.builtin .max, #[x, y], ts⟩, ty, pos, af, gd⟩) = (Builtin.max_ ts ty (#[x, y].map ρ)).bind fun r => Sem.pure (Next.value r) := rfl
  rw [e, show #[x, y].map ρ = #[.int k a, .int k b] by simp [h1, h2], Sem.run_bind', run_max_int2]
  have : (if b > a then b else a) = max a b := by omega
  rw [this]; rfl
theorem q_build {T : TypeId} {l : List (Nat × Operand)} {xs : List Operand} {vs : List Value} {cells : Array Value} (hxs : l.map (·.2) = xs) (hx : evs s.env xs = some vs) (hb : P.built T ((l.map (·.1)).zip vs) = some cells) :
    Quiet P n ⟨d, .build T l.toArray, ty, pos, af, gd⟩ s (.agg cells) := fun w S fp a hst he hn => by
  have hm := evs_map he xs vs hx
  have : (execOp a.eval ⟨d, .build T l.toArray, ty, pos, af, gd⟩).run P w = .ok (.value (.agg cells)) w := by
    have e : (execOp a.eval ⟨d, .build T l.toArray, ty, pos, af, gd⟩) = (Instr.build T (l.toArray.map fun (i, x) => (i, a.eval x))).bind fun r => Sem.pure (Next.value r) := rfl
    have e2 : l.toArray.map (fun (i, x) => (i, a.eval x)) = ((l.map (·.1)).zip vs).toArray := by
      rw [← hm, ← hxs]
      simp only [List.map_toArray, List.map_map]
      congr 1
      rw [List.zip_map']
      rfl
    rw [e, e2, Sem.run_bind', run_build w T _ cells (by simpa using hb)]; rfl
  rw [this]; exact uponQ_ok _ _

/-! calls -/
def callOk (P : Program) (f : FuncId) : Bool :=
  match P.funcs[f]? with
  | some fn => fn.name != "runtime.NumGoroutine" && fn.body.isSome
  | none => false
theorem run_callFunc {f : FuncId} (hf : callOk P f = true) (args : Array Value) (w : World) : (callFunc f args).run P w = .ok (.enter f args) w := by
  unfold callOk at hf
  cases h : P.funcs[f]? with
  | none => rw [h] at hf; cases hf
  | some fn =>
    rw [h] at hf
    simp only [Bool.and_eq_true, bne_iff_ne, ne_eq] at hf
    obtain ⟨h1, h2⟩ := hf
    cases hb : fn.body with
    | none => rw [hb] at h2; cases h2
    | some c => simp [callFunc, program, Sem.run_bind, Sem.run, h, Result.andThen, h1, hb]
theorem exec_call {f : FuncId} (hf : callOk P f = true) {l : List Operand} {ts : Array TypeId} {g : Operand} {caps : Array Value} {ρ : Operand → Value} (hg : ρ g = .func (.func f) #[] caps) {vs : List Value} (hv : l.map ρ = vs) (w : World) :
    (execOp ρ ⟨d, .call ⟨.value g, l.toArray, ts⟩, ty, pos, af, gd⟩).run P w = .ok (.enter f (vs.toArray ++ caps)) w := by
  unfold execOp
  dsimp only
  show ((resolve ρ ⟨.value g, l.toArray, ts⟩ ty).bind fun x => invoke x.target x.args).run P w = _
  have : resolve ρ ⟨.value g, l.toArray, ts⟩ ty = Sem.pure { target := .fn (.func f) caps, args := vs.toArray } := by
    unfold resolve
    dsimp only
    rw [hg]
    show Deferred.ofValue _ _ = _
    unfold Deferred.ofValue
    dsimp only
    rw [List.map_toArray, hv, Array.empty_append]
    rfl
  rw [this]
  show (callFunc f (vs.toArray ++ caps)).run P w = _
  exact run_callFunc hf _ w
/-- a call that changes nothing old -/
theorem q_call {f : FuncId} (hf : callOk P f = true) {l : List Operand} {ts : Array TypeId} {vs : List Value} (hx : evs s.env l = some vs)
    (hc : ∀ w S fp, St w S fp s.ps s.hp → Calls P f vs.toArray w fun e w' => e = .returned v ∧ Below w.heap.size w w') :
    Quiet P n ⟨d, .call ⟨.value (.func f), l.toArray, ts⟩, ty, pos, af, gd⟩ s v := fun w S fp a hst he hn => by
  rw [exec_call hf (caps := #[]) rfl (evs_map he l vs hx), Array.append_empty]
  exact (hc w S fp hst).mono fun e w' ⟨h1, h2⟩ => ⟨v, h1, rfl, h2⟩

/-- a function's contract over states: what it is given, what it leaves -/
def Con (P : Program) (f : FuncId) (args : List Value) (ps : List Per) (hp : List Res) (R : Value → List Per → List Res → Prop) : Prop :=
  ∀ (w : World) (S : Blks) (fp : Nat → Blks), St w S fp ps hp → Calls P f args.toArray w fun e w' => ∃ v ps' hp' S' fp', e = .returned v ∧ R v ps' hp' ∧ St w' S' fp' ps' hp' ∧ Evo w S (tot fp hp.length) w' S' ∧
    ∀ b, tot fp' hp'.length b → tot fp hp.length b ∨ w.heap.size ≤ b
/-- what is to be shown where a body ends -/
def PostF (P : Program) (fn : Func) (R : Value → List Per → List Res → Prop) (e : Exit) (s : Sta) : Prop :=
  (e = .normal ∨ e = .ret) ∧ ∃ v lp lh, okH s.hp lh = true ∧ (∀ a w S fp, St w S fp s.ps s.hp → EnvOk a s.env → (results fn a.tmps).run P w = .ok v w) ∧ R v (keepP s.ps lp) (keepH s.hp lh)
/-- into a function's body -/
theorem Con.enter {f : FuncId} {fn : Func} {c : Code} {args : List Value} {ps : List Per} {hp : List Res} {R : Value → List Per → List Res → Prop} (hf : P.funcs[f]? = some fn) (hb : fn.body = some c) (hle : args.length ≤ fn.ntmps)
    (h : awp P fn.ntmps c (PostF P fn R) ⟨(List.range args.length).zipWith (fun i v => (i, true, v)) args, ps, hp⟩) : Con P f args ps hp R := fun w S fp hst => by
  refine calls_of_wp hf hb (Code.wp_mono (fun e a w' hq => ?_) (h w S fp _ hst ?_ ?_ rfl))
  · obtain ⟨s', S', fp', ⟨he, v, lp, lh, ok, hr, hR⟩, hst', henv, hn, hd, hE, hg⟩ := hq
    obtain ⟨k1, k2⟩ := hst'.keepH lp lh ok
    have := hr a w' S' fp' hst' henv
    rcases he with rfl | rfl
    · exact ⟨hd, v, this, v, _, _, S', _, rfl, hR, k1, hE, fun b hb => hg b (k2 b hb)⟩
    · exact ⟨hd, v, this, v, _, _, S', _, rfl, hR, k1, hE, fun b hb => hg b (k2 b hb)⟩
  · intro t g v ht
    have key : ∀ (l : List Value) (k : Nat), look ((List.range' k l.length).zipWith (fun i v => (i, true, v)) l) t = some (g, v) → k ≤ t ∧ g = true ∧ l[t - k]? = some v := by
      intro l
      induction l with
      | nil => intro k h; simp [look] at h
      | cons x l ih =>
        intro k h
        rw [List.length_cons, List.range'_succ, List.zipWith_cons_cons] at h
        unfold look at h
        split at h
        · rename_i hkt
          obtain rfl : k = t := by simpa using hkt
          simp only [Option.some.injEq, Prod.mk.injEq] at h
          obtain ⟨rfl, rfl⟩ := h
          simp
        · obtain ⟨h1, h2, h3⟩ := ih (k + 1) h
          refine ⟨by omega, h2, ?_⟩
          rw [show t - k = (t - (k + 1)) + 1 by omega, List.getElem?_cons_succ]
          exact h3
    rw [List.range_eq_range'] at ht
    obtain ⟨_, rfl, h3⟩ := key args 0 ht
    simp only [Nat.sub_zero] at h3
    have hlt := (List.getElem?_eq_some_iff.1 h3).1
    simp only [Array.getD_eq_getD_getElem?, Array.getElem?_append, List.size_toArray, if_pos hlt, List.getElem?_toArray, h3, cond_true, Option.getD_some]
  · simp
    omega
theorem Evo.toX {w w' : World} {S X S' : Blks} (h : Evo w S X w' S') (hX : ∀ b, ¬ X b) : Below w.heap.size w w' := h.toBelow fun b _ => hX b
/-- a contract of a function that is given nothing of its own: nothing old changes -/
theorem Con.quiet {f : FuncId} {args : List Value} {ps : List Per} (h : Con P f args ps [] fun u _ _ => u = v) {w : World} {S : Blks} {fp : Nat → Blks} {ps' : List Per} {hp : List Res} (hsub : ∀ p ∈ ps, p ∈ ps') (hst : St w S fp ps' hp) :
    Calls P f args.toArray w fun e w' => e = .returned v ∧ Below w.heap.size w w' :=
  (h w S fp ⟨fun p hp => hst.per p (hsub p hp), fun i R hR => by simp at hR, fun i hi => by simp at hi, fun i j hi => by simp at hi, hst.slt⟩).mono fun e w' ⟨u, _, _, _, _, he, hu, _, hE, _⟩ => ⟨hu ▸ he, hE.toX fun b ⟨i, hi, _⟩ => by simp at hi⟩
theorem Con.quiet0 {f : FuncId} {args : List Value} (h : Con P f args [] [] fun u _ _ => u = v) {w : World} {S : Blks} {fp : Nat → Blks} {ps' : List Per} {hp : List Res} (hst : St w S fp ps' hp) :
    Calls P f args.toArray w fun e w' => e = .returned v ∧ Below w.heap.size w w' := h.quiet (fun _ h => by cases h) hst
theorem Con.quiet1 {f : FuncId} {args : List Value} {p : Per} (h : Con P f args [p] [] fun u _ _ => u = v) {w : World} {S : Blks} {fp : Nat → Blks} {ps' : List Per} {hp : List Res} (hp1 : p ∈ ps') (hst : St w S fp ps' hp) :
    Calls P f args.toArray w fun e w' => e = .returned v ∧ Below w.heap.size w w' := h.quiet (fun _ h => by rw [List.mem_singleton.1 h]; exact hp1) hst
end
end Go.Sy
