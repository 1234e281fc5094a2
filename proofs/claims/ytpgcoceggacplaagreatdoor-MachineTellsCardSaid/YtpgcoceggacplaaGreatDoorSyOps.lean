/- A logic of states: the operations. No condition. -/
import Derived.Test.YtpgcoceggacplaaGreatDoorSyReg
set_option linter.unusedVariables false
set_option linter.unusedSimpArgs false
set_option maxRecDepth 20000
namespace Go.Sy
open Go.RowKit

/-! structural rules -/
section
variable {P : Program} {n : Nat} {ops : Array Oper} {Q : Exit → Sta → Prop} {s : Sta}

theorem look_keepE (env : Env) : ∀ (l : List Nat) (t : Nat) (g : Bool) (v : Value), look (keepE env l) t = some (g, v) → look env t = some (g, v)
  | [], _, _, _, h => by cases h
  | k :: l, t, g, v, h => by
    unfold keepE at h
    rw [List.filterMap_cons] at h
    cases hk : look env k with
    | none => rw [hk] at h; exact look_keepE env l t g v h
    | some x =>
      rw [hk] at h
      simp only [Option.map_some, look] at h
      split at h
      · rename_i hkt
        obtain rfl : k = t := by simpa using hkt
        rw [hk]; exact h
      · exact look_keepE env l t g v h
theorem St.keepH {w : World} {S : Blks} {fp : Nat → Blks} {ps : List Per} {hp : List Res} (h : St w S fp ps hp) (lp lh : List Nat) (ok : okH hp lh = true) :
    St w S (fun k => fp (lh.getD k 0)) (keepP ps lp) (keepH hp lh) ∧ ∀ b, tot (fun k => fp (lh.getD k 0)) (Sy.keepH hp lh).length b → tot fp hp.length b := by
  simp only [okH, Bool.and_eq_true, decide_eq_true_eq] at ok
  have hlt : ∀ k (hk : k < lh.length), lh[k] < hp.length := fun k hk => by simpa using List.all_eq_true.1 ok.1 _ (List.getElem_mem hk)
  have hg : ∀ k, k < lh.length → lh.getD k 0 < hp.length := fun k hk => by simpa [List.getD, hk] using hlt k hk
  have hnd : ∀ i j, i < lh.length → j < lh.length → i ≠ j → lh.getD i 0 ≠ lh.getD j 0 := fun i j hi hj hne he => by
    simp only [List.getD, List.getElem?_eq_getElem hi, List.getElem?_eq_getElem hj, Option.getD_some] at he
    have hp := List.pairwise_iff_getElem.1 ok.2
    rcases Nat.lt_or_gt_of_ne hne with hlt' | hlt'
    · exact hp i j hi hj hlt' he
    · exact hp j i hj hi hlt' he.symm
  refine ⟨⟨fun p hp' => ?_, fun i R hR => ?_, fun i hi b hb => ?_, fun i j hi hj hne b hb => ?_, h.slt⟩, fun b ⟨i, hi, hb⟩ => ⟨lh.getD i 0, hg i (by simpa [Sy.keepH] using hi), hb⟩⟩
  · obtain ⟨k, _, hk⟩ := List.mem_filterMap.1 hp'
    exact h.per p (List.mem_reverse.1 (List.mem_of_getElem? hk))
  · unfold Sy.keepH at hR
    rw [List.getElem?_map] at hR
    cases hk : lh[i]? with
    | none => rw [hk] at hR; cases hR
    | some k =>
      rw [hk] at hR
      simp only [Option.map_some, Option.some.injEq] at hR
      have hik := (List.getElem?_eq_some_iff.1 hk).1
      have e : lh.getD i 0 = k := by simp [List.getD, hk]
      have hlt' : k < hp.length := by have := hg i hik; rw [e] at this; exact this
      rw [e]
      refine h.res k R ?_
      rw [← hR, List.getElem?_eq_getElem hlt']
      simp [List.getD, hlt']
  · have hi' : i < lh.length := by simpa [Sy.keepH] using hi
    exact h.lt _ (hg i hi') b hb
  · have hi' : i < lh.length := by simpa [Sy.keepH] using hi
    have hj' : j < lh.length := by simpa [Sy.keepH] using hj
    exact h.dj _ _ (hg i hi') (hg j hj') (hnd i j hi' hj' hne) b hb
/-- forget: keep these slots, these facts, these resources (in this order) -/
theorem awp_keep {c : Code} (le lp lh : List Nat) (ok : okH s.hp lh = true) (h : awp P n c Q ⟨keepE s.env le, keepP s.ps lp, keepH s.hp lh⟩) : awp P n c Q s := fun w S fp a hst he hn hd => by
  obtain ⟨h1, h2⟩ := hst.keepH lp lh ok
  exact Code.wp_mono (fun e a' w' hp => PostA.trans (Evo.refl _ _ _) (fun b hb => .inl (h2 b hb)) hp) (h w S _ a h1 (he.sub (look_keepE _ le)) hn hd)
/-- a fact out of the state -/
theorem awp_know {c : Code} {φ : Prop} (h0 : ∀ w S fp, St w S fp s.ps s.hp → φ) (h : φ → awp P n c Q s) : awp P n c Q s := fun w S fp a hst he hn hd => h (h0 w S fp hst) w S fp a hst he hn hd
/-- a goal of a state may be reached from a state that says less -/
theorem PostA.keep {w w' : World} {S X : Blks} {e : Exit} {a : Act} (h : PostA Q n w S X e a w') {Q' : Exit → Sta → Prop} (le lp lh : Sta → List Nat)
    (hq : ∀ s, Q e s → okH s.hp (lh s) = true ∧ Q' e ⟨keepE s.env (le s), keepP s.ps (lp s), keepH s.hp (lh s)⟩) : PostA Q' n w S X e a w' := by
  obtain ⟨s, S', fp', h1, hst, he, hn, hd, hE, hg⟩ := h
  obtain ⟨ok, hq'⟩ := hq s h1
  obtain ⟨k1, k2⟩ := hst.keepH (lp s) (lh s) ok
  exact ⟨_, S', _, hq', k1, he.sub (look_keepE _ _), hn, hd, hE, fun b hb => hg b (k2 b hb)⟩
theorem PostA.keepN {w w' : World} {S X : Blks} {a : Act} {K : Sta → Prop} (h : PostA (thn (fun s => ∃ le lp lh, okH s.hp lh = true ∧ K (keepS s le lp lh)) Q) n w S X .normal a w') : PostA (thn K Q) n w S X .normal a w' := by
  obtain ⟨s, S', fp', ⟨le, lp, lh, ok, hK⟩, hst, he, hn, hd, hE, hg⟩ := h
  obtain ⟨k1, k2⟩ := hst.keepH lp lh ok
  exact ⟨_, S', _, hK, k1, he.sub (look_keepE _ _), hn, hd, hE, fun b hb => hg b (k2 b hb)⟩
/-- a loop, whose head is kept to what lasts -/
theorem awp_loopK {X : Type} {c : Code} (le lp lh : List Nat) (I : X → Sta → Prop) (μ : X → Nat) (ok : okH s.hp lh = true) (h0 : ∃ x, I x (keepS s le lp lh))
    (round : ∀ x s, I x s → awp P n c (thn (fun s' => ∃ le lp lh, okH s'.hp lh = true ∧ ∃ x', I x' (keepS s' le lp lh) ∧ μ x' < μ x) Q) s) : awp P n (.loop c) Q s := by
  obtain ⟨x, h0⟩ := h0
  refine awp_keep le lp lh ok (awp_loop I μ x h0 fun x s hI w S fp a hst he hn hd => ?_)
  exact Code.wp_mono (fun e a' w' hp => by
    cases e with
    | normal => exact PostA.keepN hp
    | _ => exact hp) (round x s hI w S fp a hst he hn hd)
/-- the normal end of a piece: what the rest needs -/
theorem awp_then {c : Code} {K K' : Sta → Prop} (le lp lh : List Nat) (hK : ∀ s, K s → okH s.hp lh = true ∧ K' ⟨keepE s.env le, keepP s.ps lp, keepH s.hp lh⟩) (h : awp P n c (thn K Q) s) : awp P n c (thn K' Q) s := fun w S fp a hst he hn hd =>
  Code.wp_mono (fun e a' w' hp => by
    cases e with
    | normal => exact hp.keep (fun _ => le) (fun _ => lp) (fun _ => lh) (fun s h => hK s h)
    | _ => exact hp) (h w S fp a hst he hn hd)
end

/-! operations that touch no memory -/
section
variable {P : Program} {n : Nat} {s : Sta} {d : Option Tmp} {ty : TypeId} {pos : String} {af : Array Edge} {gd : Option (Nat × Bool)} {v : Value}
theorem uponQ_ok (v : Value) (w : World) : uponQ P v w (.ok (.value v) w) := ⟨rfl, Below.refl _ _⟩
theorem Quiet.run0 {o : Oper} (h : ∀ (ρ : Operand → Value) (w : World), (execOp ρ o).run P w = .ok (.value v) w) : Quiet P n o s v := fun w S fp a hst he hn => by rw [h]; exact uponQ_ok v w
theorem Quiet.run1 {o : Oper} {x : Operand} {vx : Value} (hx : ev s.env x = some (true, vx)) (h : ∀ (ρ : Operand → Value) (w : World), ρ x = vx → (execOp ρ o).run P w = .ok (.value v) w) : Quiet P n o s v := fun w S fp a hst he hn => by
  rw [h a.eval w (he.val hx rfl)]; exact uponQ_ok v w
theorem Quiet.run2 {o : Oper} {x y : Operand} {vx vy : Value} (hx : ev s.env x = some (true, vx)) (hy : ev s.env y = some (true, vy)) (h : ∀ (ρ : Operand → Value) (w : World), ρ x = vx → ρ y = vy → (execOp ρ o).run P w = .ok (.value v) w) : Quiet P n o s v := fun w S fp a hst he hn => by
  rw [h a.eval w (he.val hx rfl) (he.val hy rfl)]; exact uponQ_ok v w
/-- an operand under a guard that is known to say yes -/
theorem ev_yes {env : Env} {x : Operand} {g : Bool} {v : Value} (h : ev env x = some (g, v)) (hg : g = true) : ev env x = some (true, v) := by rw [h, hg]

theorem q_move {x : Operand} (hx : ev s.env x = some (true, v)) : Quiet P n ⟨d, .move x, ty, pos, af, gd⟩ s v := .run1 hx fun ρ w h => by subst h; rfl
theorem q_assign {x : Operand} (hx : ev s.env x = some (true, v)) : Quiet P n ⟨d, .assign x, ty, pos, af, gd⟩ s v := .run1 hx fun ρ w h => by subst h; rfl
theorem q_and {c x : Operand} {b1 b2 gx : Bool} (hc : ev s.env c = some (true, .bool b1)) (hx : ev s.env x = some (gx, .bool b2)) (hg : b1 = true → gx = true) :
    Quiet P n ⟨d, .pick c x (.const (.bool false)), ty, pos, af, gd⟩ s (.bool (b1 && b2)) := fun w S fp a hst he hn => by
  have h1 := he.val hc rfl
  have h2 := he.eval hx
  have : (execOp a.eval ⟨d, .pick c x (.const (.bool false)), ty, pos, af, gd⟩).run P w = .ok (.value (if b1 then a.eval x else .bool false)) w := by
    unfold execOp; dsimp only; rw [h1]; cases b1 <;> rfl
  rw [this]
  cases b1 with
  | true => rw [h2, hg rfl]; exact uponQ_ok _ _
  | false => exact uponQ_ok _ _
theorem q_or {c x : Operand} {b1 b2 gx : Bool} (hc : ev s.env c = some (true, .bool b1)) (hx : ev s.env x = some (gx, .bool b2)) (hg : b1 = false → gx = true) :
    Quiet P n ⟨d, .pick c (.const (.bool true)) x, ty, pos, af, gd⟩ s (.bool (b1 || b2)) := fun w S fp a hst he hn => by
  have h1 := he.val hc rfl
  have h2 := he.eval hx
  have : (execOp a.eval ⟨d, .pick c (.const (.bool true)) x, ty, pos, af, gd⟩).run P w = .ok (.value (if b1 then .bool true else a.eval x)) w := by
    unfold execOp; dsimp only; rw [h1]; cases b1 <;> rfl
  rw [this]
  cases b1 with
  | true => exact uponQ_ok _ _
  | false => rw [if_neg Bool.false_ne_true, h2, hg rfl]; exact uponQ_ok _ _
section
variable {x y : Operand} {k : IntKind} {a b : Int} {t t' : TypeId}
theorem q_add (hx : ev s.env x = some (true, .int k a)) (hy : ev s.env y = some (true, .int k b)) : Quiet P n ⟨d, .binOp .add t x y t', ty, pos, af, gd⟩ s (.int k (k.wrap (a + b))) :=
  .run2 hx hy fun ρ w h1 h2 => by unfold execOp; dsimp only; rw [h1, h2]; cases k <;> rfl
theorem q_sub (hx : ev s.env x = some (true, .int k a)) (hy : ev s.env y = some (true, .int k b)) : Quiet P n ⟨d, .binOp .sub t x y t', ty, pos, af, gd⟩ s (.int k (k.wrap (a - b))) :=
  .run2 hx hy fun ρ w h1 h2 => by unfold execOp; dsimp only; rw [h1, h2]; cases k <;> rfl
theorem q_mul (hx : ev s.env x = some (true, .int k a)) (hy : ev s.env y = some (true, .int k b)) : Quiet P n ⟨d, .binOp .mul t x y t', ty, pos, af, gd⟩ s (.int k (k.wrap (a * b))) :=
  .run2 hx hy fun ρ w h1 h2 => by unfold execOp; dsimp only; rw [h1, h2]; cases k <;> rfl
theorem i64_in {n : Int} (h : -9223372036854775808 ≤ n ∧ n ≤ 9223372036854775807) : IntKind.i64.wrap n = n := by rw [IntKind.wrap_i64]; omega
theorem q_addi (hx : ev s.env x = some (true, .int .i64 a)) (hy : ev s.env y = some (true, .int .i64 b)) (h : -9223372036854775808 ≤ a + b ∧ a + b ≤ 9223372036854775807) : Quiet P n ⟨d, .binOp .add t x y t', ty, pos, af, gd⟩ s (.int .i64 (a + b)) := by
  have := q_add (P := P) (n := n) (d := d) (ty := ty) (pos := pos) (af := af) (gd := gd) (t := t) (t' := t') hx hy; rw [i64_in h] at this; exact this
theorem q_subi (hx : ev s.env x = some (true, .int .i64 a)) (hy : ev s.env y = some (true, .int .i64 b)) (h : -9223372036854775808 ≤ a - b ∧ a - b ≤ 9223372036854775807) : Quiet P n ⟨d, .binOp .sub t x y t', ty, pos, af, gd⟩ s (.int .i64 (a - b)) := by
  have := q_sub (P := P) (n := n) (d := d) (ty := ty) (pos := pos) (af := af) (gd := gd) (t := t) (t' := t') hx hy; rw [i64_in h] at this; exact this
theorem q_muli (hx : ev s.env x = some (true, .int .i64 a)) (hy : ev s.env y = some (true, .int .i64 b)) (h : -9223372036854775808 ≤ a * b ∧ a * b ≤ 9223372036854775807) : Quiet P n ⟨d, .binOp .mul t x y t', ty, pos, af, gd⟩ s (.int .i64 (a * b)) := by
  have := q_mul (P := P) (n := n) (d := d) (ty := ty) (pos := pos) (af := af) (gd := gd) (t := t) (t' := t') hx hy; rw [i64_in h] at this; exact this
theorem q_lss (hx : ev s.env x = some (true, .int k a)) (hy : ev s.env y = some (true, .int k b)) : Quiet P n ⟨d, .binOp .lss t x y t', ty, pos, af, gd⟩ s (.bool (decide (a < b))) :=
  .run2 hx hy fun ρ w h1 h2 => by unfold execOp; dsimp only; rw [h1, h2]; cases k <;> rfl
theorem q_leq (hx : ev s.env x = some (true, .int k a)) (hy : ev s.env y = some (true, .int k b)) : Quiet P n ⟨d, .binOp .leq t x y t', ty, pos, af, gd⟩ s (.bool (decide (a ≤ b))) :=
  .run2 hx hy fun ρ w h1 h2 => by unfold execOp; dsimp only; rw [h1, h2]; cases k <;> rfl
theorem q_gtr (hx : ev s.env x = some (true, .int k a)) (hy : ev s.env y = some (true, .int k b)) : Quiet P n ⟨d, .binOp .gtr t x y t', ty, pos, af, gd⟩ s (.bool (decide (b < a))) :=
  .run2 hx hy fun ρ w h1 h2 => by unfold execOp; dsimp only; rw [h1, h2]; cases k <;> rfl
theorem q_geq (hx : ev s.env x = some (true, .int k a)) (hy : ev s.env y = some (true, .int k b)) : Quiet P n ⟨d, .binOp .geq t x y t', ty, pos, af, gd⟩ s (.bool (decide (b ≤ a))) :=
  .run2 hx hy fun ρ w h1 h2 => by unfold execOp; dsimp only; rw [h1, h2]; cases k <;> rfl
theorem q_eql (hx : ev s.env x = some (true, .int k a)) (hy : ev s.env y = some (true, .int k b)) : Quiet P n ⟨d, .binOp .eql t x y t', ty, pos, af, gd⟩ s (.bool (decide (a = b))) :=
  .run2 hx hy fun ρ w h1 h2 => by unfold execOp; dsimp only; rw [h1, h2]; cases k <;> rfl
theorem q_neq (hx : ev s.env x = some (true, .int k a)) (hy : ev s.env y = some (true, .int k b)) : Quiet P n ⟨d, .binOp .neq t x y t', ty, pos, af, gd⟩ s (.bool (!decide (a = b))) :=
  .run2 hx hy fun ρ w h1 h2 => by unfold execOp; dsimp only; rw [h1, h2]; cases k <;> rfl
theorem q_rem (hx : ev s.env x = some (true, .int k a)) (hy : ev s.env y = some (true, .int k b)) (h0 : b ≠ 0) : Quiet P n ⟨d, .binOp .rem t x y t', ty, pos, af, gd⟩ s (.int k (a.tmod b)) :=
  .run2 hx hy fun ρ w h1 h2 => by
    have e : Op.intDiv .rem k a b = pure (.int k (a.tmod b)) := by unfold Op.intDiv; rw [if_neg h0]
    unfold execOp; dsimp only; rw [h1, h2]
    have e2 : (do eqGuard BinOp.rem t x y (Value.int k a) (Value.int k b); binOp BinOp.rem t (Value.int k a) (Value.int k b)) = Op.intDiv .rem k a b := by cases k <;> rfl
    rw [e2, e]; rfl
theorem q_quo (hx : ev s.env x = some (true, .int k a)) (hy : ev s.env y = some (true, .int k b)) (h0 : b ≠ 0) : Quiet P n ⟨d, .binOp .quo t x y t', ty, pos, af, gd⟩ s (.int k (k.wrap (a.tdiv b))) :=
  .run2 hx hy fun ρ w h1 h2 => by
    have e : Op.intDiv .quo k a b = pure (.int k (k.wrap (a.tdiv b))) := by unfold Op.intDiv; rw [if_neg h0]
    unfold execOp; dsimp only; rw [h1, h2]
    have e2 : (do eqGuard BinOp.quo t x y (Value.int k a) (Value.int k b); binOp BinOp.quo t (Value.int k a) (Value.int k b)) = Op.intDiv .quo k a b := by cases k <;> rfl
    rw [e2, e]; rfl
end
theorem q_not {x : Operand} {t : TypeId} {b : Bool} (hx : ev s.env x = some (true, .bool b)) : Quiet P n ⟨d, .unOp .not t x, ty, pos, af, gd⟩ s (.bool (!b)) := .run1 hx fun ρ w h => by unfold execOp; dsimp only; rw [h]; rfl
theorem q_extract {x : Operand} {i : Nat} {vs : Array Value} (hx : ev s.env x = some (true, .tuple vs)) (hi : vs[i]? = some v) : Quiet P n ⟨d, .extract x i, ty, pos, af, gd⟩ s v := .run1 hx fun ρ w h => by
  unfold execOp; dsimp only; rw [h]; unfold Instr.extract; dsimp only; rw [hi]; rfl
theorem q_makeFunc {fn : Fn} {captured : Array Operand} {vs : Array Value} (hx : ∀ ρ : Operand → Value, (∀ x g u, ev s.env x = some (g, u) → ρ x = bif g then u else undef) → captured.map ρ = vs) :
    Quiet P n ⟨d, .makeFunc fn #[] captured, ty, pos, af, gd⟩ s (.func fn #[] vs) := fun w S fp a hst he hn => by
  have : (execOp a.eval ⟨d, .makeFunc fn #[] captured, ty, pos, af, gd⟩).run P w = .ok (.value (.func fn #[] (captured.map a.eval))) w := by
    show Result.ok (Next.value (.func fn ((#[] : Array Operand).map a.eval) (captured.map a.eval))) w = _
    rw [Array.map_empty]
  rw [this, hx a.eval (fun x g u h => he.eval h)]
  exact uponQ_ok _ _
theorem q_func_gen {fn : Fn} {l : List Operand} {vs : List Value} (hx : ∀ a : Act, EnvOk a s.env → l.map a.eval = vs) :
    Quiet P n ⟨d, .makeFunc fn #[] l.toArray, ty, pos, af, gd⟩ s (.func fn #[] vs.toArray) := fun w S fp a hst he hn => by
  have : (execOp a.eval ⟨d, .makeFunc fn #[] l.toArray, ty, pos, af, gd⟩).run P w = .ok (.value (.func fn #[] (l.toArray.map a.eval))) w := by
    show Result.ok (Next.value (.func fn ((#[] : Array Operand).map a.eval) (l.toArray.map a.eval))) w = _
    rw [Array.map_empty]
  rw [this, List.map_toArray, hx a he]
  exact uponQ_ok _ _
theorem q_nilCheck {x : Operand} {p : Addr} (hx : ev s.env x = some (true, .pointer (some p))) : Quiet P n ⟨d, .nilCheck x, ty, pos, af, gd⟩ s (.pointer (some p)) := .run1 hx fun ρ w h => by
  unfold execOp; dsimp only; rw [h]; rfl
end
end Go.Sy
