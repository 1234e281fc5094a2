/- A logic of states: the rules that a walk uses. No condition. -/
import Derived.Test.YtpgcoceggacplaaGreatDoorSyEff
import Derived.OwnWalk
set_option linter.unusedVariables false
set_option linter.unusedSimpArgs false
set_option maxRecDepth 20000
namespace Go.Sy
open Go.RowKit
section
variable {P : Program} {n : Nat} {ops : Array Oper} {Q : Exit → Sta → Prop} {s : Sta} {K : Sta → Prop}
section
variable {env : Env} {ps : List Per} {hp : List Res} {d : Nat} {op : Op} {ty : TypeId} {pos : String} {af : Array Edge} {gd : Option (Nat × Bool)} {rest : List Oper} {v : Value}
theorem aL_s (c : Bool) (hc : guardOf ops env ⟨some d, op, ty, pos, af, gd⟩ = some c) (hd : fits n (some d) = true) (hq : c = true → Quiet P n ⟨some d, op, ty, pos, af, gd⟩ ⟨env, ps, hp⟩ v)
    (h : aL P n ops Q rest ⟨(d, c, v) :: env, ps, hp⟩) : aL P n ops Q (⟨some d, op, ty, pos, af, gd⟩ :: rest) ⟨env, ps, hp⟩ := aL_quiet c hc hd hq h
theorem aL_n (c : Bool) (hc : guardOf ops env ⟨none, op, ty, pos, af, gd⟩ = some c) (hq : c = true → Quiet P n ⟨none, op, ty, pos, af, gd⟩ ⟨env, ps, hp⟩ v)
    (h : aL P n ops Q rest ⟨env, ps, hp⟩) : aL P n ops Q (⟨none, op, ty, pos, af, gd⟩ :: rest) ⟨env, ps, hp⟩ := aL_quiet c hc rfl hq h
theorem aL_E {β : Type} {v : β → Value} {p1 : β → Per} (c : Bool) (hc : guardOf ops env ⟨some d, op, ty, pos, af, gd⟩ = some c) (hd : fits n (some d) = true) (hq : c = true → QuietE P n ⟨some d, op, ty, pos, af, gd⟩ ⟨env, ps, hp⟩ v (fun x => [p1 x])) (hin : c = false → Nonempty β)
    (h : ∀ x, aL P n ops Q rest ⟨(d, c, v x) :: env, cnd c (p1 x) :: ps, hp⟩) : aL P n ops Q (⟨some d, op, ty, pos, af, gd⟩ :: rest) ⟨env, ps, hp⟩ := aL_quietE c hc hd hq hin h
variable {V : List Nat} {k : Nat} {L : Array Bool}
theorem aB_s (i : Nat) (hi : ops[i]? = some ⟨some d, op, ty, pos, af, gd⟩) (hf : canFirst ops V L i = true) (c : Bool) (hc : guardOf ops env ⟨some d, op, ty, pos, af, gd⟩ = some c) (hd : fits n (some d) = true)
    (hq : c = true → Quiet P n ⟨some d, op, ty, pos, af, gd⟩ ⟨env, ps, hp⟩ v) (h : aB P n ops V Q k (L.setIfInBounds i true) ⟨(d, c, v) :: env, ps, hp⟩) : aB P n ops V Q (k + 1) L ⟨env, ps, hp⟩ := aB_quiet i hi hf c hc hd hq h
theorem aB_n (i : Nat) (hi : ops[i]? = some ⟨none, op, ty, pos, af, gd⟩) (hf : canFirst ops V L i = true) (c : Bool) (hc : guardOf ops env ⟨none, op, ty, pos, af, gd⟩ = some c)
    (hq : c = true → Quiet P n ⟨none, op, ty, pos, af, gd⟩ ⟨env, ps, hp⟩ v) (h : aB P n ops V Q k (L.setIfInBounds i true) ⟨env, ps, hp⟩) : aB P n ops V Q (k + 1) L ⟨env, ps, hp⟩ := aB_quiet i hi hf c hc rfl hq h
theorem aB_E {β : Type} {v : β → Value} {p1 : β → Per} (i : Nat) (hi : ops[i]? = some ⟨some d, op, ty, pos, af, gd⟩) (hf : canFirst ops V L i = true) (c : Bool) (hc : guardOf ops env ⟨some d, op, ty, pos, af, gd⟩ = some c) (hd : fits n (some d) = true)
    (hq : c = true → QuietE P n ⟨some d, op, ty, pos, af, gd⟩ ⟨env, ps, hp⟩ v (fun x => [p1 x])) (hin : c = false → Nonempty β)
    (h : ∀ x, aB P n ops V Q k (L.setIfInBounds i true) ⟨(d, c, v x) :: env, cnd c (p1 x) :: ps, hp⟩) : aB P n ops V Q (k + 1) L ⟨env, ps, hp⟩ := aB_quietE i hi hf c hc hd hq hin h
theorem evs_of {l : List Operand} {vs : List Value} (h : evs env l = some vs) : evs env l = some vs := h
theorem evs_cons {x : Operand} {l : List Operand} {v : Value} {vs : List Value} (h : ev env x = some (true, v)) (h' : evs env l = some vs) : evs env (x :: l) = some (v :: vs) := by unfold evs; rw [h, h']
end
/-- a slice's length is an int -/
theorem awp_len {c : Code} {ad : Option Addr} {m cp : Nat} {rows : List (List D)} (i : Nat) (hs : s.ps[i]? = some (Sh (.slice ad m cp) (.sl rows))) (h : rows.length ≤ 9223372036854775807 → awp P n c Q s) : awp P n c Q s :=
  awp_know (fun w S fp hst => by
    have h := hst.per _ (List.mem_of_getElem? hs)
    cases h with
    | e a c hc => simp
    | sl b o c sz rows us hb hn hc _ _ _ => unfold maxLen at hc; omega) h
theorem thn_n (h : K s) : thn K Q .normal s := h
theorem thn_e {id : Nat} (h : Q (.exit id) s) : thn K Q (.exit id) s := h
theorem thn_r (h : Q .ret s) : thn K Q .ret s := h
theorem blk_n {id : Nat} (h : Q .normal s) : blk id Q .normal s := h
theorem blk_r {id : Nat} (h : Q .ret s) : blk id Q .ret s := h
theorem blk_hit {id : Nat} (h : Q .normal s) : blk id Q (.exit id) s := by unfold blk; dsimp only; rw [if_pos rfl]; exact h
theorem blk_miss {id id' : Nat} (hne : (id' == id) = false) (h : Q (.exit id') s) : blk id Q (.exit id') s := by unfold blk; dsimp only; rw [if_neg (by simpa using hne)]; exact h
theorem gL {a b : Bool} (h : (a && b) = true) : a = true := (Bool.and_eq_true _ _ ▸ h).1
theorem gt {a b : Bool} (ha : a = true) (h : b = true) : (a && (b == true)) = true := by rw [ha, h]; rfl
theorem gf {a b : Bool} (ha : a = true) (h : b = false) : (a && (b == false)) = true := by rw [ha, h]; rfl
theorem gT {a b : Bool} (h : (a && (b == true)) = true) : b = true := by cases a <;> cases b <;> simp_all
theorem gF {a b : Bool} (h : (a && (b == false)) = true) : b = false := by cases a <;> cases b <;> simp_all
theorem psAt {l : List Per} {p : Per} (i : Nat) (h : l[i]? = some p) : p ∈ l := List.mem_of_getElem? h
theorem fin1 {fn : Func} {t : Nat} {v : Value} {R : Value → List Per → List Res → Prop} {e : Exit} (lp lh : List Nat) (ok : okH s.hp lh = true) (hr : fn.results = #[.tmp t]) (hl : look s.env t = some (true, v)) (h : R v (keepP s.ps lp) (keepH s.hp lh)) (he : e = .normal ∨ e = .ret) : PostF P fn R e s :=
  ⟨he, v, lp, lh, ok, fun a w S fp hst henv => by have := henv t true v hl; simp only [cond_true] at this; rw [results_tmp hr, this], h⟩
theorem fin2 {fn : Func} {t u : Nat} {v v' : Value} {R : Value → List Per → List Res → Prop} {e : Exit} (lp lh : List Nat) (ok : okH s.hp lh = true) (hr : fn.results = #[.tmp t, .tmp u]) (hl : look s.env t = some (true, v)) (hl' : look s.env u = some (true, v')) (h : R (.tuple #[v, v']) (keepP s.ps lp) (keepH s.hp lh)) (he : e = .normal ∨ e = .ret) : PostF P fn R e s :=
  ⟨he, .tuple #[v, v'], lp, lh, ok, fun a w S fp hst henv => by have h1 := henv t true v hl; have h2 := henv u true v' hl'; simp only [cond_true] at h1 h2; rw [results_tmp2 hr, h1, h2], h⟩
theorem fin3 {fn : Func} {t u x : Nat} {v v' v'' : Value} {R : Value → List Per → List Res → Prop} {e : Exit} (lp lh : List Nat) (ok : okH s.hp lh = true) (hr : fn.results = #[.tmp t, .tmp u, .tmp x]) (hl : look s.env t = some (true, v)) (hl' : look s.env u = some (true, v')) (hl'' : look s.env x = some (true, v'')) (h : R (.tuple #[v, v', v'']) (keepP s.ps lp) (keepH s.hp lh)) (he : e = .normal ∨ e = .ret) : PostF P fn R e s :=
  ⟨he, .tuple #[v, v', v''], lp, lh, ok, fun a w S fp hst henv => by have h1 := henv t true v hl; have h2 := henv u true v' hl'; have h3 := henv x true v'' hl''; simp only [cond_true] at h1 h2 h3; rw [results_tmp3 hr, h1, h2, h3], h⟩
theorem fin0 {fn : Func} {R : Value → List Per → List Res → Prop} {e : Exit} (lp lh : List Nat) (ok : okH s.hp lh = true) (hr : fn.results = #[]) (h : R (.tuple #[]) (keepP s.ps lp) (keepH s.hp lh)) (he : e = .normal ∨ e = .ret) : PostF P fn R e s :=
  ⟨he, .tuple #[], lp, lh, ok, fun a w S fp hst henv => by simp [results, hr], h⟩
end
end Go.Sy
