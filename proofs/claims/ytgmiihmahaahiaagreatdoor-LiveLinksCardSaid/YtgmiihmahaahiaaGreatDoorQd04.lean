/- Parts of the proof, in build order. No condition. -/
import Derived.Test.YtgmiihmahaahiaaGreatDoorQd03
import Derived.Test.YtgmiihmahaahiaaGreatDoorQd02
set_option linter.unusedSimpArgs false
set_option linter.unusedVariables false
set_option maxHeartbeats 1000000
set_option maxRecDepth 20000
namespace Go.Sy
open Go.RowKit Go.Lp
section
variable {w : World} {S F : bz} {A B C R : Res}
theorem qg (h : (eZ A (eZ B C)).holds w S F) : (eZ B (eZ A C)).holds w S F := by
 obtain ⟨G, H, a, ⟨G2, H2, b, c, d2, e2⟩, d, e⟩ := h
 refine ⟨G2, fun x => G x ∨ H2 x, b, ⟨G, H2, a, c, fun x g h2 => d x g ((e2 x).2 (.inr h2)), fun x => Iff.rfl⟩, fun x g2 h => h.elim (fun g => d x g ((e2 x).2 (.inl g2))) (fun h2 => d2 x g2 h2), fun x => ?_⟩
 rw [e x, e2 x]
 constructor
 · rintro (h | h | h)
   · exact .inr (.inl h)
   · exact .inl h
   · exact .inr (.inr h)
 · rintro (h | h | h)
   · exact .inr (.inl h)
   · exact .inl h
   · exact .inr (.inr h)
theorem gm (h : (eZ A B).holds w S F) (hB : ∀ F, B.holds w S F → C.holds w S F) : (eZ A C).holds w S F := by
 obtain ⟨G, H, a, b, d, e⟩ := h
 exact ⟨G, H, a, hB H b, d, e⟩
theorem zK (h : A.holds w S F) : (eZ emp A).holds w S F := ⟨fun _ => False, F, fun b h => h, h, fun b h => h.elim, fun b => ⟨.inr, fun h => h.elim False.elim id⟩⟩
theorem y0 (h : (eZ emp A).holds w S F) : A.holds w S F := by
 obtain ⟨G, H, a, b, d, e⟩ := h
 have : F = H := funext fun x => propext ((e x).trans ⟨fun h => h.elim (fun g => absurd g (a x)) id, .inr⟩)
 rw [this]; exact b
def fA : List Res → Res
 | [] => emp
 | A :: L => eZ A (fA L)
theorem kM : ∀ (L : List Res) (k : Nat) (F : bz), L[k]? = some R → (fA L).holds w S F → (eZ R (fA (L.set k emp))).holds w S F
 | [], _, _, h, _ => by simp at h
 | A :: L, 0, F, h, hs => by
   simp only [List.getElem?_cons_zero, Option.some.injEq] at h
   subst h
   exact gm hs fun F h => zK h
 | A :: L, k + 1, F, h, hs => qg (gm hs fun F h' => kM L k F (by simpa using h) h')
theorem p7 : ∀ (L : List Res) (k : Nat) (F : bz), k < L.length → (eZ R (fA (L.set k emp))).holds w S F → (fA (L.set k R)).holds w S F
 | [], _, _, h, _ => by simp at h
 | A :: L, 0, F, _, hs => gm hs fun F h => y0 h
 | A :: L, k + 1, F, h, hs => gm (qg hs) fun F h' => p7 L k F (by simpa using h) h'
theorem pj : ∀ (L : List Res), (∀ A ∈ L, A.holds w S fun _ => False) → (fA L).holds w S fun _ => False
 | [], _ => fun _ h => h
 | A :: L, h => ⟨fun _ => False, fun _ => False, h A (List.mem_cons_self ..), pj L fun B hB => h B (List.mem_cons_of_mem _ hB), fun _ h => h.elim, fun _ => ⟨.inl, fun h => h.elim id id⟩⟩
theorem pW : ∀ (L : List Res) (F : bz), (fA L).holds w S F → ∀ (k : Nat) (A : Res), L[k]? = some A → ∃ G : bz, (∀ b, G b → F b) ∧ A.holds w S G := fun L F h k A hk => by
 obtain ⟨G, H, a, _, _, e⟩ := kM L k F hk h
 exact ⟨G, fun b hb => (e b).2 (.inl hb), a⟩
theorem eO {v : Value} {T : TypeId} {sz : Nat} {rows : List (List D)} (hr : (bg v T sz rows).holds w S F) : eU w (fun b => S b ∨ F b) v (.sl rows) := by
 have hS : ∀ b, S b → (S b ∨ F b) := fun _ h => .inl h
 rcases hr with ⟨rfl, rfl, _⟩ | ⟨b, cap, rfl, ⟨cs, sp, hb, hrows, hl, hle, hcap⟩, hF⟩
 · exact .e none 0 (by unfold maxLen; omega)
 · refine .sl b 0 cap sz rows (fun i j => cs.getD (i * sz + j) undef) (.inr ((hF b).2 rfl)) hle hcap hrows.row (fun i j r d h1 h2 => ?_) (fun i j r d h1 h2 => ?_)
   · obtain ⟨u, hu, _⟩ := hrows.rep i j r d h1 h2
     have e : cs.getD (i * sz + j) undef = u := by simp [List.getD, hu]
     rw [e]
     refine ⟨?_, hrows.one u (List.mem_of_getElem? hu)⟩
     rw [Nat.zero_add, ef hb, List.getElem?_append_left (List.getElem?_eq_some_iff.1 hu).1]; exact hu
   · obtain ⟨u, hu, hr⟩ := hrows.rep i j r d h1 h2
     have e : cs.getD (i * sz + j) undef = u := by simp [List.getD, hu]
     rw [e]
     exact hr.mono (fun _ _ => rfl) hS
end
theorem pY {w : World} {S : bz} {fp : Nat → bz} {ps : List Per} {hp : List Res} (hst : St w S fp ps hp) (i : Nat) {R : Res} (hi : hp[i]? = some R) {p : Per} (h : ∀ w S F, R.holds w S F → p.holds w (fun b => S b ∨ F b)) :
   St w (fun b => S b ∨ fp i b) (fun k => if k = i then (fun _ => False) else fp k) (p :: ps) (hp.set i emp) := by
 have hil := (List.getElem?_eq_some_iff.1 hi).1
 have hr := hst.res i _ hi
 have hst0 := hst.drop i
 have hS : ∀ b, S b → (S b ∨ fp i b) := fun _ h => .inl h
 refine ⟨fun p' hp' => ?_, fun j R hj => R.mono (hst0.res j R hj) (fun _ _ => rfl) (fun _ _ => rfl) hS, fun j hj b hb => ?_, hst0.dj, fun b hb => hb.elim (hst.slt b) (fun h => (hst.lt i hil b h).1)⟩
 · rcases List.mem_cons.1 hp' with rfl | h2
   · exact h w S (fp i) hr
   · exact p'.mono (hst.per p' h2) (fun _ _ => rfl) hS
 · have hj' : j < hp.length := by simpa using hj
   by_cases hji : j = i
   · rw [if_pos hji] at hb; exact hb.elim
   · rw [if_neg hji] at hb
     exact ⟨(hst.lt j hj' b hb).1, fun h => h.elim (hst.lt j hj' b hb).2 (hst.dj j i hj' hil hji b hb)⟩
section
variable {P : Program} {n : Fr} {env : Env} {ps : List Per} {hp : List Res} {c : Code} {Q : Exit → Sta → Prop}
theorem eC (i : Nat) {R : Res} (p : Per) (hi : hp[i]? = some R) (h0 : ∀ w S F, R.holds w S F → p.holds w (fun b => S b ∨ F b)) (h : awp P n c Q ⟨env, p :: ps, hp.set i emp⟩) : awp P n c Q ⟨env, ps, hp⟩ := fun w S fp a hst he hn hd => by
 have hil := (List.getElem?_eq_some_iff.1 hi).1
 have h1 := pY hst i hi h0
 have htot : ∀ b, tot (fun k => if k = i then (fun _ => False) else fp k) (hp.set i emp).length b → tot fp hp.length b := fun b ⟨j, hj, hb⟩ => by
   dsimp only at hb
   by_cases hji : j = i
   · rw [if_pos hji] at hb; exact hb.elim
   · rw [if_neg hji] at hb; exact ⟨j, by simpa using hj, hb⟩
 have hE : Evo w S (tot fp hp.length) w (fun b => S b ∨ fp i b) := ⟨rfl, rfl, rfl, Nat.le_refl _, Nat.le_refl _, fun _ _ _ => rfl, fun _ h => .inl h, fun b hb => hb.elim .inl fun h => .inr (.inl ⟨i, hil, h⟩)⟩
 exact dq (fun e a2 w2 hp2 => hp2.trans hE (fun b hb => .inl (htot b hb))) (h w _ _ a h1 he hn hd)
theorem cX (i : Nat) {b : Nat} {T : TypeId} {cs : List Value} (hi : hp[i]? = some (Box b T cs)) (h1 : cs.all (·.oneCell') = true) (h : awp P n c Q ⟨env, At b 0 (cs.map D.v) :: ps, hp.set i emp⟩) : awp P n c Q ⟨env, ps, hp⟩ :=
 eC i (At b 0 (cs.map D.v)) hi (fun w S F ⟨hb, hF⟩ => ⟨.inr ((hF b).2 rfl), fun j d hj => by
   rw [List.getElem?_map] at hj
   cases hc : cs[j]? with
   | none => rw [hc] at hj; cases hj
   | some u =>
     rw [hc] at hj
     simp only [Option.map_some, Option.some.injEq] at hj
     exact ⟨u, by rw [Nat.zero_add, ef hb]; exact hc, List.all_eq_true.1 h1 u (List.mem_of_getElem? hc), by rw [← hj]; exact .v u⟩⟩) h
end
section
variable {α : Type} [Inhabited α] {enc : α → Value}
def dU (vs : List Value) : List (List D) := vs.map fun v => [.v v]
@[simp] theorem qH (vs : List Value) : (dU vs).length = vs.length := by simp [dU]
def inner (E : TypeId) (enc : α → Value) (vs : List Value) (l : List (List α)) : List Res := List.zipWith (fun v x => bg v E 1 (bS enc x)) vs l
def mK (vo : Value) (T E : TypeId) (enc : α → Value) (l : List (List α)) : Res :=
 ⟨fun w S F => ∃ vs : List Value, vs.length = l.length ∧ (eZ (bg vo T 1 (dU vs)) (fA (inner E enc vs l))).holds w S F,
  fun ⟨vs, h0, h⟩ h1 h2 h3 => ⟨vs, h0, (eZ (bg vo T 1 (dU vs)) (fA (inner E enc vs l))).mono h h1 h2 h3⟩⟩
omit [Inhabited α] in
theorem me {E : TypeId} {vs : List Value} {l : List (List α)} {k : Nat} {v : Value} {x : List α} (hv : vs[k]? = some v) (hx : l[k]? = some x) : (inner E enc vs l)[k]? = some (bg v E 1 (bS enc x)) := by
 unfold inner; rw [List.getElem?_zipWith, hv, hx]
omit [Inhabited α] in
theorem qd {E : TypeId} {v : Value} {x : List α} : ∀ (vs : List Value) (l : List (List α)) (k : Nat), inner E enc (vs.set k v) (l.set k x) = (inner E enc vs l).set k (bg v E 1 (bS enc x))
 | [], _, _ => by simp [inner]
 | _ :: _, [], _ => by simp [inner]
 | a :: vs, b :: l, 0 => rfl
 | a :: vs, b :: l, k + 1 => by
   have := qd (E := E) (v := v) (x := x) vs l k
   unfold inner at this ⊢
   simp only [List.set_cons_succ, List.zipWith_cons_cons, this]
variable {P : Program} {n : Fr} {env : Env} {ps : List Per} {hp : List Res} {c : Code} {Q : Exit → Sta → Prop} {vo : Value} {T E : TypeId} {l : List (List α)}
omit [Inhabited α] in
theorem k9 (i k : Nat) {x : List α} (hi : hp[i]? = some (mK vo T E enc l)) (hk : l[k]? = some x)
   (h : ∀ vs v, vs.length = l.length → vs[k]? = some v → awp P n c Q ⟨env, ps, (hp.set i (bg vo T 1 (dU vs)) ++ [bg v E 1 (bS enc x)]) ++ [fA ((inner E enc vs l).set k emp)]⟩) : awp P n c Q ⟨env, ps, hp⟩ := by
 have hil := (List.getElem?_eq_some_iff.1 hi).1
 refine p4 (β := {p : List Value × Value // p.1.length = l.length ∧ p.1[k]? = some p.2}) i (fun p => eZ (bg vo T 1 (dU p.1.1)) (eZ (bg p.1.2 E 1 (bS enc x)) (fA ((inner E enc p.1.1 l).set k emp)))) hi (fun w S F hh => ?_) fun ⟨⟨vs, v⟩, h1, h2⟩ => ?_
 · obtain ⟨vs, h0, hs⟩ := hh
   have hkl := (List.getElem?_eq_some_iff.1 hk).1
   obtain ⟨v, hv⟩ : ∃ v, vs[k]? = some v := ⟨vs[k]'(by omega), by simp⟩
   exact ⟨⟨(vs, v), h0, hv⟩, gm hs fun F h => kM _ k F (me hv hk) h⟩
 · refine jS i (by rw [List.getElem?_set_self hil]) ?_
   rw [List.set_set]
   refine jS (hp.set i (bg vo T 1 (dU vs))).length (by rw [List.getElem?_append_right (Nat.le_refl _), Nat.sub_self]; rfl) ?_
   rw [List.set_append_right _ _ (Nat.le_refl _), Nat.sub_self]
   exact h vs v h1 h2
omit [Inhabited α] in
theorem ko (i j m k : Nat) {vs : List Value} {v : Value} {x : List α} (hi : hp[i]? = some (bg vo T 1 (dU (vs.set k v)))) (hj : hp[j]? = some (bg v E 1 (bS enc x))) (hm : hp[m]? = some (fA ((inner E enc vs l).set k emp)))
   (hij : (i == j) = false) (him : (i == m) = false) (hjm : (j == m) = false) (hl : vs.length = l.length) (hk : k < l.length) (h : awp P n c Q ⟨env, ps, ((hp.set j emp).set m emp).set i (mK vo T E enc (l.set k x))⟩) : awp P n c Q ⟨env, ps, hp⟩ := by
 have hij' : i ≠ j := by simpa using hij
 have him' : i ≠ m := by simpa using him
 have hjm' : j ≠ m := by simpa using hjm
 have hil := (List.getElem?_eq_some_iff.1 hi).1
 have hjl := (List.getElem?_eq_some_iff.1 hj).1
 refine kV j m hj hm hjm ?_
 refine kV i j (R := bg vo T 1 (dU (vs.set k v))) (R' := eZ (bg v E 1 (bS enc x)) (fA ((inner E enc vs l).set k emp))) ?_ ?_ hij ?_
 · rw [List.getElem?_set_ne (Ne.symm him'), List.getElem?_set_ne (Ne.symm hij')]; exact hi
 · rw [List.getElem?_set_ne (Ne.symm hjm'), List.getElem?_set_self hjl]
 refine fe i (mK vo T E enc (l.set k x)) (R := eZ (bg vo T 1 (dU (vs.set k v))) (eZ (bg v E 1 (bS enc x)) (fA ((inner E enc vs l).set k emp)))) ?_ (fun w S F hh => ?_) ?_
 · rw [List.getElem?_set_ne (Ne.symm hij'), List.getElem?_set_self (by simpa using hil)]
 · refine ⟨vs.set k v, by simp [hl], gm hh fun F h => ?_⟩
   rw [qd]
   exact p7 _ k F (by unfold inner; simp; omega) h
 · have e : ((((hp.set j (eZ (bg v E 1 (bS enc x)) (fA ((inner E enc vs l).set k emp)))).set m emp).set i (eZ (bg vo T 1 (dU (vs.set k v))) (eZ (bg v E 1 (bS enc x)) (fA ((inner E enc vs l).set k emp))))).set j emp).set i (mK vo T E enc (l.set k x)) = ((hp.set j emp).set m emp).set i (mK vo T E enc (l.set k x)) := by
     apply List.ext_getElem?
     intro q
     simp only [List.getElem?_set, List.length_set]
     by_cases h1 : i = q
     · simp [h1]
     · by_cases h2 : j = q
       · subst h2; simp [h1, Ne.symm hjm', hjm']
       · by_cases h3 : m = q
         · simp [h1, h2, h3]
         · simp [h1, h2, h3]
   rw [e]; exact h
omit [Inhabited α] in
theorem td (i m : Nat) (hi : hp[i]? = some (bg vo T 1 (List.replicate m [.v (.slice none 0 0)]))) (h : awp P n c Q ⟨env, ps, hp.set i (mK vo T E enc (List.replicate m ([] : List α)))⟩) : awp P n c Q ⟨env, ps, hp⟩ := by
 refine fe i (mK vo T E enc (List.replicate m ([] : List α))) hi (fun w S F hh => ⟨List.replicate m (.slice none 0 0), by simp, ?_⟩) h
 have e : dU (List.replicate m (.slice none 0 0)) = List.replicate m [.v (.slice none 0 0)] := by simp [dU]
 rw [e]
 refine ⟨F, fun _ => False, hh, pj _ fun A hA => ?_, fun _ _ h => h, fun b => ⟨.inl, fun h => h.elim id False.elim⟩⟩
 unfold inner at hA
 rw [List.zipWith_replicate] at hA
 obtain ⟨_, rfl⟩ := List.mem_replicate.1 hA
 exact .inl ⟨rfl, rfl, fun _ h => h⟩
end
end Go.Sy

namespace Go.Sy
open Go.RowKit Go.Lp
def et (l : Nat) (r : Loop) : Res := ⟨fun w _ F => w.heap[l]? = some (.loop r) ∧ ∀ k, F k ↔ k = l, fun h h1 _ _ => ⟨(h1 l ((h.2 l).2 rfl)).trans h.1, h.2⟩⟩
def j8 (D : Nat) : Res := ⟨fun w _ F => w.heap[D]? = some (.deferred (some [])) ∧ ∀ k, F k ↔ k = D, fun h h1 _ _ => ⟨(h1 D ((h.2 D).2 rfl)).trans h.1, h.2⟩⟩
def mx (D : Nat) : Deferred := { target := .collected D, args := #[] }
theorem Evo.putObj {w : World} {S X : bz} {l : Nat} {o : Obj} (hl : X l) : Evo w S X (w.putObj l o) S where
 os := rfl
 tape := rfl
 output := rfl
 size := by rw [World.putObj_size]; exact Nat.le_refl _
 drawn := Nat.le_refl _
 block b _ hx := World.putObj_heap_other (fun e => hx (by rw [e]; exact hl))
 more _ h := h
 new _ h := .inl h
theorem St.putObj {w : World} {S : bz} {fp : Nat → bz} {ps : List Per} {hp : List Res} (h : St w S fp ps hp) {i l : Nat} (hi : i < hp.length) (hl : fp i l) (o : Obj) (R : Res) (hR : R.holds (w.putObj l o) S (fp i)) : St (w.putObj l o) S fp ps (hp.set i R) :=
 h.change hi (by rw [World.putObj_size]; exact Nat.le_refl _) (fun b _ hb => World.putObj_heap_other (fun e => hb (by rw [e]; exact hl))) R hR

def kx (P : Program) (l : Nat) (args : List Value) (ps : List Per) (hp : List Res) (R : Value → List Per → List Res → Prop) : Prop :=
 ∀ (w : World) (S : bz) (fp : Nat → bz), St w S fp ps hp → gB P (fun v w' => ∃ ps' hp' S' fp', R v ps' hp' ∧ St w' S' fp' ps' hp' ∧ Evo w S (tot fp hp.length) w' S' ∧ ∀ b, tot fp' hp'.length b → tot fp hp.length b ∨ w.heap.size ≤ b) ((Instr.yield l args.toArray).run P w)
section
variable {P : Program} {n : Fr} {env : Env} {ps : List Per} {hp : List Res} {ty : TypeId} {pos : String} {af : Array Edge} {gd : Option (Nat × Bool)} {K : Sta → Prop} {d : Option Tmp}
theorem uX {k : Nat} {l : List Operand} {ts : Array TypeId} {g : Operand} {ρ : Operand → Value} (hg : ρ g = .func (.yield k) #[] #[]) {vs : List Value} (hv : l.map ρ = vs) (w : World) : (execOp ρ ⟨d, .call ⟨.value g, l.toArray, ts⟩, ty, pos, af, gd⟩).run P w = (Instr.yield k vs.toArray).run P w := by
 unfold execOp
 dsimp only
 show ((resolve ρ ⟨.value g, l.toArray, ts⟩ ty).bind fun x => invoke x.target x.args).run P w = _
 have : resolve ρ ⟨.value g, l.toArray, ts⟩ ty = Sem.pure { target := .fn (.yield k) #[], args := vs.toArray } := by
   unfold resolve
   dsimp only
   rw [hg]
   show Deferred.ofValue _ _ = _
   unfold Deferred.ofValue
   dsimp only
   rw [List.map_toArray, hv, Array.empty_append]
   rfl
 rw [this]
 rfl
theorem aa5 {t k : Nat} {g : Operand} {l : List Operand} {ts : Array TypeId} {vs : List Value} {R : Value → List Per → List Res → Prop} (lp lh : List Nat) (hgv : ev env g = some (true, .func (.yield k) #[] #[])) (hx : evs env l = some vs) (ht : fits n (some t) = true) (ok : okH hp lh = true)
   (hc : kx P k vs (fH ps lp) (bK hp lh) R) (hK : ∀ v ps' hp', R v ps' hp' → K ⟨(t, true, v) :: env, ps' ++ ps, dp lh hp' 0 hp⟩) :
   Eff P n ⟨some t, .call ⟨.value g, l.toArray, ts⟩, ty, pos, af, gd⟩ ⟨env, ps, hp⟩ false K := fun w S fp a hst he hn => by
 rw [uX (he.val hgv rfl) (gP he l vs hx)]
 obtain ⟨k1, k2⟩ := hst.bK lp lh ok
 refine ct (fun v w' ⟨ps', hp', S', fp', hR, hst', hE, hg⟩ => ?_) (hc w S _ k1)
 obtain ⟨m1, m2⟩ := hst.back lp lh ok hst' hE hg
 exact ⟨_, S', _, hK v ps' hp' hR, m1, he.put (g := true) (by rw [hn]; simpa [fits] using ht) v, hE.wider k2, m2, fun h => by cases h⟩
end
def busy (r : Loop) : Loop := { r with state := .busy }
def ended (r : Loop) (j : Option Code) : Loop := { r with state := if j.isNone then .ready else .done, pending := j }
theorem kC {r : Loop} (h1 : r.state = .ready) (h2 : r.pending = none) : ended r none = r := by cases r; simp only at h1 h2; subst h1 h2; rfl
def yv : Exit → Option (Option Code)
 | .normal => some none
 | .ret => some (some .ret)
 | .exit id => some (some (.exit id))
 | .goto t => some (some (.goto t))
 | _ => none
def acd (l : Nat) (r : Loop) (R : Value → List Per → List Res → Prop) (e : Exit) (s : Sta) : Prop :=
 ∃ j lp lh, yv e = some j ∧ s.hp[0]? = some (et l (busy r)) ∧ okH s.hp lh = true ∧ R (.bool j.isNone) (fH s.ps lp) (bK (s.hp.set 0 (et l (ended r j))) lh)
def abp (env : Env) : List (Nat × Value) → Env
 | [] => env
 | (p, v) :: l => abp ((p, true, v) :: env) l
theorem wE : ∀ (l : List (Nat × Value)) (env : Env) (tmps : Array Value), cW ⟨tmps, []⟩ env → (∀ x ∈ l, x.1 < tmps.size) → cW ⟨l.foldl (fun t x => t.setIfInBounds x.1 x.2) tmps, []⟩ (abp env l)
 | [], _, _, h, _ => h
 | (p, v) :: l, env, tmps, h, hl => wE l _ _ (h.put (d := p) (hl (p, v) List.mem_cons_self) true v) (fun x hx => by have := hl x (List.mem_cons_of_mem _ hx); simpa using this)
theorem qp : ∀ (l : List (Nat × Value)) (tmps : Array Value), (l.foldl (fun t x => t.setIfInBounds x.1 x.2) tmps).size = tmps.size
 | [], _ => rfl
 | x :: l, tmps => by rw [List.foldl_cons, qp l]; simp
theorem aaC {hp hp' : List Res} {l : List Nat} (h : hp.length = hp'.length) : okH hp l = okH hp' l := by unfold okH; rw [h]
theorem p8 {P : Program} {l : Nat} {r : Loop} {m : Nat} {pm : Array Tmp} {A B : Code} (hm : r.tmps.size = m) (hpm : r.params = pm) (hA : r.assign = A) (hB : r.body = B) {args : List Value} {ps : List Per} {hp : List Res} {R : Value → List Per → List Res → Prop} {env : Env} (hr : r.state = .ready) (hs : args.length = pm.size) (he : cW ⟨r.tmps, []⟩ env) (hps : pm.toList.all (· < m) = true)
   (h : awp P ⟨m, some l, []⟩ A (thn (fun s => s.hp[0]? = some (et l r) ∧ awp P ⟨m, some l, []⟩ B (acd l r R) ⟨s.env, s.ps, s.hp.set 0 (et l (busy r))⟩) (fun _ _ => False)) ⟨abp env (pm.toList.zip args), ps, et l r :: hp⟩) :
   kx P l args ps (et l r :: hp) R := fun w S fp hst => by
 subst hm hpm hA hB
 have hl : w.heap[l]? = some (.loop r) := (hst.res 0 _ rfl).1
 rw [run_yield hl (by simpa using hs)]
 have hz : (r.params.zip args.toArray).foldl (fun tmps (x : Tmp × Value) => tmps.setIfInBounds x.1 x.2) r.tmps = (r.params.toList.zip args).foldl (fun t x => t.setIfInBounds x.1 x.2) r.tmps := by
   rw [← Array.foldl_toList, Array.toList_zip]
 show RoundIn (fnc none) 0 P l r.fn ((r.params.zip args.toArray).foldl (fun tmps (x : Tmp × Value) => tmps.setIfInBounds x.1 x.2) r.tmps) r.assign r.body w _
 rw [hz]
 refine roundIn_of_wpIn (F := fnc none) trivial ?_
 refine dq (F := fnc (some l)) (fun e a1 w1 hq => ?_) (h w S fp ⟨(r.params.toList.zip args).foldl (fun t x => t.setIfInBounds x.1 x.2) r.tmps, []⟩ hst (wE _ _ _ he fun x hx => by simpa using List.all_eq_true.1 hps _ (List.of_mem_zip hx).1) (qp _ _) rfl)
 obtain ⟨s1, S1, fp1, hQ, hst1, he1, hn1, hd1, hE1, hg1⟩ := hq
 cases e with
 | normal =>
   obtain ⟨h0, hb⟩ := hQ
   have hl1 := (hst1.res 0 _ h0).1
   have h0l : 0 < s1.hp.length := (List.getElem?_eq_some_iff.1 h0).1
   have hF1 := (hst1.res 0 _ h0).2
   refine ⟨_, run_beginRound hl1 hr, ?_⟩
   have hst2 := hst1.putObj h0l ((hF1 l).2 rfl) (.loop (busy r)) (et l (busy r)) ⟨World.putObj_heap_same (Array.getElem?_eq_some_iff.1 hl1).1, hF1⟩
   refine dq (F := fnc (some l)) (fun e2 a2 w2 hq2 => ?_) (hb _ S1 fp1 a1 hst2 he1 hn1 hd1)
   obtain ⟨s2, S2, fp2, ⟨j, lp, lh, hj, h20, ok, hR⟩, hst3, he3, hn3, hd3, hE3, hg3⟩ := hq2
   have hl2 := (hst3.res 0 _ h20).1
   have h2l : 0 < s2.hp.length := (List.getElem?_eq_some_iff.1 h20).1
   have hF2 := (hst3.res 0 _ h20).2
   have hend := run_endRound (P := P) j hl2
   have hst4 := hst3.putObj h2l ((hF2 l).2 rfl) (.loop (ended r j)) (et l (ended r j)) ⟨World.putObj_heap_same (Array.getElem?_eq_some_iff.1 hl2).1, hF2⟩
   obtain ⟨k1, k2⟩ := hst4.bK lp lh (by rw [aaC (hp' := s2.hp) (by simp)]; exact ok)
   have hX1 : tot fp1 s1.hp.length l := ⟨0, h0l, (hF1 l).2 rfl⟩
   have hX2 : tot fp2 s2.hp.length l := ⟨0, h2l, (hF2 l).2 rfl⟩
   have hE2 : Evo w S (tot fp (et l r :: hp).length) (w1.putObj l (.loop (busy r))) S1 := hE1.trans (Evo.putObj hX1) hg1
   have hsz : (w1.putObj l (.loop (busy r))).heap.size = w1.heap.size := World.putObj_size
   have hg3' : ∀ b, tot fp2 s2.hp.length b → tot fp (et l r :: hp).length b ∨ w.heap.size ≤ b := fun b hb => (hg3 b hb).elim (fun h => hg1 b (by simpa using h)) (fun h => .inr (Nat.le_trans hE1.size (by rw [← hsz]; exact h)))
   have hE4 : Evo w S (tot fp (et l r :: hp).length) (w2.putObj l (.loop (ended r j))) S2 := (hE2.trans hE3 (fun b hb => hg1 b (by simpa using hb))).trans (Evo.putObj hX2) hg3'
   have goal : ∃ v, Ending.returned (.bool j.isNone) = .returned v ∧ ∃ ps' hp' S' fp', R v ps' hp' ∧ St (w2.putObj l (.loop (ended r j))) S' fp' ps' hp' ∧ Evo w S (tot fp (et l r :: hp).length) (w2.putObj l (.loop (ended r j))) S' ∧ ∀ b, tot fp' hp'.length b → tot fp (et l r :: hp).length b ∨ w.heap.size ≤ b :=
     ⟨_, rfl, _, _, S2, _, hR, k1, hE4, fun b hb => hg3' b (by simpa using k2 b hb)⟩
   cases e2 <;> simp only [yv, Option.some.injEq, reduceCtorEq] at hj <;> subst hj <;> exact ⟨_, _, hend, goal⟩
 | _ => exact hQ.elim
def jF (P : Program) (fn : Func) (R : Value → List Per → List Res → Prop) (w : World) (S X : bz) (e : Exit) (a' : Act) (w' : World) : Prop :=
 (e = .normal ∨ e = .ret) ∧ ∃ (v : Value) (ds : List Nat) (ps' : List Per) (hp' : List Res) (S' : bz) (fp' : Nat → bz), (∀ w2, (results fn a'.tmps).run P w2 = .ok v w2) ∧ a'.defers = ds.map mx ∧ ds.Nodup ∧ R v ps' hp' ∧ St w' S' fp' ps' hp' ∧ Evo w S X w' S' ∧ (∀ b, tot fp' hp'.length b → X b ∨ w.heap.size ≤ b) ∧
   ∀ D ∈ ds, w'.heap[D]? = some (.deferred (some [])) ∧ ¬ S' D ∧ ¬ tot fp' hp'.length D ∧ (X D ∨ w.heap.size ≤ D)
def tP (P : Program) (fn : Func) (R : Value → List Per → List Res → Prop) (n : Fr) (e : Exit) (s : Sta) : Prop :=
 (e = .normal ∨ e = .ret) ∧ ∃ (v : Value) (lp lh lm ds : List Nat), okH s.hp (lh ++ lm) = true ∧ (∀ a w, cW a s.env → (results fn a.tmps).run P w = .ok v w) ∧ n.dfr = ds.map mx ∧ bK s.hp lm = ds.map j8 ∧ R v (fH s.ps lp) (bK s.hp lh)
def fwp (P : Program) (fn : Func) (n : Fr) (c : Code) (R : Value → List Per → List Res → Prop) (s : Sta) : Prop :=
 ∀ (w : World) (S : bz) (fp : Nat → bz) (a : Act), St w S fp s.ps s.hp → cW a s.env → a.tmps.size = n.size → a.defers = n.dfr → c.wpIn (fnc n.ro) 0 P (jF P fn R w S (tot fp s.hp.length)) a w
def acs (P : Program) (fn : Func) (n : Fr) (y z : Code) (R : Value → List Per → List Res → Prop) (s : Sta) : Prop :=
 ∀ (w : World) (S : bz) (fp : Nat → bz) (a : Act), St w S fp s.ps s.hp → cW a s.env → a.tmps.size = n.size → a.defers = n.dfr →
   y.wpIn (fnc n.ro) 0 P (Exit.then (z.wpIn (fnc n.ro) 0 P (jF P fn R w S (tot fp s.hp.length))) (jF P fn R w S (tot fp s.hp.length))) a w
section
variable {P : Program} {fn : Func} {n : Fr} {R : Value → List Per → List Res → Prop} {s : Sta}
theorem jF.trans {w w1 : World} {S X S1 X1 : bz} (hE : Evo w S X w1 S1) (hX : ∀ b, X1 b → X b ∨ w.heap.size ≤ b) {e : Exit} {a : Act} {w2 : World} (h : jF P fn R w1 S1 X1 e a w2) : jF P fn R w S X e a w2 := by
 obtain ⟨he, v, ds, ps', hp', S', fp', h1, h2, h3, h4, h5, h6, h7, h8⟩ := h
 have hX' : ∀ b, X1 b ∨ w1.heap.size ≤ b → X b ∨ w.heap.size ≤ b := fun b hb => hb.elim (hX b) (fun h => .inr (Nat.le_trans hE.size h))
 exact ⟨he, v, ds, ps', hp', S', fp', h1, h2, h3, h4, h5, hE.trans h6 hX, fun b hb => hX' b (h7 b hb), fun D hD => let ⟨a1, a2, a3, a4⟩ := h8 D hD; ⟨a1, a2, a3, hX' D a4⟩⟩
theorem il {w : World} {S X : bz} {e : Exit} {a' : Act} {w' : World} (h : e9 (tP P fn R n) n w S X e a' w') : jF P fn R w S X e a' w' := by
 obtain ⟨s', S', fp', ⟨he, v, lp, lh, lm, ds, ok, hr, hds, hlm, hR⟩, hst, henv, hn, hd, hE, hg⟩ := h
 have ok2 := ok
 simp only [okH, Bool.and_eq_true, decide_eq_true_eq] at ok2
 have okh : okH s'.hp lh = true := by
   simp only [okH, Bool.and_eq_true, decide_eq_true_eq]
   exact ⟨List.all_eq_true.2 fun x hx => List.all_eq_true.1 ok2.1 x (List.mem_append_left _ hx), (List.nodup_append.1 ok2.2).1⟩
 obtain ⟨k1, k2⟩ := hst.bK lp lh okh
 have hlen : lm.length = ds.length := by have := congrArg List.length hlm; simpa [bK] using this
 -- the place of a mark
 have hm : ∀ i (hi : i < ds.length), ∃ k, lm[i]? = some k ∧ k < s'.hp.length ∧ (j8 ds[i]).holds w' S' (fp' k) := fun i hi => by
   have hi' : i < lm.length := by omega
   have hk : lm[i] < s'.hp.length := by simpa using List.all_eq_true.1 ok2.1 lm[i] (List.mem_append_right _ (List.getElem_mem hi'))
   refine ⟨lm[i], List.getElem?_eq_getElem hi', hk, ?_⟩
   have e := congrArg (·[i]?) hlm
   simp only [bK, List.getElem?_map, List.getElem?_eq_getElem hi', List.getElem?_eq_getElem hi, Option.map_some, Option.some.injEq] at e
   have := hst.res lm[i] (s'.hp.getD lm[i] emp) (by simp [List.getD, hk])
   rw [e] at this
   exact this
 refine ⟨he, v, ds, _, _, S', _, fun w2 => hr a' w2 henv, hd.trans hds, ?_, hR, k1, hE, fun b hb => hg b (k2 b hb), fun D hD => ?_⟩
 · rw [List.nodup_iff_pairwise_ne, List.pairwise_iff_getElem]
   intro i j hi hj hij e
   obtain ⟨ki, h1, h2, h3⟩ := hm i hi
   obtain ⟨kj, g1, g2, g3⟩ := hm j hj
   have hne : ki ≠ kj := fun ek => by
     have hpw := List.pairwise_iff_getElem.1 (List.nodup_iff_pairwise_ne.1 (List.nodup_append.1 ok2.2).2.1)
     refine hpw i j (by omega) (by omega) hij ?_
     have a1 := (List.getElem?_eq_some_iff.1 h1).2
     have a2 := (List.getElem?_eq_some_iff.1 g1).2
     rw [a1, a2, ek]
   exact hst.dj ki kj h2 g2 hne ds[i] ((h3.2 _).2 rfl) (by rw [e]; exact (g3.2 _).2 rfl)
 · obtain ⟨i, hi, rfl⟩ := List.getElem_of_mem hD
   obtain ⟨k, h1, h2, h3⟩ := hm i hi
   have hfk : fp' k ds[i] := (h3.2 _).2 rfl
   refine ⟨h3.1, (hst.lt k h2 _ hfk).2, fun ⟨m, hm', hb⟩ => ?_, hg _ ⟨k, h2, hfk⟩⟩
   have hml : m < lh.length := by simpa [bK] using hm'
   have hkm : lh.getD m 0 < s'.hp.length := by
     have := List.all_eq_true.1 ok2.1 lh[m] (List.mem_append_left _ (List.getElem_mem hml))
     simpa [List.getD, hml] using this
   refine hst.dj (lh.getD m 0) k hkm h2 (fun ek => ?_) _ hb hfk
   have hk' : k ∈ lm := List.mem_of_getElem? h1
   have hm2 : lh.getD m 0 ∈ lh := by simp [List.getD, hml]
   exact (List.nodup_append.1 ok2.2).2.2 _ hm2 _ hk' ek
theorem ng {c : Code} (h : awp P n c (tP P fn R n) s) : fwp P fn n c R s := fun w S fp a hst he hn hd => dq (fun _ _ _ h => il h) (h w S fp a hst he hn hd)
theorem i7 {x y : Code} (h : awp P n x (thn (fwp P fn n y R) (tP P fn R n)) s) : fwp P fn n (.seq x y) R s := fun w S fp a hst he hn hd =>
 wpIn_seq (dq (fun e a' w' hq => by
   cases e with
   | normal =>
     obtain ⟨s1, S1, fp1, h1, hst1, he1, hn1, hd1, hE, hg⟩ := hq
     exact dq (fun e a2 w2 h2 => h2.trans hE hg) (h1 w' S1 fp1 a' hst1 he1 hn1 hd1)
   | _ => exact il hq) (h w S fp a hst he hn hd))
theorem uy {x y z : Code} (h : awp P n x (thn (acs P fn n y z R) (tP P fn R n)) s) : fwp P fn n (.seq (.seq x y) z) R s := fun w S fp a hst he hn hd =>
 wpIn_seq (wpIn_seq (dq (fun e a' w' hq => by
   cases e with
   | normal =>
     obtain ⟨s1, S1, fp1, h1, hst1, he1, hn1, hd1, hE, hg⟩ := hq
     refine dq (fun e a2 w2 h2 => ?_) (h1 w' S1 fp1 a' hst1 he1 hn1 hd1)
     cases e with
     | normal => exact dq (fun e a3 w3 h3 => jF.trans hE hg h3) h2
     | _ => exact jF.trans hE hg h2
   | _ => exact il hq) (h w S fp a hst he hn hd)))
theorem zd {c : Code} {env : Env} {ps ps' : List Per} {hp hp' : List Res} (h1 : ps = ps') (h2 : hp = hp') (h : fwp P fn n c R ⟨env, ps', hp'⟩) : fwp P fn n c R ⟨env, ps, hp⟩ := h1 ▸ h2 ▸ h
theorem z8 {t : Nat} {v : Value} {e : Exit} (lp lh lm ds : List Nat) (ok : okH s.hp (lh ++ lm) = true) (hr : fn.results = #[.tmp t]) (hl : look s.env t = some (true, v)) (hd : n.dfr = ds.map mx) (hm : bK s.hp lm = ds.map j8) (h : R v (fH s.ps lp) (bK s.hp lh)) (he : e = .normal ∨ e = .ret) : tP P fn R n e s :=
 ⟨he, v, lp, lh, lm, ds, ok, fun a w henv => by have := henv t true v hl; simp only [cond_true] at this; rw [results_tmp hr, this], hd, hm, h⟩
theorem qC {id : Nat} {f : FuncId} {g : Operand} {caps : List Value} {pm : Array Tmp} {assign body z : Code} {Rr : Value → List Per → List Res → Prop} (lp lh : List Nat) (hro : n.ro = none) (hgv : ev s.env g = some (true, .func (.func f) #[] caps.toArray)) (hf : e8 P f = true)
   (ok : okH s.hp lh = true)
   (hc : ∀ (l : Nat) (r : Loop), r.tmps.size = n.size → cW ⟨r.tmps, []⟩ s.env → r.state = .ready → r.pending = none → r.params = pm → r.assign = assign → r.body = body →
     Con P f (.func (.yield l) #[] #[] :: caps) (fH s.ps lp) (et l r :: bK s.hp lh)
       (fun v ps' hp' => ∃ r' hp2, hp' = et l r' :: hp2 ∧ r'.state ≠ .busy ∧ r'.pending = none ∧ Rr v ps' hp2))
   (hz : ∀ (D : Nat) (R0 R1 : Res) v ps' hp2, Rr v ps' hp2 → fwp P fn ⟨n.size, n.ro, mx D :: n.dfr⟩ z R ⟨s.env, ps' ++ s.ps, (dp ((s.hp.length + 1) :: lh) (R0 :: hp2) 0 (s.hp ++ [j8 D, R1])).set (s.hp.length + 1) emp⟩) :
   acs P fn n (.block id (.rangeFunc g pm assign body)) z R s := fun w S fp a hst he hn hd => by
 refine wpIn_block (wpIn_rangeFunc fun fi _ => ?_)
 have hev := he.val hgv rfl
 have hb1 := eW w (.deferred (some []))
 have hb2 := eW (w.alloc (.deferred (some []))) (.loop { state := .ready, pending := none, fn := fi, tmps := a.tmps, params := pm, assign, body, defers := w.heap.size })
 have hs1 : (w.alloc (.deferred (some []))).heap.size = w.heap.size + 1 := World.size_alloc ..
 have hst1 := hst.push hb1 (j8 w.heap.size) (fun b => b = w.heap.size) ⟨iW _ _, fun _ => Iff.rfl⟩ (fun b hb => ⟨by omega, by omega⟩)
 have hst2 := hst1.push hb2 (et (w.heap.size + 1) _) (fun b => b = w.heap.size + 1) ⟨by rw [← hs1]; exact iW _ _, fun _ => Iff.rfl⟩ (fun b hb => ⟨by omega, by rw [hb, World.size_alloc, hs1]; omega⟩)
 rw [List.append_assoc] at hst2
 have hE0 : Evo w S (tot fp s.hp.length) _ S := Evo.of_below _ _ (hb1.trans (hb2.mono hb1.size))
 have ok2 := ok
 simp only [okH, Bool.and_eq_true, decide_eq_true_eq] at ok2
 have hlt : ∀ k ∈ lh, k < s.hp.length := fun k hk => by simpa using List.all_eq_true.1 ok2.1 k hk
 have okk : okH (s.hp ++ [j8 w.heap.size, et (w.heap.size + 1) { state := .ready, pending := none, fn := fi, tmps := a.tmps, params := pm, assign, body, defers := w.heap.size }]) ((s.hp.length + 1) :: lh) = true := by
   simp only [okH, Bool.and_eq_true, decide_eq_true_eq, List.all_cons, List.length_append, List.nodup_cons]
   exact ⟨⟨by simp, List.all_eq_true.2 fun k hk => by simpa using Nat.lt_of_lt_of_le (hlt k hk) (Nat.le_add_right _ _)⟩, fun hk => by have := hlt _ hk; omega, ok2.2⟩
 obtain ⟨k1, k2⟩ := hst2.bK lp ((s.hp.length + 1) :: lh) okk
 have hkh : bK (s.hp ++ [j8 w.heap.size, et (w.heap.size + 1) { state := .ready, pending := none, fn := fi, tmps := a.tmps, params := pm, assign, body, defers := w.heap.size }]) ((s.hp.length + 1) :: lh)
     = et (w.heap.size + 1) { state := .ready, pending := none, fn := fi, tmps := a.tmps, params := pm, assign, body, defers := w.heap.size } :: bK s.hp lh := by
   unfold bK
   rw [List.map_cons]
   congr 1
   · simp [List.getD]
   · refine List.map_congr_left fun k hk => ?_
     have := hlt k hk
     simp [List.getD, List.getElem?_append, this]
 have hcc := hc (w.heap.size + 1) { state := .ready, pending := none, fn := fi, tmps := a.tmps, params := pm, assign, body, defers := w.heap.size } hn he rfl rfl rfl rfl rfl
 rw [← hkh] at hcc
 have hcall := hcc _ S _ k1
 rw [show (Value.func (.yield (w.heap.size + 1)) #[] #[] :: caps).toArray = #[.func (.yield (w.heap.size + 1)) #[] #[]] ++ caps.toArray by simp] at hcall
 refine ⟨w.heap.size + 1, [mx w.heap.size], (w.alloc (.deferred (some []))).alloc (.loop { state := .ready, pending := none, fn := fi, tmps := a.tmps, params := pm, assign, body, defers := w.heap.size }), { target := .fn (.func f) caps.toArray, args := #[.func (.yield (w.heap.size + 1)) #[] #[]] }, (w.alloc (.deferred (some []))).alloc (.loop { state := .ready, pending := none, fn := fi, tmps := a.tmps, params := pm, assign, body, defers := w.heap.size }), f, #[.func (.yield (w.heap.size + 1)) #[] #[]] ++ caps.toArray, (w.alloc (.deferred (some []))).alloc (.loop { state := .ready, pending := none, fn := fi, tmps := a.tmps, params := pm, assign, body, defers := w.heap.size }), by rw [show (fnc n.ro).round = none from hro]; exact run_enterLoop_outer .., ?_, fun _ _ => trivial, ?_, fun h => (by cases h), ?_⟩
 · have : resolve a.eval (rangeCall g (w.heap.size + 1)) 0 = Sem.pure { target := .fn (.func f) caps.toArray, args := #[.func (.yield (w.heap.size + 1)) #[] #[]] } := by
     unfold resolve rangeCall
     dsimp only
     rw [hev]
     show Deferred.ofValue _ _ = _
     unfold Deferred.ofValue
     dsimp only
     rw [List.map_toArray, Array.empty_append]
     rfl
   rw [this]
   rfl
 · exact jc hf _ _
 · refine (callsIn_wide (n := 0)).2 (Calls.mono hcall fun e w3 ⟨v, ps', hp', S', fp', he', ⟨r', hp2, hhp, hnb, hpn, hRr⟩, hst', hE, hg⟩ => ?_)
   subst he' hhp
   obtain ⟨m1, m2⟩ := hst2.back lp _ okk hst' hE hg
   have hi1 : s.hp.length + 1 < (dp ((s.hp.length + 1) :: lh) (et (w.heap.size + 1) r' :: hp2) 0 (s.hp ++ [j8 w.heap.size, et (w.heap.size + 1) { state := .ready, pending := none, fn := fi, tmps := a.tmps, params := pm, assign, body, defers := w.heap.size }])).length := by
     rw [oE]; simp; omega
   have hg1 : (dp ((s.hp.length + 1) :: lh) (et (w.heap.size + 1) r' :: hp2) 0 (s.hp ++ [j8 w.heap.size, et (w.heap.size + 1) { state := .ready, pending := none, fn := fi, tmps := a.tmps, params := pm, assign, body, defers := w.heap.size }]))[s.hp.length + 1]? = some (et (w.heap.size + 1) r') := by
     rw [iY, if_pos (by simp)]
     simp [place]
   have hr := m1.res _ _ hg1
   have hend := (run_endLoop (P := P) hr.1 hnb).trans (congrArg (fun j => Result.ok j _) hpn)
   refine ⟨none, _, hend, ?_⟩
   have hl' := (Array.getElem?_eq_some_iff.1 hr.1).1
   have m3 := (m1.putObj hi1 ((hr.2 _).2 rfl) (.loop { r' with state := .exhausted }) (et (w.heap.size + 1) { r' with state := .exhausted }) ⟨World.putObj_heap_same hl', hr.2⟩).drop (s.hp.length + 1)
   rw [List.set_set] at m3
   have hT : ∀ b, tot (fun i => if i = (s.hp ++ [j8 w.heap.size]).length then (fun b => b = w.heap.size + 1) else (fun i => if i = s.hp.length then (fun b => b = w.heap.size) else fp i) i) (s.hp ++ ([j8 w.heap.size] ++ [et (w.heap.size + 1) { state := .ready, pending := none, fn := fi, tmps := a.tmps, params := pm, assign, body, defers := w.heap.size }])).length b → tot fp s.hp.length b ∨ w.heap.size ≤ b := fun b ⟨i, hi, hb⟩ => by
     dsimp only at hb
     split at hb
     · exact .inr (by omega)
     · split at hb
       · exact .inr (by omega)
       · rename_i h1 h2
         refine .inl ⟨i, ?_, hb⟩
         simp only [List.length_append, List.length_cons, List.length_nil] at hi h1
         omega
   have hE3 : Evo w S (tot fp s.hp.length) w3 S' := hE0.trans (hE.wider k2) hT
   have hX3 := fun b hb => (m2 b hb).elim (hT b) (fun h => .inr (Nat.le_trans hE0.size h))
   have hE4 := hE3.trans (Evo.putObj (S := S') (o := .loop { r' with state := .exhausted }) ⟨_, hi1, (hr.2 _).2 rfl⟩) hX3
   have h5 := hz w.heap.size _ _ v ps' hp2 hRr _ S' _ { a with defers := mx w.heap.size :: a.defers } m3 he hn (by rw [← hd])
   show z.wpIn (fnc n.ro) 0 P (jF P fn R w S (tot fp s.hp.length)) { a with defers := mx w.heap.size :: a.defers } _
   refine dq (fun e a5 w5 h6 => jF.trans hE4 (fun b hb => ?_) h6) h5
   obtain ⟨i, hi, hb⟩ := hb
   split at hb
   · exact hb.elim
   · exact hX3 b ⟨i, by simpa using hi, hb⟩
theorem kZ {tmps : Array Value} {v : Value} {Rr : Ending → World → Prop} : ∀ (ds : List Nat) (w : World), ds.Nodup → (∀ D ∈ ds, w.heap[D]? = some (.deferred (some []))) → (∀ w2, (results fn tmps).run P w2 = .ok v w2) →
   (∀ w2, w2.os = w.os → w2.tape = w.tape → (w2.output = w.output ∧ w2.drawn = w.drawn) → w2.heap.size = w.heap.size → (∀ b, b ∉ ds → w2.heap[b]? = w.heap[b]?) → Rr (.returned v) w2) → LeavesInM (fnc none) 0 P fn tmps Rr (ds.map mx) .returning w
 | [], w, _, _, hr, h => ⟨v, hr w, h w rfl rfl ⟨rfl, rfl⟩ rfl fun _ _ => rfl⟩
 | D :: ds, w, hnd, hd, hr, h => by
   obtain ⟨h1, h2⟩ := List.nodup_cons.1 hnd
   refine ⟨by simp, .inl ⟨D, _, rfl, run_takeDeferred (hd D List.mem_cons_self), kZ ds _ h2 (fun D' hD' => ?_) hr fun w2 e1 e2 e3 e4 e5 => ?_⟩⟩
   · rw [World.putObj_heap_other (fun e => h1 (by rw [← e]; exact hD'))]
     exact hd D' (List.mem_cons_of_mem _ hD')
   · refine h w2 e1 e2 e3 (e4.trans World.putObj_size) fun b hb => ?_
     rw [e5 b (fun hb' => hb (List.mem_cons_of_mem _ hb')), World.putObj_heap_other (fun e => hb (by rw [e]; exact List.mem_cons_self))]
end
theorem Con.enterM {P : Program} {f : FuncId} {fn : Func} {c : Code} {args : List Value} {ps : List Per} {hp : List Res} {R : Value → List Per → List Res → Prop} (hf : P.funcs[f]? = some fn) (hb : fn.body = some c) (hle : args.length ≤ fn.ntmps)
   (h : fwp P fn ⟨fn.ntmps, none, []⟩ c R ⟨(List.range args.length).zipWith (fun i v => (i, true, v)) args, ps, hp⟩) : Con P f args ps hp R := fun w S fp hst => by
 refine (callsIn_wide (n := 0)).1 (callsIn_of_wp_marks (F := fnc none) (n := 0) hf hb trivial (dq (F := fnc none) (fun e a w' hq => ?_) (h w S fp { tmps := args.toArray ++ Array.replicate (fn.ntmps - args.toArray.size) undef, defers := [] } hst (rW args fn.ntmps) (by simp; omega) rfl)))
 obtain ⟨he, v, ds, ps', hp', S', fp', h1, h2, h3, h4, h5, h6, h7, h8⟩ := hq
 have key : LeavesInM (fnc none) 0 P fn a.tmps (fun e w' => ∃ v ps' hp' S' fp', e = .returned v ∧ R v ps' hp' ∧ St w' S' fp' ps' hp' ∧ Evo w S (tot fp hp.length) w' S' ∧ ∀ b, tot fp' hp'.length b → tot fp hp.length b ∨ w.heap.size ≤ b) a.defers .returning w' := by
   rw [h2]
   refine kZ ds w' h3 (fun D hD => (h8 D hD).1) h1 fun w2 e1 e2 e3 e4 e5 => ⟨v, ps', hp', S', fp', rfl, h4, ⟨fun p hp => p.mono (h5.per p hp) (fun b hb => e5 b fun hD => (h8 b hD).2.1 hb) (fun _ h => h), fun i R hR => R.mono (h5.res i R hR) (fun b hb => e5 b fun hD => (h8 b hD).2.2.1 ⟨i, (List.getElem?_eq_some_iff.1 hR).1, hb⟩) (fun b hb => e5 b fun hD => (h8 b hD).2.1 hb) (fun _ h => h), fun i hi b hb => by rw [e4]; exact h5.lt i hi b hb, h5.dj, fun b hb => by rw [e4]; exact h5.slt b hb⟩, ?_, h7⟩
   exact ⟨e1.trans h6.os, e2.trans h6.tape, e3.1.trans h6.output, by rw [e4]; exact h6.size, by rw [e3.2]; exact h6.drawn, fun b hb hx => (e5 b fun hD => (h8 b hD).2.2.2.elim hx (fun h => by omega)).trans (h6.block b hb hx), h6.more, h6.new⟩
 rcases he with rfl | rfl <;> exact key
end Go.Sy

namespace Go.Sy
open Go.RowKit Go.Lp
structure Sl (α : Type) where
 ad : Option Addr
 cap : Nat
 l : List α
instance {α : Type} : Inhabited (Sl α) := ⟨⟨none, 0, []⟩⟩
abbrev Sl.val {α : Type} (s : Sl α) : Value := .slice s.ad s.l.length s.cap
abbrev ShF {α : Type} (row : α → List D) (s : Sl α) : Per := Sh (.slice s.ad s.l.length s.cap) (.sl (s.l.map row))
def cv {α : Type} (p : α → Per) (l : List α) : Per := ⟨fun w S => ∀ x ∈ l, (p x).holds w S, fun h h1 h2 x hx => (p x).mono (h x hx) h1 h2⟩
def cA (p q : Per) : Per := ⟨fun w S => p.holds w S ∧ q.holds w S, fun h h1 h2 => ⟨p.mono h.1 h1 h2, q.mono h.2 h1 h2⟩⟩
section
variable {α : Type} {ps : List Per} {p q : Per}
theorem Ent.all {f : α → Per} {l : List α} {i : Nat} {x : α} (h : Ent ps (cv f l)) (hx : l[i]? = some x) : Ent ps (f x) := fun w S hp => h w S hp x (List.mem_of_getElem? hx)
theorem Ent.allm {f : α → Per} {l : List α} {x : α} (h : Ent ps (cv f l)) (hx : x ∈ l) : Ent ps (f x) := fun w S hp => h w S hp x hx
theorem Ent.left (h : Ent ps (cA p q)) : Ent ps p := fun w S hp => (h w S hp).1
theorem Ent.right (h : Ent ps (cA p q)) : Ent ps q := fun w S hp => (h w S hp).2
theorem Ent.yes {c : Bool} (h : Ent ps (cnd c p)) (hc : c = true) : Ent ps p := fun w S hp => h w S hp hc
theorem aQ {row : α → List D} {l : List α} {i : Nat} {x : α} (h : l[i]? = some x) : (l.map row)[i]? = some (row x) := by rw [List.getElem?_map, h]; rfl
end
theorem Con.quiet2 {P : Program} {v : Value} {f : FuncId} {args : List Value} {p q : Per} (h : Con P f args [p, q] [] fun u _ _ => u = v) {w : World} {S : bz} {fp : Nat → bz} {ps' : List Per} {hp : List Res} (hp1 : p ∈ ps') (hq1 : q ∈ ps') (hst : St w S fp ps' hp) :
   Calls P f args.toArray w fun e w' => e = .returned v ∧ Below w.heap.size w w' := h.quiet (fun _ h => by
     rcases List.mem_cons.1 h with rfl | h
     · exact hp1
     · rw [List.mem_singleton.1 h]; exact hq1) hst
theorem bA {P : Program} {n : Fr} {Q : Exit → Sta → Prop} {s : Sta} {c : Code} {ad : Option Addr} {m cp : Nat} {rows : List (List D)} (hs : Ent s.ps (Sh (.slice ad m cp) (.sl rows))) (h : m ≤ 9223372036854775807 → awp P n c Q s) : awp P n c Q s :=
 lq (fun w S fp hst => by
   have h : eU w S (.slice ad m cp) (.sl rows) := hs w S hst.per
   cases h with
   | e a c hc => simp
   | sl b o c sz rows us hb hn hc _ _ _ => unfold maxLen at hc; omega) h
theorem jN {P : Program} {n : Fr} {Q : Exit → Sta → Prop} {s : Sta} {c : Code} {v : Value} {rows : List (List D)} (hs : Ent s.ps (Sh v (.sl rows))) (h : ∀ ad k, v = .slice ad rows.length k → awp P n c Q s) : awp P n c Q s :=
 lq (φ := ∃ ad k, v = .slice ad rows.length k) (fun w S fp hst => by
   have h : eU w S v (.sl rows) := hs w S hst.per
   cases h with
   | e a c hc => exact ⟨_, _, rfl⟩
   | sl b o c sz rows us hb hn hc _ _ _ => exact ⟨_, _, rfl⟩) (fun ⟨ad, k, e⟩ => h ad k e)
theorem nq {P : Program} {n : Fr} {Q : Exit → Sta → Prop} {env : Env} {ps : List Per} {hp hp' : List Res} {c : Code} (h : hp = hp') (k : awp P n c Q ⟨env, ps, hp'⟩) : awp P n c Q ⟨env, ps, hp⟩ := h ▸ k
def elt {α : Type} [Inhabited α] (l : List α) (i : Int) : α := l.getD i.toNat default
theorem iQ {α : Type} [Inhabited α] {l : List α} {i : Int} (h : i < l.length) (h0 : 0 ≤ i) : l[i.toNat]? = some (elt l i) := by
 have : i.toNat < l.length := by omega
 simp [elt, List.getD, this]
theorem bM {α : Type} [Inhabited α] {l : List α} {i : Nat} (h : i < l.length) : l[i]? = some (elt l (i : Int)) := by simp [elt, List.getD, h]
theorem bI {α : Type} [Inhabited α] {row : α → List D} {l : List α} {i : Int} (h : i < l.length) (h0 : 0 ≤ i) : (l.map row)[i.toNat]? = some (row (elt l i)) := aQ (iQ h h0)
theorem Ent.elt {α : Type} [Inhabited α] {ps : List Per} {f : α → Per} {l : List α} {i : Int} (h : Ent ps (cv f l)) (h1 : i < l.length) (h0 : 0 ≤ i) : Ent ps (f (elt l i)) := h.all (iQ h1 h0)
end Go.Sy

namespace Go.Sy
open Go.RowKit Go.Lp
def eL (s : ByteArray) : Per := Fa (s.size ≤ maxLen)
section
variable {P : Program} {n : Fr} {env : Env} {ps : List Per} {hp : List Res} {c : Code} {Q : Exit → Sta → Prop}
theorem ab3 {φ : Prop} (h : Ent ps (Fa φ)) (k : φ → awp P n c Q ⟨env, ps, hp⟩) : awp P n c Q ⟨env, ps, hp⟩ := fun w S fp a hst he hn hd => k (h w S hst.per) w S fp a hst he hn hd
theorem fI {s : ByteArray} (h : Ent ps (eL s)) (k : s.size ≤ maxLen → awp P n c Q ⟨env, ps, hp⟩) : awp P n c Q ⟨env, ps, hp⟩ := ab3 h k
end
end Go.Sy

namespace Go.Sy
open Go.RowKit Go.Lp
def gC (w : World) (S : bz) (us : List Value) (ds : List D) : Prop := us.length = ds.length ∧ ∀ (j : Nat) (d : D), ds[j]? = some d → ∃ u, us[j]? = some u ∧ eU w S u d
theorem gC.nil {w : World} {S : bz} {us : List Value} (h : gC w S us []) : us = [] := List.eq_nil_of_length_eq_zero h.1
theorem gC.cons {w : World} {S : bz} {us : List Value} {d : D} {ds : List D} (h : gC w S us (d :: ds)) : ∃ u us', us = u :: us' ∧ eU w S u d ∧ gC w S us' ds := by
 cases us with
 | nil => have := h.1; simp at this
 | cons u us =>
   obtain ⟨u', h1, h2⟩ := h.2 0 d rfl
   simp only [List.getElem?_cons_zero, Option.some.injEq] at h1
   subst h1
   exact ⟨u, us, rfl, h2, by simpa using h.1, fun j e hj => by have := h.2 (j + 1) e (by simpa using hj); simpa using this⟩
theorem aam {w : World} {cs : List Value} {ds : List D} (hl : ds.length = cs.length) (h : Rds w cs 0 ds) : gC w (fun b => b < w.heap.size) cs ds := ⟨hl.symm, fun j d hj => by
 obtain ⟨u, h1, _, h2⟩ := h j d hj
 rw [Nat.zero_add] at h1
 exact ⟨u, h1, h2⟩⟩
theorem ey {α : Type} [Inhabited α] {row : α → List D} {ok : α → Per} {w : World} {S : bz} {v : Value} {rows : List (List D)} (h : eU w S v (.sl rows))
   (hf : ∀ r ∈ rows, ∀ us : List Value, gC w S us r → ∃ y : α, row y = us.map D.v ∧ (ok y).holds w S) : ∃ s : Sl α, v = s.val ∧ (ShF row s).holds w S ∧ (cv ok s.l).holds w S := by
 cases h with
 | e a c hc => exact ⟨⟨a, c, []⟩, rfl, .e a c hc, fun y hy => by cases hy⟩
 | sl b o c sz _ us hb hn hc hrl hcell hd =>
   have each : ∀ i : Nat, ∃ y : α, i < rows.length → row y = ((List.range sz).map fun j => us i j).map D.v ∧ (ok y).holds w S := fun i => by
     by_cases hi : i < rows.length
     · obtain ⟨r, hr⟩ : ∃ r, rows[i]? = some r := ⟨_, List.getElem?_eq_getElem hi⟩
       obtain ⟨y, h1, h2⟩ := hf r (List.mem_of_getElem? hr) ((List.range sz).map fun j => us i j) ⟨by simp [hrl i r hr], fun j d hj => by
         have hjl := (List.getElem?_eq_some_iff.1 hj).1
         rw [hrl i r hr] at hjl
         exact ⟨us i j, by rw [List.getElem?_map, List.getElem?_range hjl]; rfl, hd i j r d hr hj⟩⟩
       exact ⟨y, fun _ => ⟨h1, h2⟩⟩
     · exact ⟨default, fun h => absurd h hi⟩
   obtain ⟨Y, hY⟩ := Classical.skolem.1 each
   have hget : ∀ (i : Nat) (r : List D), (((List.range rows.length).map Y).map row)[i]? = some r → i < rows.length ∧ r = ((List.range sz).map fun j => us i j).map D.v := fun i r hi => by
     rw [List.getElem?_map, List.getElem?_map] at hi
     by_cases hil : i < rows.length
     · rw [List.getElem?_range hil] at hi
       simp only [Option.map_some, Option.some.injEq] at hi
       exact ⟨hil, by rw [← hi]; exact (hY i hil).1⟩
     · rw [List.getElem?_eq_none (by simpa using hil)] at hi; cases hi
   have hcl : ∀ (i j : Nat) (r : List D) (d : D), (((List.range rows.length).map Y).map row)[i]? = some r → r[j]? = some d → ∃ r0 d0, rows[i]? = some r0 ∧ r0[j]? = some d0 ∧ d = .v (us i j) := fun i j r d hi hj => by
     obtain ⟨hil, rfl⟩ := hget i r hi
     obtain ⟨r0, hr0⟩ : ∃ r, rows[i]? = some r := ⟨_, List.getElem?_eq_getElem hil⟩
     have hjl := (List.getElem?_eq_some_iff.1 hj).1
     rw [List.length_map, List.length_map, List.length_range] at hjl
     rw [List.getElem?_map, List.getElem?_map, List.getElem?_range hjl] at hj
     simp only [Option.map_some, Option.some.injEq] at hj
     exact ⟨r0, _, hr0, List.getElem?_eq_getElem (by rw [hrl i r0 hr0]; exact hjl), hj.symm⟩
   refine ⟨⟨some ⟨b, o, none⟩, c, (List.range rows.length).map Y⟩, by simp [Sl.val], ?_, fun y hy => ?_⟩
   · have h := eU.sl (w := w) (S := S) b o c sz (((List.range rows.length).map Y).map row) us hb (by simpa using hn) hc (fun i r hi => by obtain ⟨_, rfl⟩ := hget i r hi; simp)
       (fun i j r d hi hj => by obtain ⟨r0, d0, h1, h2, _⟩ := hcl i j r d hi hj; exact hcell i j r0 d0 h1 h2) (fun i j r d hi hj => by obtain ⟨_, _, _, _, rfl⟩ := hcl i j r d hi hj; exact .v _)
     rw [List.length_map, List.length_map, List.length_range] at h
     show eU w S (.slice (some ⟨b, o, none⟩) ((List.range rows.length).map Y).length c) (.sl (((List.range rows.length).map Y).map row))
     rw [List.length_map, List.length_range]; exact h
   · obtain ⟨i, hi, rfl⟩ := List.mem_map.1 hy
     exact (hY i (List.mem_range.1 hi)).2
section
variable {P : Program} {k : Nat} {t e : TypeId} {w : World} {S : bz} {us : List Value} {ds : List D}
theorem abV (hu : P.underlying t = some (.int .i64)) (h : okD P (k + 1) t ds) (hr : gC w S us ds) : ∃ z : Int, [D.v (.int .i64 z)] = us.map D.v ∧ (Fa True).holds w S := by
 obtain ⟨n, rfl, _⟩ := cj hu h
 obtain ⟨u, _, rfl, r, hr⟩ := hr.cons
 obtain rfl := hr.nil; obtain rfl := bN r
 exact ⟨n, rfl, trivial⟩
theorem vA (hu : P.underlying t = some .string) (h : okD P (k + 1) t ds) (hr : gC w S us ds) : ∃ s : ByteArray, [D.v (.string s)] = us.map D.v ∧ (eL s).holds w S := by
 obtain ⟨n, rfl, hz⟩ := dt hu h
 obtain ⟨u, _, rfl, r, hr⟩ := hr.cons
 obtain rfl := hr.nil; obtain rfl := bN r
 exact ⟨n, rfl, hz⟩
theorem ach {α : Type} [Inhabited α] {row : α → List D} {ok : α → Per} (hu : P.underlying t = some (.slice e)) (h : okD P (k + 1) t ds) (hr : gC w S us ds) (hf : ∀ r, okD P k e r → ∀ us, gC w S us r → ∃ y : α, row y = us.map D.v ∧ (ok y).holds w S) :
   ∃ s : Sl α, [D.v s.val] = us.map D.v ∧ (cA (ShF row s) (cv ok s.l)).holds w S := by
 obtain ⟨rows, rfl, _, hrows⟩ := dA hu h
 obtain ⟨u, _, rfl, r, hr⟩ := hr.cons
 obtain rfl := hr.nil
 obtain ⟨s, rfl, h1, h2⟩ := ey (row := row) (ok := ok) r fun r hr us hu => hf r (hrows r hr) us hu
 exact ⟨s, rfl, h1, h2⟩
theorem y6 {a b : List Value} (h : a.map D.v = b.map D.v) : a = b := by
 induction a generalizing b with
 | nil => cases b with
   | nil => rfl
   | cons => simp at h
 | cons x a ih => cases b with
   | nil => simp at h
   | cons y b =>
     simp only [List.map_cons, List.cons.injEq, D.v.injEq] at h
     rw [h.1, ih h.2]
end
end Go.Sy

namespace Go.Proofs.YtgmiihmahaahiaaGreatDoor
open Go.RowKit Go.Lp Go.Sy
structure aW where
 name : ByteArray
 parents : Sl ByteArray
 deriving Inhabited
abbrev aW.row (x : aW) : List D := [.v (.string x.name), .v (.slice x.parents.ad x.parents.l.length x.parents.cap)]
def aW.ok (x : aW) : Per := cA (eL x.name) (cA (ShF (fun s => [.v (.string s)]) x.parents) (cv (fun y => eL y) x.parents.l))
theorem aW.f_parents {ps : List Per} {x : aW} (h : Ent ps x.ok) : Ent ps (ShF (fun s => [.v (.string s)]) x.parents) := (Ent.left (Ent.right h))
structure ff where
 name : ByteArray
 lib : Bool
 objs : Sl ByteArray
 needs : Sl ByteArray
 entry : ByteArray
 spare : Int
 versions : Sl aW
 deriving Inhabited
abbrev ff.row (x : ff) : List D := [.v (.string x.name), .v (.bool x.lib), .v (.slice x.objs.ad x.objs.l.length x.objs.cap), .v (.slice x.needs.ad x.needs.l.length x.needs.cap), .v (.string x.entry), .v (.int .i64 x.spare), .v (.slice x.versions.ad x.versions.l.length x.versions.cap)]
abbrev ff.vs (x : ff) : List Value := [.string x.name, .bool x.lib, .slice x.objs.ad x.objs.l.length x.objs.cap, .slice x.needs.ad x.needs.l.length x.needs.cap, .string x.entry, .int .i64 x.spare, .slice x.versions.ad x.versions.l.length x.versions.cap]
abbrev ff.val (x : ff) : Value := .agg #[.string x.name, .bool x.lib, .slice x.objs.ad x.objs.l.length x.objs.cap, .slice x.needs.ad x.needs.l.length x.needs.cap, .string x.entry, .int .i64 x.spare, .slice x.versions.ad x.versions.l.length x.versions.cap]
def ff.ok (x : ff) : Per := cA (eL x.name) (cA (ShF (fun s => [.v (.string s)]) x.objs) (cA (cv (fun y => eL y) x.objs.l) (cA (ShF (fun s => [.v (.string s)]) x.needs) (cA (cv (fun y => eL y) x.needs.l) (cA (eL x.entry) (cA (ShF (aW.row) x.versions) (cv (fun y => aW.ok y) x.versions.l)))))))
structure cG where
 name : ByteArray
 kind : Int
 align : Int
 size : Int
 bytes : ByteArray
 keep : Bool
 deriving Inhabited
abbrev cG.row (x : cG) : List D := [.v (.string x.name), .v (.int .i64 x.kind), .v (.int .i64 x.align), .v (.int .i64 x.size), .v (.string x.bytes), .v (.bool x.keep)]
abbrev cG.vs (x : cG) : List Value := [.string x.name, .int .i64 x.kind, .int .i64 x.align, .int .i64 x.size, .string x.bytes, .bool x.keep]
abbrev cG.val (x : cG) : Value := .agg #[.string x.name, .int .i64 x.kind, .int .i64 x.align, .int .i64 x.size, .string x.bytes, .bool x.keep]
def cG.ok (x : cG) : Per := cA (eL x.name) (eL x.bytes)
theorem cG.f_name {ps : List Per} {x : cG} (h : Ent ps x.ok) : Ent ps (eL x.name) := (Ent.left h)
theorem cG.f_bytes {ps : List Per} {x : cG} (h : Ent ps x.ok) : Ent ps (eL x.bytes) := (Ent.right h)
structure bE where
 name : ByteArray
 version : ByteArray
 main : Bool
 bind : Int
 vis : Int
 kind : Int
 sec : Int
 at_ : Int
 size : Int
 align : Int
 deriving Inhabited
abbrev bE.row (x : bE) : List D := [.v (.string x.name), .v (.string x.version), .v (.bool x.main), .v (.int .i64 x.bind), .v (.int .i64 x.vis), .v (.int .i64 x.kind), .v (.int .i64 x.sec), .v (.int .i64 x.at_), .v (.int .i64 x.size), .v (.int .i64 x.align)]
abbrev bE.vs (x : bE) : List Value := [.string x.name, .string x.version, .bool x.main, .int .i64 x.bind, .int .i64 x.vis, .int .i64 x.kind, .int .i64 x.sec, .int .i64 x.at_, .int .i64 x.size, .int .i64 x.align]
abbrev bE.val (x : bE) : Value := .agg #[.string x.name, .string x.version, .bool x.main, .int .i64 x.bind, .int .i64 x.vis, .int .i64 x.kind, .int .i64 x.sec, .int .i64 x.at_, .int .i64 x.size, .int .i64 x.align]
def bE.ok (x : bE) : Per := cA (eL x.name) (eL x.version)
theorem bE.f_name {ps : List Per} {x : bE} (h : Ent ps x.ok) : Ent ps (eL x.name) := (Ent.left h)
theorem bE.f_version {ps : List Per} {x : bE} (h : Ent ps x.ok) : Ent ps (eL x.version) := (Ent.right h)
structure ju where
 sec : Int
 at_ : Int
 kind : Int
 sym : Int
 add : Int
 deriving Inhabited
abbrev ju.row (x : ju) : List D := [.v (.int .i64 x.sec), .v (.int .i64 x.at_), .v (.int .i64 x.kind), .v (.int .i64 x.sym), .v (.int .i64 x.add)]
abbrev ju.val (x : ju) : Value := .agg #[.int .i64 x.sec, .int .i64 x.at_, .int .i64 x.kind, .int .i64 x.sym, .int .i64 x.add]
structure du where
 name : ByteArray
 secs : Sl Int
 deriving Inhabited
abbrev du.row (x : du) : List D := [.v (.string x.name), .v (.slice x.secs.ad x.secs.l.length x.secs.cap)]
abbrev du.vs (x : du) : List Value := [.string x.name, .slice x.secs.ad x.secs.l.length x.secs.cap]
abbrev du.val (x : du) : Value := .agg #[.string x.name, .slice x.secs.ad x.secs.l.length x.secs.cap]
def du.ok (x : du) : Per := cA (eL x.name) (ShF (fun z => [.v (.int .i64 z)]) x.secs)
theorem du.f_name {ps : List Per} {x : du} (h : Ent ps x.ok) : Ent ps (eL x.name) := (Ent.left h)
theorem du.f_secs {ps : List Per} {x : du} (h : Ent ps x.ok) : Ent ps (ShF (fun z => [.v (.int .i64 z)]) x.secs) := (Ent.right h)
structure kh where
 sym : Int
 order : Int
 last : Bool
 deriving Inhabited
abbrev kh.row (x : kh) : List D := [.v (.int .i64 x.sym), .v (.int .i64 x.order), .v (.bool x.last)]
structure gN where
 sec : Int
 at_ : Int
 file : ByteArray
 line : Int
 deriving Inhabited
abbrev gN.row (x : gN) : List D := [.v (.int .i64 x.sec), .v (.int .i64 x.at_), .v (.string x.file), .v (.int .i64 x.line)]
def gN.ok (x : gN) : Per := eL x.file
theorem gN.f_file {ps : List Per} {x : gN} (h : Ent ps x.ok) : Ent ps (eL x.file) := h
structure dN where
 sec : Int
 from_ : Int
 to_ : Int
 name : ByteArray
 file : ByteArray
 line : Int
 deriving Inhabited
abbrev dN.row (x : dN) : List D := [.v (.int .i64 x.sec), .v (.int .i64 x.from_), .v (.int .i64 x.to_), .v (.string x.name), .v (.string x.file), .v (.int .i64 x.line)]
abbrev dN.vs (x : dN) : List Value := [.int .i64 x.sec, .int .i64 x.from_, .int .i64 x.to_, .string x.name, .string x.file, .int .i64 x.line]
def dN.ok (x : dN) : Per := cA (eL x.name) (eL x.file)
theorem dN.f_name {ps : List Per} {x : dN} (h : Ent ps x.ok) : Ent ps (eL x.name) := (Ent.left h)
theorem dN.f_file {ps : List Per} {x : dN} (h : Ent ps x.ok) : Ent ps (eL x.file) := (Ent.right h)
structure iV where
 sec : Int
 from_ : Int
 to_ : Int
 name : ByteArray
 where_ : Int
 n : Int
 deriving Inhabited
abbrev iV.row (x : iV) : List D := [.v (.int .i64 x.sec), .v (.int .i64 x.from_), .v (.int .i64 x.to_), .v (.string x.name), .v (.int .i64 x.where_), .v (.int .i64 x.n)]
abbrev iV.val (x : iV) : Value := .agg #[.int .i64 x.sec, .int .i64 x.from_, .int .i64 x.to_, .string x.name, .int .i64 x.where_, .int .i64 x.n]
def iV.ok (x : iV) : Per := eL x.name
theorem iV.f_name {ps : List Per} {x : iV} (h : Ent ps x.ok) : Ent ps (eL x.name) := h
structure kA where
 sec : Int
 from_ : Int
 to_ : Int
 bytes : Int
 deriving Inhabited
abbrev kA.row (x : kA) : List D := [.v (.int .i64 x.sec), .v (.int .i64 x.from_), .v (.int .i64 x.to_), .v (.int .i64 x.bytes)]
structure iE where
 from_ : Int
 size : Int
 to_ : Int
 deriving Inhabited
abbrev iE.row (x : iE) : List D := [.v (.int .i64 x.from_), .v (.int .i64 x.size), .v (.int .i64 x.to_)]
structure dx where
 sec : Int
 from_ : ByteArray
 pieces : Sl iE
 code : Int
 deriving Inhabited
abbrev dx.row (x : dx) : List D := [.v (.int .i64 x.sec), .v (.string x.from_), .v (.slice x.pieces.ad x.pieces.l.length x.pieces.cap), .v (.int .i64 x.code)]
def dx.ok (x : dx) : Per := cA (eL x.from_) (ShF (iE.row) x.pieces)
theorem dx.f_pieces {ps : List Per} {x : dx} (h : Ent ps x.ok) : Ent ps (ShF (iE.row) x.pieces) := (Ent.right h)
structure ax where
 name : ByteArray
 secs : Sl cG
 syms : Sl bE
 rels : Sl ju
 groups : Sl du
 inits : Sl kh
 lines : Sl gN
 inlines : Sl dN
 vars : Sl iV
 depths : Sl kA
 converts : Sl dx
 deriving Inhabited
abbrev ax.row (x : ax) : List D := [.v (.string x.name), .v (.slice x.secs.ad x.secs.l.length x.secs.cap), .v (.slice x.syms.ad x.syms.l.length x.syms.cap), .v (.slice x.rels.ad x.rels.l.length x.rels.cap), .v (.slice x.groups.ad x.groups.l.length x.groups.cap), .v (.slice x.inits.ad x.inits.l.length x.inits.cap), .v (.slice x.lines.ad x.lines.l.length x.lines.cap), .v (.slice x.inlines.ad x.inlines.l.length x.inlines.cap), .v (.slice x.vars.ad x.vars.l.length x.vars.cap), .v (.slice x.depths.ad x.depths.l.length x.depths.cap), .v (.slice x.converts.ad x.converts.l.length x.converts.cap)]
abbrev ax.vs (x : ax) : List Value := [.string x.name, .slice x.secs.ad x.secs.l.length x.secs.cap, .slice x.syms.ad x.syms.l.length x.syms.cap, .slice x.rels.ad x.rels.l.length x.rels.cap, .slice x.groups.ad x.groups.l.length x.groups.cap, .slice x.inits.ad x.inits.l.length x.inits.cap, .slice x.lines.ad x.lines.l.length x.lines.cap, .slice x.inlines.ad x.inlines.l.length x.inlines.cap, .slice x.vars.ad x.vars.l.length x.vars.cap, .slice x.depths.ad x.depths.l.length x.depths.cap, .slice x.converts.ad x.converts.l.length x.converts.cap]
abbrev ax.val (x : ax) : Value := .agg #[.string x.name, .slice x.secs.ad x.secs.l.length x.secs.cap, .slice x.syms.ad x.syms.l.length x.syms.cap, .slice x.rels.ad x.rels.l.length x.rels.cap, .slice x.groups.ad x.groups.l.length x.groups.cap, .slice x.inits.ad x.inits.l.length x.inits.cap, .slice x.lines.ad x.lines.l.length x.lines.cap, .slice x.inlines.ad x.inlines.l.length x.inlines.cap, .slice x.vars.ad x.vars.l.length x.vars.cap, .slice x.depths.ad x.depths.l.length x.depths.cap, .slice x.converts.ad x.converts.l.length x.converts.cap]
def ax.ok (x : ax) : Per := cA (eL x.name) (cA (ShF (cG.row) x.secs) (cA (cv (fun y => cG.ok y) x.secs.l) (cA (ShF (bE.row) x.syms) (cA (cv (fun y => bE.ok y) x.syms.l) (cA (ShF (ju.row) x.rels) (cA (ShF (du.row) x.groups) (cA (cv (fun y => du.ok y) x.groups.l) (cA (ShF (kh.row) x.inits) (cA (ShF (gN.row) x.lines) (cA (cv (fun y => gN.ok y) x.lines.l) (cA (ShF (dN.row) x.inlines) (cA (cv (fun y => dN.ok y) x.inlines.l) (cA (ShF (iV.row) x.vars) (cA (cv (fun y => iV.ok y) x.vars.l) (cA (ShF (kA.row) x.depths) (cA (ShF (dx.row) x.converts) (cv (fun y => dx.ok y) x.converts.l)))))))))))))))))
theorem ax.f_name {ps : List Per} {x : ax} (h : Ent ps x.ok) : Ent ps (eL x.name) := (Ent.left h)
theorem ax.f_secs {ps : List Per} {x : ax} (h : Ent ps x.ok) : Ent ps (ShF (cG.row) x.secs) := (Ent.left (Ent.right h))
theorem ax.f_secsA {ps : List Per} {x : ax} (h : Ent ps x.ok) : Ent ps (cv (fun y => cG.ok y) x.secs.l) := (Ent.left (Ent.right (Ent.right h)))
theorem ax.f_syms {ps : List Per} {x : ax} (h : Ent ps x.ok) : Ent ps (ShF (bE.row) x.syms) := (Ent.left (Ent.right (Ent.right (Ent.right h))))
theorem ax.f_symsA {ps : List Per} {x : ax} (h : Ent ps x.ok) : Ent ps (cv (fun y => bE.ok y) x.syms.l) := (Ent.left (Ent.right (Ent.right (Ent.right (Ent.right h)))))
theorem ax.f_rels {ps : List Per} {x : ax} (h : Ent ps x.ok) : Ent ps (ShF (ju.row) x.rels) := (Ent.left (Ent.right (Ent.right (Ent.right (Ent.right (Ent.right h))))))
theorem ax.f_groups {ps : List Per} {x : ax} (h : Ent ps x.ok) : Ent ps (ShF (du.row) x.groups) := (Ent.left (Ent.right (Ent.right (Ent.right (Ent.right (Ent.right (Ent.right h)))))))
theorem ax.f_groupsA {ps : List Per} {x : ax} (h : Ent ps x.ok) : Ent ps (cv (fun y => du.ok y) x.groups.l) := (Ent.left (Ent.right (Ent.right (Ent.right (Ent.right (Ent.right (Ent.right (Ent.right h))))))))
theorem ax.f_inits {ps : List Per} {x : ax} (h : Ent ps x.ok) : Ent ps (ShF (kh.row) x.inits) := (Ent.left (Ent.right (Ent.right (Ent.right (Ent.right (Ent.right (Ent.right (Ent.right (Ent.right h)))))))))
theorem ax.f_lines {ps : List Per} {x : ax} (h : Ent ps x.ok) : Ent ps (ShF (gN.row) x.lines) := (Ent.left (Ent.right (Ent.right (Ent.right (Ent.right (Ent.right (Ent.right (Ent.right (Ent.right (Ent.right h))))))))))
theorem ax.f_linesA {ps : List Per} {x : ax} (h : Ent ps x.ok) : Ent ps (cv (fun y => gN.ok y) x.lines.l) := (Ent.left (Ent.right (Ent.right (Ent.right (Ent.right (Ent.right (Ent.right (Ent.right (Ent.right (Ent.right (Ent.right h)))))))))))
theorem ax.f_inlines {ps : List Per} {x : ax} (h : Ent ps x.ok) : Ent ps (ShF (dN.row) x.inlines) := (Ent.left (Ent.right (Ent.right (Ent.right (Ent.right (Ent.right (Ent.right (Ent.right (Ent.right (Ent.right (Ent.right (Ent.right h))))))))))))
theorem ax.f_inlinesA {ps : List Per} {x : ax} (h : Ent ps x.ok) : Ent ps (cv (fun y => dN.ok y) x.inlines.l) := (Ent.left (Ent.right (Ent.right (Ent.right (Ent.right (Ent.right (Ent.right (Ent.right (Ent.right (Ent.right (Ent.right (Ent.right (Ent.right h)))))))))))))
theorem ax.f_vars {ps : List Per} {x : ax} (h : Ent ps x.ok) : Ent ps (ShF (iV.row) x.vars) := (Ent.left (Ent.right (Ent.right (Ent.right (Ent.right (Ent.right (Ent.right (Ent.right (Ent.right (Ent.right (Ent.right (Ent.right (Ent.right (Ent.right h))))))))))))))
theorem ax.f_varsA {ps : List Per} {x : ax} (h : Ent ps x.ok) : Ent ps (cv (fun y => iV.ok y) x.vars.l) := (Ent.left (Ent.right (Ent.right (Ent.right (Ent.right (Ent.right (Ent.right (Ent.right (Ent.right (Ent.right (Ent.right (Ent.right (Ent.right (Ent.right (Ent.right h)))))))))))))))
theorem ax.f_depths {ps : List Per} {x : ax} (h : Ent ps x.ok) : Ent ps (ShF (kA.row) x.depths) := (Ent.left (Ent.right (Ent.right (Ent.right (Ent.right (Ent.right (Ent.right (Ent.right (Ent.right (Ent.right (Ent.right (Ent.right (Ent.right (Ent.right (Ent.right (Ent.right h))))))))))))))))
theorem ax.f_converts {ps : List Per} {x : ax} (h : Ent ps x.ok) : Ent ps (ShF (dx.row) x.converts) := (Ent.left (Ent.right (Ent.right (Ent.right (Ent.right (Ent.right (Ent.right (Ent.right (Ent.right (Ent.right (Ent.right (Ent.right (Ent.right (Ent.right (Ent.right (Ent.right (Ent.right h)))))))))))))))))
theorem ax.f_convertsA {ps : List Per} {x : ax} (h : Ent ps x.ok) : Ent ps (cv (fun y => dx.ok y) x.converts.l) := (Ent.right (Ent.right (Ent.right (Ent.right (Ent.right (Ent.right (Ent.right (Ent.right (Ent.right (Ent.right (Ent.right (Ent.right (Ent.right (Ent.right (Ent.right (Ent.right (Ent.right h)))))))))))))))))
structure bq where
 kind : Int
 obj : Int
 sym : Int
 lib : Int
 why : Int
 open_ : Bool
 deriving Inhabited
abbrev bq.row (x : bq) : List D := [.v (.int .i64 x.kind), .v (.int .i64 x.obj), .v (.int .i64 x.sym), .v (.int .i64 x.lib), .v (.int .i64 x.why), .v (.bool x.open_)]
abbrev bq.val (x : bq) : Value := .agg #[.int .i64 x.kind, .int .i64 x.obj, .int .i64 x.sym, .int .i64 x.lib, .int .i64 x.why, .bool x.open_]
structure dr where
 obj : Int
 sec : Int
 deriving Inhabited
abbrev dr.row (x : dr) : List D := [.v (.int .i64 x.obj), .v (.int .i64 x.sec)]
abbrev dr.val (x : dr) : Value := .agg #[.int .i64 x.obj, .int .i64 x.sec]
structure dy where
 from_ : Int
 to_ : Int
 deriving Inhabited
abbrev dy.row (x : dy) : List D := [.v (.int .i64 x.from_), .v (.int .i64 x.to_)]
abbrev dy.val (x : dy) : Value := .agg #[.int .i64 x.from_, .int .i64 x.to_]
structure bj where
 r : ff
 objs : Sl ax
 keep : Sl (Sl Bool)
 choices : Sl (Sl bq)
 first : Sl Int
 count : Int
 deriving Inhabited
abbrev bj.row (x : bj) : List D := [.v (.string x.r.name), .v (.bool x.r.lib), .v (.slice x.r.objs.ad x.r.objs.l.length x.r.objs.cap), .v (.slice x.r.needs.ad x.r.needs.l.length x.r.needs.cap), .v (.string x.r.entry), .v (.int .i64 x.r.spare), .v (.slice x.r.versions.ad x.r.versions.l.length x.r.versions.cap), .v (.slice x.objs.ad x.objs.l.length x.objs.cap), .v (.slice x.keep.ad x.keep.l.length x.keep.cap), .v (.slice x.choices.ad x.choices.l.length x.choices.cap), .v (.slice x.first.ad x.first.l.length x.first.cap), .v (.int .i64 x.count)]
abbrev bj.vs (x : bj) : List Value := [.string x.r.name, .bool x.r.lib, .slice x.r.objs.ad x.r.objs.l.length x.r.objs.cap, .slice x.r.needs.ad x.r.needs.l.length x.r.needs.cap, .string x.r.entry, .int .i64 x.r.spare, .slice x.r.versions.ad x.r.versions.l.length x.r.versions.cap, .slice x.objs.ad x.objs.l.length x.objs.cap, .slice x.keep.ad x.keep.l.length x.keep.cap, .slice x.choices.ad x.choices.l.length x.choices.cap, .slice x.first.ad x.first.l.length x.first.cap, .int .i64 x.count]
def bj.ok (x : bj) : Per := cA (ff.ok x.r) (cA (ShF (ax.row) x.objs) (cA (cv (fun y => ax.ok y) x.objs.l) (cA (ShF (fun s => [.v (.slice s.ad s.l.length s.cap)]) x.keep) (cA (cv (fun y => ShF (fun b => [.v (.bool b)]) y) x.keep.l) (cA (ShF (fun s => [.v (.slice s.ad s.l.length s.cap)]) x.choices) (cA (cv (fun y => ShF (bq.row) y) x.choices.l) (ShF (fun z => [.v (.int .i64 z)]) x.first)))))))
theorem bj.f_objs {ps : List Per} {x : bj} (h : Ent ps x.ok) : Ent ps (ShF (ax.row) x.objs) := (Ent.left (Ent.right h))
theorem bj.f_objsA {ps : List Per} {x : bj} (h : Ent ps x.ok) : Ent ps (cv (fun y => ax.ok y) x.objs.l) := (Ent.left (Ent.right (Ent.right h)))
theorem bj.f_keep {ps : List Per} {x : bj} (h : Ent ps x.ok) : Ent ps (ShF (fun s => [.v (.slice s.ad s.l.length s.cap)]) x.keep) := (Ent.left (Ent.right (Ent.right (Ent.right h))))
theorem bj.f_keepA {ps : List Per} {x : bj} (h : Ent ps x.ok) : Ent ps (cv (fun y => ShF (fun b => [.v (.bool b)]) y) x.keep.l) := (Ent.left (Ent.right (Ent.right (Ent.right (Ent.right h)))))
theorem bj.f_choices {ps : List Per} {x : bj} (h : Ent ps x.ok) : Ent ps (ShF (fun s => [.v (.slice s.ad s.l.length s.cap)]) x.choices) := (Ent.left (Ent.right (Ent.right (Ent.right (Ent.right (Ent.right h))))))
theorem bj.f_choicesA {ps : List Per} {x : bj} (h : Ent ps x.ok) : Ent ps (cv (fun y => ShF (bq.row) y) x.choices.l) := (Ent.left (Ent.right (Ent.right (Ent.right (Ent.right (Ent.right (Ent.right h)))))))
theorem bj.f_first {ps : List Per} {x : bj} (h : Ent ps x.ok) : Ent ps (ShF (fun z => [.v (.int .i64 z)]) x.first) := (Ent.right (Ent.right (Ent.right (Ent.right (Ent.right (Ent.right (Ent.right h)))))))
end Go.Proofs.YtgmiihmahaahiaaGreatDoor

namespace Go.Proofs.YtgmiihmahaahiaaGreatDoor
open Go.RowKit Go.Lp Go.Sy
structure dT where
 name : ByteArray
 version : ByteArray
 main : Bool
 kind : Int
 at_ : Int
 size : Int
 deriving Inhabited
abbrev dT.row (x : dT) : List D := [.v (.string x.name), .v (.string x.version), .v (.bool x.main), .v (.int .i64 x.kind), .v (.int .i64 x.at_), .v (.int .i64 x.size)]
abbrev dT.val (x : dT) : Value := .agg #[.string x.name, .string x.version, .bool x.main, .int .i64 x.kind, .int .i64 x.at_, .int .i64 x.size]
def dT.ok (x : dT) : Per := cA (eL x.name) (eL x.version)
structure cQ where
 name : ByteArray
 exports : Sl dT
 versions : Sl aW
 deriving Inhabited
abbrev cQ.row (x : cQ) : List D := [.v (.string x.name), .v (.slice x.exports.ad x.exports.l.length x.exports.cap), .v (.slice x.versions.ad x.versions.l.length x.versions.cap)]
abbrev cQ.val (x : cQ) : Value := .agg #[.string x.name, .slice x.exports.ad x.exports.l.length x.exports.cap, .slice x.versions.ad x.versions.l.length x.versions.cap]
def cQ.ok (x : cQ) : Per := cA (eL x.name) (cA (ShF (dT.row) x.exports) (cA (cv (fun y => dT.ok y) x.exports.l) (cA (ShF (aW.row) x.versions) (cv (fun y => aW.ok y) x.versions.l))))
theorem cQ.f_exports {ps : List Per} {x : cQ} (h : Ent ps x.ok) : Ent ps (ShF (dT.row) x.exports) := (Ent.left (Ent.right h))
theorem cQ.f_versions {ps : List Per} {x : cQ} (h : Ent ps x.ok) : Ent ps (ShF (aW.row) x.versions) := (Ent.left (Ent.right (Ent.right (Ent.right h))))
theorem cQ.f_versionsA {ps : List Per} {x : cQ} (h : Ent ps x.ok) : Ent ps (cv (fun y => aW.ok y) x.versions.l) := (Ent.right (Ent.right (Ent.right (Ent.right h))))
structure aK where
 obj : Int
 sym : Int
 deriving Inhabited
abbrev aK.row (x : aK) : List D := [.v (.int .i64 x.obj), .v (.int .i64 x.sym)]
abbrev aK.vs (x : aK) : List Value := [.int .i64 x.obj, .int .i64 x.sym]
abbrev aK.val (x : aK) : Value := .agg #[.int .i64 x.obj, .int .i64 x.sym]
structure bF where
 name : ByteArray
 version : ByteArray
 main : Bool
 kind : Int
 obj : Int
 sym : Int
 common : Bool
 deriving Inhabited
abbrev bF.row (x : bF) : List D := [.v (.string x.name), .v (.string x.version), .v (.bool x.main), .v (.int .i64 x.kind), .v (.int .i64 x.obj), .v (.int .i64 x.sym), .v (.bool x.common)]
abbrev bF.vs (x : bF) : List Value := [.string x.name, .string x.version, .bool x.main, .int .i64 x.kind, .int .i64 x.obj, .int .i64 x.sym, .bool x.common]
abbrev bF.val (x : bF) : Value := .agg #[.string x.name, .string x.version, .bool x.main, .int .i64 x.kind, .int .i64 x.obj, .int .i64 x.sym, .bool x.common]
def bF.ok (x : bF) : Per := cA (eL x.name) (eL x.version)
structure acj where
 name : ByteArray
 version : ByteArray
 deriving Inhabited
def acj.ok (x : acj) : Per := cA (eL x.name) (eL x.version)
end Go.Proofs.YtgmiihmahaahiaaGreatDoor

namespace Go.Proofs.YtgmiihmahaahiaaGreatDoor
open Go.RowKit Go.Lp Go.Sy
theorem tT {k : Nat} {w : World} {S : bz} {us : List Value} {ds : List D} (h : okD Tryz.prog (k + 2) 85 ds) (hr : gC w S us ds) : ∃ y : cG, y.row = us.map D.v ∧ (y.ok).holds w S := by
 have h := dE Tryz.underlying85 h
 obtain ⟨d0, _, rfl, h0, d1, _, rfl, h1, d2, _, rfl, h2, d3, _, rfl, h3, d4, _, rfl, h4, d5, _, rfl, h5, rfl⟩ := h
 obtain ⟨n0, rfl, z0⟩ := dt Tryz.underlying9 h0
 obtain ⟨n1, rfl, _⟩ := cj (i := .i64) Tryz.underlying3 h1
 obtain ⟨n2, rfl, _⟩ := cj (i := .i64) Tryz.underlying3 h2
 obtain ⟨n3, rfl, _⟩ := cj (i := .i64) Tryz.underlying3 h3
 obtain ⟨n4, rfl, z4⟩ := dt Tryz.underlying9 h4
 obtain ⟨n5, rfl⟩ := lG Tryz.underlying4 h5
 obtain ⟨u0, _, rfl, r0, hr⟩ := hr.cons
 obtain ⟨u1, _, rfl, r1, hr⟩ := hr.cons
 obtain ⟨u2, _, rfl, r2, hr⟩ := hr.cons
 obtain ⟨u3, _, rfl, r3, hr⟩ := hr.cons
 obtain ⟨u4, _, rfl, r4, hr⟩ := hr.cons
 obtain ⟨u5, _, rfl, r5, hr⟩ := hr.cons
 obtain rfl := hr.nil
 obtain rfl := bN r0
 obtain rfl := bN r1
 obtain rfl := bN r2
 obtain rfl := bN r3
 obtain rfl := bN r4
 obtain rfl := bN r5
 exact ⟨⟨n0, n1, n2, n3, n4, n5⟩, rfl, ⟨z0, z4⟩⟩
theorem uU {k : Nat} {w : World} {S : bz} {us : List Value} {ds : List D} (h : okD Tryz.prog (k + 2) 63 ds) (hr : gC w S us ds) : ∃ y : bE, y.row = us.map D.v ∧ (y.ok).holds w S := by
 have h := dE Tryz.underlying63 h
 obtain ⟨d0, _, rfl, h0, d1, _, rfl, h1, d2, _, rfl, h2, d3, _, rfl, h3, d4, _, rfl, h4, d5, _, rfl, h5, d6, _, rfl, h6, d7, _, rfl, h7, d8, _, rfl, h8, d9, _, rfl, h9, rfl⟩ := h
 obtain ⟨n0, rfl, z0⟩ := dt Tryz.underlying9 h0
 obtain ⟨n1, rfl, z1⟩ := dt Tryz.underlying9 h1
 obtain ⟨n2, rfl⟩ := lG Tryz.underlying4 h2
 obtain ⟨n3, rfl, _⟩ := cj (i := .i64) Tryz.underlying3 h3
 obtain ⟨n4, rfl, _⟩ := cj (i := .i64) Tryz.underlying3 h4
 obtain ⟨n5, rfl, _⟩ := cj (i := .i64) Tryz.underlying3 h5
 obtain ⟨n6, rfl, _⟩ := cj (i := .i64) Tryz.underlying3 h6
 obtain ⟨n7, rfl, _⟩ := cj (i := .i64) Tryz.underlying3 h7
 obtain ⟨n8, rfl, _⟩ := cj (i := .i64) Tryz.underlying3 h8
 obtain ⟨n9, rfl, _⟩ := cj (i := .i64) Tryz.underlying3 h9
 obtain ⟨u0, _, rfl, r0, hr⟩ := hr.cons
 obtain ⟨u1, _, rfl, r1, hr⟩ := hr.cons
 obtain ⟨u2, _, rfl, r2, hr⟩ := hr.cons
 obtain ⟨u3, _, rfl, r3, hr⟩ := hr.cons
 obtain ⟨u4, _, rfl, r4, hr⟩ := hr.cons
 obtain ⟨u5, _, rfl, r5, hr⟩ := hr.cons
 obtain ⟨u6, _, rfl, r6, hr⟩ := hr.cons
 obtain ⟨u7, _, rfl, r7, hr⟩ := hr.cons
 obtain ⟨u8, _, rfl, r8, hr⟩ := hr.cons
 obtain ⟨u9, _, rfl, r9, hr⟩ := hr.cons
 obtain rfl := hr.nil
 obtain rfl := bN r0
 obtain rfl := bN r1
 obtain rfl := bN r2
 obtain rfl := bN r3
 obtain rfl := bN r4
 obtain rfl := bN r5
 obtain rfl := bN r6
 obtain rfl := bN r7
 obtain rfl := bN r8
 obtain rfl := bN r9
 exact ⟨⟨n0, n1, n2, n3, n4, n5, n6, n7, n8, n9⟩, rfl, ⟨z0, z1⟩⟩
theorem aaL {k : Nat} {w : World} {S : bz} {us : List Value} {ds : List D} (h : okD Tryz.prog (k + 2) 182 ds) (hr : gC w S us ds) : ∃ y : ju, y.row = us.map D.v ∧ (Fa True).holds w S := by
 have h := dE Tryz.underlying182 h
 obtain ⟨d0, _, rfl, h0, d1, _, rfl, h1, d2, _, rfl, h2, d3, _, rfl, h3, d4, _, rfl, h4, rfl⟩ := h
 obtain ⟨n0, rfl, _⟩ := cj (i := .i64) Tryz.underlying3 h0
 obtain ⟨n1, rfl, _⟩ := cj (i := .i64) Tryz.underlying3 h1
 obtain ⟨n2, rfl, _⟩ := cj (i := .i64) Tryz.underlying3 h2
 obtain ⟨n3, rfl, _⟩ := cj (i := .i64) Tryz.underlying3 h3
 obtain ⟨n4, rfl, _⟩ := cj (i := .i64) Tryz.underlying3 h4
 obtain ⟨u0, _, rfl, r0, hr⟩ := hr.cons
 obtain ⟨u1, _, rfl, r1, hr⟩ := hr.cons
 obtain ⟨u2, _, rfl, r2, hr⟩ := hr.cons
 obtain ⟨u3, _, rfl, r3, hr⟩ := hr.cons
 obtain ⟨u4, _, rfl, r4, hr⟩ := hr.cons
 obtain rfl := hr.nil
 obtain rfl := bN r0
 obtain rfl := bN r1
 obtain rfl := bN r2
 obtain rfl := bN r3
 obtain rfl := bN r4
 exact ⟨⟨n0, n1, n2, n3, n4⟩, rfl, trivial⟩
theorem x9 {k : Nat} {w : World} {S : bz} {us : List Value} {ds : List D} (h : okD Tryz.prog (k + 3) 92 ds) (hr : gC w S us ds) : ∃ y : du, y.row = us.map D.v ∧ (y.ok).holds w S := by
 have h := dE Tryz.underlying92 h
 obtain ⟨d0, _, rfl, h0, d1, _, rfl, h1, rfl⟩ := h
 obtain ⟨n0, rfl, z0⟩ := dt Tryz.underlying9 h0
 obtain ⟨q1, rfl, m1, o1⟩ := dA Tryz.underlying90 h1
 obtain ⟨u0, _, rfl, r0, hr⟩ := hr.cons
 obtain ⟨u1, _, rfl, r1, hr⟩ := hr.cons
 obtain rfl := hr.nil
 obtain rfl := bN r0
 obtain ⟨s1, rfl, a1, b1⟩ := ey (row := fun z : Int => [.v (.int .i64 z)]) (ok := fun _ => Fa True) r1 fun r hr us hu => abV Tryz.underlying3 (o1 r hr) hu
 exact ⟨⟨n0, s1⟩, rfl, ⟨z0, a1⟩⟩
theorem yP {k : Nat} {w : World} {S : bz} {us : List Value} {ds : List D} (h : okD Tryz.prog (k + 2) 195 ds) (hr : gC w S us ds) : ∃ y : kh, y.row = us.map D.v ∧ (Fa True).holds w S := by
 have h := dE Tryz.underlying195 h
 obtain ⟨d0, _, rfl, h0, d1, _, rfl, h1, d2, _, rfl, h2, rfl⟩ := h
 obtain ⟨n0, rfl, _⟩ := cj (i := .i64) Tryz.underlying3 h0
 obtain ⟨n1, rfl, _⟩ := cj (i := .i64) Tryz.underlying3 h1
 obtain ⟨n2, rfl⟩ := lG Tryz.underlying4 h2
 obtain ⟨u0, _, rfl, r0, hr⟩ := hr.cons
 obtain ⟨u1, _, rfl, r1, hr⟩ := hr.cons
 obtain ⟨u2, _, rfl, r2, hr⟩ := hr.cons
 obtain rfl := hr.nil
 obtain rfl := bN r0
 obtain rfl := bN r1
 obtain rfl := bN r2
 exact ⟨⟨n0, n1, n2⟩, rfl, trivial⟩
theorem aaq {k : Nat} {w : World} {S : bz} {us : List Value} {ds : List D} (h : okD Tryz.prog (k + 2) 197 ds) (hr : gC w S us ds) : ∃ y : gN, y.row = us.map D.v ∧ (y.ok).holds w S := by
 have h := dE Tryz.underlying197 h
 obtain ⟨d0, _, rfl, h0, d1, _, rfl, h1, d2, _, rfl, h2, d3, _, rfl, h3, rfl⟩ := h
 obtain ⟨n0, rfl, _⟩ := cj (i := .i64) Tryz.underlying3 h0
 obtain ⟨n1, rfl, _⟩ := cj (i := .i64) Tryz.underlying3 h1
 obtain ⟨n2, rfl, z2⟩ := dt Tryz.underlying9 h2
 obtain ⟨n3, rfl, _⟩ := cj (i := .i64) Tryz.underlying3 h3
 obtain ⟨u0, _, rfl, r0, hr⟩ := hr.cons
 obtain ⟨u1, _, rfl, r1, hr⟩ := hr.cons
 obtain ⟨u2, _, rfl, r2, hr⟩ := hr.cons
 obtain ⟨u3, _, rfl, r3, hr⟩ := hr.cons
 obtain rfl := hr.nil
 obtain rfl := bN r0
 obtain rfl := bN r1
 obtain rfl := bN r2
 obtain rfl := bN r3
 exact ⟨⟨n0, n1, n2, n3⟩, rfl, z2⟩
theorem uR {k : Nat} {w : World} {S : bz} {us : List Value} {ds : List D} (h : okD Tryz.prog (k + 2) 200 ds) (hr : gC w S us ds) : ∃ y : dN, y.row = us.map D.v ∧ (y.ok).holds w S := by
 have h := dE Tryz.underlying200 h
 obtain ⟨d0, _, rfl, h0, d1, _, rfl, h1, d2, _, rfl, h2, d3, _, rfl, h3, d4, _, rfl, h4, d5, _, rfl, h5, rfl⟩ := h
 obtain ⟨n0, rfl, _⟩ := cj (i := .i64) Tryz.underlying3 h0
 obtain ⟨n1, rfl, _⟩ := cj (i := .i64) Tryz.underlying3 h1
 obtain ⟨n2, rfl, _⟩ := cj (i := .i64) Tryz.underlying3 h2
 obtain ⟨n3, rfl, z3⟩ := dt Tryz.underlying9 h3
 obtain ⟨n4, rfl, z4⟩ := dt Tryz.underlying9 h4
 obtain ⟨n5, rfl, _⟩ := cj (i := .i64) Tryz.underlying3 h5
 obtain ⟨u0, _, rfl, r0, hr⟩ := hr.cons
 obtain ⟨u1, _, rfl, r1, hr⟩ := hr.cons
 obtain ⟨u2, _, rfl, r2, hr⟩ := hr.cons
 obtain ⟨u3, _, rfl, r3, hr⟩ := hr.cons
 obtain ⟨u4, _, rfl, r4, hr⟩ := hr.cons
 obtain ⟨u5, _, rfl, r5, hr⟩ := hr.cons
 obtain rfl := hr.nil
 obtain rfl := bN r0
 obtain rfl := bN r1
 obtain rfl := bN r2
 obtain rfl := bN r3
 obtain rfl := bN r4
 obtain rfl := bN r5
 exact ⟨⟨n0, n1, n2, n3, n4, n5⟩, rfl, ⟨z3, z4⟩⟩
theorem aaB {k : Nat} {w : World} {S : bz} {us : List Value} {ds : List D} (h : okD Tryz.prog (k + 2) 204 ds) (hr : gC w S us ds) : ∃ y : iV, y.row = us.map D.v ∧ (y.ok).holds w S := by
 have h := dE Tryz.underlying204 h
 obtain ⟨d0, _, rfl, h0, d1, _, rfl, h1, d2, _, rfl, h2, d3, _, rfl, h3, d4, _, rfl, h4, d5, _, rfl, h5, rfl⟩ := h
 obtain ⟨n0, rfl, _⟩ := cj (i := .i64) Tryz.underlying3 h0
 obtain ⟨n1, rfl, _⟩ := cj (i := .i64) Tryz.underlying3 h1
 obtain ⟨n2, rfl, _⟩ := cj (i := .i64) Tryz.underlying3 h2
 obtain ⟨n3, rfl, z3⟩ := dt Tryz.underlying9 h3
 obtain ⟨n4, rfl, _⟩ := cj (i := .i64) Tryz.underlying3 h4
 obtain ⟨n5, rfl, _⟩ := cj (i := .i64) Tryz.underlying3 h5
 obtain ⟨u0, _, rfl, r0, hr⟩ := hr.cons
 obtain ⟨u1, _, rfl, r1, hr⟩ := hr.cons
 obtain ⟨u2, _, rfl, r2, hr⟩ := hr.cons
 obtain ⟨u3, _, rfl, r3, hr⟩ := hr.cons
 obtain ⟨u4, _, rfl, r4, hr⟩ := hr.cons
 obtain ⟨u5, _, rfl, r5, hr⟩ := hr.cons
 obtain rfl := hr.nil
 obtain rfl := bN r0
 obtain rfl := bN r1
 obtain rfl := bN r2
 obtain rfl := bN r3
 obtain rfl := bN r4
 obtain rfl := bN r5
 exact ⟨⟨n0, n1, n2, n3, n4, n5⟩, rfl, z3⟩
theorem xZ {k : Nat} {w : World} {S : bz} {us : List Value} {ds : List D} (h : okD Tryz.prog (k + 2) 207 ds) (hr : gC w S us ds) : ∃ y : kA, y.row = us.map D.v ∧ (Fa True).holds w S := by
 have h := dE Tryz.underlying207 h
 obtain ⟨d0, _, rfl, h0, d1, _, rfl, h1, d2, _, rfl, h2, d3, _, rfl, h3, rfl⟩ := h
 obtain ⟨n0, rfl, _⟩ := cj (i := .i64) Tryz.underlying3 h0
 obtain ⟨n1, rfl, _⟩ := cj (i := .i64) Tryz.underlying3 h1
 obtain ⟨n2, rfl, _⟩ := cj (i := .i64) Tryz.underlying3 h2
 obtain ⟨n3, rfl, _⟩ := cj (i := .i64) Tryz.underlying3 h3
 obtain ⟨u0, _, rfl, r0, hr⟩ := hr.cons
 obtain ⟨u1, _, rfl, r1, hr⟩ := hr.cons
 obtain ⟨u2, _, rfl, r2, hr⟩ := hr.cons
 obtain ⟨u3, _, rfl, r3, hr⟩ := hr.cons
 obtain rfl := hr.nil
 obtain rfl := bN r0
 obtain rfl := bN r1
 obtain rfl := bN r2
 obtain rfl := bN r3
 exact ⟨⟨n0, n1, n2, n3⟩, rfl, trivial⟩
theorem xd {k : Nat} {w : World} {S : bz} {us : List Value} {ds : List D} (h : okD Tryz.prog (k + 2) 264 ds) (hr : gC w S us ds) : ∃ y : iE, y.row = us.map D.v ∧ (Fa True).holds w S := by
 have h := dE Tryz.underlying264 h
 obtain ⟨d0, _, rfl, h0, d1, _, rfl, h1, d2, _, rfl, h2, rfl⟩ := h
 obtain ⟨n0, rfl, _⟩ := cj (i := .i64) Tryz.underlying3 h0
 obtain ⟨n1, rfl, _⟩ := cj (i := .i64) Tryz.underlying3 h1
 obtain ⟨n2, rfl, _⟩ := cj (i := .i64) Tryz.underlying3 h2
 obtain ⟨u0, _, rfl, r0, hr⟩ := hr.cons
 obtain ⟨u1, _, rfl, r1, hr⟩ := hr.cons
 obtain ⟨u2, _, rfl, r2, hr⟩ := hr.cons
 obtain rfl := hr.nil
 obtain rfl := bN r0
 obtain rfl := bN r1
 obtain rfl := bN r2
 exact ⟨⟨n0, n1, n2⟩, rfl, trivial⟩
theorem sZ {k : Nat} {w : World} {S : bz} {us : List Value} {ds : List D} (h : okD Tryz.prog (k + 4) 210 ds) (hr : gC w S us ds) : ∃ y : dx, y.row = us.map D.v ∧ (y.ok).holds w S := by
 have h := dE Tryz.underlying210 h
 obtain ⟨d0, _, rfl, h0, d1, _, rfl, h1, d2, _, rfl, h2, d3, _, rfl, h3, rfl⟩ := h
 obtain ⟨n0, rfl, _⟩ := cj (i := .i64) Tryz.underlying3 h0
 obtain ⟨n1, rfl, z1⟩ := dt Tryz.underlying9 h1
 obtain ⟨q2, rfl, m2, o2⟩ := dA Tryz.underlying208 h2
 obtain ⟨n3, rfl, _⟩ := cj (i := .i64) Tryz.underlying3 h3
 obtain ⟨u0, _, rfl, r0, hr⟩ := hr.cons
 obtain ⟨u1, _, rfl, r1, hr⟩ := hr.cons
 obtain ⟨u2, _, rfl, r2, hr⟩ := hr.cons
 obtain ⟨u3, _, rfl, r3, hr⟩ := hr.cons
 obtain rfl := hr.nil
 obtain rfl := bN r0
 obtain rfl := bN r1
 obtain ⟨s2, rfl, a2, b2⟩ := ey (row := iE.row) (ok := fun _ => Fa True) r2 fun r hr us hu => xd (o2 r hr) hu
 obtain rfl := bN r3
 exact ⟨⟨n0, n1, s2, n3⟩, rfl, ⟨z1, a2⟩⟩
theorem uV {k : Nat} {w : World} {S : bz} {us : List Value} {ds : List D} (h : okD Tryz.prog (k + 6) 61 ds) (hr : gC w S us ds) : ∃ y : ax, y.row = us.map D.v ∧ (y.ok).holds w S := by
 have h := dE Tryz.underlying61 h
 obtain ⟨d0, _, rfl, h0, d1, _, rfl, h1, d2, _, rfl, h2, d3, _, rfl, h3, d4, _, rfl, h4, d5, _, rfl, h5, d6, _, rfl, h6, d7, _, rfl, h7, d8, _, rfl, h8, d9, _, rfl, h9, d10, _, rfl, h10, rfl⟩ := h
 obtain ⟨n0, rfl, z0⟩ := dt Tryz.underlying9 h0
 obtain ⟨q1, rfl, m1, o1⟩ := dA Tryz.underlying50 h1
 obtain ⟨q2, rfl, m2, o2⟩ := dA Tryz.underlying51 h2
 obtain ⟨q3, rfl, m3, o3⟩ := dA Tryz.underlying52 h3
 obtain ⟨q4, rfl, m4, o4⟩ := dA Tryz.underlying53 h4
 obtain ⟨q5, rfl, m5, o5⟩ := dA Tryz.underlying54 h5
 obtain ⟨q6, rfl, m6, o6⟩ := dA Tryz.underlying55 h6
 obtain ⟨q7, rfl, m7, o7⟩ := dA Tryz.underlying56 h7
 obtain ⟨q8, rfl, m8, o8⟩ := dA Tryz.underlying57 h8
 obtain ⟨q9, rfl, m9, o9⟩ := dA Tryz.underlying58 h9
 obtain ⟨q10, rfl, m10, o10⟩ := dA Tryz.underlying59 h10
 obtain ⟨u0, _, rfl, r0, hr⟩ := hr.cons
 obtain ⟨u1, _, rfl, r1, hr⟩ := hr.cons
 obtain ⟨u2, _, rfl, r2, hr⟩ := hr.cons
 obtain ⟨u3, _, rfl, r3, hr⟩ := hr.cons
 obtain ⟨u4, _, rfl, r4, hr⟩ := hr.cons
 obtain ⟨u5, _, rfl, r5, hr⟩ := hr.cons
 obtain ⟨u6, _, rfl, r6, hr⟩ := hr.cons
 obtain ⟨u7, _, rfl, r7, hr⟩ := hr.cons
 obtain ⟨u8, _, rfl, r8, hr⟩ := hr.cons
 obtain ⟨u9, _, rfl, r9, hr⟩ := hr.cons
 obtain ⟨u10, _, rfl, r10, hr⟩ := hr.cons
 obtain rfl := hr.nil
 obtain rfl := bN r0
 obtain ⟨s1, rfl, a1, b1⟩ := ey (row := cG.row) (ok := fun y : cG => cG.ok y) r1 fun r hr us hu => tT (o1 r hr) hu
 obtain ⟨s2, rfl, a2, b2⟩ := ey (row := bE.row) (ok := fun y : bE => bE.ok y) r2 fun r hr us hu => uU (o2 r hr) hu
 obtain ⟨s3, rfl, a3, b3⟩ := ey (row := ju.row) (ok := fun _ => Fa True) r3 fun r hr us hu => aaL (o3 r hr) hu
 obtain ⟨s4, rfl, a4, b4⟩ := ey (row := du.row) (ok := fun y : du => du.ok y) r4 fun r hr us hu => x9 (o4 r hr) hu
 obtain ⟨s5, rfl, a5, b5⟩ := ey (row := kh.row) (ok := fun _ => Fa True) r5 fun r hr us hu => yP (o5 r hr) hu
 obtain ⟨s6, rfl, a6, b6⟩ := ey (row := gN.row) (ok := fun y : gN => gN.ok y) r6 fun r hr us hu => aaq (o6 r hr) hu
 obtain ⟨s7, rfl, a7, b7⟩ := ey (row := dN.row) (ok := fun y : dN => dN.ok y) r7 fun r hr us hu => uR (o7 r hr) hu
 obtain ⟨s8, rfl, a8, b8⟩ := ey (row := iV.row) (ok := fun y : iV => iV.ok y) r8 fun r hr us hu => aaB (o8 r hr) hu
 obtain ⟨s9, rfl, a9, b9⟩ := ey (row := kA.row) (ok := fun _ => Fa True) r9 fun r hr us hu => xZ (o9 r hr) hu
 obtain ⟨s10, rfl, a10, b10⟩ := ey (row := dx.row) (ok := fun y : dx => dx.ok y) r10 fun r hr us hu => sZ (o10 r hr) hu
 exact ⟨⟨n0, s1, s2, s3, s4, s5, s6, s7, s8, s9, s10⟩, rfl, ⟨z0, a1, b1, a2, b2, a3, a4, b4, a5, a6, b6, a7, b7, a8, b8, a9, a10, b10⟩⟩
theorem px {k : Nat} {w : World} {S : bz} {us : List Value} {ds : List D} (h : okD Tryz.prog (k + 7) 22 ds) (hr : gC w S us ds) : ∃ y : Sl ax, [D.v (.slice y.ad y.l.length y.cap)] = us.map D.v ∧ (cA (ShF (ax.row) y) (cv (fun y => ax.ok y) y.l)).holds w S := by
 obtain ⟨y, h1, h2⟩ := ach (row := ax.row) (ok := fun y : ax => ax.ok y) Tryz.underlying22 h hr fun r h us hu => uV h hu
 exact ⟨y, h1, h2⟩
theorem ob {k : Nat} {w : World} {S : bz} {us : List Value} {ds : List D} (h : okD Tryz.prog (k + 3) 178 ds) (hr : gC w S us ds) : ∃ y : aW, y.row = us.map D.v ∧ (y.ok).holds w S := by
 have h := dE Tryz.underlying178 h
 obtain ⟨d0, _, rfl, h0, d1, _, rfl, h1, rfl⟩ := h
 obtain ⟨n0, rfl, z0⟩ := dt Tryz.underlying9 h0
 obtain ⟨q1, rfl, m1, o1⟩ := dA Tryz.underlying77 h1
 obtain ⟨u0, _, rfl, r0, hr⟩ := hr.cons
 obtain ⟨u1, _, rfl, r1, hr⟩ := hr.cons
 obtain rfl := hr.nil
 obtain rfl := bN r0
 obtain ⟨s1, rfl, a1, b1⟩ := ey (row := fun s : ByteArray => [.v (.string s)]) (ok := fun y : ByteArray => eL y) r1 fun r hr us hu => vA Tryz.underlying9 (o1 r hr) hu
 exact ⟨⟨n0, s1⟩, rfl, ⟨z0, a1, b1⟩⟩
theorem vk {k : Nat} {w : World} {S : bz} {us : List Value} {ds : List D} (h : okD Tryz.prog (k + 5) 79 ds) (hr : gC w S us ds) : ∃ y : ff, y.row = us.map D.v ∧ (y.ok).holds w S := by
 have h := dE Tryz.underlying79 h
 obtain ⟨d0, _, rfl, h0, d1, _, rfl, h1, d2, _, rfl, h2, d3, _, rfl, h3, d4, _, rfl, h4, d5, _, rfl, h5, d6, _, rfl, h6, rfl⟩ := h
 obtain ⟨n0, rfl, z0⟩ := dt Tryz.underlying9 h0
 obtain ⟨n1, rfl⟩ := lG Tryz.underlying4 h1
 obtain ⟨q2, rfl, m2, o2⟩ := dA Tryz.underlying77 h2
 obtain ⟨q3, rfl, m3, o3⟩ := dA Tryz.underlying77 h3
 obtain ⟨n4, rfl, z4⟩ := dt Tryz.underlying9 h4
 obtain ⟨n5, rfl, _⟩ := cj (i := .i64) Tryz.underlying3 h5
 obtain ⟨q6, rfl, m6, o6⟩ := dA Tryz.underlying24 h6
 obtain ⟨u0, _, rfl, r0, hr⟩ := hr.cons
 obtain ⟨u1, _, rfl, r1, hr⟩ := hr.cons
 obtain ⟨u2, _, rfl, r2, hr⟩ := hr.cons
 obtain ⟨u3, _, rfl, r3, hr⟩ := hr.cons
 obtain ⟨u4, _, rfl, r4, hr⟩ := hr.cons
 obtain ⟨u5, _, rfl, r5, hr⟩ := hr.cons
 obtain ⟨u6, _, rfl, r6, hr⟩ := hr.cons
 obtain rfl := hr.nil
 obtain rfl := bN r0
 obtain rfl := bN r1
 obtain ⟨s2, rfl, a2, b2⟩ := ey (row := fun s : ByteArray => [.v (.string s)]) (ok := fun y : ByteArray => eL y) r2 fun r hr us hu => vA Tryz.underlying9 (o2 r hr) hu
 obtain ⟨s3, rfl, a3, b3⟩ := ey (row := fun s : ByteArray => [.v (.string s)]) (ok := fun y : ByteArray => eL y) r3 fun r hr us hu => vA Tryz.underlying9 (o3 r hr) hu
 obtain rfl := bN r4
 obtain rfl := bN r5
 obtain ⟨s6, rfl, a6, b6⟩ := ey (row := aW.row) (ok := fun y : aW => aW.ok y) r6 fun r hr us hu => ob (o6 r hr) hu
 exact ⟨⟨n0, n1, s2, s3, n4, n5, s6⟩, rfl, ⟨z0, a2, b2, a3, b3, z4, a6, b6⟩⟩
end Go.Proofs.YtgmiihmahaahiaaGreatDoor

namespace Go.Sy
open Go.RowKit Go.Lp
theorem Ent.mk2 {ps : List Per} {p q : Per} (h1 : Ent ps p) (h2 : Ent ps q) : Ent ps (cA p q) := fun w S hp => ⟨h1 w S hp, h2 w S hp⟩
def Bun (l : List Res) : Res :=
 ⟨fun w S F => ∃ fp : Nat → bz, (∀ (i : Nat) (R : Res), l[i]? = some R → R.holds w S (fp i)) ∧ (∀ i j, i < l.length → j < l.length → i ≠ j → ∀ b, fp i b → ¬ fp j b) ∧ ∀ b, F b ↔ tot fp l.length b,
  fun ⟨fp, h1, h2, h3⟩ k1 k2 k3 => ⟨fp, fun i R hR => R.mono (h1 i R hR) (fun b hb => k1 b ((h3 b).2 ⟨i, (List.getElem?_eq_some_iff.1 hR).1, hb⟩)) k2 k3, h2, h3⟩⟩
section
variable {w : World} {S : bz} {fp : Nat → bz} {ps : List Per} {l : List Res}
theorem St.bun (h : St w S fp ps l) : St w S (fun _ => tot fp l.length) ps [Bun l] where
 per := h.per
 res i R hR := by
   cases i with
   | zero => simp only [List.getElem?_cons_zero, Option.some.injEq] at hR; subst hR; exact ⟨fp, h.res, h.dj, fun _ => Iff.rfl⟩
   | succ i => simp at hR
 lt i hi b hb := let ⟨j, hj, hjb⟩ := hb; h.lt j hj b hjb
 dj i j hi hj hne := by simp only [List.length_singleton] at hi hj; omega
 slt := h.slt
theorem St.unbun (h : St w S fp ps [Bun l]) : ∃ fp', St w S fp' ps l ∧ ∀ b, tot fp' l.length b → tot fp [Bun l].length b := by
 obtain ⟨fp', h1, h2, h3⟩ := h.res 0 _ rfl
 have hin : ∀ b, tot fp' l.length b → fp 0 b := fun b hb => (h3 b).2 hb
 exact ⟨fp', ⟨h.per, h1, fun i hi b hb => h.lt 0 (by simp) b (hin b ⟨i, hi, hb⟩), h2, h.slt⟩, fun b hb => ⟨0, by simp, hin b hb⟩⟩
theorem jR (F : bz) (b : Nat) (R : Res) : tot (fun _ => F) [R].length b ↔ F b := ⟨fun ⟨_, _, h⟩ => h, fun h => ⟨0, by simp, h⟩⟩
variable {P : Program} {R : Value → List Per → List Res → Prop}
theorem wm {f : FuncId} {args : List Value} (h : Con P f args ps [Bun l] fun v ps' hp' => ∃ l', hp' = [Bun l'] ∧ R v ps' l') : Con P f args ps l R := fun w S fp hst =>
 (h w S _ hst.bun).mono fun e w' ⟨v, ps', hp', S', fp', he, ⟨l', hl, hR⟩, hst', hE, hg⟩ => by
   subst hl
   obtain ⟨fp2, k1, k2⟩ := hst'.unbun
   exact ⟨v, ps', l', S', fp2, he, hR, k1, hE.wider (fun b hb => (jR _ b (Bun l)).1 hb), fun b hb => (hg b (k2 b hb)).imp (fun h => (jR _ b (Bun l)).1 h) id⟩
theorem ug {k : Nat} {args : List Value} (h : kx P k args ps l R) : kx P k args ps [Bun l] fun v ps' hp' => ∃ l', hp' = [Bun l'] ∧ R v ps' l' := fun w S fp hst => by
 obtain ⟨fp2, k1, k2⟩ := hst.unbun
 refine ct (fun v w' ⟨ps', hp', S', fp', hR, hst', hE, hg⟩ => ?_) (h w S fp2 k1)
 exact ⟨ps', [Bun hp'], S', _, ⟨hp', rfl, hR⟩, hst'.bun, hE.wider k2, fun b hb => (hg b ((jR _ b (Bun hp')).1 hb)).imp (k2 b) id⟩
theorem kx.post {k : Nat} {args : List Value} {R' : Value → List Per → List Res → Prop} (h : kx P k args ps l R) (hr : ∀ v ps' hp', R v ps' hp' → R' v ps' hp') : kx P k args ps l R' := fun w S fp hst =>
 ct (fun v w' ⟨ps', hp', S', fp', hR, h⟩ => ⟨ps', hp', S', fp', hr _ _ _ hR, h⟩) (h w S fp hst)
theorem Con.post {f : FuncId} {args : List Value} {R' : Value → List Per → List Res → Prop} (h : Con P f args ps l R) (hr : ∀ v ps' hp', R v ps' hp' → R' v ps' hp') : Con P f args ps l R' := fun w S fp hst =>
 (h w S fp hst).mono fun e w' ⟨v, ps', hp', S', fp', he, hR, h⟩ => ⟨v, ps', hp', S', fp', he, hr _ _ _ hR, h⟩
theorem kx.pre {k : Nat} {args : List Value} {ps0 : List Per} (h : kx P k args ps l R) (hr : ∀ p ∈ ps, Ent ps0 p) : kx P k args ps0 l R := fun w S fp hst =>
 h w S fp ⟨fun p hp => hr p hp w S hst.per, hst.res, hst.lt, hst.dj, hst.slt⟩
theorem Con.pre {f : FuncId} {args : List Value} {ps0 : List Per} (h : Con P f args ps l R) (hr : ∀ p ∈ ps, Ent ps0 p) : Con P f args ps0 l R := fun w S fp hst =>
 h w S fp ⟨fun p hp => hr p hp w S hst.per, hst.res, hst.lt, hst.dj, hst.slt⟩
end
section
variable {P : Program} {n : Fr} {ops : Array Oper} {Q : Exit → Sta → Prop} {s : Sta} {o : Oper}
theorem abb {V W Z : List Nat} {k : Nat} {L : Array Bool} {Y : Type} (F : Y → Sta) (i : Nat) (hi : ops[i]? = some o) (hr : Region.ready .any ops L = [i]) (hV : V.contains i = true) (hW : W.contains i = true) (c : Bool) (v : Value) (hc : guardOf ops s.env o = some c) (hd : fits n.size o.dst = true)
   (h1 : c = true → Eff P n o s false (fun s' => ∃ y, s' = F y)) (h0 : c = false → ∃ y, (⟨setEnv s.env o.dst false v, s.ps, s.hp⟩ : Sta) = F y) (hK : ∀ y, aC P n ops V W Z Q k (L.setIfInBounds i true) (F y)) : aC P n ops V W Z Q (k + 1) L s := fun w S fp a hst he hn hdf w1 hb => by
 refine ⟨fun h0 => (by rw [hr] at h0; cases h0), fun j hj => ?_⟩
 rw [hr] at hj
 obtain rfl := List.mem_singleton.1 hj
 refine ⟨o, hi, ?_⟩
 have hst1 := hst.below hb
 have hw := dO (ops := ops) hc he
 cases c with
 | true =>
   rw [if_pos hw]
   refine ct (fun u w' ⟨s', S', fp', hK', hst', he', hE, hg, _⟩ => ⟨⟨fun (hVj : V.contains j = false) => (Bool.eq_false_iff.1 hVj hV).elim, fun (hWj : W.contains j = false) => (Bool.eq_false_iff.1 hWj hW).elim, ⟨hE.size, fun b hS hlt => hE.block b hlt fun ⟨r, hr, hrb⟩ => (hst1.lt r hr b hrb).2 hS⟩⟩, ?_⟩) (h1 rfl w1 S fp a hst1 he hn)
   obtain ⟨y, rfl⟩ := hK'
   refine jI (fun j a b h => ⟨h.1, h.2.1, h.2.2.mono hE.more⟩) (fun a2 w2 hp => (hp.trans hE hg).trans (Evo.of_below _ _ hb) (fun _ h => .inl h)) _ _ _ _ (hK y w' S' fp' _ hst' he' (by rw [ez]; exact hn) (by rw [put_defers]; exact hdf))
 | false =>
   rw [if_neg (by rw [hw]; exact Bool.false_ne_true)]
   obtain ⟨y, hy⟩ := h0 rfl
   refine ⟨⟨fun _ => Below.refl _ _, fun _ => fE.of_below (Below.refl _ _), fE.of_below (Below.refl _ _)⟩, ?_⟩
   have hs : St w1 S fp (F y).ps (F y).hp := by rw [← hy]; exact hst1
   have hen : cW (a.put o.dst undef) (F y).env := by rw [← hy]; exact he.set (c := false) (by rw [hn]; exact hd) v
   have hl : (F y).hp.length = s.hp.length := by rw [← hy]
   refine jI (fun j a b h => h) (fun a2 w2 hp => ?_) _ _ _ _ (hK y w1 S fp (a.put o.dst undef) hs hen (by rw [ez]; exact hn) (by rw [put_defers]; exact hdf))
   rw [hl] at hp
   exact hp.trans (Evo.of_below _ _ hb) (fun _ h => .inl h)
theorem zb {hp : List Res} {r : Nat} {R : Res} (hr : r < hp.length) : dp [r] [R] 0 hp = hp.set r R := by
 apply List.ext_getElem?
 intro i
 rw [iY, List.getElem?_set]
 by_cases hi : i < hp.length
 · rw [if_pos hi, Nat.zero_add]
   by_cases hri : r = i
   · subst hri; simp [place, hr]
   · have : (r == i) = false := by simpa using hri
     simp [place, this, hri]
 · rw [if_neg hi, List.getElem?_eq_none (by simp), if_neg (by omega), List.getElem?_eq_none (by omega)]
theorem xD {env : Env} {ps : List Per} {hp : List Res} {ty : TypeId} {pos : String} {af : Array Edge} {gd : Option (Nat × Bool)} {V W Z : List Nat} {k : Nat} {L : Array Bool} {X : Type} {J : X → Res} {Post : Bool → X → Prop} {t yl : Nat} {g : Operand} {l : List Operand} {ts : Array TypeId} {vs : List Value} {x0 : X}
   (i r : Nat) (lp : List Nat) (hi : ops[i]? = some ⟨some t, .call ⟨.value g, l.toArray, ts⟩, ty, pos, af, gd⟩) (hr : Region.ready .any ops L = [i]) (hV : V.contains i = true) (hW : W.contains i = true) (c : Bool) (hc : guardOf ops env ⟨some t, .call ⟨.value g, l.toArray, ts⟩, ty, pos, af, gd⟩ = some c) (hd : fits n (some t) = true)
   (hres : hp[r]? = some (J x0)) (hgv : c = true → ev env g = some (true, .func (.yield yl) #[] #[])) (hx : c = true → evs env l = some vs)
   (hy : c = true → kx P yl vs (fH ps lp) [J x0] fun v ps' hp' => v = .bool true ∧ ps' = [] ∧ ∃ x', Post true x' ∧ hp' = [J x']) (h0 : c = false → Post false x0)
   (hK : ∀ x', Post c x' → aC P n ops V W Z Q k (L.setIfInBounds i true) ⟨(t, c, .bool true) :: env, ps, hp.set r (J x')⟩) : aC P n ops V W Z Q (k + 1) L ⟨env, ps, hp⟩ := by
 have hrl := (List.getElem?_eq_some_iff.1 hres).1
 refine abb (Y := {x // Post c x}) (fun y => ⟨(t, c, .bool true) :: env, ps, hp.set r (J y.1)⟩) i hi hr hV hW c (.bool true) hc hd (fun hct => ?_) (fun hcf => ?_) (fun y => hK y.1 y.2)
 · subst hct
   refine aa5 lp [r] (hgv rfl) (hx rfl) hd (by simp [okH, hrl]) (R := fun v ps' hp' => v = .bool true ∧ ps' = [] ∧ ∃ x', Post true x' ∧ hp' = [J x']) ?_ (fun v ps' hp' ⟨h1, h2, x', h3, h4⟩ => ?_)
   · have : bK hp [r] = [J x0] := by simp [bK, List.getD, hres]
     rw [this]; exact hy rfl
   · subst h1 h2 h4
     exact ⟨⟨x', h3⟩, by rw [zb hrl]; rfl⟩
 · subst hcf
   refine ⟨⟨x0, h0 rfl⟩, ?_⟩
   have : hp.set r (J x0) = hp := by rw [← (List.getElem?_eq_some_iff.1 hres).2]; exact List.set_getElem_self _
   dsimp only
   rw [this]; rfl
end
end Go.Sy

