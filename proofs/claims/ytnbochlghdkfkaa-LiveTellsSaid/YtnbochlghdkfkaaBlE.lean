/- graph: Right. No condition. -/
import Derived.Test.YtnbochlghdkfkaaBlD
import Derived.Test.YtnbochlghdkfkaaChecked
import Derived.Test.YtnbochlghdkfkaaBlC
set_option linter.unusedVariables false
set_option linter.unusedSimpArgs false
set_option maxRecDepth 20000
namespace Go.Sy
open Go.RowKit Go.Lp
section
variable {w : World} {S F : Blks} {A B C R : Res}
theorem star_swap (h : (Star A (Star B C)).holds w S F) : (Star B (Star A C)).holds w S F := by
  obtain ⟨G, H, a, ⟨G2, H2, b, c, d2, e2⟩, d, e⟩ := h
  refine ⟨G2, fun x => G x ∨ H2 x, b, ⟨G, H2, a, c, fun x g h2 => d x g ((e2 x).2 (.inr h2)), fun x => Iff.rfl⟩, fun x g2 h => h.elim (fun g => d x g ((e2 x).2 (.inl g2))) (fun h2 => d2 x g2 h2), fun x => ?_⟩
  rw [e x, e2 x]
  constructor
  · rintro (h | h | h)
    · exact .inr (.inl h)
    · exact .inl h
    · exact .inr (.inr h)
  · rintro (h | h | h)
    · exact .inr (.inl h)
    · exact .inl h
    · exact .inr (.inr h)
theorem star_right (h : (Star A B).holds w S F) (hB : ∀ F, B.holds w S F → C.holds w S F) : (Star A C).holds w S F := by
  obtain ⟨G, H, a, b, d, e⟩ := h
  exact ⟨G, H, a, hB H b, d, e⟩
theorem star_emp (h : A.holds w S F) : (Star emp A).holds w S F := ⟨fun _ => False, F, fun b h => h, h, fun b h => h.elim, fun b => ⟨.inr, fun h => h.elim False.elim id⟩⟩
theorem emp_star (h : (Star emp A).holds w S F) : A.holds w S F := by
  obtain ⟨G, H, a, b, d, e⟩ := h
  have : F = H := funext fun x => propext ((e x).trans ⟨fun h => h.elim (fun g => absurd g (a x)) id, .inr⟩)
  rw [this]; exact b
/-- all of them, on blocks of their own -/
def Stars : List Res → Res
  | [] => emp
  | A :: L => Star A (Stars L)
theorem stars_take : ∀ (L : List Res) (k : Nat) (F : Blks), L[k]? = some R → (Stars L).holds w S F → (Star R (Stars (L.set k emp))).holds w S F
  | [], _, _, h, _ => by simp at h
  | A :: L, 0, F, h, hs => by
    simp only [List.getElem?_cons_zero, Option.some.injEq] at h
    subst h
    exact star_right hs fun F h => star_emp h
  | A :: L, k + 1, F, h, hs => star_swap (star_right hs fun F h' => stars_take L k F (by simpa using h) h')
theorem stars_put : ∀ (L : List Res) (k : Nat) (F : Blks), k < L.length → (Star R (Stars (L.set k emp))).holds w S F → (Stars (L.set k R)).holds w S F
  | [], _, _, h, _ => by simp at h
  | A :: L, 0, F, _, hs => star_right hs fun F h => emp_star h
  | A :: L, k + 1, F, h, hs => star_right (star_swap hs) fun F h' => stars_put L k F (by simpa using h) h'
theorem stars_emps : ∀ (L : List Res), (∀ A ∈ L, A.holds w S fun _ => False) → (Stars L).holds w S fun _ => False
  | [], _ => fun _ h => h
  | A :: L, h => ⟨fun _ => False, fun _ => False, h A (List.mem_cons_self ..), stars_emps L fun B hB => h B (List.mem_cons_of_mem _ hB), fun _ h => h.elim, fun _ => ⟨.inl, fun h => h.elim id id⟩⟩
theorem stars_all : ∀ (L : List Res) (F : Blks), (Stars L).holds w S F → ∀ (k : Nat) (A : Res), L[k]? = some A → ∃ G : Blks, (∀ b, G b → F b) ∧ A.holds w S G := fun L F h k A hk => by
  obtain ⟨G, H, a, _, _, e⟩ := stars_take L k F hk h
  exact ⟨G, fun b hb => (e b).2 (.inl hb), a⟩
/-- an own slice as data -/
theorem own_rep {v : Value} {T : TypeId} {sz : Nat} {rows : List (List D)} (hr : (OwnS v T sz rows).holds w S F) : RepD w (fun b => S b ∨ F b) v (.sl rows) := by
  have hS : ∀ b, S b → (S b ∨ F b) := fun _ h => .inl h
  rcases hr with ⟨rfl, rfl, _⟩ | ⟨b, cap, rfl, ⟨cs, sp, hb, hrows, hl, hle, hcap⟩, hF⟩
  · exact .e none 0 (by unfold maxLen; omega)
  · refine .sl b 0 cap sz rows (fun i j => cs.getD (i * sz + j) undef) (.inr ((hF b).2 rfl)) hle hcap hrows.row (fun i j r d h1 h2 => ?_) (fun i j r d h1 h2 => ?_)
    · obtain ⟨u, hu, _⟩ := hrows.rep i j r d h1 h2
      have e : cs.getD (i * sz + j) undef = u := by simp [List.getD, hu]
      rw [e]
      refine ⟨?_, hrows.one u (List.mem_of_getElem? hu)⟩
      rw [Nat.zero_add, cell_box hb, List.getElem?_append_left (List.getElem?_eq_some_iff.1 hu).1]; exact hu
    · obtain ⟨u, hu, hr⟩ := hrows.rep i j r d h1 h2
      have e : cs.getD (i * sz + j) undef = u := by simp [List.getD, hu]
      rw [e]
      exact hr.mono (fun _ _ => rfl) hS
end
/-- any resource looked at as shared: its blocks join the shared ones -/
theorem st_shareR {w : World} {S : Blks} {fp : Nat → Blks} {ps : List Per} {hp : List Res} (hst : St w S fp ps hp) (i : Nat) {R : Res} (hi : hp[i]? = some R) {p : Per} (h : ∀ w S F, R.holds w S F → p.holds w (fun b => S b ∨ F b)) :
    St w (fun b => S b ∨ fp i b) (fun k => if k = i then (fun _ => False) else fp k) (p :: ps) (hp.set i emp) := by
  have hil := (List.getElem?_eq_some_iff.1 hi).1
  have hr := hst.res i _ hi
  have hst0 := hst.drop i
  have hS : ∀ b, S b → (S b ∨ fp i b) := fun _ h => .inl h
  refine ⟨fun p' hp' => ?_, fun j R hj => R.mono (hst0.res j R hj) (fun _ _ => rfl) (fun _ _ => rfl) hS, fun j hj b hb => ?_, hst0.dj, fun b hb => hb.elim (hst.slt b) (fun h => (hst.lt i hil b h).1)⟩
  · rcases List.mem_cons.1 hp' with rfl | h2
    · exact h w S (fp i) hr
    · exact p'.mono (hst.per p' h2) (fun _ _ => rfl) hS
  · have hj' : j < hp.length := by simpa using hj
    by_cases hji : j = i
    · rw [if_pos hji] at hb; exact hb.elim
    · rw [if_neg hji] at hb
      exact ⟨(hst.lt j hj' b hb).1, fun h => h.elim (hst.lt j hj' b hb).2 (hst.dj j i hj' hil hji b hb)⟩
section
variable {P : Program} {n : Fr} {env : Env} {ps : List Per} {hp : List Res} {c : Code} {Q : Exit → Sta → Prop}
theorem awp_shareR (i : Nat) {R : Res} (p : Per) (hi : hp[i]? = some R) (h0 : ∀ w S F, R.holds w S F → p.holds w (fun b => S b ∨ F b)) (h : awp P n c Q ⟨env, p :: ps, hp.set i emp⟩) : awp P n c Q ⟨env, ps, hp⟩ := fun w S fp a hst he hn hd => by
  have hil := (List.getElem?_eq_some_iff.1 hi).1
  have h1 := st_shareR hst i hi h0
  have htot : ∀ b, tot (fun k => if k = i then (fun _ => False) else fp k) (hp.set i emp).length b → tot fp hp.length b := fun b ⟨j, hj, hb⟩ => by
    dsimp only at hb
    by_cases hji : j = i
    · rw [if_pos hji] at hb; exact hb.elim
    · rw [if_neg hji] at hb; exact ⟨j, by simpa using hj, hb⟩
  have hE : Evo w S (tot fp hp.length) w (fun b => S b ∨ fp i b) := ⟨rfl, rfl, rfl, Nat.le_refl _, fun _ _ _ => rfl, fun _ h => .inl h, fun b hb => hb.elim .inl fun h => .inr (.inl ⟨i, hil, h⟩)⟩
  exact cwp_mono (fun e a2 w2 hp2 => hp2.trans hE (fun b hb => .inl (htot b hb))) (h w _ _ a h1 he hn hd)
/-- a box looked at as shared -/
theorem awp_shareB (i : Nat) {b : Nat} {T : TypeId} {cs : List Value} (hi : hp[i]? = some (Box b T cs)) (h1 : cs.all (·.oneCell') = true) (h : awp P n c Q ⟨env, At b 0 (cs.map D.v) :: ps, hp.set i emp⟩) : awp P n c Q ⟨env, ps, hp⟩ :=
  awp_shareR i (At b 0 (cs.map D.v)) hi (fun w S F ⟨hb, hF⟩ => ⟨.inr ((hF b).2 rfl), fun j d hj => by
    rw [List.getElem?_map] at hj
    cases hc : cs[j]? with
    | none => rw [hc] at hj; cases hj
    | some u =>
      rw [hc] at hj
      simp only [Option.map_some, Option.some.injEq] at hj
      exact ⟨u, by rw [Nat.zero_add, cell_box hb]; exact hc, List.all_eq_true.1 h1 u (List.mem_of_getElem? hc), by rw [← hj]; exact .v u⟩⟩) h
end
section
variable {α : Type} [Inhabited α] {enc : α → Value}
def vrows (vs : List Value) : List (List D) := vs.map fun v => [.v v]
@[simp] theorem vrows_len (vs : List Value) : (vrows vs).length = vs.length := by simp [vrows]
def inner (E : TypeId) (enc : α → Value) (vs : List Value) (l : List (List α)) : List Res := List.zipWith (fun v x => OwnS v E 1 (encR enc x)) vs l
/-- an own slice of own slices -/
def Nest (vo : Value) (T E : TypeId) (enc : α → Value) (l : List (List α)) : Res :=
  ⟨fun w S F => ∃ vs : List Value, vs.length = l.length ∧ (Star (OwnS vo T 1 (vrows vs)) (Stars (inner E enc vs l))).holds w S F,
   fun ⟨vs, h0, h⟩ h1 h2 h3 => ⟨vs, h0, (Star (OwnS vo T 1 (vrows vs)) (Stars (inner E enc vs l))).mono h h1 h2 h3⟩⟩
omit [Inhabited α] in
theorem inner_get {E : TypeId} {vs : List Value} {l : List (List α)} {k : Nat} {v : Value} {x : List α} (hv : vs[k]? = some v) (hx : l[k]? = some x) : (inner E enc vs l)[k]? = some (OwnS v E 1 (encR enc x)) := by
  unfold inner; rw [List.getElem?_zipWith, hv, hx]
omit [Inhabited α] in
theorem inner_set {E : TypeId} {v : Value} {x : List α} : ∀ (vs : List Value) (l : List (List α)) (k : Nat), inner E enc (vs.set k v) (l.set k x) = (inner E enc vs l).set k (OwnS v E 1 (encR enc x))
  | [], _, _ => by simp [inner]
  | _ :: _, [], _ => by simp [inner]
  | a :: vs, b :: l, 0 => rfl
  | a :: vs, b :: l, k + 1 => by
    have := inner_set (E := E) (v := v) (x := x) vs l k
    unfold inner at this ⊢
    simp only [List.set_cons_succ, List.zipWith_cons_cons, this]
variable {P : Program} {n : Fr} {env : Env} {ps : List Per} {hp : List Res} {c : Code} {Q : Exit → Sta → Prop} {vo : Value} {T E : TypeId} {l : List (List α)}
omit [Inhabited α] in
theorem awp_nestOpen (i k : Nat) {x : List α} (hi : hp[i]? = some (Nest vo T E enc l)) (hk : l[k]? = some x)
    (h : ∀ vs v, vs.length = l.length → vs[k]? = some v → awp P n c Q ⟨env, ps, (hp.set i (OwnS vo T 1 (vrows vs)) ++ [OwnS v E 1 (encR enc x)]) ++ [Stars ((inner E enc vs l).set k emp)]⟩) : awp P n c Q ⟨env, ps, hp⟩ := by
  have hil := (List.getElem?_eq_some_iff.1 hi).1
  refine awp_openE (β := {p : List Value × Value // p.1.length = l.length ∧ p.1[k]? = some p.2}) i (fun p => Star (OwnS vo T 1 (vrows p.1.1)) (Star (OwnS p.1.2 E 1 (encR enc x)) (Stars ((inner E enc p.1.1 l).set k emp)))) hi (fun w S F hh => ?_) fun ⟨⟨vs, v⟩, h1, h2⟩ => ?_
  · obtain ⟨vs, h0, hs⟩ := hh
    have hkl := (List.getElem?_eq_some_iff.1 hk).1
    obtain ⟨v, hv⟩ : ∃ v, vs[k]? = some v := ⟨vs[k]'(by omega), by simp⟩
    exact ⟨⟨(vs, v), h0, hv⟩, star_right hs fun F h => stars_take _ k F (inner_get hv hk) h⟩
  · refine awp_split i (by rw [List.getElem?_set_self hil]) ?_
    rw [List.set_set]
    refine awp_split (hp.set i (OwnS vo T 1 (vrows vs))).length (by rw [List.getElem?_append_right (Nat.le_refl _), Nat.sub_self]; rfl) ?_
    rw [List.set_append_right _ _ (Nat.le_refl _), Nat.sub_self]
    exact h vs v h1 h2
omit [Inhabited α] in
theorem awp_nestClose (i j m k : Nat) {vs : List Value} {v : Value} {x : List α} (hi : hp[i]? = some (OwnS vo T 1 (vrows (vs.set k v)))) (hj : hp[j]? = some (OwnS v E 1 (encR enc x))) (hm : hp[m]? = some (Stars ((inner E enc vs l).set k emp)))
    (hij : (i == j) = false) (him : (i == m) = false) (hjm : (j == m) = false) (hl : vs.length = l.length) (hk : k < l.length) (h : awp P n c Q ⟨env, ps, ((hp.set j emp).set m emp).set i (Nest vo T E enc (l.set k x))⟩) : awp P n c Q ⟨env, ps, hp⟩ := by
  have hij' : i ≠ j := by simpa using hij
  have him' : i ≠ m := by simpa using him
  have hjm' : j ≠ m := by simpa using hjm
  have hil := (List.getElem?_eq_some_iff.1 hi).1
  have hjl := (List.getElem?_eq_some_iff.1 hj).1
  refine awp_star j m hj hm hjm ?_
  refine awp_star i j (R := OwnS vo T 1 (vrows (vs.set k v))) (R' := Star (OwnS v E 1 (encR enc x)) (Stars ((inner E enc vs l).set k emp))) ?_ ?_ hij ?_
  · rw [List.getElem?_set_ne (Ne.symm him'), List.getElem?_set_ne (Ne.symm hij')]; exact hi
  · rw [List.getElem?_set_ne (Ne.symm hjm'), List.getElem?_set_self hjl]
  refine awp_conv i (Nest vo T E enc (l.set k x)) (R := Star (OwnS vo T 1 (vrows (vs.set k v))) (Star (OwnS v E 1 (encR enc x)) (Stars ((inner E enc vs l).set k emp)))) ?_ (fun w S F hh => ?_) ?_
  · rw [List.getElem?_set_ne (Ne.symm hij'), List.getElem?_set_self (by simpa using hil)]
  · refine ⟨vs.set k v, by simp [hl], star_right hh fun F h => ?_⟩
    rw [inner_set]
    exact stars_put _ k F (by unfold inner; simp; omega) h
  · have e : ((((hp.set j (Star (OwnS v E 1 (encR enc x)) (Stars ((inner E enc vs l).set k emp)))).set m emp).set i (Star (OwnS vo T 1 (vrows (vs.set k v))) (Star (OwnS v E 1 (encR enc x)) (Stars ((inner E enc vs l).set k emp))))).set j emp).set i (Nest vo T E enc (l.set k x)) = ((hp.set j emp).set m emp).set i (Nest vo T E enc (l.set k x)) := by
      apply List.ext_getElem?
      intro q
      simp only [List.getElem?_set, List.length_set]
      by_cases h1 : i = q
      · simp [h1]
      · by_cases h2 : j = q
        · subst h2; simp [h1, Ne.symm hjm', hjm']
        · by_cases h3 : m = q
          · simp [h1, h2, h3]
          · simp [h1, h2, h3]
    rw [e]; exact h
omit [Inhabited α] in
theorem awp_nestNew (i m : Nat) (hi : hp[i]? = some (OwnS vo T 1 (List.replicate m [.v (.slice none 0 0)]))) (h : awp P n c Q ⟨env, ps, hp.set i (Nest vo T E enc (List.replicate m ([] : List α)))⟩) : awp P n c Q ⟨env, ps, hp⟩ := by
  refine awp_conv i (Nest vo T E enc (List.replicate m ([] : List α))) hi (fun w S F hh => ⟨List.replicate m (.slice none 0 0), by simp, ?_⟩) h
  have e : vrows (List.replicate m (.slice none 0 0)) = List.replicate m [.v (.slice none 0 0)] := by simp [vrows]
  rw [e]
  refine ⟨F, fun _ => False, hh, stars_emps _ fun A hA => ?_, fun _ _ h => h, fun b => ⟨.inl, fun h => h.elim id False.elim⟩⟩
  unfold inner at hA
  rw [List.zipWith_replicate] at hA
  obtain ⟨_, rfl⟩ := List.mem_replicate.1 hA
  exact .inl ⟨rfl, rfl, fun _ h => h⟩
omit [Inhabited α] in
theorem awp_nestShare (i : Nat) (hi : hp[i]? = some (Nest vo T E enc l)) (h : awp P n c Q ⟨env, Sh vo (.sl (l.map fun x => [.sl (encR enc x)])) :: ps, hp.set i emp⟩) : awp P n c Q ⟨env, ps, hp⟩ :=
  awp_shareR i _ hi (fun w S F hh => by
    obtain ⟨vs, hl, G, H, hG, hH, _, e⟩ := hh
    have hS : ∀ b, (S b ∨ G b) → (S b ∨ F b) := fun b h => h.imp id fun g => (e b).2 (.inl g)
    have hvl : (vrows vs).length = (l.map fun x => [D.sl (encR enc x)]).length := by simp [hl]
    have key : ∀ (k : Nat) (x : List α) (v : Value), l[k]? = some x → vs[k]? = some v → RepD w (fun b => S b ∨ F b) v (.sl (encR enc x)) := fun k x v hx hv => by
      obtain ⟨G2, hs, ho⟩ := stars_all _ _ hH k _ (inner_get hv hx)
      exact (own_rep ho).mono (fun _ _ => rfl) fun b h => h.imp id fun g => (e b).2 (.inr (hs b g))
    have hrep := own_rep hG
    generalize hvr : vrows vs = rr at hrep hvl
    show RepD w (fun b => S b ∨ F b) vo (.sl (l.map fun x => [.sl (encR enc x)]))
    cases hrep with
    | e a c hc =>
      have : l = [] := by cases l with
        | nil => rfl
        | cons a l => simp at hvl
      subst this
      exact .e a c hc
    | sl b o c sz _ us hb hn hc hr hcell hd =>
      rw [hvl]
      have hrow : ∀ (i : Nat) (v : Value), vs[i]? = some v → rr[i]? = some [.v v] := fun i v hv => by rw [← hvr]; simp [vrows, hv]
      have hsz : ∀ (i : Nat) (v : Value), vs[i]? = some v → sz = 1 := fun i v hv => (hr i _ (hrow i v hv)).symm
      refine .sl b o c sz _ us (hb.elim (fun h => .inl h) fun g => .inr ((e b).2 (.inl g))) (by rw [← hvl]; exact hn) hc (fun i r hi => ?_) (fun i j r d hi hj => ?_) (fun i j r d hi hj => ?_)
      all_goals
        rw [List.getElem?_map, Option.map_eq_some_iff] at hi
        obtain ⟨x, hx, rfl⟩ := hi
        have hil := (List.getElem?_eq_some_iff.1 hx).1
        obtain ⟨v, hv⟩ : ∃ v, vs[i]? = some v := ⟨vs[i]'(by omega), by simp⟩
      · exact (hsz i v hv).symm
      · cases j with
        | succ j => simp at hj
        | zero => exact hcell i 0 _ (.v v) (hrow i v hv) rfl
      · cases j with
        | succ j => simp at hj
        | zero =>
          simp only [List.getElem?_cons_zero, Option.some.injEq] at hj
          subst hj
          have hu := hd i 0 _ (.v v) (hrow i v hv) rfl
          generalize us i 0 = u at hu
          cases hu
          exact key i x _ hx hv) h
end
end Go.Sy
namespace Go.Sy
open Go.RowKit Go.Lp
/-- the record of a loop over a function -/
def LoopR (l : Nat) (r : Loop) : Res := ⟨fun w _ F => w.heap[l]? = some (.loop r) ∧ ∀ k, F k ↔ k = l, fun h h1 _ _ => ⟨(h1 l ((h.2 l).2 rfl)).trans h.1, h.2⟩⟩
/-- the block for deferred calls: none -/
def DfdR (D : Nat) : Res := ⟨fun w _ F => w.heap[D]? = some (.deferred (some [])) ∧ ∀ k, F k ↔ k = D, fun h h1 _ _ => ⟨(h1 D ((h.2 D).2 rfl)).trans h.1, h.2⟩⟩
def markD (D : Nat) : Deferred := { target := .collected D, args := #[] }
theorem Evo.putObj {w : World} {S X : Blks} {l : Nat} {o : Obj} (hl : X l) : Evo w S X (w.putObj l o) S where
  os := rfl
  tape := rfl
  output := rfl
  size := by rw [World.putObj_size]; exact Nat.le_refl _
  block b _ hx := World.putObj_heap_other (fun e => hx (by rw [e]; exact hl))
  more _ h := h
  new _ h := .inl h
theorem St.putObj {w : World} {S : Blks} {fp : Nat → Blks} {ps : List Per} {hp : List Res} (h : St w S fp ps hp) {i l : Nat} (hi : i < hp.length) (hl : fp i l) (o : Obj) (R : Res) (hR : R.holds (w.putObj l o) S (fp i)) : St (w.putObj l o) S fp ps (hp.set i R) :=
  h.change hi (by rw [World.putObj_size]; exact Nat.le_refl _) (fun b _ hb => World.putObj_heap_other (fun e => hb (by rw [e]; exact hl))) R hR

/-- a call of a loop's yield: what it is given, what it leaves -/
def ConY (P : Program) (l : Nat) (args : List Value) (ps : List Per) (hp : List Res) (R : Value → List Per → List Res → Prop) : Prop :=
  ∀ (w : World) (S : Blks) (fp : Nat → Blks), St w S fp ps hp → uponU P (fun v w' => ∃ ps' hp' S' fp', R v ps' hp' ∧ St w' S' fp' ps' hp' ∧ Evo w S (tot fp hp.length) w' S' ∧ ∀ b, tot fp' hp'.length b → tot fp hp.length b ∨ w.heap.size ≤ b) ((Instr.yield l args.toArray).run P w)
section
variable {P : Program} {n : Fr} {env : Env} {ps : List Per} {hp : List Res} {ty : TypeId} {pos : String} {af : Array Edge} {gd : Option (Nat × Bool)} {K : Sta → Prop} {d : Option Tmp}
theorem exec_yield {k : Nat} {l : List Operand} {ts : Array TypeId} {g : Operand} {ρ : Operand → Value} (hg : ρ g = .func (.yield k) #[] #[]) {vs : List Value} (hv : l.map ρ = vs) (w : World) : (execOp ρ ⟨d, .call ⟨.value g, l.toArray, ts⟩, ty, pos, af, gd⟩).run P w = (Instr.yield k vs.toArray).run P w := by
  unfold execOp
  dsimp only
  show ((resolve ρ ⟨.value g, l.toArray, ts⟩ ty).bind fun x => invoke x.target x.args).run P w = _
  have : resolve ρ ⟨.value g, l.toArray, ts⟩ ty = Sem.pure { target := .fn (.yield k) #[], args := vs.toArray } := by
    unfold resolve
    dsimp only
    rw [hg]
    show Deferred.ofValue _ _ = _
    unfold Deferred.ofValue
    dsimp only
    rw [List.map_toArray, hv, Array.empty_append]
    rfl
  rw [this]
  rfl
theorem e_yield {t k : Nat} {g : Operand} {l : List Operand} {ts : Array TypeId} {vs : List Value} {R : Value → List Per → List Res → Prop} (lp lh : List Nat) (hgv : ev env g = some (true, .func (.yield k) #[] #[])) (hx : evs env l = some vs) (ht : fits n (some t) = true) (ok : okH hp lh = true)
    (hc : ConY P k vs (keepP ps lp) (keepH hp lh) R) (hK : ∀ v ps' hp', R v ps' hp' → K ⟨(t, true, v) :: env, ps' ++ ps, putB lh hp' 0 hp⟩) :
    Eff P n ⟨some t, .call ⟨.value g, l.toArray, ts⟩, ty, pos, af, gd⟩ ⟨env, ps, hp⟩ false K := fun w S fp a hst he hn => by
  rw [exec_yield (he.val hgv rfl) (evs_map he l vs hx)]
  obtain ⟨k1, k2⟩ := hst.keepH lp lh ok
  refine uponU_mono (fun v w' ⟨ps', hp', S', fp', hR, hst', hE, hg⟩ => ?_) (hc w S _ k1)
  obtain ⟨m1, m2⟩ := hst.back lp lh ok hst' hE hg
  exact ⟨_, S', _, hK v ps' hp' hR, m1, he.put (g := true) (by rw [hn]; simpa [fits] using ht) v, hE.wider k2, m2, fun h => by cases h⟩
end
/-! a round -/
def busy (r : Loop) : Loop := { r with state := .busy }
def ended (r : Loop) (j : Option Code) : Loop := { r with state := if j.isNone then .ready else .done, pending := j }
theorem ended_none {r : Loop} (h1 : r.state = .ready) (h2 : r.pending = none) : ended r none = r := by cases r; simp only at h1 h2; subst h1 h2; rfl
def jumpOf : Exit → Option (Option Code)
  | .normal => some none
  | .ret => some (some .ret)
  | .exit id => some (some (.exit id))
  | .goto t => some (some (.goto t))
  | _ => none
def PostR (l : Nat) (r : Loop) (R : Value → List Per → List Res → Prop) (e : Exit) (s : Sta) : Prop :=
  ∃ j lp lh, jumpOf e = some j ∧ s.hp[0]? = some (LoopR l (busy r)) ∧ okH s.hp lh = true ∧ R (.bool j.isNone) (keepP s.ps lp) (keepH (s.hp.set 0 (LoopR l (ended r j))) lh)
def zipE (env : Env) : List (Nat × Value) → Env
  | [] => env
  | (p, v) :: l => zipE ((p, true, v) :: env) l
theorem zipE_ok : ∀ (l : List (Nat × Value)) (env : Env) (tmps : Array Value), EnvOk ⟨tmps, []⟩ env → (∀ x ∈ l, x.1 < tmps.size) → EnvOk ⟨l.foldl (fun t x => t.setIfInBounds x.1 x.2) tmps, []⟩ (zipE env l)
  | [], _, _, h, _ => h
  | (p, v) :: l, env, tmps, h, hl => zipE_ok l _ _ (h.put (d := p) (hl (p, v) List.mem_cons_self) true v) (fun x hx => by have := hl x (List.mem_cons_of_mem _ hx); simpa using this)
theorem fold_size : ∀ (l : List (Nat × Value)) (tmps : Array Value), (l.foldl (fun t x => t.setIfInBounds x.1 x.2) tmps).size = tmps.size
  | [], _ => rfl
  | x :: l, tmps => by rw [List.foldl_cons, fold_size l]; simp
theorem okH_len {hp hp' : List Res} {l : List Nat} (h : hp.length = hp'.length) : okH hp l = okH hp' l := by unfold okH; rw [h]
theorem con_yield {P : Program} {l : Nat} {r : Loop} {m : Nat} {pm : Array Tmp} {A B : Code} (hm : r.tmps.size = m) (hpm : r.params = pm) (hA : r.assign = A) (hB : r.body = B) {args : List Value} {ps : List Per} {hp : List Res} {R : Value → List Per → List Res → Prop} {env : Env} (hr : r.state = .ready) (hs : args.length = pm.size) (he : EnvOk ⟨r.tmps, []⟩ env) (hps : pm.toList.all (· < m) = true)
    (h : awp P ⟨m, some l, []⟩ A (thn (fun s => s.hp[0]? = some (LoopR l r) ∧ awp P ⟨m, some l, []⟩ B (PostR l r R) ⟨s.env, s.ps, s.hp.set 0 (LoopR l (busy r))⟩) (fun _ _ => False)) ⟨zipE env (pm.toList.zip args), ps, LoopR l r :: hp⟩) :
    ConY P l args ps (LoopR l r :: hp) R := fun w S fp hst => by
  subst hm hpm hA hB
  have hl : w.heap[l]? = some (.loop r) := (hst.res 0 _ rfl).1
  rw [run_yield hl (by simpa using hs)]
  have hz : (r.params.zip args.toArray).foldl (fun tmps (x : Tmp × Value) => tmps.setIfInBounds x.1 x.2) r.tmps = (r.params.toList.zip args).foldl (fun t x => t.setIfInBounds x.1 x.2) r.tmps := by
    rw [← Array.foldl_toList, Array.toList_zip]
  show RoundIn (fnc none) 0 P l r.fn ((r.params.zip args.toArray).foldl (fun tmps (x : Tmp × Value) => tmps.setIfInBounds x.1 x.2) r.tmps) r.assign r.body w _
  rw [hz]
  refine roundIn_of_wpIn (F := fnc none) trivial ?_
  refine cwp_mono (F := fnc (some l)) (fun e a1 w1 hq => ?_) (h w S fp ⟨(r.params.toList.zip args).foldl (fun t x => t.setIfInBounds x.1 x.2) r.tmps, []⟩ hst (zipE_ok _ _ _ he fun x hx => by simpa using List.all_eq_true.1 hps _ (List.of_mem_zip hx).1) (fold_size _ _) rfl)
  obtain ⟨s1, S1, fp1, hQ, hst1, he1, hn1, hd1, hE1, hg1⟩ := hq
  cases e with
  | normal =>
    obtain ⟨h0, hb⟩ := hQ
    have hl1 := (hst1.res 0 _ h0).1
    have h0l : 0 < s1.hp.length := (List.getElem?_eq_some_iff.1 h0).1
    have hF1 := (hst1.res 0 _ h0).2
    refine ⟨_, run_beginRound hl1 hr, ?_⟩
    have hst2 := hst1.putObj h0l ((hF1 l).2 rfl) (.loop (busy r)) (LoopR l (busy r)) ⟨World.putObj_heap_same (Array.getElem?_eq_some_iff.1 hl1).1, hF1⟩
    refine cwp_mono (F := fnc (some l)) (fun e2 a2 w2 hq2 => ?_) (hb _ S1 fp1 a1 hst2 he1 hn1 hd1)
    obtain ⟨s2, S2, fp2, ⟨j, lp, lh, hj, h20, ok, hR⟩, hst3, he3, hn3, hd3, hE3, hg3⟩ := hq2
    have hl2 := (hst3.res 0 _ h20).1
    have h2l : 0 < s2.hp.length := (List.getElem?_eq_some_iff.1 h20).1
    have hF2 := (hst3.res 0 _ h20).2
    have hend := run_endRound (P := P) j hl2
    have hst4 := hst3.putObj h2l ((hF2 l).2 rfl) (.loop (ended r j)) (LoopR l (ended r j)) ⟨World.putObj_heap_same (Array.getElem?_eq_some_iff.1 hl2).1, hF2⟩
    obtain ⟨k1, k2⟩ := hst4.keepH lp lh (by rw [okH_len (hp' := s2.hp) (by simp)]; exact ok)
    have hX1 : tot fp1 s1.hp.length l := ⟨0, h0l, (hF1 l).2 rfl⟩
    have hX2 : tot fp2 s2.hp.length l := ⟨0, h2l, (hF2 l).2 rfl⟩
    have hE2 : Evo w S (tot fp (LoopR l r :: hp).length) (w1.putObj l (.loop (busy r))) S1 := hE1.trans (Evo.putObj hX1) hg1
    have hsz : (w1.putObj l (.loop (busy r))).heap.size = w1.heap.size := World.putObj_size
    have hg3' : ∀ b, tot fp2 s2.hp.length b → tot fp (LoopR l r :: hp).length b ∨ w.heap.size ≤ b := fun b hb => (hg3 b hb).elim (fun h => hg1 b (by simpa using h)) (fun h => .inr (Nat.le_trans hE1.size (by rw [← hsz]; exact h)))
    have hE4 : Evo w S (tot fp (LoopR l r :: hp).length) (w2.putObj l (.loop (ended r j))) S2 := (hE2.trans hE3 (fun b hb => hg1 b (by simpa using hb))).trans (Evo.putObj hX2) hg3'
    have goal : ∃ v, Ending.returned (.bool j.isNone) = .returned v ∧ ∃ ps' hp' S' fp', R v ps' hp' ∧ St (w2.putObj l (.loop (ended r j))) S' fp' ps' hp' ∧ Evo w S (tot fp (LoopR l r :: hp).length) (w2.putObj l (.loop (ended r j))) S' ∧ ∀ b, tot fp' hp'.length b → tot fp (LoopR l r :: hp).length b ∨ w.heap.size ≤ b :=
      ⟨_, rfl, _, _, S2, _, hR, k1, hE4, fun b hb => hg3' b (by simpa using k2 b hb)⟩
    cases e2 <;> simp only [jumpOf, Option.some.injEq, reduceCtorEq] at hj <;> subst hj <;> exact ⟨_, _, hend, goal⟩
  | _ => exact hQ.elim
/-! a function that holds a loop over a function -/
def PostW (P : Program) (fn : Func) (R : Value → List Per → List Res → Prop) (w : World) (S X : Blks) (e : Exit) (a' : Act) (w' : World) : Prop :=
  (e = .normal ∨ e = .ret) ∧ ∃ (v : Value) (ds : List Nat) (ps' : List Per) (hp' : List Res) (S' : Blks) (fp' : Nat → Blks), (∀ w2, (results fn a'.tmps).run P w2 = .ok v w2) ∧ a'.defers = ds.map markD ∧ ds.Nodup ∧ R v ps' hp' ∧ St w' S' fp' ps' hp' ∧ Evo w S X w' S' ∧ (∀ b, tot fp' hp'.length b → X b ∨ w.heap.size ≤ b) ∧
    ∀ D ∈ ds, w'.heap[D]? = some (.deferred (some [])) ∧ ¬ S' D ∧ ¬ tot fp' hp'.length D ∧ (X D ∨ w.heap.size ≤ D)
/-- what is to be shown where it ends -/
def PostG (P : Program) (fn : Func) (R : Value → List Per → List Res → Prop) (n : Fr) (e : Exit) (s : Sta) : Prop :=
  (e = .normal ∨ e = .ret) ∧ ∃ (v : Value) (lp lh lm ds : List Nat), okH s.hp (lh ++ lm) = true ∧ (∀ a w, EnvOk a s.env → (results fn a.tmps).run P w = .ok v w) ∧ n.dfr = ds.map markD ∧ keepH s.hp lm = ds.map DfdR ∧ R v (keepP s.ps lp) (keepH s.hp lh)
def fwp (P : Program) (fn : Func) (n : Fr) (c : Code) (R : Value → List Per → List Res → Prop) (s : Sta) : Prop :=
  ∀ (w : World) (S : Blks) (fp : Nat → Blks) (a : Act), St w S fp s.ps s.hp → EnvOk a s.env → a.tmps.size = n.size → a.defers = n.dfr → c.wpIn (fnc n.ro) 0 P (PostW P fn R w S (tot fp s.hp.length)) a w
def fwpY (P : Program) (fn : Func) (n : Fr) (y z : Code) (R : Value → List Per → List Res → Prop) (s : Sta) : Prop :=
  ∀ (w : World) (S : Blks) (fp : Nat → Blks) (a : Act), St w S fp s.ps s.hp → EnvOk a s.env → a.tmps.size = n.size → a.defers = n.dfr →
    y.wpIn (fnc n.ro) 0 P (Exit.then (z.wpIn (fnc n.ro) 0 P (PostW P fn R w S (tot fp s.hp.length))) (PostW P fn R w S (tot fp s.hp.length))) a w
section
variable {P : Program} {fn : Func} {n : Fr} {R : Value → List Per → List Res → Prop} {s : Sta}
theorem PostW.trans {w w1 : World} {S X S1 X1 : Blks} (hE : Evo w S X w1 S1) (hX : ∀ b, X1 b → X b ∨ w.heap.size ≤ b) {e : Exit} {a : Act} {w2 : World} (h : PostW P fn R w1 S1 X1 e a w2) : PostW P fn R w S X e a w2 := by
  obtain ⟨he, v, ds, ps', hp', S', fp', h1, h2, h3, h4, h5, h6, h7, h8⟩ := h
  have hX' : ∀ b, X1 b ∨ w1.heap.size ≤ b → X b ∨ w.heap.size ≤ b := fun b hb => hb.elim (hX b) (fun h => .inr (Nat.le_trans hE.size h))
  exact ⟨he, v, ds, ps', hp', S', fp', h1, h2, h3, h4, h5, hE.trans h6 hX, fun b hb => hX' b (h7 b hb), fun D hD => let ⟨a1, a2, a3, a4⟩ := h8 D hD; ⟨a1, a2, a3, hX' D a4⟩⟩
theorem postW_of_postG {w : World} {S X : Blks} {e : Exit} {a' : Act} {w' : World} (h : PostA (PostG P fn R n) n w S X e a' w') : PostW P fn R w S X e a' w' := by
  obtain ⟨s', S', fp', ⟨he, v, lp, lh, lm, ds, ok, hr, hds, hlm, hR⟩, hst, henv, hn, hd, hE, hg⟩ := h
  have ok2 := ok
  simp only [okH, Bool.and_eq_true, decide_eq_true_eq] at ok2
  have okh : okH s'.hp lh = true := by
    simp only [okH, Bool.and_eq_true, decide_eq_true_eq]
    exact ⟨List.all_eq_true.2 fun x hx => List.all_eq_true.1 ok2.1 x (List.mem_append_left _ hx), (List.nodup_append.1 ok2.2).1⟩
  obtain ⟨k1, k2⟩ := hst.keepH lp lh okh
  have hlen : lm.length = ds.length := by have := congrArg List.length hlm; simpa [keepH] using this
  -- the place of a mark
  have hm : ∀ i (hi : i < ds.length), ∃ k, lm[i]? = some k ∧ k < s'.hp.length ∧ (DfdR ds[i]).holds w' S' (fp' k) := fun i hi => by
    have hi' : i < lm.length := by omega
    have hk : lm[i] < s'.hp.length := by simpa using List.all_eq_true.1 ok2.1 lm[i] (List.mem_append_right _ (List.getElem_mem hi'))
    refine ⟨lm[i], List.getElem?_eq_getElem hi', hk, ?_⟩
    have e := congrArg (·[i]?) hlm
    simp only [keepH, List.getElem?_map, List.getElem?_eq_getElem hi', List.getElem?_eq_getElem hi, Option.map_some, Option.some.injEq] at e
    have := hst.res lm[i] (s'.hp.getD lm[i] emp) (by simp [List.getD, hk])
    rw [e] at this
    exact this
  refine ⟨he, v, ds, _, _, S', _, fun w2 => hr a' w2 henv, hd.trans hds, ?_, hR, k1, hE, fun b hb => hg b (k2 b hb), fun D hD => ?_⟩
  · rw [List.nodup_iff_pairwise_ne, List.pairwise_iff_getElem]
    intro i j hi hj hij e
    obtain ⟨ki, h1, h2, h3⟩ := hm i hi
    obtain ⟨kj, g1, g2, g3⟩ := hm j hj
    have hne : ki ≠ kj := fun ek => by
      have hpw := List.pairwise_iff_getElem.1 (List.nodup_iff_pairwise_ne.1 (List.nodup_append.1 ok2.2).2.1)
      refine hpw i j (by omega) (by omega) hij ?_
      have a1 := (List.getElem?_eq_some_iff.1 h1).2
      have a2 := (List.getElem?_eq_some_iff.1 g1).2
      rw [a1, a2, ek]
    exact hst.dj ki kj h2 g2 hne ds[i] ((h3.2 _).2 rfl) (by rw [e]; exact (g3.2 _).2 rfl)
  · obtain ⟨i, hi, rfl⟩ := List.getElem_of_mem hD
    obtain ⟨k, h1, h2, h3⟩ := hm i hi
    have hfk : fp' k ds[i] := (h3.2 _).2 rfl
    refine ⟨h3.1, (hst.lt k h2 _ hfk).2, fun ⟨m, hm', hb⟩ => ?_, hg _ ⟨k, h2, hfk⟩⟩
    have hml : m < lh.length := by simpa [keepH] using hm'
    have hkm : lh.getD m 0 < s'.hp.length := by
      have := List.all_eq_true.1 ok2.1 lh[m] (List.mem_append_left _ (List.getElem_mem hml))
      simpa [List.getD, hml] using this
    refine hst.dj (lh.getD m 0) k hkm h2 (fun ek => ?_) _ hb hfk
    have hk' : k ∈ lm := List.mem_of_getElem? h1
    have hm2 : lh.getD m 0 ∈ lh := by simp [List.getD, hml]
    exact (List.nodup_append.1 ok2.2).2.2 _ hm2 _ hk' ek
theorem fwp_of_awp {c : Code} (h : awp P n c (PostG P fn R n) s) : fwp P fn n c R s := fun w S fp a hst he hn hd => cwp_mono (fun _ _ _ h => postW_of_postG h) (h w S fp a hst he hn hd)
theorem fwp_seq {x y : Code} (h : awp P n x (thn (fwp P fn n y R) (PostG P fn R n)) s) : fwp P fn n (.seq x y) R s := fun w S fp a hst he hn hd =>
  wpIn_seq (cwp_mono (fun e a' w' hq => by
    cases e with
    | normal =>
      obtain ⟨s1, S1, fp1, h1, hst1, he1, hn1, hd1, hE, hg⟩ := hq
      exact cwp_mono (fun e a2 w2 h2 => h2.trans hE hg) (h1 w' S1 fp1 a' hst1 he1 hn1 hd1)
    | _ => exact postW_of_postG hq) (h w S fp a hst he hn hd))
theorem fwp_seq2 {x y z : Code} (h : awp P n x (thn (fwpY P fn n y z R) (PostG P fn R n)) s) : fwp P fn n (.seq (.seq x y) z) R s := fun w S fp a hst he hn hd =>
  wpIn_seq (wpIn_seq (cwp_mono (fun e a' w' hq => by
    cases e with
    | normal =>
      obtain ⟨s1, S1, fp1, h1, hst1, he1, hn1, hd1, hE, hg⟩ := hq
      refine cwp_mono (fun e a2 w2 h2 => ?_) (h1 w' S1 fp1 a' hst1 he1 hn1 hd1)
      cases e with
      | normal => exact cwp_mono (fun e a3 w3 h3 => PostW.trans hE hg h3) h2
      | _ => exact PostW.trans hE hg h2
    | _ => exact postW_of_postG hq) (h w S fp a hst he hn hd)))
theorem fwp_st {c : Code} {env : Env} {ps ps' : List Per} {hp hp' : List Res} (h1 : ps = ps') (h2 : hp = hp') (h : fwp P fn n c R ⟨env, ps', hp'⟩) : fwp P fn n c R ⟨env, ps, hp⟩ := h1 ▸ h2 ▸ h
theorem fin1G {t : Nat} {v : Value} {e : Exit} (lp lh lm ds : List Nat) (ok : okH s.hp (lh ++ lm) = true) (hr : fn.results = #[.tmp t]) (hl : look s.env t = some (true, v)) (hd : n.dfr = ds.map markD) (hm : keepH s.hp lm = ds.map DfdR) (h : R v (keepP s.ps lp) (keepH s.hp lh)) (he : e = .normal ∨ e = .ret) : PostG P fn R n e s :=
  ⟨he, v, lp, lh, lm, ds, ok, fun a w henv => by have := henv t true v hl; simp only [cond_true] at this; rw [results_tmp hr, this], hd, hm, h⟩
/-- the statement -/
theorem fwp_range {id : Nat} {f : FuncId} {g : Operand} {caps : List Value} {pm : Array Tmp} {assign body z : Code} {Rr : Value → List Per → List Res → Prop} (lp lh : List Nat) (hro : n.ro = none) (hgv : ev s.env g = some (true, .func (.func f) #[] caps.toArray)) (hf : callOk P f = true)
    (ok : okH s.hp lh = true)
    (hc : ∀ (l : Nat) (r : Loop), r.tmps.size = n.size → EnvOk ⟨r.tmps, []⟩ s.env → r.state = .ready → r.pending = none → r.params = pm → r.assign = assign → r.body = body →
      Con P f (.func (.yield l) #[] #[] :: caps) (keepP s.ps lp) (LoopR l r :: keepH s.hp lh)
        (fun v ps' hp' => ∃ r' hp2, hp' = LoopR l r' :: hp2 ∧ r'.state ≠ .busy ∧ r'.pending = none ∧ Rr v ps' hp2))
    (hz : ∀ (D : Nat) (R0 R1 : Res) v ps' hp2, Rr v ps' hp2 → fwp P fn ⟨n.size, n.ro, markD D :: n.dfr⟩ z R ⟨s.env, ps' ++ s.ps, (putB ((s.hp.length + 1) :: lh) (R0 :: hp2) 0 (s.hp ++ [DfdR D, R1])).set (s.hp.length + 1) emp⟩) :
    fwpY P fn n (.block id (.rangeFunc g pm assign body)) z R s := fun w S fp a hst he hn hd => by
  refine wpIn_block (wpIn_rangeFunc fun fi _ => ?_)
  have hev := he.val hgv rfl
  have hb1 := below_new w (.deferred (some []))
  have hb2 := below_new (w.alloc (.deferred (some []))) (.loop { state := .ready, pending := none, fn := fi, tmps := a.tmps, params := pm, assign, body, defers := w.heap.size })
  have hs1 : (w.alloc (.deferred (some []))).heap.size = w.heap.size + 1 := World.size_alloc ..
  have hst1 := hst.push hb1 (DfdR w.heap.size) (fun b => b = w.heap.size) ⟨heap_new _ _, fun _ => Iff.rfl⟩ (fun b hb => ⟨by omega, by omega⟩)
  have hst2 := hst1.push hb2 (LoopR (w.heap.size + 1) _) (fun b => b = w.heap.size + 1) ⟨by rw [← hs1]; exact heap_new _ _, fun _ => Iff.rfl⟩ (fun b hb => ⟨by omega, by rw [hb, World.size_alloc, hs1]; omega⟩)
  rw [List.append_assoc] at hst2
  have hE0 : Evo w S (tot fp s.hp.length) _ S := Evo.of_below _ _ (hb1.trans (hb2.mono hb1.size))
  have ok2 := ok
  simp only [okH, Bool.and_eq_true, decide_eq_true_eq] at ok2
  have hlt : ∀ k ∈ lh, k < s.hp.length := fun k hk => by simpa using List.all_eq_true.1 ok2.1 k hk
  have okk : okH (s.hp ++ [DfdR w.heap.size, LoopR (w.heap.size + 1) { state := .ready, pending := none, fn := fi, tmps := a.tmps, params := pm, assign, body, defers := w.heap.size }]) ((s.hp.length + 1) :: lh) = true := by
    simp only [okH, Bool.and_eq_true, decide_eq_true_eq, List.all_cons, List.length_append, List.nodup_cons]
    exact ⟨⟨by simp, List.all_eq_true.2 fun k hk => by simpa using Nat.lt_of_lt_of_le (hlt k hk) (Nat.le_add_right _ _)⟩, fun hk => by have := hlt _ hk; omega, ok2.2⟩
  obtain ⟨k1, k2⟩ := hst2.keepH lp ((s.hp.length + 1) :: lh) okk
  have hkh : keepH (s.hp ++ [DfdR w.heap.size, LoopR (w.heap.size + 1) { state := .ready, pending := none, fn := fi, tmps := a.tmps, params := pm, assign, body, defers := w.heap.size }]) ((s.hp.length + 1) :: lh)
      = LoopR (w.heap.size + 1) { state := .ready, pending := none, fn := fi, tmps := a.tmps, params := pm, assign, body, defers := w.heap.size } :: keepH s.hp lh := by
    unfold keepH
    rw [List.map_cons]
    congr 1
    · simp [List.getD]
    · refine List.map_congr_left fun k hk => ?_
      have := hlt k hk
      simp [List.getD, List.getElem?_append, this]
  have hcc := hc (w.heap.size + 1) { state := .ready, pending := none, fn := fi, tmps := a.tmps, params := pm, assign, body, defers := w.heap.size } hn he rfl rfl rfl rfl rfl
  rw [← hkh] at hcc
  have hcall := hcc _ S _ k1
  rw [show (Value.func (.yield (w.heap.size + 1)) #[] #[] :: caps).toArray = #[.func (.yield (w.heap.size + 1)) #[] #[]] ++ caps.toArray by simp] at hcall
  refine ⟨w.heap.size + 1, [markD w.heap.size], (w.alloc (.deferred (some []))).alloc (.loop { state := .ready, pending := none, fn := fi, tmps := a.tmps, params := pm, assign, body, defers := w.heap.size }), { target := .fn (.func f) caps.toArray, args := #[.func (.yield (w.heap.size + 1)) #[] #[]] }, (w.alloc (.deferred (some []))).alloc (.loop { state := .ready, pending := none, fn := fi, tmps := a.tmps, params := pm, assign, body, defers := w.heap.size }), f, #[.func (.yield (w.heap.size + 1)) #[] #[]] ++ caps.toArray, (w.alloc (.deferred (some []))).alloc (.loop { state := .ready, pending := none, fn := fi, tmps := a.tmps, params := pm, assign, body, defers := w.heap.size }), by rw [show (fnc n.ro).round = none from hro]; exact run_enterLoop_outer .., ?_, fun _ _ => trivial, ?_, fun h => (by cases h), ?_⟩
  · have : resolve a.eval (rangeCall g (w.heap.size + 1)) 0 = Sem.pure { target := .fn (.func f) caps.toArray, args := #[.func (.yield (w.heap.size + 1)) #[] #[]] } := by
      unfold resolve rangeCall
      dsimp only
      rw [hev]
      show Deferred.ofValue _ _ = _
      unfold Deferred.ofValue
      dsimp only
      rw [List.map_toArray, Array.empty_append]
      rfl
    rw [this]
    rfl
  · exact run_callFunc hf _ _
  · refine (callsIn_wide (n := 0)).2 (Calls.mono hcall fun e w3 ⟨v, ps', hp', S', fp', he', ⟨r', hp2, hhp, hnb, hpn, hRr⟩, hst', hE, hg⟩ => ?_)
    subst he' hhp
    obtain ⟨m1, m2⟩ := hst2.back lp _ okk hst' hE hg
    have hi1 : s.hp.length + 1 < (putB ((s.hp.length + 1) :: lh) (LoopR (w.heap.size + 1) r' :: hp2) 0 (s.hp ++ [DfdR w.heap.size, LoopR (w.heap.size + 1) { state := .ready, pending := none, fn := fi, tmps := a.tmps, params := pm, assign, body, defers := w.heap.size }])).length := by
      rw [putB_len]; simp; omega
    have hg1 : (putB ((s.hp.length + 1) :: lh) (LoopR (w.heap.size + 1) r' :: hp2) 0 (s.hp ++ [DfdR w.heap.size, LoopR (w.heap.size + 1) { state := .ready, pending := none, fn := fi, tmps := a.tmps, params := pm, assign, body, defers := w.heap.size }]))[s.hp.length + 1]? = some (LoopR (w.heap.size + 1) r') := by
      rw [putB_get, if_pos (by simp)]
      simp [place]
    have hr := m1.res _ _ hg1
    have hend := (run_endLoop (P := P) hr.1 hnb).trans (congrArg (fun j => Result.ok j _) hpn)
    refine ⟨none, _, hend, ?_⟩
    have hl' := (Array.getElem?_eq_some_iff.1 hr.1).1
    have m3 := (m1.putObj hi1 ((hr.2 _).2 rfl) (.loop { r' with state := .exhausted }) (LoopR (w.heap.size + 1) { r' with state := .exhausted }) ⟨World.putObj_heap_same hl', hr.2⟩).drop (s.hp.length + 1)
    rw [List.set_set] at m3
    have hT : ∀ b, tot (fun i => if i = (s.hp ++ [DfdR w.heap.size]).length then (fun b => b = w.heap.size + 1) else (fun i => if i = s.hp.length then (fun b => b = w.heap.size) else fp i) i) (s.hp ++ ([DfdR w.heap.size] ++ [LoopR (w.heap.size + 1) { state := .ready, pending := none, fn := fi, tmps := a.tmps, params := pm, assign, body, defers := w.heap.size }])).length b → tot fp s.hp.length b ∨ w.heap.size ≤ b := fun b ⟨i, hi, hb⟩ => by
      dsimp only at hb
      split at hb
      · exact .inr (by omega)
      · split at hb
        · exact .inr (by omega)
        · rename_i h1 h2
          refine .inl ⟨i, ?_, hb⟩
          simp only [List.length_append, List.length_cons, List.length_nil] at hi h1
          omega
    have hE3 : Evo w S (tot fp s.hp.length) w3 S' := hE0.trans (hE.wider k2) hT
    have hX3 := fun b hb => (m2 b hb).elim (hT b) (fun h => .inr (Nat.le_trans hE0.size h))
    have hE4 := hE3.trans (Evo.putObj (S := S') (o := .loop { r' with state := .exhausted }) ⟨_, hi1, (hr.2 _).2 rfl⟩) hX3
    have h5 := hz w.heap.size _ _ v ps' hp2 hRr _ S' _ { a with defers := markD w.heap.size :: a.defers } m3 he hn (by rw [← hd])
    show z.wpIn (fnc n.ro) 0 P (PostW P fn R w S (tot fp s.hp.length)) { a with defers := markD w.heap.size :: a.defers } _
    refine cwp_mono (fun e a5 w5 h6 => PostW.trans hE4 (fun b hb => ?_) h6) h5
    obtain ⟨i, hi, hb⟩ := hb
    split at hb
    · exact hb.elim
    · exact hX3 b ⟨i, by simpa using hi, hb⟩
/-- the marks are come to, one by one -/
theorem leaves_marks {tmps : Array Value} {v : Value} {Rr : Ending → World → Prop} : ∀ (ds : List Nat) (w : World), ds.Nodup → (∀ D ∈ ds, w.heap[D]? = some (.deferred (some []))) → (∀ w2, (results fn tmps).run P w2 = .ok v w2) →
    (∀ w2, w2.os = w.os → w2.tape = w.tape → w2.output = w.output → w2.heap.size = w.heap.size → (∀ b, b ∉ ds → w2.heap[b]? = w.heap[b]?) → Rr (.returned v) w2) → LeavesInM (fnc none) 0 P fn tmps Rr (ds.map markD) .returning w
  | [], w, _, _, hr, h => ⟨v, hr w, h w rfl rfl rfl rfl fun _ _ => rfl⟩
  | D :: ds, w, hnd, hd, hr, h => by
    obtain ⟨h1, h2⟩ := List.nodup_cons.1 hnd
    refine ⟨by simp, .inl ⟨D, _, rfl, run_takeDeferred (hd D List.mem_cons_self), leaves_marks ds _ h2 (fun D' hD' => ?_) hr fun w2 e1 e2 e3 e4 e5 => ?_⟩⟩
    · rw [World.putObj_heap_other (fun e => h1 (by rw [← e]; exact hD'))]
      exact hd D' (List.mem_cons_of_mem _ hD')
    · refine h w2 e1 e2 e3 (e4.trans World.putObj_size) fun b hb => ?_
      rw [e5 b (fun hb' => hb (List.mem_cons_of_mem _ hb')), World.putObj_heap_other (fun e => hb (by rw [e]; exact List.mem_cons_self))]
end
/-- into the body of a function that holds a loop over a function -/
theorem Con.enterM {P : Program} {f : FuncId} {fn : Func} {c : Code} {args : List Value} {ps : List Per} {hp : List Res} {R : Value → List Per → List Res → Prop} (hf : P.funcs[f]? = some fn) (hb : fn.body = some c) (hle : args.length ≤ fn.ntmps)
    (h : fwp P fn ⟨fn.ntmps, none, []⟩ c R ⟨(List.range args.length).zipWith (fun i v => (i, true, v)) args, ps, hp⟩) : Con P f args ps hp R := fun w S fp hst => by
  refine (callsIn_wide (n := 0)).1 (callsIn_of_wp_marks (F := fnc none) (n := 0) hf hb trivial (cwp_mono (F := fnc none) (fun e a w' hq => ?_) (h w S fp { tmps := args.toArray ++ Array.replicate (fn.ntmps - args.toArray.size) undef, defers := [] } hst (env_args args fn.ntmps) (by simp; omega) rfl)))
  obtain ⟨he, v, ds, ps', hp', S', fp', h1, h2, h3, h4, h5, h6, h7, h8⟩ := hq
  have key : LeavesInM (fnc none) 0 P fn a.tmps (fun e w' => ∃ v ps' hp' S' fp', e = .returned v ∧ R v ps' hp' ∧ St w' S' fp' ps' hp' ∧ Evo w S (tot fp hp.length) w' S' ∧ ∀ b, tot fp' hp'.length b → tot fp hp.length b ∨ w.heap.size ≤ b) a.defers .returning w' := by
    rw [h2]
    refine leaves_marks ds w' h3 (fun D hD => (h8 D hD).1) h1 fun w2 e1 e2 e3 e4 e5 => ⟨v, ps', hp', S', fp', rfl, h4, ⟨fun p hp => p.mono (h5.per p hp) (fun b hb => e5 b fun hD => (h8 b hD).2.1 hb) (fun _ h => h), fun i R hR => R.mono (h5.res i R hR) (fun b hb => e5 b fun hD => (h8 b hD).2.2.1 ⟨i, (List.getElem?_eq_some_iff.1 hR).1, hb⟩) (fun b hb => e5 b fun hD => (h8 b hD).2.1 hb) (fun _ h => h), fun i hi b hb => by rw [e4]; exact h5.lt i hi b hb, h5.dj, fun b hb => by rw [e4]; exact h5.slt b hb⟩, ?_, h7⟩
    exact ⟨e1.trans h6.os, e2.trans h6.tape, e3.trans h6.output, by rw [e4]; exact h6.size, fun b hb hx => (e5 b fun hD => (h8 b hD).2.2.2.elim hx (fun h => by omega)).trans (h6.block b hb hx), h6.more, h6.new⟩
  rcases he with rfl | rfl <;> exact key
end Go.Sy
namespace Go.Sy
open Go.RowKit Go.Lp
/-- a slice that is known: where it lies, its capacity, its elements -/
structure Sl (α : Type) where
  ad : Option Addr
  cap : Nat
  l : List α
instance {α : Type} : Inhabited (Sl α) := ⟨⟨none, 0, []⟩⟩
abbrev Sl.val {α : Type} (s : Sl α) : Value := .slice s.ad s.l.length s.cap
/-- it stands there -/
abbrev ShF {α : Type} (row : α → List D) (s : Sl α) : Per := Sh (.slice s.ad s.l.length s.cap) (.sl (s.l.map row))
def AllF {α : Type} (p : α → Per) (l : List α) : Per := ⟨fun w S => ∀ x ∈ l, (p x).holds w S, fun h h1 h2 x hx => (p x).mono (h x hx) h1 h2⟩
def AndP (p q : Per) : Per := ⟨fun w S => p.holds w S ∧ q.holds w S, fun h h1 h2 => ⟨p.mono h.1 h1 h2, q.mono h.2 h1 h2⟩⟩
section
variable {α : Type} {ps : List Per} {p q : Per}
theorem Ent.all {f : α → Per} {l : List α} {i : Nat} {x : α} (h : Ent ps (AllF f l)) (hx : l[i]? = some x) : Ent ps (f x) := fun w S hp => h w S hp x (List.mem_of_getElem? hx)
theorem Ent.allm {f : α → Per} {l : List α} {x : α} (h : Ent ps (AllF f l)) (hx : x ∈ l) : Ent ps (f x) := fun w S hp => h w S hp x hx
theorem Ent.left (h : Ent ps (AndP p q)) : Ent ps p := fun w S hp => (h w S hp).1
theorem Ent.right (h : Ent ps (AndP p q)) : Ent ps q := fun w S hp => (h w S hp).2
theorem Ent.yes {c : Bool} (h : Ent ps (cnd c p)) (hc : c = true) : Ent ps p := fun w S hp => h w S hp hc
theorem rows_get {row : α → List D} {l : List α} {i : Nat} {x : α} (h : l[i]? = some x) : (l.map row)[i]? = some (row x) := by rw [List.getElem?_map, h]; rfl
end
theorem Con.quiet2 {P : Program} {v : Value} {f : FuncId} {args : List Value} {p q : Per} (h : Con P f args [p, q] [] fun u _ _ => u = v) {w : World} {S : Blks} {fp : Nat → Blks} {ps' : List Per} {hp : List Res} (hp1 : p ∈ ps') (hq1 : q ∈ ps') (hst : St w S fp ps' hp) :
    Calls P f args.toArray w fun e w' => e = .returned v ∧ Below w.heap.size w w' := h.quiet (fun _ h => by
      rcases List.mem_cons.1 h with rfl | h
      · exact hp1
      · rw [List.mem_singleton.1 h]; exact hq1) hst
/-- a slice's length is an int -/
theorem awp_lenE {P : Program} {n : Fr} {Q : Exit → Sta → Prop} {s : Sta} {c : Code} {ad : Option Addr} {m cp : Nat} {rows : List (List D)} (hs : Ent s.ps (Sh (.slice ad m cp) (.sl rows))) (h : m ≤ 9223372036854775807 → awp P n c Q s) : awp P n c Q s :=
  awp_know (fun w S fp hst => by
    have h : RepD w S (.slice ad m cp) (.sl rows) := hs w S hst.per
    cases h with
    | e a c hc => simp
    | sl b o c sz rows us hb hn hc _ _ _ => unfold maxLen at hc; omega) h
theorem awp_form {P : Program} {n : Fr} {Q : Exit → Sta → Prop} {s : Sta} {c : Code} {v : Value} {rows : List (List D)} (hs : Ent s.ps (Sh v (.sl rows))) (h : ∀ ad k, v = .slice ad rows.length k → awp P n c Q s) : awp P n c Q s :=
  awp_know (φ := ∃ ad k, v = .slice ad rows.length k) (fun w S fp hst => by
    have h : RepD w S v (.sl rows) := hs w S hst.per
    cases h with
    | e a c hc => exact ⟨_, _, rfl⟩
    | sl b o c sz rows us hb hn hc _ _ _ => exact ⟨_, _, rfl⟩) (fun ⟨ad, k, e⟩ => h ad k e)
theorem aw_hp {P : Program} {n : Fr} {Q : Exit → Sta → Prop} {env : Env} {ps : List Per} {hp hp' : List Res} {c : Code} (h : hp = hp') (k : awp P n c Q ⟨env, ps, hp'⟩) : awp P n c Q ⟨env, ps, hp⟩ := h ▸ k
/-- the element at an index -/
def elt {α : Type} [Inhabited α] (l : List α) (i : Int) : α := l.getD i.toNat default
theorem elt_some {α : Type} [Inhabited α] {l : List α} {i : Int} (h : i < l.length) (h0 : 0 ≤ i) : l[i.toNat]? = some (elt l i) := by
  have : i.toNat < l.length := by omega
  simp [elt, List.getD, this]
theorem elt_nat {α : Type} [Inhabited α] {l : List α} {i : Nat} (h : i < l.length) : l[i]? = some (elt l (i : Int)) := by simp [elt, List.getD, h]
theorem rows_elt {α : Type} [Inhabited α] {row : α → List D} {l : List α} {i : Int} (h : i < l.length) (h0 : 0 ≤ i) : (l.map row)[i.toNat]? = some (row (elt l i)) := rows_get (elt_some h h0)
theorem Ent.elt {α : Type} [Inhabited α] {ps : List Per} {f : α → Per} {l : List α} {i : Int} (h : Ent ps (AllF f l)) (h1 : i < l.length) (h0 : 0 ≤ i) : Ent ps (f (elt l i)) := h.all (elt_some h1 h0)
end Go.Sy
namespace Go.Proofs.Ytnbochlghdkfkaa
open Go.RowKit Go.Lp Go.Sy
structure GVersionDef where
  name : ByteArray
  parents : Sl ByteArray
  deriving Inhabited
abbrev GVersionDef.row (x : GVersionDef) : List D := [.v (.string x.name), .v (.slice x.parents.ad x.parents.l.length x.parents.cap)]
abbrev GVersionDef.vs (x : GVersionDef) : List Value := [.string x.name, .slice x.parents.ad x.parents.l.length x.parents.cap]
abbrev GVersionDef.val (x : GVersionDef) : Value := .agg #[.string x.name, .slice x.parents.ad x.parents.l.length x.parents.cap]
def GVersionDef.ok (x : GVersionDef) : Per := ShF (fun s => [.v (.string s)]) x.parents
theorem GVersionDef.f_parents {ps : List Per} {x : GVersionDef} (h : Ent ps x.ok) : Ent ps (ShF (fun s => [.v (.string s)]) x.parents) := h
structure GRecipe where
  name : ByteArray
  lib : Bool
  objs : Sl ByteArray
  needs : Sl ByteArray
  entry : ByteArray
  spare : Int
  versions : Sl GVersionDef
  deriving Inhabited
abbrev GRecipe.row (x : GRecipe) : List D := [.v (.string x.name), .v (.bool x.lib), .v (.slice x.objs.ad x.objs.l.length x.objs.cap), .v (.slice x.needs.ad x.needs.l.length x.needs.cap), .v (.string x.entry), .v (.int .i64 x.spare), .v (.slice x.versions.ad x.versions.l.length x.versions.cap)]
abbrev GRecipe.vs (x : GRecipe) : List Value := [.string x.name, .bool x.lib, .slice x.objs.ad x.objs.l.length x.objs.cap, .slice x.needs.ad x.needs.l.length x.needs.cap, .string x.entry, .int .i64 x.spare, .slice x.versions.ad x.versions.l.length x.versions.cap]
abbrev GRecipe.val (x : GRecipe) : Value := .agg #[.string x.name, .bool x.lib, .slice x.objs.ad x.objs.l.length x.objs.cap, .slice x.needs.ad x.needs.l.length x.needs.cap, .string x.entry, .int .i64 x.spare, .slice x.versions.ad x.versions.l.length x.versions.cap]
def GRecipe.ok (x : GRecipe) : Per := AndP (ShF (fun s => [.v (.string s)]) x.objs) (AndP (ShF (fun s => [.v (.string s)]) x.needs) (AndP (ShF (GVersionDef.row) x.versions) (AllF (fun y => GVersionDef.ok y) x.versions.l)))
theorem GRecipe.f_objs {ps : List Per} {x : GRecipe} (h : Ent ps x.ok) : Ent ps (ShF (fun s => [.v (.string s)]) x.objs) := (Ent.left h)
theorem GRecipe.f_needs {ps : List Per} {x : GRecipe} (h : Ent ps x.ok) : Ent ps (ShF (fun s => [.v (.string s)]) x.needs) := (Ent.left (Ent.right h))
theorem GRecipe.f_versions {ps : List Per} {x : GRecipe} (h : Ent ps x.ok) : Ent ps (ShF (GVersionDef.row) x.versions) := (Ent.left (Ent.right (Ent.right h)))
theorem GRecipe.f_versionsA {ps : List Per} {x : GRecipe} (h : Ent ps x.ok) : Ent ps (AllF (fun y => GVersionDef.ok y) x.versions.l) := (Ent.right (Ent.right (Ent.right h)))
structure GSection where
  name : ByteArray
  kind : Int
  align : Int
  size : Int
  bytes : ByteArray
  keep : Bool
  deriving Inhabited
abbrev GSection.row (x : GSection) : List D := [.v (.string x.name), .v (.int .i64 x.kind), .v (.int .i64 x.align), .v (.int .i64 x.size), .v (.string x.bytes), .v (.bool x.keep)]
abbrev GSection.vs (x : GSection) : List Value := [.string x.name, .int .i64 x.kind, .int .i64 x.align, .int .i64 x.size, .string x.bytes, .bool x.keep]
abbrev GSection.val (x : GSection) : Value := .agg #[.string x.name, .int .i64 x.kind, .int .i64 x.align, .int .i64 x.size, .string x.bytes, .bool x.keep]
structure GSymbol where
  name : ByteArray
  version : ByteArray
  main : Bool
  bind : Int
  vis : Int
  kind : Int
  sec : Int
  at_ : Int
  size : Int
  align : Int
  deriving Inhabited
abbrev GSymbol.row (x : GSymbol) : List D := [.v (.string x.name), .v (.string x.version), .v (.bool x.main), .v (.int .i64 x.bind), .v (.int .i64 x.vis), .v (.int .i64 x.kind), .v (.int .i64 x.sec), .v (.int .i64 x.at_), .v (.int .i64 x.size), .v (.int .i64 x.align)]
abbrev GSymbol.vs (x : GSymbol) : List Value := [.string x.name, .string x.version, .bool x.main, .int .i64 x.bind, .int .i64 x.vis, .int .i64 x.kind, .int .i64 x.sec, .int .i64 x.at_, .int .i64 x.size, .int .i64 x.align]
abbrev GSymbol.val (x : GSymbol) : Value := .agg #[.string x.name, .string x.version, .bool x.main, .int .i64 x.bind, .int .i64 x.vis, .int .i64 x.kind, .int .i64 x.sec, .int .i64 x.at_, .int .i64 x.size, .int .i64 x.align]
structure GRel where
  sec : Int
  at_ : Int
  kind : Int
  sym : Int
  add : Int
  deriving Inhabited
abbrev GRel.row (x : GRel) : List D := [.v (.int .i64 x.sec), .v (.int .i64 x.at_), .v (.int .i64 x.kind), .v (.int .i64 x.sym), .v (.int .i64 x.add)]
abbrev GRel.vs (x : GRel) : List Value := [.int .i64 x.sec, .int .i64 x.at_, .int .i64 x.kind, .int .i64 x.sym, .int .i64 x.add]
abbrev GRel.val (x : GRel) : Value := .agg #[.int .i64 x.sec, .int .i64 x.at_, .int .i64 x.kind, .int .i64 x.sym, .int .i64 x.add]
structure GGroup where
  name : ByteArray
  secs : Sl Int
  deriving Inhabited
abbrev GGroup.row (x : GGroup) : List D := [.v (.string x.name), .v (.slice x.secs.ad x.secs.l.length x.secs.cap)]
abbrev GGroup.vs (x : GGroup) : List Value := [.string x.name, .slice x.secs.ad x.secs.l.length x.secs.cap]
abbrev GGroup.val (x : GGroup) : Value := .agg #[.string x.name, .slice x.secs.ad x.secs.l.length x.secs.cap]
def GGroup.ok (x : GGroup) : Per := ShF (fun z => [.v (.int .i64 z)]) x.secs
theorem GGroup.f_secs {ps : List Per} {x : GGroup} (h : Ent ps x.ok) : Ent ps (ShF (fun z => [.v (.int .i64 z)]) x.secs) := h
structure GInit where
  sym : Int
  order : Int
  last : Bool
  deriving Inhabited
abbrev GInit.row (x : GInit) : List D := [.v (.int .i64 x.sym), .v (.int .i64 x.order), .v (.bool x.last)]
abbrev GInit.vs (x : GInit) : List Value := [.int .i64 x.sym, .int .i64 x.order, .bool x.last]
abbrev GInit.val (x : GInit) : Value := .agg #[.int .i64 x.sym, .int .i64 x.order, .bool x.last]
structure GLine where
  sec : Int
  at_ : Int
  file : ByteArray
  line : Int
  deriving Inhabited
abbrev GLine.row (x : GLine) : List D := [.v (.int .i64 x.sec), .v (.int .i64 x.at_), .v (.string x.file), .v (.int .i64 x.line)]
abbrev GLine.vs (x : GLine) : List Value := [.int .i64 x.sec, .int .i64 x.at_, .string x.file, .int .i64 x.line]
abbrev GLine.val (x : GLine) : Value := .agg #[.int .i64 x.sec, .int .i64 x.at_, .string x.file, .int .i64 x.line]
structure GInline where
  sec : Int
  from_ : Int
  to_ : Int
  name : ByteArray
  file : ByteArray
  line : Int
  deriving Inhabited
abbrev GInline.row (x : GInline) : List D := [.v (.int .i64 x.sec), .v (.int .i64 x.from_), .v (.int .i64 x.to_), .v (.string x.name), .v (.string x.file), .v (.int .i64 x.line)]
abbrev GInline.vs (x : GInline) : List Value := [.int .i64 x.sec, .int .i64 x.from_, .int .i64 x.to_, .string x.name, .string x.file, .int .i64 x.line]
abbrev GInline.val (x : GInline) : Value := .agg #[.int .i64 x.sec, .int .i64 x.from_, .int .i64 x.to_, .string x.name, .string x.file, .int .i64 x.line]
structure GVar where
  sec : Int
  from_ : Int
  to_ : Int
  name : ByteArray
  where_ : Int
  n : Int
  deriving Inhabited
abbrev GVar.row (x : GVar) : List D := [.v (.int .i64 x.sec), .v (.int .i64 x.from_), .v (.int .i64 x.to_), .v (.string x.name), .v (.int .i64 x.where_), .v (.int .i64 x.n)]
abbrev GVar.vs (x : GVar) : List Value := [.int .i64 x.sec, .int .i64 x.from_, .int .i64 x.to_, .string x.name, .int .i64 x.where_, .int .i64 x.n]
abbrev GVar.val (x : GVar) : Value := .agg #[.int .i64 x.sec, .int .i64 x.from_, .int .i64 x.to_, .string x.name, .int .i64 x.where_, .int .i64 x.n]
structure GDepth where
  sec : Int
  from_ : Int
  to_ : Int
  bytes : Int
  deriving Inhabited
abbrev GDepth.row (x : GDepth) : List D := [.v (.int .i64 x.sec), .v (.int .i64 x.from_), .v (.int .i64 x.to_), .v (.int .i64 x.bytes)]
abbrev GDepth.vs (x : GDepth) : List Value := [.int .i64 x.sec, .int .i64 x.from_, .int .i64 x.to_, .int .i64 x.bytes]
abbrev GDepth.val (x : GDepth) : Value := .agg #[.int .i64 x.sec, .int .i64 x.from_, .int .i64 x.to_, .int .i64 x.bytes]
structure GPiece where
  from_ : Int
  size : Int
  to_ : Int
  deriving Inhabited
abbrev GPiece.row (x : GPiece) : List D := [.v (.int .i64 x.from_), .v (.int .i64 x.size), .v (.int .i64 x.to_)]
abbrev GPiece.vs (x : GPiece) : List Value := [.int .i64 x.from_, .int .i64 x.size, .int .i64 x.to_]
abbrev GPiece.val (x : GPiece) : Value := .agg #[.int .i64 x.from_, .int .i64 x.size, .int .i64 x.to_]
structure GConvert where
  sec : Int
  from_ : ByteArray
  pieces : Sl GPiece
  code : Int
  deriving Inhabited
abbrev GConvert.row (x : GConvert) : List D := [.v (.int .i64 x.sec), .v (.string x.from_), .v (.slice x.pieces.ad x.pieces.l.length x.pieces.cap), .v (.int .i64 x.code)]
abbrev GConvert.vs (x : GConvert) : List Value := [.int .i64 x.sec, .string x.from_, .slice x.pieces.ad x.pieces.l.length x.pieces.cap, .int .i64 x.code]
abbrev GConvert.val (x : GConvert) : Value := .agg #[.int .i64 x.sec, .string x.from_, .slice x.pieces.ad x.pieces.l.length x.pieces.cap, .int .i64 x.code]
def GConvert.ok (x : GConvert) : Per := ShF (GPiece.row) x.pieces
theorem GConvert.f_pieces {ps : List Per} {x : GConvert} (h : Ent ps x.ok) : Ent ps (ShF (GPiece.row) x.pieces) := h
structure GObject where
  name : ByteArray
  secs : Sl GSection
  syms : Sl GSymbol
  rels : Sl GRel
  groups : Sl GGroup
  inits : Sl GInit
  lines : Sl GLine
  inlines : Sl GInline
  vars : Sl GVar
  depths : Sl GDepth
  converts : Sl GConvert
  deriving Inhabited
abbrev GObject.row (x : GObject) : List D := [.v (.string x.name), .v (.slice x.secs.ad x.secs.l.length x.secs.cap), .v (.slice x.syms.ad x.syms.l.length x.syms.cap), .v (.slice x.rels.ad x.rels.l.length x.rels.cap), .v (.slice x.groups.ad x.groups.l.length x.groups.cap), .v (.slice x.inits.ad x.inits.l.length x.inits.cap), .v (.slice x.lines.ad x.lines.l.length x.lines.cap), .v (.slice x.inlines.ad x.inlines.l.length x.inlines.cap), .v (.slice x.vars.ad x.vars.l.length x.vars.cap), .v (.slice x.depths.ad x.depths.l.length x.depths.cap), .v (.slice x.converts.ad x.converts.l.length x.converts.cap)]
abbrev GObject.vs (x : GObject) : List Value := [.string x.name, .slice x.secs.ad x.secs.l.length x.secs.cap, .slice x.syms.ad x.syms.l.length x.syms.cap, .slice x.rels.ad x.rels.l.length x.rels.cap, .slice x.groups.ad x.groups.l.length x.groups.cap, .slice x.inits.ad x.inits.l.length x.inits.cap, .slice x.lines.ad x.lines.l.length x.lines.cap, .slice x.inlines.ad x.inlines.l.length x.inlines.cap, .slice x.vars.ad x.vars.l.length x.vars.cap, .slice x.depths.ad x.depths.l.length x.depths.cap, .slice x.converts.ad x.converts.l.length x.converts.cap]
abbrev GObject.val (x : GObject) : Value := .agg #[.string x.name, .slice x.secs.ad x.secs.l.length x.secs.cap, .slice x.syms.ad x.syms.l.length x.syms.cap, .slice x.rels.ad x.rels.l.length x.rels.cap, .slice x.groups.ad x.groups.l.length x.groups.cap, .slice x.inits.ad x.inits.l.length x.inits.cap, .slice x.lines.ad x.lines.l.length x.lines.cap, .slice x.inlines.ad x.inlines.l.length x.inlines.cap, .slice x.vars.ad x.vars.l.length x.vars.cap, .slice x.depths.ad x.depths.l.length x.depths.cap, .slice x.converts.ad x.converts.l.length x.converts.cap]
def GObject.ok (x : GObject) : Per := AndP (ShF (GSection.row) x.secs) (AndP (ShF (GSymbol.row) x.syms) (AndP (ShF (GRel.row) x.rels) (AndP (ShF (GGroup.row) x.groups) (AndP (AllF (fun y => GGroup.ok y) x.groups.l) (AndP (ShF (GInit.row) x.inits) (AndP (ShF (GLine.row) x.lines) (AndP (ShF (GInline.row) x.inlines) (AndP (ShF (GVar.row) x.vars) (AndP (ShF (GDepth.row) x.depths) (AndP (ShF (GConvert.row) x.converts) (AllF (fun y => GConvert.ok y) x.converts.l)))))))))))
theorem GObject.f_secs {ps : List Per} {x : GObject} (h : Ent ps x.ok) : Ent ps (ShF (GSection.row) x.secs) := (Ent.left h)
theorem GObject.f_syms {ps : List Per} {x : GObject} (h : Ent ps x.ok) : Ent ps (ShF (GSymbol.row) x.syms) := (Ent.left (Ent.right h))
theorem GObject.f_rels {ps : List Per} {x : GObject} (h : Ent ps x.ok) : Ent ps (ShF (GRel.row) x.rels) := (Ent.left (Ent.right (Ent.right h)))
theorem GObject.f_groups {ps : List Per} {x : GObject} (h : Ent ps x.ok) : Ent ps (ShF (GGroup.row) x.groups) := (Ent.left (Ent.right (Ent.right (Ent.right h))))
theorem GObject.f_groupsA {ps : List Per} {x : GObject} (h : Ent ps x.ok) : Ent ps (AllF (fun y => GGroup.ok y) x.groups.l) := (Ent.left (Ent.right (Ent.right (Ent.right (Ent.right h)))))
theorem GObject.f_inits {ps : List Per} {x : GObject} (h : Ent ps x.ok) : Ent ps (ShF (GInit.row) x.inits) := (Ent.left (Ent.right (Ent.right (Ent.right (Ent.right (Ent.right h))))))
theorem GObject.f_lines {ps : List Per} {x : GObject} (h : Ent ps x.ok) : Ent ps (ShF (GLine.row) x.lines) := (Ent.left (Ent.right (Ent.right (Ent.right (Ent.right (Ent.right (Ent.right h)))))))
theorem GObject.f_inlines {ps : List Per} {x : GObject} (h : Ent ps x.ok) : Ent ps (ShF (GInline.row) x.inlines) := (Ent.left (Ent.right (Ent.right (Ent.right (Ent.right (Ent.right (Ent.right (Ent.right h))))))))
theorem GObject.f_vars {ps : List Per} {x : GObject} (h : Ent ps x.ok) : Ent ps (ShF (GVar.row) x.vars) := (Ent.left (Ent.right (Ent.right (Ent.right (Ent.right (Ent.right (Ent.right (Ent.right (Ent.right h)))))))))
theorem GObject.f_depths {ps : List Per} {x : GObject} (h : Ent ps x.ok) : Ent ps (ShF (GDepth.row) x.depths) := (Ent.left (Ent.right (Ent.right (Ent.right (Ent.right (Ent.right (Ent.right (Ent.right (Ent.right (Ent.right h))))))))))
theorem GObject.f_converts {ps : List Per} {x : GObject} (h : Ent ps x.ok) : Ent ps (ShF (GConvert.row) x.converts) := (Ent.left (Ent.right (Ent.right (Ent.right (Ent.right (Ent.right (Ent.right (Ent.right (Ent.right (Ent.right (Ent.right h)))))))))))
theorem GObject.f_convertsA {ps : List Per} {x : GObject} (h : Ent ps x.ok) : Ent ps (AllF (fun y => GConvert.ok y) x.converts.l) := (Ent.right (Ent.right (Ent.right (Ent.right (Ent.right (Ent.right (Ent.right (Ent.right (Ent.right (Ent.right (Ent.right h)))))))))))
structure GChoice where
  kind : Int
  obj : Int
  sym : Int
  lib : Int
  why : Int
  open_ : Bool
  deriving Inhabited
abbrev GChoice.row (x : GChoice) : List D := [.v (.int .i64 x.kind), .v (.int .i64 x.obj), .v (.int .i64 x.sym), .v (.int .i64 x.lib), .v (.int .i64 x.why), .v (.bool x.open_)]
abbrev GChoice.vs (x : GChoice) : List Value := [.int .i64 x.kind, .int .i64 x.obj, .int .i64 x.sym, .int .i64 x.lib, .int .i64 x.why, .bool x.open_]
abbrev GChoice.val (x : GChoice) : Value := .agg #[.int .i64 x.kind, .int .i64 x.obj, .int .i64 x.sym, .int .i64 x.lib, .int .i64 x.why, .bool x.open_]
structure GPlace where
  obj : Int
  sec : Int
  deriving Inhabited
abbrev GPlace.row (x : GPlace) : List D := [.v (.int .i64 x.obj), .v (.int .i64 x.sec)]
abbrev GPlace.vs (x : GPlace) : List Value := [.int .i64 x.obj, .int .i64 x.sec]
abbrev GPlace.val (x : GPlace) : Value := .agg #[.int .i64 x.obj, .int .i64 x.sec]
structure GArc where
  from_ : Int
  to_ : Int
  deriving Inhabited
abbrev GArc.row (x : GArc) : List D := [.v (.int .i64 x.from_), .v (.int .i64 x.to_)]
abbrev GArc.vs (x : GArc) : List Value := [.int .i64 x.from_, .int .i64 x.to_]
abbrev GArc.val (x : GArc) : Value := .agg #[.int .i64 x.from_, .int .i64 x.to_]
structure GLink where
  r : GRecipe
  objs : Sl GObject
  keep : Sl (Sl Bool)
  choices : Sl (Sl GChoice)
  first : Sl Int
  count : Int
  deriving Inhabited
abbrev GLink.row (x : GLink) : List D := [.v (.string x.r.name), .v (.bool x.r.lib), .v (.slice x.r.objs.ad x.r.objs.l.length x.r.objs.cap), .v (.slice x.r.needs.ad x.r.needs.l.length x.r.needs.cap), .v (.string x.r.entry), .v (.int .i64 x.r.spare), .v (.slice x.r.versions.ad x.r.versions.l.length x.r.versions.cap), .v (.slice x.objs.ad x.objs.l.length x.objs.cap), .v (.slice x.keep.ad x.keep.l.length x.keep.cap), .v (.slice x.choices.ad x.choices.l.length x.choices.cap), .v (.slice x.first.ad x.first.l.length x.first.cap), .v (.int .i64 x.count)]
abbrev GLink.vs (x : GLink) : List Value := [.string x.r.name, .bool x.r.lib, .slice x.r.objs.ad x.r.objs.l.length x.r.objs.cap, .slice x.r.needs.ad x.r.needs.l.length x.r.needs.cap, .string x.r.entry, .int .i64 x.r.spare, .slice x.r.versions.ad x.r.versions.l.length x.r.versions.cap, .slice x.objs.ad x.objs.l.length x.objs.cap, .slice x.keep.ad x.keep.l.length x.keep.cap, .slice x.choices.ad x.choices.l.length x.choices.cap, .slice x.first.ad x.first.l.length x.first.cap, .int .i64 x.count]
abbrev GLink.val (x : GLink) : Value := .agg #[.string x.r.name, .bool x.r.lib, .slice x.r.objs.ad x.r.objs.l.length x.r.objs.cap, .slice x.r.needs.ad x.r.needs.l.length x.r.needs.cap, .string x.r.entry, .int .i64 x.r.spare, .slice x.r.versions.ad x.r.versions.l.length x.r.versions.cap, .slice x.objs.ad x.objs.l.length x.objs.cap, .slice x.keep.ad x.keep.l.length x.keep.cap, .slice x.choices.ad x.choices.l.length x.choices.cap, .slice x.first.ad x.first.l.length x.first.cap, .int .i64 x.count]
def GLink.ok (x : GLink) : Per := AndP (GRecipe.ok x.r) (AndP (ShF (GObject.row) x.objs) (AndP (AllF (fun y => GObject.ok y) x.objs.l) (AndP (ShF (fun s => [.v (.slice s.ad s.l.length s.cap)]) x.keep) (AndP (AllF (fun y => ShF (fun b => [.v (.bool b)]) y) x.keep.l) (AndP (ShF (fun s => [.v (.slice s.ad s.l.length s.cap)]) x.choices) (AndP (AllF (fun y => ShF (GChoice.row) y) x.choices.l) (ShF (fun z => [.v (.int .i64 z)]) x.first)))))))
theorem GLink.f_r {ps : List Per} {x : GLink} (h : Ent ps x.ok) : Ent ps (GRecipe.ok x.r) := (Ent.left h)
theorem GLink.f_objs {ps : List Per} {x : GLink} (h : Ent ps x.ok) : Ent ps (ShF (GObject.row) x.objs) := (Ent.left (Ent.right h))
theorem GLink.f_objsA {ps : List Per} {x : GLink} (h : Ent ps x.ok) : Ent ps (AllF (fun y => GObject.ok y) x.objs.l) := (Ent.left (Ent.right (Ent.right h)))
theorem GLink.f_keep {ps : List Per} {x : GLink} (h : Ent ps x.ok) : Ent ps (ShF (fun s => [.v (.slice s.ad s.l.length s.cap)]) x.keep) := (Ent.left (Ent.right (Ent.right (Ent.right h))))
theorem GLink.f_keepA {ps : List Per} {x : GLink} (h : Ent ps x.ok) : Ent ps (AllF (fun y => ShF (fun b => [.v (.bool b)]) y) x.keep.l) := (Ent.left (Ent.right (Ent.right (Ent.right (Ent.right h)))))
theorem GLink.f_choices {ps : List Per} {x : GLink} (h : Ent ps x.ok) : Ent ps (ShF (fun s => [.v (.slice s.ad s.l.length s.cap)]) x.choices) := (Ent.left (Ent.right (Ent.right (Ent.right (Ent.right (Ent.right h))))))
theorem GLink.f_choicesA {ps : List Per} {x : GLink} (h : Ent ps x.ok) : Ent ps (AllF (fun y => ShF (GChoice.row) y) x.choices.l) := (Ent.left (Ent.right (Ent.right (Ent.right (Ent.right (Ent.right (Ent.right h)))))))
theorem GLink.f_first {ps : List Per} {x : GLink} (h : Ent ps x.ok) : Ent ps (ShF (fun z => [.v (.int .i64 z)]) x.first) := (Ent.right (Ent.right (Ent.right (Ent.right (Ent.right (Ent.right (Ent.right h)))))))
end Go.Proofs.Ytnbochlghdkfkaa
namespace Go.Proofs.Ytnbochlghdkfkaa
open Go.RowKit Go.Lp Go.Sy
def I64 (n : Int) : Prop := -9223372036854775808 ≤ n ∧ n ≤ 9223372036854775807
theorem tk2 : tyk Try.prog 2 = some (false, 1) := by kernel_rfl
theorem tk3 : tyk Try.prog 3 = some (false, 1) := by kernel_rfl
theorem tk4 : tyk Try.prog 4 = some (false, 1) := by kernel_rfl
theorem tk5 : tyk Try.prog 5 = some (false, 1) := by kernel_rfl
theorem tk6 : tyk Try.prog 6 = some (false, 1) := by kernel_rfl
theorem tk7 : tyk Try.prog 7 = some (true, 4) := by kernel_rfl
theorem tk8 : tyk Try.prog 8 = some (true, 4) := by kernel_rfl
theorem tk9 : tyk Try.prog 9 = some (false, 1) := by kernel_rfl
theorem tk10 : tyk Try.prog 10 = some (false, 1) := by kernel_rfl
theorem tk11 : tyk Try.prog 11 = some (false, 1) := by kernel_rfl
theorem tk12 : tyk Try.prog 12 = some (false, 1) := by kernel_rfl
theorem tk13 : tyk Try.prog 13 = some (true, 2) := by kernel_rfl
theorem tk14 : tyk Try.prog 14 = some (true, 2) := by kernel_rfl
theorem tk15 : tyk Try.prog 15 = some (false, 1) := by kernel_rfl
theorem tk16 : tyk Try.prog 16 = some (false, 1) := by kernel_rfl
theorem tk17 : tyk Try.prog 17 = some (false, 1) := by kernel_rfl
theorem tk18 : tyk Try.prog 18 = some (true, 1) := by kernel_rfl
theorem tk19 : tyk Try.prog 19 = some (true, 1) := by kernel_rfl
theorem tk20 : tyk Try.prog 20 = some (false, 1) := by kernel_rfl
theorem tk21 : tyk Try.prog 21 = some (false, 1) := by kernel_rfl
theorem tk22 : tyk Try.prog 22 = some (false, 1) := by kernel_rfl
theorem tk23 : tyk Try.prog 23 = some (false, 1) := by kernel_rfl
theorem tk24 : tyk Try.prog 24 = some (true, 7) := by kernel_rfl
theorem tk25 : tyk Try.prog 25 = some (true, 7) := by kernel_rfl
theorem tk26 : tyk Try.prog 26 = some (false, 1) := by kernel_rfl
theorem tk27 : tyk Try.prog 27 = some (false, 1) := by kernel_rfl
theorem tk28 : tyk Try.prog 28 = some (false, 1) := by kernel_rfl
theorem tk31 : tyk Try.prog 31 = some (false, 1) := by kernel_rfl
theorem tk33 : tyk Try.prog 33 = some (false, 1) := by kernel_rfl
theorem tk35 : tyk Try.prog 35 = some (true, 2) := by kernel_rfl
theorem tk36 : tyk Try.prog 36 = some (true, 2) := by kernel_rfl
theorem tk37 : tyk Try.prog 37 = some (false, 1) := by kernel_rfl
theorem tk42 : tyk Try.prog 42 = some (false, 1) := by kernel_rfl
theorem tk43 : tyk Try.prog 43 = some (false, 1) := by kernel_rfl
theorem tk44 : tyk Try.prog 44 = some (false, 1) := by kernel_rfl
theorem tk45 : tyk Try.prog 45 = some (false, 1) := by kernel_rfl
theorem tk46 : tyk Try.prog 46 = some (false, 1) := by kernel_rfl
theorem tk47 : tyk Try.prog 47 = some (false, 1) := by kernel_rfl
theorem tk48 : tyk Try.prog 48 = some (false, 1) := by kernel_rfl
theorem tk49 : tyk Try.prog 49 = some (false, 1) := by kernel_rfl
theorem tk50 : tyk Try.prog 50 = some (false, 1) := by kernel_rfl
theorem tk51 : tyk Try.prog 51 = some (false, 1) := by kernel_rfl
theorem tk52 : tyk Try.prog 52 = some (true, 11) := by kernel_rfl
theorem tk53 : tyk Try.prog 53 = some (true, 11) := by kernel_rfl
theorem tk54 : tyk Try.prog 54 = some (false, 1) := by kernel_rfl
theorem tk59 : tyk Try.prog 59 = some (true, 6) := by kernel_rfl
theorem tk60 : tyk Try.prog 60 = some (true, 6) := by kernel_rfl
theorem tk61 : tyk Try.prog 61 = some (true, 5) := by kernel_rfl
theorem tk62 : tyk Try.prog 62 = some (true, 5) := by kernel_rfl
theorem tk63 : tyk Try.prog 63 = some (false, 1) := by kernel_rfl
theorem tk64 : tyk Try.prog 64 = some (true, 4) := by kernel_rfl
theorem tk65 : tyk Try.prog 65 = some (true, 4) := by kernel_rfl
theorem tk67 : tyk Try.prog 67 = some (true, 6) := by kernel_rfl
theorem tk68 : tyk Try.prog 68 = some (true, 6) := by kernel_rfl
theorem tk69 : tyk Try.prog 69 = some (false, 1) := by kernel_rfl
theorem tk70 : tyk Try.prog 70 = some (false, 1) := by kernel_rfl
theorem tk73 : tyk Try.prog 73 = some (false, 1) := by kernel_rfl
theorem tk78 : tyk Try.prog 78 = some (true, 12) := by kernel_rfl
theorem tk79 : tyk Try.prog 79 = some (true, 12) := by kernel_rfl
theorem tk80 : tyk Try.prog 80 = some (false, 1) := by kernel_rfl
theorem tk84 : tyk Try.prog 84 = some (false, 1) := by kernel_rfl
theorem tk87 : tyk Try.prog 87 = some (true, 10) := by kernel_rfl
theorem tk88 : tyk Try.prog 88 = some (true, 10) := by kernel_rfl
theorem tk91 : tyk Try.prog 91 = some (true, 3) := by kernel_rfl
theorem tk92 : tyk Try.prog 92 = some (true, 3) := by kernel_rfl
theorem tk99 : tyk Try.prog 99 = some (true, 2) := by kernel_rfl
theorem tk100 : tyk Try.prog 100 = some (true, 2) := by kernel_rfl
theorem tk103 : tyk Try.prog 103 = some (false, 1) := by kernel_rfl
theorem tk117 : tyk Try.prog 117 = some (false, 1) := by kernel_rfl
theorem tk122 : tyk Try.prog 122 = some (false, 1) := by kernel_rfl
theorem tk125 : tyk Try.prog 125 = some (false, 1) := by kernel_rfl
theorem tk129 : tyk Try.prog 129 = some (false, 1) := by kernel_rfl
theorem tk137 : tyk Try.prog 137 = some (false, 1) := by kernel_rfl
theorem tk141 : tyk Try.prog 141 = some (false, 1) := by kernel_rfl
theorem tk143 : tyk Try.prog 143 = some (false, 1) := by kernel_rfl
theorem tk147 : tyk Try.prog 147 = some (true, 4) := by kernel_rfl
theorem tk148 : tyk Try.prog 148 = some (true, 4) := by kernel_rfl
theorem tk149 : tyk Try.prog 149 = some (true, 0) := by kernel_rfl
theorem tk150 : tyk Try.prog 150 = some (true, 0) := by kernel_rfl
theorem tk151 : tyk Try.prog 151 = some (true, 0) := by kernel_rfl
theorem tk153 : tyk Try.prog 153 = some (false, 1) := by kernel_rfl
theorem tk154 : tyk Try.prog 154 = some (false, 1) := by kernel_rfl
theorem tk156 : tyk Try.prog 156 = some (false, 1) := by kernel_rfl
theorem tk157 : tyk Try.prog 157 = some (false, 1) := by kernel_rfl
theorem tk158 : tyk Try.prog 158 = some (false, 1) := by kernel_rfl
theorem tk159 : tyk Try.prog 159 = some (true, 11) := by kernel_rfl
theorem tk160 : tyk Try.prog 160 = some (true, 11) := by kernel_rfl
theorem tk161 : tyk Try.prog 161 = some (true, 2) := by kernel_rfl
theorem tk162 : tyk Try.prog 162 = some (true, 2) := by kernel_rfl
theorem tk163 : tyk Try.prog 163 = some (true, 2) := by kernel_rfl
theorem tk164 : tyk Try.prog 164 = some (true, 2) := by kernel_rfl
theorem tk165 : tyk Try.prog 165 = some (true, 4) := by kernel_rfl
theorem tk166 : tyk Try.prog 166 = some (true, 4) := by kernel_rfl
theorem tk167 : tyk Try.prog 167 = some (true, 6) := by kernel_rfl
theorem tk168 : tyk Try.prog 168 = some (true, 6) := by kernel_rfl
theorem tk169 : tyk Try.prog 169 = some (true, 6) := by kernel_rfl
theorem tk170 : tyk Try.prog 170 = some (true, 6) := by kernel_rfl
theorem tk171 : tyk Try.prog 171 = some (true, 4) := by kernel_rfl
theorem tk172 : tyk Try.prog 172 = some (true, 4) := by kernel_rfl
theorem tk173 : tyk Try.prog 173 = some (true, 3) := by kernel_rfl
theorem tk174 : tyk Try.prog 174 = some (true, 3) := by kernel_rfl
theorem tk175 : tyk Try.prog 175 = some (false, 1) := by kernel_rfl
theorem el22 : elB Try.prog 22 9 1 = true := by kernel_rfl
theorem el23 : elB Try.prog 23 162 2 = true := by kernel_rfl
theorem el26 : elB Try.prog 26 53 11 = true := by kernel_rfl
theorem el27 : elB Try.prog 27 54 1 = true := by kernel_rfl
theorem el28 : elB Try.prog 28 69 1 = true := by kernel_rfl
theorem el31 : elB Try.prog 31 36 2 = true := by kernel_rfl
theorem el33 : elB Try.prog 33 37 1 = true := by kernel_rfl
theorem el37 : elB Try.prog 37 3 1 = true := by kernel_rfl
theorem el42 : elB Try.prog 42 60 6 = true := by kernel_rfl
theorem el43 : elB Try.prog 43 88 10 = true := by kernel_rfl
theorem el44 : elB Try.prog 44 62 5 = true := by kernel_rfl
theorem el45 : elB Try.prog 45 164 2 = true := by kernel_rfl
theorem el46 : elB Try.prog 46 92 3 = true := by kernel_rfl
theorem el47 : elB Try.prog 47 166 4 = true := by kernel_rfl
theorem el48 : elB Try.prog 48 168 6 = true := by kernel_rfl
theorem el49 : elB Try.prog 49 170 6 = true := by kernel_rfl
theorem el50 : elB Try.prog 50 172 4 = true := by kernel_rfl
theorem el51 : elB Try.prog 51 65 4 = true := by kernel_rfl
theorem el54 : elB Try.prog 54 4 1 = true := by kernel_rfl
theorem el63 : elB Try.prog 63 174 3 = true := by kernel_rfl
theorem el69 : elB Try.prog 69 68 6 = true := by kernel_rfl
theorem el80 : elB Try.prog 80 100 2 = true := by kernel_rfl
theorem el84 : elB Try.prog 84 33 1 = true := by kernel_rfl
end Go.Proofs.Ytnbochlghdkfkaa
namespace Go.Sy
open Go.RowKit Go.Lp
theorem Ent.mk2 {ps : List Per} {p q : Per} (h1 : Ent ps p) (h2 : Ent ps q) : Ent ps (AndP p q) := fun w S hp => ⟨h1 w S hp, h2 w S hp⟩
/-- all of a list, as one -/
def Bun (l : List Res) : Res :=
  ⟨fun w S F => ∃ fp : Nat → Blks, (∀ (i : Nat) (R : Res), l[i]? = some R → R.holds w S (fp i)) ∧ (∀ i j, i < l.length → j < l.length → i ≠ j → ∀ b, fp i b → ¬ fp j b) ∧ ∀ b, F b ↔ tot fp l.length b,
   fun ⟨fp, h1, h2, h3⟩ k1 k2 k3 => ⟨fp, fun i R hR => R.mono (h1 i R hR) (fun b hb => k1 b ((h3 b).2 ⟨i, (List.getElem?_eq_some_iff.1 hR).1, hb⟩)) k2 k3, h2, h3⟩⟩
section
variable {w : World} {S : Blks} {fp : Nat → Blks} {ps : List Per} {l : List Res}
theorem St.bun (h : St w S fp ps l) : St w S (fun _ => tot fp l.length) ps [Bun l] where
  per := h.per
  res i R hR := by
    cases i with
    | zero => simp only [List.getElem?_cons_zero, Option.some.injEq] at hR; subst hR; exact ⟨fp, h.res, h.dj, fun _ => Iff.rfl⟩
    | succ i => simp at hR
  lt i hi b hb := let ⟨j, hj, hjb⟩ := hb; h.lt j hj b hjb
  dj i j hi hj hne := by simp only [List.length_singleton] at hi hj; omega
  slt := h.slt
theorem St.unbun (h : St w S fp ps [Bun l]) : ∃ fp', St w S fp' ps l ∧ ∀ b, tot fp' l.length b → tot fp [Bun l].length b := by
  obtain ⟨fp', h1, h2, h3⟩ := h.res 0 _ rfl
  have hin : ∀ b, tot fp' l.length b → fp 0 b := fun b hb => (h3 b).2 hb
  exact ⟨fp', ⟨h.per, h1, fun i hi b hb => h.lt 0 (by simp) b (hin b ⟨i, hi, hb⟩), h2, h.slt⟩, fun b hb => ⟨0, by simp, hin b hb⟩⟩
theorem tot_one (F : Blks) (b : Nat) (R : Res) : tot (fun _ => F) [R].length b ↔ F b := ⟨fun ⟨_, _, h⟩ => h, fun h => ⟨0, by simp, h⟩⟩
variable {P : Program} {R : Value → List Per → List Res → Prop}
theorem con_bun {f : FuncId} {args : List Value} (h : Con P f args ps [Bun l] fun v ps' hp' => ∃ l', hp' = [Bun l'] ∧ R v ps' l') : Con P f args ps l R := fun w S fp hst =>
  (h w S _ hst.bun).mono fun e w' ⟨v, ps', hp', S', fp', he, ⟨l', hl, hR⟩, hst', hE, hg⟩ => by
    subst hl
    obtain ⟨fp2, k1, k2⟩ := hst'.unbun
    exact ⟨v, ps', l', S', fp2, he, hR, k1, hE.wider (fun b hb => (tot_one _ b (Bun l)).1 hb), fun b hb => (hg b (k2 b hb)).imp (fun h => (tot_one _ b (Bun l)).1 h) id⟩
theorem cony_bun {k : Nat} {args : List Value} (h : ConY P k args ps l R) : ConY P k args ps [Bun l] fun v ps' hp' => ∃ l', hp' = [Bun l'] ∧ R v ps' l' := fun w S fp hst => by
  obtain ⟨fp2, k1, k2⟩ := hst.unbun
  refine uponU_mono (fun v w' ⟨ps', hp', S', fp', hR, hst', hE, hg⟩ => ?_) (h w S fp2 k1)
  exact ⟨ps', [Bun hp'], S', _, ⟨hp', rfl, hR⟩, hst'.bun, hE.wider k2, fun b hb => (hg b ((tot_one _ b (Bun hp')).1 hb)).imp (k2 b) id⟩
theorem ConY.post {k : Nat} {args : List Value} {R' : Value → List Per → List Res → Prop} (h : ConY P k args ps l R) (hr : ∀ v ps' hp', R v ps' hp' → R' v ps' hp') : ConY P k args ps l R' := fun w S fp hst =>
  uponU_mono (fun v w' ⟨ps', hp', S', fp', hR, h⟩ => ⟨ps', hp', S', fp', hr _ _ _ hR, h⟩) (h w S fp hst)
theorem Con.post {f : FuncId} {args : List Value} {R' : Value → List Per → List Res → Prop} (h : Con P f args ps l R) (hr : ∀ v ps' hp', R v ps' hp' → R' v ps' hp') : Con P f args ps l R' := fun w S fp hst =>
  (h w S fp hst).mono fun e w' ⟨v, ps', hp', S', fp', he, hR, h⟩ => ⟨v, ps', hp', S', fp', he, hr _ _ _ hR, h⟩
theorem ConY.pre {k : Nat} {args : List Value} {ps0 : List Per} (h : ConY P k args ps l R) (hr : ∀ p ∈ ps, Ent ps0 p) : ConY P k args ps0 l R := fun w S fp hst =>
  h w S fp ⟨fun p hp => hr p hp w S hst.per, hst.res, hst.lt, hst.dj, hst.slt⟩
theorem Con.pre {f : FuncId} {args : List Value} {ps0 : List Per} (h : Con P f args ps l R) (hr : ∀ p ∈ ps, Ent ps0 p) : Con P f args ps0 l R := fun w S fp hst =>
  h w S fp ⟨fun p hp => hr p hp w S hst.per, hst.res, hst.lt, hst.dj, hst.slt⟩
end
section
variable {P : Program} {n : Fr} {ops : Array Oper} {Q : Exit → Sta → Prop} {s : Sta} {o : Oper}
/-- the one operation that may come up, behind a guard that is not decided -/
theorem aC_oneG {V W Z : List Nat} {k : Nat} {L : Array Bool} {Y : Type} (F : Y → Sta) (i : Nat) (hi : ops[i]? = some o) (hr : Region.ready .any ops L = [i]) (hV : V.contains i = true) (hW : W.contains i = true) (c : Bool) (v : Value) (hc : guardOf ops s.env o = some c) (hd : fits n.size o.dst = true)
    (h1 : c = true → Eff P n o s false (fun s' => ∃ y, s' = F y)) (h0 : c = false → ∃ y, (⟨setEnv s.env o.dst false v, s.ps, s.hp⟩ : Sta) = F y) (hK : ∀ y, aC P n ops V W Z Q k (L.setIfInBounds i true) (F y)) : aC P n ops V W Z Q (k + 1) L s := fun w S fp a hst he hn hdf w1 hb => by
  refine ⟨fun h0 => (by rw [hr] at h0; cases h0), fun j hj => ?_⟩
  rw [hr] at hj
  obtain rfl := List.mem_singleton.1 hj
  refine ⟨o, hi, ?_⟩
  have hst1 := hst.below hb
  have hw := wanted_guard (ops := ops) hc he
  cases c with
  | true =>
    rw [if_pos hw]
    refine uponU_mono (fun u w' ⟨s', S', fp', hK', hst', he', hE, hg, _⟩ => ⟨⟨fun (hVj : V.contains j = false) => (Bool.eq_false_iff.1 hVj hV).elim, fun (hWj : W.contains j = false) => (Bool.eq_false_iff.1 hWj hW).elim, ⟨hE.size, fun b hS hlt => hE.block b hlt fun ⟨r, hr, hrb⟩ => (hst1.lt r hr b hrb).2 hS⟩⟩, ?_⟩) (h1 rfl w1 S fp a hst1 he hn)
    obtain ⟨y, rfl⟩ := hK'
    refine wpC_mono (fun j a b h => ⟨h.1, h.2.1, h.2.2.mono hE.more⟩) (fun a2 w2 hp => (hp.trans hE hg).trans (Evo.of_below _ _ hb) (fun _ h => .inl h)) _ _ _ _ (hK y w' S' fp' _ hst' he' (by rw [put_size]; exact hn) (by rw [put_defers]; exact hdf))
  | false =>
    rw [if_neg (by rw [hw]; exact Bool.false_ne_true)]
    obtain ⟨y, hy⟩ := h0 rfl
    refine ⟨⟨fun _ => Below.refl _ _, fun _ => Leave.of_below (Below.refl _ _), Leave.of_below (Below.refl _ _)⟩, ?_⟩
    have hs : St w1 S fp (F y).ps (F y).hp := by rw [← hy]; exact hst1
    have hen : EnvOk (a.put o.dst undef) (F y).env := by rw [← hy]; exact he.set (c := false) (by rw [hn]; exact hd) v
    have hl : (F y).hp.length = s.hp.length := by rw [← hy]
    refine wpC_mono (fun j a b h => h) (fun a2 w2 hp => ?_) _ _ _ _ (hK y w1 S fp (a.put o.dst undef) hs hen (by rw [put_size]; exact hn) (by rw [put_defers]; exact hdf))
    rw [hl] at hp
    exact hp.trans (Evo.of_below _ _ hb) (fun _ h => .inl h)
theorem putB_one {hp : List Res} {r : Nat} {R : Res} (hr : r < hp.length) : putB [r] [R] 0 hp = hp.set r R := by
  apply List.ext_getElem?
  intro i
  rw [putB_get, List.getElem?_set]
  by_cases hi : i < hp.length
  · rw [if_pos hi, Nat.zero_add]
    by_cases hri : r = i
    · subst hri; simp [place, hr]
    · have : (r == i) = false := by simpa using hri
      simp [place, this, hri]
  · rw [if_neg hi, List.getElem?_eq_none (by simp), if_neg (by omega), List.getElem?_eq_none (by omega)]
/-- a call of yield behind a guard -/
theorem aC_yieldG {env : Env} {ps : List Per} {hp : List Res} {ty : TypeId} {pos : String} {af : Array Edge} {gd : Option (Nat × Bool)} {V W Z : List Nat} {k : Nat} {L : Array Bool} {X : Type} {J : X → Res} {Post : Bool → X → Prop} {t yl : Nat} {g : Operand} {l : List Operand} {ts : Array TypeId} {vs : List Value} {x0 : X}
    (i r : Nat) (lp : List Nat) (hi : ops[i]? = some ⟨some t, .call ⟨.value g, l.toArray, ts⟩, ty, pos, af, gd⟩) (hr : Region.ready .any ops L = [i]) (hV : V.contains i = true) (hW : W.contains i = true) (c : Bool) (hc : guardOf ops env ⟨some t, .call ⟨.value g, l.toArray, ts⟩, ty, pos, af, gd⟩ = some c) (hd : fits n (some t) = true)
    (hres : hp[r]? = some (J x0)) (hgv : c = true → ev env g = some (true, .func (.yield yl) #[] #[])) (hx : c = true → evs env l = some vs)
    (hy : c = true → ConY P yl vs (keepP ps lp) [J x0] fun v ps' hp' => v = .bool true ∧ ps' = [] ∧ ∃ x', Post true x' ∧ hp' = [J x']) (h0 : c = false → Post false x0)
    (hK : ∀ x', Post c x' → aC P n ops V W Z Q k (L.setIfInBounds i true) ⟨(t, c, .bool true) :: env, ps, hp.set r (J x')⟩) : aC P n ops V W Z Q (k + 1) L ⟨env, ps, hp⟩ := by
  have hrl := (List.getElem?_eq_some_iff.1 hres).1
  refine aC_oneG (Y := {x // Post c x}) (fun y => ⟨(t, c, .bool true) :: env, ps, hp.set r (J y.1)⟩) i hi hr hV hW c (.bool true) hc hd (fun hct => ?_) (fun hcf => ?_) (fun y => hK y.1 y.2)
  · subst hct
    refine e_yield lp [r] (hgv rfl) (hx rfl) hd (by simp [okH, hrl]) (R := fun v ps' hp' => v = .bool true ∧ ps' = [] ∧ ∃ x', Post true x' ∧ hp' = [J x']) ?_ (fun v ps' hp' ⟨h1, h2, x', h3, h4⟩ => ?_)
    · have : keepH hp [r] = [J x0] := by simp [keepH, List.getD, hres]
      rw [this]; exact hy rfl
    · subst h1 h2 h4
      exact ⟨⟨x', h3⟩, by rw [putB_one hrl]; rfl⟩
  · subst hcf
    refine ⟨⟨x0, h0 rfl⟩, ?_⟩
    have : hp.set r (J x0) = hp := by rw [← (List.getElem?_eq_some_iff.1 hres).2]; exact List.set_getElem_self _
    dsimp only
    rw [this]; rfl
end
end Go.Sy
namespace Go.Sy
theorem q_callC {P : Program} {n : Fr} {s : Sta} {d : Option Tmp} {ty : TypeId} {pos : String} {af : Array Edge} {gd : Option (Nat × Bool)} {v : Value} {f : FuncId} {g : Operand} {caps : List Value} (hf : callOk P f = true) {l : List Operand} {ts : Array TypeId} {vs : List Value} (hg : ev s.env g = some (true, .func (.func f) #[] caps.toArray)) (hx : evs s.env l = some vs)
    (hc : ∀ w S fp, St w S fp s.ps s.hp → Calls P f (vs ++ caps).toArray w fun e w' => e = .returned v ∧ RowKit.Below w.heap.size w w') :
    Quiet P n ⟨d, .call ⟨.value g, l.toArray, ts⟩, ty, pos, af, gd⟩ s v := fun w S fp a hst he hn => by
  rw [exec_call hf (he.val hg rfl) (evs_map he l vs hx)]
  have := hc w S fp hst
  rw [show (vs ++ caps).toArray = vs.toArray ++ caps.toArray by simp] at this
  exact this.mono fun e w' ⟨h1, h2⟩ => ⟨v, h1, rfl, h2⟩
open RowKit in
theorem Con.quiet3 {P : Program} {v : Value} {f : FuncId} {args : List Value} {p q t : Per} (h : Con P f args [p, q, t] [] fun u _ _ => u = v) {w : World} {S : Blks} {fp : Nat → Blks} {ps' : List Per} {hp : List Res} (hp1 : p ∈ ps') (hq1 : q ∈ ps') (ht1 : t ∈ ps') (hst : St w S fp ps' hp) :
    Calls P f args.toArray w fun e w' => e = .returned v ∧ Below w.heap.size w w' := h.quiet (fun _ h => by
      simp only [List.mem_cons, List.not_mem_nil, or_false] at h
      rcases h with rfl | rfl | rfl
      · exact hp1
      · exact hq1
      · exact ht1) hst
end Go.Sy
namespace Go.Proofs.Ytnbochlghdkfkaa
open Go.RowKit Go.Lp Go.Sy
open Go.Proofs.Try
attribute [local irreducible] aL aB awp aC fwp
theorem tk110 : tyk Try.prog 110 = some (false, 1) := by kernel_rfl
def nodeF (n v : Int) : Bool := decide (v ≥ 0) && decide (v < n)
theorem con_node (n v : Int) (bn : Nat) : Con Try.prog 45 [.int .i64 v, .pointer (some ⟨bn, 0, none⟩)] [At bn 0 [.v (.int .i64 n)]] [] fun r _ _ => r = .bool (nodeF n v) := by
  refine Con.enter Try.func45 rfl (by simp [Try.ntmps45]) ?_
  show awp _ _ _ _ ⟨[(0, true, _), (1, true, _)], _, _⟩
  refine awp_seq (awp_region (aL_s true rfl rfl (fun _ => q_assign rfl) (aL_nil (thn_n (awp_seq (awp_region (aL_s true rfl rfl (fun _ => q_move rfl) ?_)))))))
  refine aL_s true rfl rfl (fun _ => q_geq rfl rfl) (aL_s true rfl rfl (fun _ => q_move rfl) (aL_s _ rfl rfl (fun hc => q_move rfl) (aL_s _ rfl rfl (fun hc => q_loadDE (o := 0) tk3 rfl (.of (psAt 0 rfl)) rfl) (aL_s _ rfl rfl (fun hc => q_lss (ev_yes rfl hc) (ev_yes rfl hc)) (aL_s true rfl rfl (fun _ => q_and rfl rfl (fun h => gt rfl h)) (aL_s true rfl rfl (fun _ => q_assign rfl) (aL_nil ?_)))))))
  refine thn_n (awp_ret ?_)
  refine fin1 [] [] rfl Try.results45 rfl ?_ (.inr rfl)
  rfl
def badArc (n : Int) (a : GArc) : Bool := !nodeF n a.from_ || !nodeF n a.to_
abbrev nodeV (bn : Nat) : Value := .func (.func 45) #[] #[.pointer (some ⟨bn, 0, none⟩)]
theorem con_badArc (n : Int) (a : GArc) (bn b5 : Nat) : Con Try.prog 47 [a.val, .pointer (some ⟨b5, 0, none⟩)] [At b5 0 [.v (nodeV bn)], At bn 0 [.v (.int .i64 n)]] [] fun r _ _ => r = .bool (badArc n a) := by
  refine Con.enter Try.func47 rfl (by simp [Try.ntmps47]) ?_
  show awp _ _ _ _ ⟨[(0, true, _), (1, true, _)], _, _⟩
  refine awp_seq (awp_region ?_)
  refine aL_eff (q := true) rfl (x_box rfl rfl rfl (fun b0_0 => ?_))
  refine aL_hp (by (try simp only [nM, nN]); rfl) ?_
  refine aL_s true rfl rfl (fun _ => q_assign rfl) (aL_nil (thn_n (awp_seq (awp_region (aL_s true rfl rfl (fun _ => q_loadDE (o := 0) tk110 rfl (.of (psAt 0 rfl)) rfl) ?_)))))
  refine aL_s true rfl rfl (fun _ => q_fieldAddr (off := 0) (by kernel_rfl) rfl) ?_
  refine aL_s true rfl rfl (fun _ => q_load 0 tk3 rfl rfl rfl) ?_
  refine aL_s true rfl rfl (fun _ => q_callC (by kernel_rfl) rfl rfl (fun w S fp hst => (con_node n _ bn).quiet1 (psAt 1 rfl) hst)) ?_
  refine aL_s true rfl rfl (fun _ => q_not rfl) (aL_s true rfl rfl (fun _ => q_move rfl) (aL_s _ rfl rfl (fun hc => q_loadDE (o := 0) tk110 rfl (.of (psAt 0 rfl)) rfl) ?_))
  refine aL_s _ rfl rfl (fun hc => q_fieldAddr (off := 1) (by kernel_rfl) rfl) ?_
  refine aL_s _ rfl rfl (fun hc => q_load 0 tk3 (ev_yes rfl hc) rfl rfl) ?_
  refine aL_s _ rfl rfl (fun hc => q_callC (by kernel_rfl) (ev_yes rfl hc) (evs_cons (ev_yes rfl hc) rfl) (fun w S fp hst => (con_node n _ bn).quiet1 (psAt 1 rfl) hst)) ?_
  refine aL_s _ rfl rfl (fun hc => q_not (ev_yes rfl hc)) (aL_s true rfl rfl (fun _ => q_or rfl rfl (fun h => gf rfl h)) (aL_s true rfl rfl (fun _ => q_assign rfl) (aL_nil (thn_n (awp_ret ?_)))))
  refine fin1 [] [] rfl Try.results47 rfl ?_ (.inr rfl)
  rfl
theorem con_index_arc (n : Int) (l : Sl GArc) (bn b5 : Nat) : Con Try.prog 54 [l.val, .func (.func 47) #[] #[.pointer (some ⟨b5, 0, none⟩)]] [ShF GArc.row l, At b5 0 [.v (nodeV bn)], At bn 0 [.v (.int .i64 n)]] []
    fun r ps hp => (ps = [] ∧ hp = []) ∧ ∃ z : Int, r = .int .i64 z ∧ decide (z ≥ 0) = l.l.any (badArc n) := by
  refine Con.enter Try.func54 rfl (by simp [Try.ntmps54]) ?_
  show awp _ _ _ _ ⟨[(0, true, _), (1, true, _)], _, _⟩
  refine awp_lenE (.of (psAt 0 rfl)) (fun hlen => ?_)
  refine awp_seq (awp_region (aL_s true rfl rfl (fun _ => q_assign rfl) (aL_nil (thn_n (awp_seq (awp_seq (awp_region ?_)))))))
  refine aL_s true rfl rfl (fun _ => q_move rfl) (aL_s true rfl rfl (fun _ => q_lenS Try.underlying80 rfl) (aL_s true rfl rfl (fun _ => q_move rfl) (aL_nil (thn_n (awp_block (awp_loopK [0, 1, 7, 8] [2, 1, 0] [] (fun (k : Nat) s => (k ≤ l.l.length ∧ (l.l.take k).any (badArc n) = false) ∧ s = ⟨[(0, true, l.val), (1, true, .func (.func 47) #[] #[.pointer (some ⟨b5, 0, none⟩)]), (7, true, .int .i64 l.l.length), (8, true, .int .i64 k)], [ShF GArc.row l, At b5 0 [.v (nodeV bn)], At bn 0 [.v (.int .i64 n)]], []⟩) (fun k => l.l.length - k) rfl (⟨0, ⟨Nat.zero_le _, rfl⟩, rfl⟩) ?_))))))
  rintro k s ⟨⟨hk, hno⟩, rfl⟩
  refine awp_seq (awp_region (aL_s true rfl rfl (fun _ => q_lss rfl rfl) (aL_nil (thn_n (awp_seq ?_)))))
  refine awp_cond _ rfl (fun h1 => ?_) (fun h1 => ?_)
  ·skip
   have hk' : k < l.l.length := by simpa using h1
   obtain ⟨a, ha⟩ : ∃ a, l.l[k]? = some a := ⟨l.l[k]'hk', by simp⟩
   refine awp_skip (thn_n (awp_seq (awp_block (awp_seq (awp_region (aL_s true rfl rfl (fun _ => q_move rfl) (aL_s true rfl rfl (fun _ => q_assign rfl) ?_)))))))
   refine aL_nil (thn_n (awp_seq (awp_region (aL_s true rfl rfl (fun _ => q_move rfl) (aL_s true rfl rfl (fun _ => q_move rfl) (aL_s true rfl rfl (fun _ => q_move rfl) ?_))))))
   refine aL_E true rfl rfl (fun _ => q_indexAddrG Try.underlying80 tk100 rfl ((.of (psAt 0 rfl))) rfl (rows_get ha) rfl rfl) (fun h => absurd h (by decide)) (fun ⟨b4_3, o4_3⟩ => ?_)
   refine aL_s true rfl rfl (fun _ => q_loadD (o := 0) tk100 rfl (psAt 0 rfl) rfl rfl) ?_
   refine aL_s true rfl rfl (fun _ => q_callC (by kernel_rfl) rfl rfl (fun w S fp hst => (con_badArc n a bn b5).quiet2 (psAt 2 rfl) (psAt 3 rfl) hst)) ?_
   refine aL_nil (thn_n ?_)
   refine awp_cond _ rfl (fun h2 => ?_) (fun h2 => ?_)
   ·skip
    refine awp_seq (awp_region (aL_s true rfl rfl (fun _ => q_move rfl) (aL_s true rfl rfl (fun _ => q_assign rfl) (aL_nil (thn_n (awp_ret (blk_r ?_)))))))
    refine thn_r (thn_r (blk_r (thn_r ?_)))
    refine fin1 [] [] rfl Try.results54 rfl ?_ (.inr rfl)
    refine ⟨⟨rfl, rfl⟩, _, rfl, ?_⟩
    rw [List.any_eq_true.2 ⟨a, List.mem_of_getElem? ha, h2⟩]; simp
   ·skip
    refine awp_skip (blk_n (thn_n (awp_region ?_)))
    refine aL_s true rfl rfl (fun _ => q_addi rfl rfl (by omega)) ?_
    refine aL_s true rfl rfl (fun _ => q_move rfl) (aL_nil (thn_n ?_))
    refine ⟨[0, 1, 7, 8], [2, 1, 0], [], rfl, ?_⟩
    refine ⟨k + 1, ⟨⟨by omega, ?_⟩, rfl⟩, by omega⟩
    rw [List.take_add_one, ha, List.any_append, hno]; simpa using h2
  ·skip
   refine awp_exit (thn_e (thn_e (blk_hit (thn_n (awp_seq (awp_region (aL_s true rfl rfl (fun _ => q_assign rfl) ?_)))))))
   refine aL_nil (thn_n (awp_ret ?_))
   refine fin1 [] [] rfl Try.results54 rfl ?_ (.inr rfl)
   refine ⟨⟨rfl, rfl⟩, _, rfl, ?_⟩
   rw [List.take_of_length_le (by simpa using h1)] at hno
   rw [hno]; rfl
theorem con_contains (n : Int) (l : Sl GArc) (bn b5 : Nat) : Con Try.prog 46 [l.val, .func (.func 47) #[] #[.pointer (some ⟨b5, 0, none⟩)]] [ShF GArc.row l, At b5 0 [.v (nodeV bn)], At bn 0 [.v (.int .i64 n)]] []
    fun r _ _ => r = .bool (l.l.any (badArc n)) := by
  refine Con.enter Try.func46 rfl (by simp [Try.ntmps46]) ?_
  show awp _ _ _ _ ⟨[(0, true, _), (1, true, _)], _, _⟩
  refine awp_seq (awp_region (aL_s true rfl rfl (fun _ => q_assign rfl) (aL_nil (thn_n (awp_seq (awp_region (aL_s true rfl rfl (fun _ => q_move rfl) ?_)))))))
  refine aL_s true rfl rfl (fun _ => q_move rfl) ?_
  refine aL_eff (q := true) rfl (e_call [2, 1, 0] [] (by kernel_rfl) rfl rfl rfl rfl (con_index_arc n l bn b5) ?_)
  rintro _ _ _ ⟨⟨rfl, rfl⟩, z, rfl, hz⟩
  refine aL_st (by (try simp only [nM, nN]); rfl) (by (try simp only [putB, place, Nat.reduceBEq, nA, if_true, if_false, reduceIte, nB, nC, nD, nE, nF, nG, nH, nI, Nat.reduceAdd, nJ, beq_self_eq_true, nK, nL, nM, nN]); rfl) ?_
  refine aL_s true rfl rfl (fun _ => q_geq rfl rfl) (aL_s true rfl rfl (fun _ => q_assign rfl) (aL_nil (thn_n (awp_ret ?_))))
  refine fin1 [] [] rfl Try.results46 rfl ?_ (.inr rfl)
  rw [hz]
def rightF (n : Int) (l : List GArc) : Bool := (decide (n ≥ 0) && decide (n ≤ 262144)) && !l.any (badArc n)
theorem con_right (n : Int) (l : Sl GArc) : Con Try.prog 34 [.int .i64 n, l.val] [ShF GArc.row l] [] fun r _ _ => r = .bool (rightF n l.l) := by
  refine Con.enter Try.func34 rfl (by simp [Try.ntmps34]) ?_
  show awp _ _ _ _ ⟨[(0, true, _), (1, true, _)], _, _⟩
  refine awp_seq (awp_region ?_)
  refine aL_eff (q := true) rfl (x_box rfl rfl rfl (fun b0_0 => ?_))
  refine aL_hp (by (try simp only [nM, nN]); rfl) ?_
  refine aL_s true rfl rfl (fun _ => q_assign rfl) (aL_nil (thn_n (awp_seq (awp_shareB 0 rfl rfl ?_))))
  show awp _ _ _ _ ⟨_, At _ 0 _ :: _, _⟩
  refine awp_region (aL_s true rfl rfl (fun _ => q_func (l := [.tmp 2]) rfl) ?_)
  refine aL_eff (q := true) rfl (x_alloc (zs := [.nilFunc]) (by kernel_rfl) rfl (fun b1_1 => ?_))
  refine aL_hp (by (try simp only [nM, nN]); rfl) ?_
  refine aL_eff rfl (x_store 1 tk110 rfl rfl rfl rfl ?_)
  refine aL_hp (by simp only [nK, nL]; rfl) ?_
  refine aL_nil (thn_n (awp_seq (awp_shareB 1 rfl rfl ?_)))
  show awp _ _ _ _ ⟨_, At _ 0 _ :: _, _⟩
  refine awp_region (aL_s true rfl rfl (fun _ => q_loadDE (o := 0) tk3 rfl (.of (psAt 1 rfl)) rfl) (aL_s true rfl rfl (fun _ => q_geq rfl rfl) (aL_s true rfl rfl (fun _ => q_move rfl) (aL_s _ rfl rfl (fun hc => q_loadDE (o := 0) tk3 rfl (.of (psAt 1 rfl)) rfl) (aL_s _ rfl rfl (fun hc => q_leq (ev_yes rfl hc) rfl) (aL_s true rfl rfl (fun _ => q_and rfl rfl (fun h => gt rfl h)) (aL_s true rfl rfl (fun _ => q_move rfl) ?_)))))))
  refine aL_s _ rfl rfl (fun hc => q_move rfl) (aL_s _ rfl rfl (fun hc => q_func (l := [.tmp 5]) rfl) ?_)
  refine aL_s _ rfl rfl (fun hc => q_call (by kernel_rfl) (evs_cons (ev_yes rfl hc) (evs_cons (ev_yes rfl hc) rfl)) (fun w S fp hst => (con_contains n l b0_0 b1_1).quiet3 (psAt 2 rfl) (psAt 0 rfl) (psAt 1 rfl) hst)) ?_
  refine aL_s _ rfl rfl (fun hc => q_not (ev_yes rfl hc)) (aL_s true rfl rfl (fun _ => q_and rfl rfl (fun h => gt rfl h)) (aL_s true rfl rfl (fun _ => q_assign rfl) (aL_nil (thn_n (awp_ret ?_)))))
  refine fin1 [] [] rfl Try.results34 rfl ?_ (.inr rfl)
  rfl
end Go.Proofs.Ytnbochlghdkfkaa
