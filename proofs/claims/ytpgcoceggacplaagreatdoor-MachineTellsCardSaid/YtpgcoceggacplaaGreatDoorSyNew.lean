/- A logic of states: new blocks, stores, own slices. No condition. -/
import Derived.Test.YtpgcoceggacplaaGreatDoorSyRules
set_option linter.unusedVariables false
set_option linter.unusedSimpArgs false
set_option maxRecDepth 20000
namespace Go.Sy
open Go.RowKit Go.Lp
section
variable {P : Program} {n : Nat} {s : Sta} {d : Option Tmp} {ty : TypeId} {pos : String} {af : Array Edge} {gd : Option (Nat × Bool)} {v : Value} {K : Sta → Prop} {q : Bool}
variable {w : World} {S : Blks} {fp : Nat → Blks} {ps : List Per} {hp : List Res}

theorem heap_new (w : World) (o : Obj) : (w.alloc o).heap[w.heap.size]? = some o := by
  show (w.heap.push o)[w.heap.size]? = _
  simp
theorem below_new (w : World) (o : Obj) : Below w.heap.size w (w.alloc o) := (Below.refl _ _).alloc (Nat.le_refl _) _
/-- a further resource, on new blocks -/
theorem St.push (h : St w S fp ps hp) {w' : World} (hb : Below w.heap.size w w') (R : Res) (F : Blks) (hR : R.holds w' S F) (hF : ∀ b, F b → w.heap.size ≤ b ∧ b < w'.heap.size) : St w' S (fun i => if i = hp.length then F else fp i) ps (hp ++ [R]) := by
  have h' := h.below hb
  refine ⟨h'.per, fun i R' hi => ?_, fun i hi b hb' => ?_, fun i j hi hj hne b hbi hbj => ?_, h'.slt⟩
  · by_cases hil : i = hp.length
    · subst hil
      simp only [List.getElem?_concat_length, Option.some.injEq] at hi
      subst hi
      simpa using hR
    · have : i < hp.length := by have := (List.getElem?_eq_some_iff.1 hi).1; simp at this; omega
      rw [List.getElem?_append_left this] at hi
      simpa [hil] using h'.res i R' hi
  · by_cases hil : i = hp.length
    · subst hil
      simp only [if_true] at hb'
      exact ⟨(hF b hb').2, fun hS => by have := h.slt b hS; have := (hF b hb').1; omega⟩
    · rw [if_neg hil] at hb'
      exact h'.lt i (by simp at hi; omega) b hb'
  · simp only [List.length_append, List.length_cons, List.length_nil] at hi hj
    by_cases hil : i = hp.length
    · rw [if_pos hil] at hbi
      rw [if_neg (by omega)] at hbj
      have := (h.lt j (by omega) b hbj).1
      have := (hF b hbi).1
      omega
    · rw [if_neg hil] at hbi
      by_cases hjl : j = hp.length
      · rw [if_pos hjl] at hbj
        have := (h.lt i (by omega) b hbi).1
        have := (hF b hbj).1
        omega
      · rw [if_neg hjl] at hbj
        exact h.dj i j (by omega) (by omega) hne b hbi hbj
theorem tot_push {F : Blks} {m : Nat} {b : Nat} (h : tot (fun i => if i = m then F else fp i) (m + 1) b) : tot fp m b ∨ F b := by
  obtain ⟨i, hi, hb⟩ := h
  by_cases hil : i = m
  · rw [if_pos hil] at hb; exact .inr hb
  · rw [if_neg hil] at hb; exact .inl ⟨i, by omega, hb⟩
/-- an operation that makes one resource on new blocks -/
theorem Eff.push {o : Oper} (h : ∀ w S fp a, St w S fp s.ps s.hp → EnvOk a s.env → a.tmps.size = n →
      uponU P (fun u w' => ∃ R F s', K s' ∧ s'.ps = s.ps ∧ s'.hp = s.hp ++ [R] ∧ EnvOk (a.put o.dst u) s'.env ∧ Below w.heap.size w w' ∧ R.holds w' S F ∧ ∀ b, F b → w.heap.size ≤ b ∧ b < w'.heap.size) ((execOp a.eval o).run P w)) : Eff P n o s q K := fun w S fp a hst he hn => by
  refine uponU_mono (fun u w' hh => ?_) (h w S fp a hst he hn)
  obtain ⟨R, F, s', hK, hps, hhp, he', hb, hR, hF⟩ := hh
  refine ⟨s', S, _, hK, by rw [hps, hhp]; exact hst.push hb R F hR hF, he', Evo.of_below _ _ hb, fun b hb' => ?_, fun _ => hb⟩
  rw [hhp, List.length_append, List.length_cons, List.length_nil] at hb'
  exact (tot_push hb').imp id (fun h => (hF b h).1)
def zcells (P : Program) (T : TypeId) : Option (List Value) := (P.info? T).bind fun i => i.zero.map fun z => z.cells.toList
theorem run_zero {T : TypeId} {zs : List Value} (h : zcells P T = some zs) (w : World) : ∃ z, (zeroValue T).run P w = .ok z w ∧ z.cells.toList = zs := by
  unfold zcells at h
  cases hi : P.info? T with
  | none => rw [hi] at h; cases h
  | some i =>
    rw [hi] at h
    cases hz : i.zero with
    | none => rw [Option.bind_some, hz] at h; cases h
    | some z =>
      rw [Option.bind_some, hz] at h
      simp only [Option.map_some, Option.some.injEq] at h
      exact ⟨z, by simp [zeroValue, typeInfo, hi, hz], h⟩
theorem box_new (w : World) (S : Blks) (T : TypeId) (cs : List Value) : (Box w.heap.size T cs).holds (w.alloc (.cells cs.toArray T)) S (fun b => b = w.heap.size) := ⟨heap_new _ _, fun _ => Iff.rfl⟩
theorem e_alloc {t : Nat} {T : TypeId} {zs : List Value} (hz : zcells P T = some zs) (ht : fits n (some t) = true) (hK : ∀ b, K ⟨(t, true, .pointer (some ⟨b, 0, none⟩)) :: s.env, s.ps, s.hp ++ [Box b T zs]⟩) :
    Eff P n ⟨some t, .alloc T, ty, pos, af, gd⟩ s q K := .push fun w S fp a hst he hn => by
  obtain ⟨z, h1, h2⟩ := run_zero hz w
  have : (execOp a.eval ⟨some t, .alloc T, ty, pos, af, gd⟩).run P w = .ok (.value (.pointer (some ⟨w.heap.size, 0, none⟩))) (w.alloc (.cells zs.toArray T)) := by
    show ((Instr.alloc T true (.tuple #[])).bind fun r => Sem.pure (Next.value r)).run P w = _
    rw [Sem.run_bind']
    have : (Instr.alloc T true (.tuple #[])).run P w = .ok (.pointer (some ⟨w.heap.size, 0, none⟩)) (w.alloc (.cells zs.toArray T)) := by
      have e : z.cells = zs.toArray := by rw [← h2]
      simp [Instr.alloc, Sem.run_bind, h1, Result.andThen, newVar, newRow, newObj, Sem.run, e]
    rw [this]; rfl
  rw [this]
  refine ⟨Box w.heap.size T zs, fun b => b = w.heap.size, _, hK w.heap.size, rfl, rfl, ?_, below_new _ _, box_new _ _ _ _, fun b hb => ?_⟩
  · exact he.put (g := true) (by rw [hn]; simpa [fits] using ht) _
  · subst hb; simp
def cpL : List Value → Option (List Value)
  | [] => some []
  | c :: cs => match cpL cs with
    | some l => some (c :: l)
    | none => none
theorem cpL_eq : ∀ (cs l : List Value), cpL cs = some l → l = cs
  | [], l, h => by simp only [cpL, Option.some.injEq] at h; exact h.symm
  | c :: cs, l, h => by
    unfold cpL at h
    split at h
    · rename_i l' hl
      simp only [Option.some.injEq] at h
      rw [← h, cpL_eq cs l' hl]
    · cases h
theorem e_box {t : Nat} {T : TypeId} {x : Operand} {vx : Value} {cs : List Value} (hx : ev s.env x = some (true, vx)) (hc0 : cpL vx.cells.toList = some cs) (ht : fits n (some t) = true) (hK : ∀ b, K ⟨(t, true, .pointer (some ⟨b, 0, none⟩)) :: s.env, s.ps, s.hp ++ [Box b T cs]⟩) :
    Eff P n ⟨some t, .box T x, ty, pos, af, gd⟩ s q K := .push fun w S fp a hst he hn => by
  have hc := (cpL_eq _ _ hc0).symm
  have h1 := he.val hx rfl
  have : (execOp a.eval ⟨some t, .box T x, ty, pos, af, gd⟩).run P w = .ok (.value (.pointer (some ⟨w.heap.size, 0, none⟩))) (w.alloc (.cells cs.toArray T)) := by
    have e : vx.cells = cs.toArray := by rw [← hc]
    show ((Instr.box T (a.eval x)).bind fun r => Sem.pure (Next.value r)).run P w = _
    rw [h1, Sem.run_bind']
    have : (Instr.box T vx).run P w = .ok (.pointer (some ⟨w.heap.size, 0, none⟩)) (w.alloc (.cells cs.toArray T)) := by
      simp [Instr.box, Sem.run_bind, Result.andThen, newVar, newRow, newObj, Sem.run, e]
    rw [this]; rfl
  rw [this]
  refine ⟨Box w.heap.size T cs, fun b => b = w.heap.size, _, hK w.heap.size, rfl, rfl, ?_, below_new _ _, box_new _ _ _ _, fun b hb => ?_⟩
  · exact he.put (g := true) (by rw [hn]; simpa [fits] using ht) _
  · subst hb; simp

/-- a resource becomes another one on the same blocks -/
theorem St.change (h : St w S fp ps hp) {w' : World} {i : Nat} (hi : i < hp.length) (hs : w.heap.size ≤ w'.heap.size) (hw : ∀ b, b < w.heap.size → ¬ fp i b → w'.heap[b]? = w.heap[b]?) (R : Res) (hR : R.holds w' S (fp i)) : St w' S fp ps (hp.set i R) := by
  have hS : ∀ b, S b → w'.heap[b]? = w.heap[b]? := fun b hb => hw b (h.slt b hb) (fun hf => (h.lt i hi b hf).2 hb)
  refine ⟨fun p hp' => p.mono (h.per p hp') hS (fun _ h => h), fun j R' hj => ?_, fun j hj b hb => ?_, fun j k hj hk => h.dj j k (by simpa using hj) (by simpa using hk), fun b hb => Nat.lt_of_lt_of_le (h.slt b hb) hs⟩
  · by_cases hij : i = j
    · subst hij
      rw [List.getElem?_set_self hi] at hj
      simp only [Option.some.injEq] at hj
      subst hj; exact hR
    · rw [List.getElem?_set_ne hij] at hj
      have hjl := (List.getElem?_eq_some_iff.1 hj).1
      exact R'.mono (h.res j R' hj) (fun b hb => hw b (h.lt j hjl b hb).1 (fun hf => h.dj i j hi hjl hij b hf hb)) hS (fun _ h => h)
  · have hj' : j < hp.length := by simpa using hj
    exact ⟨Nat.lt_of_lt_of_le (h.lt j hj' b hb).1 hs, (h.lt j hj' b hb).2⟩
/-- an operation that changes one resource in place -/
theorem Eff.change {o : Oper} (i : Nat) {R0 : Res} (hi : s.hp[i]? = some R0) (h : ∀ w S fp a, St w S fp s.ps s.hp → EnvOk a s.env → a.tmps.size = n → R0.holds w S (fp i) →
      uponU P (fun u w' => ∃ R s', K s' ∧ s'.ps = s.ps ∧ s'.hp = s.hp.set i R ∧ EnvOk (a.put o.dst u) s'.env ∧ R.holds w' S (fp i) ∧ w'.os = w.os ∧ w'.tape = w.tape ∧ w'.output = w.output ∧ w.heap.size ≤ w'.heap.size ∧
        ∀ b, b < w.heap.size → ¬ fp i b → w'.heap[b]? = w.heap[b]?) ((execOp a.eval o).run P w)) : Eff P n o s false K := fun w S fp a hst he hn => by
  have hil := (List.getElem?_eq_some_iff.1 hi).1
  refine uponU_mono (fun u w' hh => ?_) (h w S fp a hst he hn (hst.res i R0 hi))
  obtain ⟨R, s', hK, hps, hhp, he', hR, h1, h2, h3, h4, h5⟩ := hh
  refine ⟨s', S, fp, hK, by rw [hps, hhp]; exact hst.change hil h4 h5 R hR, he', ⟨h1, h2, h3, h4, fun b hb hx => h5 b hb (fun hf => hx ⟨i, hil, hf⟩), fun _ h => h, fun _ h => .inl h⟩, fun b hb => ?_, fun h => by cases h⟩
  obtain ⟨j, hj, hb⟩ := hb
  exact .inl ⟨j, by rw [hhp] at hj; simpa using hj, hb⟩
/-- cells written into a row -/
def wrC (cs : List Value) (o : Nat) (vs : List Value) : List Value := cs.take o ++ (vs ++ cs.drop (o + vs.length))
theorem storeCells_run (b : Nat) (T : TypeId) (o : Nat) : ∀ (vs : List Value) (i : Nat) (cs : List Value) (w : World), w.heap[b]? = some (.cells cs.toArray T (0, 0)) → (∀ v ∈ vs, v.oneCell' = true) → o + i + vs.length ≤ cs.length →
    (storeCells ⟨b, o, none⟩ vs i).run P w = .ok () (w.setRow b (wrC cs (o + i) vs).toArray)
  | [], i, cs, w, hb, _, _ => by
    have : wrC cs (o + i) [] = cs := by unfold wrC; simp
    rw [this]
    show Result.ok () w = _
    congr 1
    unfold World.setRow
    cases w with | mk heap tape drawn os output =>
    simp only [World.mk.injEq, and_true]
    apply Array.ext_getElem?
    intro k
    rw [Array.getElem?_modify]
    split
    · rename_i hk; subst hk
      simp only at hb
      rw [hb]; rfl
    · rfl
  | v :: vs, i, cs, w, hb, h1, hl => by
    have hlt : o + i < cs.length := by simp at hl; omega
    have hadd : (Addr.mk b o none).add i = ⟨b, o + i, none⟩ := by
      unfold Addr.add; split
      · rename_i h; rw [h]; rfl
      · rfl
    have hc : w.cell? ⟨b, o + i, none⟩ = some cs[o + i] := by rw [cell_box hb]; simp [hlt]
    have hf : w.frozen? ⟨b, o + i, none⟩ = false := by unfold World.frozen?; simp [hb]
    unfold storeCells
    show ((store ((Addr.mk b o none).add i) v).bind fun _ => storeCells ⟨b, o, none⟩ vs (i + 1)).run P w = _
    rw [Sem.run_bind', hadd, run_store P w _ v _ (h1 v (by simp)), hc]
    simp only [hf, Bool.false_eq_true, if_false, Result.andThen]
    have hb' : (w.setCell ⟨b, o + i, none⟩ v).heap[b]? = some (.cells (cs.set (o + i) v).toArray T (0, 0)) := by
      unfold World.setCell
      simp only [Array.getElem?_modify, hb]
      simp
    rw [storeCells_run b T o vs (i + 1) (cs.set (o + i) v) _ hb' (fun u hu => h1 u (by simp [hu])) (by simp at hl ⊢; omega)]
    congr 1
    have e : wrC (cs.set (o + i) v) (o + (i + 1)) vs = wrC cs (o + i) (v :: vs) := by
      unfold wrC
      apply List.ext_getElem?
      intro k
      simp only [List.getElem?_append, List.length_take, List.length_set, List.getElem?_take, List.getElem?_drop, List.getElem?_set, List.length_cons, List.getElem?_cons]
      rw [Nat.min_eq_left (by simp at hl; omega), Nat.min_eq_left (by omega)]
      by_cases h1 : k < o + i
      · simp [show k < o + (i + 1) by omega, h1, show ¬ o + i = k by omega]
      · by_cases h2 : k = o + i
        · subst h2; simp [hlt]
        · have h3 : ¬ k < o + (i + 1) := by omega
          have h4 : k - (o + i) = (k - (o + (i + 1))) + 1 := by omega
          simp only [h1, h3, if_false]
          by_cases h5 : k - (o + (i + 1)) < vs.length
          · rw [if_pos h5, if_pos (by omega), if_neg (by omega)]
            congr 1 <;> omega
          · rw [if_neg h5, if_neg (by omega), if_neg (by omega)]
            congr 1 <;> omega
    rw [e]
    unfold World.setRow World.setCell
    simp only [World.mk.injEq, and_true]
    apply Array.ext_getElem?
    intro k
    simp only [Array.getElem?_modify]
    split
    · rename_i hk; subst hk
      rw [hb]; rfl
    · rfl
theorem setRow_other (w : World) (g : Nat) (cs : Array Value) (k : Nat) (hk : k ≠ g) : (w.setRow g cs).heap[k]? = w.heap[k]? := heap_setRow w g cs k hk
/-- cells written, spelled out -/
def wrL : Nat → List Value → Nat → List Value → Option (List Value)
  | 0, cs, 0, [] => some cs
  | k + 1, _ :: cs, 0, v :: vs => match v.oneCell' with
    | true => match wrL k cs 0 vs with
      | some l => some (v :: l)
      | none => none
    | false => none
  | k, c :: cs, o + 1, vs => match wrL k cs o vs with
    | some l => some (c :: l)
    | none => none
  | _, _, _, _ => none
theorem wrL_eq : ∀ (cs : List Value) (k o : Nat) (vs cs' : List Value), wrL k cs o vs = some cs' → vs.length = k ∧ (∀ v ∈ vs, v.oneCell' = true) ∧ o + vs.length ≤ cs.length ∧ cs' = wrC cs o vs
  | cs, 0, 0, [], cs', h => by
    have : some cs = some cs' := by cases cs <;> exact h
    simp only [Option.some.injEq] at this
    subst this
    exact ⟨rfl, by simp, by simp, by simp [wrC]⟩
  | [], 0, 0, _ :: _, _, h => by cases h
  | _ :: _, 0, 0, _ :: _, _, h => by cases h
  | _ :: cs, k + 1, 0, v :: vs, cs', h => by
    unfold wrL at h
    split at h
    · rename_i hv
      split at h
      · rename_i l hl
        simp only [Option.some.injEq] at h
        subst h
        obtain ⟨h1, h2, h3, rfl⟩ := wrL_eq cs k 0 vs l hl
        refine ⟨by simp [h1], fun u hu => ?_, by simp at h3 ⊢; omega, by simp [wrC]⟩
        rcases List.mem_cons.1 hu with rfl | hu
        · exact hv
        · exact h2 u hu
      · cases h
    · cases h
  | [], k + 1, 0, _ :: _, _, h => by cases h
  | [], k + 1, 0, [], _, h => by cases h
  | _ :: _, k + 1, 0, [], _, h => by cases h
  | [], 0, o + 1, _, _, h => by cases h
  | [], k + 1, o + 1, _, _, h => by cases h
  | c :: cs, k, o + 1, vs, cs', h => by
    have h' : (match wrL k cs o vs with | some l => some (c :: l) | none => none) = some cs' := by cases k <;> exact h
    split at h'
    · rename_i l hl
      simp only [Option.some.injEq] at h'
      subst h'
      obtain ⟨h1, h2, h3, rfl⟩ := wrL_eq cs k o vs l hl
      exact ⟨h1, h2, by simp; omega, by simp [wrC, show o + 1 + vs.length = (o + vs.length) + 1 by omega]⟩
    · cases h'
/-- a store into a box -/
theorem e_store {x y : Operand} {U T : TypeId} {ag : Bool} {k b o : Nat} {cs cs' : List Value} {vy : Value} (i : Nat) (hk : tyk P U = some (ag, k)) (hx : ev s.env x = some (true, .pointer (some ⟨b, o, none⟩))) (hy : ev s.env y = some (true, vy)) (hi : s.hp[i]? = some (Box b T cs))
    (hw : wrL k cs o vy.cells.toList = some cs') (hK : K ⟨s.env, s.ps, s.hp.set i (Box b T cs')⟩) :
    Eff P n ⟨none, .store U x y, ty, pos, af, gd⟩ s false K := .change i hi fun w S fp a hst he hn hR => by
  have e1 := he.val hx rfl
  have e2 := he.val hy rfl
  obtain ⟨_, j, _, hj, _, hjk⟩ := tyk_parts hk
  obtain ⟨hb, hF⟩ := hR
  obtain ⟨hl, h1', hle, rfl⟩ := wrL_eq _ _ _ _ _ hw
  generalize hv : vy.cells.toList = vs at hl h1' hle hK
  have : (execOp a.eval ⟨none, .store U x y, ty, pos, af, gd⟩).run P w = .ok .skip (w.setRow b (wrC cs o vs).toArray) := by
    show ((Instr.storeAt U (a.eval x) (a.eval y)).bind fun _ => Sem.pure Next.skip).run P w = _
    rw [e1, e2, Sem.run_bind']
    have : (Instr.storeAt U (.pointer (some ⟨b, o, none⟩)) vy).run P w = .ok () (w.setRow b (wrC cs o vs).toArray) := by
      show (storeVar U ⟨b, o, none⟩ vy).run P w = _
      unfold storeVar
      simp only [Sem.run_bind, run_sizeOf' hj, Result.andThen]
      have hsz : vy.cells.size = j.size := by rw [hjk, ← hl, ← hv]; simp
      rw [if_neg (by simpa using hsz)]
      rw [hv]
      exact storeCells_run b T o vs 0 cs w hb h1' (by omega)
    rw [this]; rfl
  rw [this]
  refine ⟨Box b T (wrC cs o vs), _, hK, rfl, rfl, he, ⟨setRow_heap _ _ _ _ _ _ hb, hF⟩, rfl, rfl, rfl, by simp [World.setRow], fun b' hb' hne => setRow_other _ _ _ _ (fun h => hne ((hF b').2 h))⟩
end
end Go.Sy
