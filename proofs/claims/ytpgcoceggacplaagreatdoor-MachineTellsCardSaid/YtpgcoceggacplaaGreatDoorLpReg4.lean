/- Regions that draw their order and make blocks: reads may come before or behind the makings. No condition. -/
import Derived.Test.YtpgcoceggacplaaGreatDoorLpReg3
set_option linter.unusedVariables false
set_option linter.unusedSimpArgs false
set_option maxRecDepth 20000
namespace Go.Lp
open Go.RowKit
theorem below_same (B : Nat) (w : World) (o : Array Obj) (d d' : Nat) : Below B (w.ext o d) (w.ext o d') := ⟨rfl, rfl, rfl, Nat.le_refl _, fun _ _ => rfl⟩
section
variable {P : Program} {ops : Array Oper} {md : Region.Mode}

@[go_sem] def uponU (P : Program) (Φ : Value → World → Prop) : Result Next → Prop
  | .ok (.value u) w' => Φ u w'
  | .ok .skip w' => Φ undef w'
  | .ok (.enter f args) w' => Calls P f args w' (fun e w'' => ∃ v, e = .returned v ∧ Φ v w'')
  | _ => False
theorem uponU_mono {Φ Ψ : Value → World → Prop} (h : ∀ v w, Φ v w → Ψ v w) {r : Result Next} (hr : uponU P Φ r) : uponU P Ψ r := by
  cases r with
  | halt x w' => simp only [uponU] at hr
  | ok n w' =>
    cases n with
    | value u => exact h _ _ hr
    | skip => exact h _ _ hr
    | enter f args => exact Calls.mono hr fun e w'' ⟨v, he, hv⟩ => ⟨v, he, h _ _ hv⟩
    | _ => simp only [uponU] at hr
def opU (P : Program) (ops : Array Oper) (i : Nat) (K : Act → World → Prop) (a : Act) (w : World) : Prop :=
  ∃ o, ops[i]? = some o ∧ o.guard = none ∧ uponU P (fun v w' => K (a.put o.dst v) w') ((execOp a.eval o).run P w)
/-- as 'wpAny'; and U stands as long as operation c has not come up -/
def wpU (P : Program) (md : Region.Mode) (ops : Array Oper) (c : Nat) (U : World → Prop) (Q : Act → World → Prop) : Nat → Array Bool → Act → World → Prop
  | 0, L, a, w => (L.getD c true = false → U w) ∧ Region.ready md ops L = [] ∧ Q a w
  | n + 1, L, a, w => (L.getD c true = false → U w) ∧ (Region.ready md ops L = [] → Q a w) ∧ ∀ i ∈ Region.ready md ops L, opU P ops i (wpU P md ops c U Q n (L.setIfInBounds i true)) a w
variable {c : Nat} {U : World → Prop} {Q : Act → World → Prop}
theorem wpU_here {n : Nat} {L : Array Bool} {a : Act} {w : World} (h : wpU P md ops c U Q n L a w) : L.getD c true = false → U w := by cases n <;> exact h.1
theorem wpOp_of_opU {Q' : Exit → Act → World → Prop} {K : Act → World → Prop} {i : Nat} {a : Act} {w : World} (h : opU P ops i K a w) : wpOp P ops Q' i K a w := by
  obtain ⟨o, ho, hg, hr⟩ := h
  unfold wpOp
  simp only [ho]
  rw [if_pos (by simp [Region.wanted, hg])]
  refine .inl ?_
  unfold Oper.wp
  generalize (execOp a.eval o).run P w = r at *
  cases r with
  | halt x w' => simp only [uponU] at hr
  | ok n w' =>
    cases n with
    | value u => exact hr
    | skip => exact hr
    | enter f args => exact Calls.mono hr fun e w'' ⟨v, he, hv⟩ => by subst he; exact hv
    | _ => simp only [uponU] at hr
theorem wpAny_of_wpU {Q' : Exit → Act → World → Prop} (hQ : ∀ a w, Q a w → Q' .normal a w) : ∀ (n : Nat) (L : Array Bool) (a : Act) (w : World), wpU P md ops c U Q n L a w → wpAny P md ops Q' n L a w
  | 0, _, _, _, h => ⟨h.2.1, hQ _ _ h.2.2⟩
  | n + 1, _, _, _, h => ⟨fun h0 => hQ _ _ (h.2.1 h0), fun i hi => wpOp_mono (fun _ _ => wpAny_of_wpU hQ n _ _ _) (wpOp_of_opU (h.2.2 i hi))⟩

/-- what has come up has come up behind what it waits for -/
def closed (md : Region.Mode) (ops : Array Oper) (L : Array Bool) : Prop := ∀ j o, ops[j]? = some o → L.getD j true = true → ∀ e ∈ o.after, Region.binds md e = true → L.getD e.on false = true
theorem getD_tf {L : Array Bool} {j : Nat} (h : L.getD j false = true) : L.getD j true = true := by
  rcases Nat.lt_or_ge j L.size with h' | h'
  · simpa [h'] using h
  · simp [Array.getElem?_eq_none h'] at h
theorem closed_set {L : Array Bool} {i : Nat} (h : closed md ops L) (hi : i ∈ Region.ready md ops L) : closed md ops (L.setIfInBounds i true) := by
  intro j o ho hj e he hb
  by_cases hji : j = i
  · subst hji
    obtain ⟨_, o', ho', hall⟩ := mem_ready.1 hi
    obtain rfl : o = o' := Option.some.inj (ho.symm.trans ho')
    exact Go.getD_set_true (hall e he hb)
  · rw [getD_set_ne true (Ne.symm hji)] at hj
    exact Go.getD_set_true (h j o ho hj e he hb)
def closedB (md : Region.Mode) (ops : Array Oper) (L : Array Bool) : Bool :=
  (List.range ops.size).all fun j => match ops[j]? with
    | none => true
    | some o => !L.getD j true || o.after.all fun e => !Region.binds md e || L.getD e.on false
theorem closed_of {L : Array Bool} (h : closedB md ops L = true) : closed md ops L := by
  intro j o ho hj e he hb
  unfold closedB at h
  have h1 := List.all_eq_true.1 h j (List.mem_range.2 (Array.getElem?_eq_some_iff.1 ho).1)
  simp only [ho, hj, Bool.not_true, Bool.false_or] at h1
  have h2 := Array.all_eq_true_iff_forall_mem.1 h1 e he
  simpa [hb] using h2
/-- operation j waits for i, at once or through others -/
def depB (md : Region.Mode) (ops : Array Oper) : Nat → Nat → Nat → Bool
  | 0, _, _ => false
  | n + 1, j, i => match ops[j]? with
    | none => false
    | some o => o.after.any fun e => Region.binds md e && (e.on == i || depB md ops n e.on i)
theorem dep_up {L : Array Bool} (hc : closed md ops L) {i : Nat} : ∀ (n j : Nat), depB md ops n j i = true → L.getD j true = true → L.getD i false = true
  | 0, _, h, _ => by cases h
  | n + 1, j, h, hj => by
    unfold depB at h
    cases ho : ops[j]? with
    | none => rw [ho] at h; cases h
    | some o =>
      rw [ho] at h
      obtain ⟨e, he, hb⟩ := Array.any_eq_true'.1 h
      simp only [Bool.and_eq_true, Bool.or_eq_true, beq_iff_eq] at hb
      have h1 := hc j o ho hj e he hb.1
      rcases hb.2 with rfl | h2
      · exact h1
      · exact dep_up hc n _ h2 (getD_tf h1)

/-- a read of i may be taken first: it hands back v in every world that can be met before c -/
theorem wpU_first {i : Nat} {oi : Oper} {v : Value} {g : Bool} {m : Nat} (hi : ops[i]? = some oi) (hgd : oi.guard = none) (hsel : ∀ (j : Nat) (o : Oper) cs b, ops[j]? = some o → o.op ≠ .select cs b) (hci : i ≠ c)
    (hdep : g = true → depB md ops m c i = true) :
    ∀ (n : Nat) (L : Array Bool) (a : Act) (w : World), closed md ops L →
      (∀ j oj, ops[j]? = some oj → j ≠ i → L.getD j true = false → (∀ e ∈ oj.after, Region.binds md e = true → e.on ≠ i) → oi.apart ops oj = true) →
      i ∈ Region.ready md ops L → (∀ w, (g = true → U w) → (execOp a.eval oi).run P w = .ok (.value v) w) → (L.getD c true = false → U w) →
      wpU P md ops c U Q n (L.setIfInBounds i true) (a.put oi.dst v) w → wpU P md ops c U Q (n + 1) L a w := by
  intro n
  induction n with
  | zero =>
    intro L a w hcl _ hr hy hU H
    have hg' : g = true → U w := fun hg => hU (by
      cases hL : L.getD c true with
      | false => rfl
      | true => have := getD_tf (dep_up hcl m c (hdep hg) hL); rw [(mem_ready.1 hr).1] at this; cases this)
    refine ⟨hU, fun h => (by rw [h] at hr; cases hr), fun j hj => ?_⟩
    by_cases hji : j = i
    · subst hji; exact ⟨oi, hi, hgd, by rw [hy w hg']; exact H⟩
    · have := ready_mono hj hji
      rw [H.2.1] at this
      cases this
  | succ n ih =>
    intro L a w hcl hfree hr hy hU H
    have hg' : g = true → U w := fun hg => hU (by
      cases hL : L.getD c true with
      | false => rfl
      | true => have := getD_tf (dep_up hcl m c (hdep hg) hL); rw [(mem_ready.1 hr).1] at this; cases this)
    refine ⟨hU, fun h => (by rw [h] at hr; cases hr), fun j hj => ?_⟩
    by_cases hji : j = i
    · subst hji; exact ⟨oi, hi, hgd, by rw [hy w hg']; exact H⟩
    · obtain ⟨oj, hoj, hgj, hrun⟩ := H.2.2 j (ready_mono hj hji)
      obtain ⟨hjun, oj', hoj', hall⟩ := mem_ready.1 hj
      obtain rfl : oj = oj' := Option.some.inj (hoj.symm.trans hoj')
      have hnot : ∀ e ∈ oj.after, Region.binds md e = true → e.on ≠ i := fun e he hb heq => by
        have h1 := hall e he hb
        have h0 := (mem_ready.1 hr).1
        rw [heq] at h1
        rw [getD_tf h1] at h0; cases h0
      obtain ⟨p1, p2, p3⟩ := Oper.apart_spec (hfree j oj hoj hji hjun hnot)
      rw [execOp_put oj (fun cs b => hsel j oj cs b hoj) a oi.dst v p1] at hrun
      refine ⟨oj, hoj, hgj, uponU_mono (fun u w' h => ?_) hrun⟩
      have hfree' : ∀ k ok, ops[k]? = some ok → k ≠ i → (L.setIfInBounds j true).getD k true = false →
          (∀ e ∈ ok.after, Region.binds md e = true → e.on ≠ i) → oi.apart ops ok = true := fun k ok hk hki hun hno => by
        refine hfree k ok hk hki ?_ hno
        by_cases hjk : j = k
        · subst hjk; exact hjun
        · rw [getD_set_ne true hjk] at hun; exact hun
      refine ih (L.setIfInBounds j true) _ w' (closed_set hcl hj) hfree' (ready_mono hr (Ne.symm hji)) (fun w0 hw0 => ?_) (fun hLc => wpU_here h ?_) ?_
      · rw [execOp_put oi (fun cs b => hsel i oi cs b hi) a oj.dst u p3]; exact hy w0 hw0
      · rw [Array.setIfInBounds_comm _ _ (Ne.symm hji), getD_set_ne true hci]; exact hLc
      · rw [Array.setIfInBounds_comm _ _ hji, Act.put_comm a u v (fun d hd hd' => p2 d hd' hd)]
        exact h
theorem wpU_take {i : Nat} {oi : Oper} {v : Value} (g : Bool) (m : Nat) {n : Nat} {L : Array Bool} {a : Act} {w : World} (hi : ops[i]? = some oi) (hgd : oi.guard = none) (hs : Region.noSelect ops = true) (hci : (i == c) = false)
    (hdep : (!g || depB md ops m c i) = true) (hcl : closedB md ops L = true) (hf : Region.free md ops L i = true) (hr : (Region.ready md ops L).contains i = true)
    (hU : L.getD c true = false → U w) (hy : ∀ w, (g = true → U w) → (execOp a.eval oi).run P w = .ok (.value v) w)
    (h : wpU P md ops c U Q n (L.setIfInBounds i true) (a.put oi.dst v) w) : wpU P md ops c U Q (n + 1) L a w :=
  wpU_first hi hgd (Region.noSelect_spec hs) (by simpa using hci) (fun hg => by simpa [hg] using hdep) n L a w (closed_of hcl) (Region.free_spec hi hf) (by simpa using hr) hy hU h
theorem wpU_one {i : Nat} {n : Nat} {L : Array Bool} {a : Act} {w : World} (hr : Region.ready md ops L = [i]) (hU : L.getD c true = false → U w) {oi : Oper} (hi : ops[i]? = some oi) (hgd : oi.guard = none)
    (h : uponU P (fun v w' => wpU P md ops c U Q n (L.setIfInBounds i true) (a.put oi.dst v) w') ((execOp a.eval oi).run P w)) : wpU P md ops c U Q (n + 1) L a w := by
  refine ⟨hU, fun h0 => (by rw [hr] at h0; cases h0), fun j hj => ?_⟩
  rw [hr] at hj
  obtain rfl := List.mem_singleton.1 hj
  exact ⟨oi, hi, hgd, h⟩
theorem wpU_done {L : Array Bool} {a : Act} {w : World} (hr : Region.ready md ops L = []) (hU : L.getD c true = false → U w) (h : Q a w) : wpU P md ops c U Q 0 L a w := ⟨hU, hr, h⟩
theorem wp_region_U {id : Nat} {Q' : Exit → Act → World → Prop} {a : Act} {w : World} (c : Nat) (U : World → Prop) (hm : P.follows .mixedOrders = true)
    (h : wpU P .any ops c U (fun a w => Q' .normal a w) ops.size (Array.replicate ops.size false) a w.drew) : (Code.region id ops true).wp P Q' a w :=
  wp_region_any hm (wpAny_of_wpU (fun _ _ h => h) _ _ _ _ h)
theorem U_take {i : Nat} {oi : Oper} {v : Value} (g : Bool) {n : Nat} {L : Array Bool} {a : Act} {w : World} (hi : ops[i]? = some oi) (hgd : oi.guard = none) (hs : Region.noSelect ops = true) (hci : (i == c) = false)
    (hdep : (!g || depB md ops 40 c i) = true) (hcl : closedB md ops L = true) (hf : Region.free md ops L i = true) (hr : (Region.ready md ops L).contains i = true)
    (hU : L.getD c true = false → U w) (hy : ∀ w, (g = true → U w) → (execOp a.eval oi).run P w = .ok (.value v) w)
    (h : ∀ K : Array Bool → Act → World → Prop, (∀ L a w, wpU P md ops c U Q n L a w → K L a w) → K (L.setIfInBounds i true) (a.put oi.dst v) w) : wpU P md ops c U Q (n + 1) L a w :=
  wpU_take g 40 hi hgd hs hci hdep hcl hf hr hU hy (h _ fun _ _ _ h => h)
theorem U_one {i : Nat} {n : Nat} {L : Array Bool} {a : Act} {w : World} {oi : Oper} (hi : ops[i]? = some oi) (hgd : oi.guard = none) (hr : Region.ready md ops L = [i]) (hU : L.getD c true = false → U w)
    (h : ∀ K : Array Bool → Act → World → Prop, (∀ L a w, wpU P md ops c U Q n L a w → K L a w) → uponU P (fun v w' => K (L.setIfInBounds i true) (a.put oi.dst v) w') ((execOp a.eval oi).run P w)) : wpU P md ops c U Q (n + 1) L a w :=
  wpU_one hr hU hi hgd (h _ fun _ _ _ h => h)
theorem wp_region_UB {l : List Oper} {id : Nat} {Q' : Exit → Act → World → Prop} {a : Act} {w : World} (c : Nat) (hm : P.follows .mixedOrders = true)
    (h : wpU P .any l.toArray c (fun w' => Below w.heap.size w w') (fun a w => Q' .normal a w) l.length (Array.replicate l.length false) a w.drew) : (Code.region id l.toArray true).wp P Q' a w :=
  wp_region_U c _ hm (by simpa using h)
end
end Go.Lp
