/- A logic of states: regions, plain and drawn. No condition. -/
import Derived.Test.YtpgcoceggacplaaGreatDoorSyBase
set_option linter.unusedVariables false
set_option linter.unusedSimpArgs false
set_option maxRecDepth 20000
namespace Go.Sy
open Go.RowKit
section
variable {P : Program} {ops : Array Oper} {md : Region.Mode}

/-- an outcome, whatever it changes -/
def uponU (P : Program) (Φ : Value → World → Prop) : Result Next → Prop
  | .ok (.value u) w' => Φ u w'
  | .ok .skip w' => Φ undef w'
  | .ok (.enter f args) w' => Calls P f args w' (fun e w'' => ∃ v, e = .returned v ∧ Φ v w'')
  | _ => False
theorem uponU_mono {Φ Ψ : Value → World → Prop} (h : ∀ v w, Φ v w → Ψ v w) {r : Result Next} (hr : uponU P Φ r) : uponU P Ψ r := by
  cases r with
  | halt x w' => simp only [uponU] at hr
  | ok n w' =>
    cases n with
    | value u => exact h _ _ hr
    | skip => exact h _ _ hr
    | enter f args => exact Calls.mono hr fun e w'' ⟨v, he, hv⟩ => ⟨v, he, h _ _ hv⟩
    | _ => simp only [uponU] at hr
/-- an outcome that changes nothing old -/
def uponQ (P : Program) (v : Value) (w : World) (r : Result Next) : Prop := uponU P (fun u w' => u = v ∧ Below w.heap.size w w') r

theorem wp_of_uponU {o : Oper} {a : Act} {w : World} {K : Act → World → Prop} {Q : Exit → Act → World → Prop} (h : uponU P (fun v w' => K (a.put o.dst v) w') ((execOp a.eval o).run P w)) : o.wp P a w K Q := by
  unfold Oper.wp
  generalize (execOp a.eval o).run P w = r at *
  cases r with
  | halt x w' => simp only [uponU] at h
  | ok n w' =>
    cases n with
    | value u => exact h
    | skip => exact h
    | enter f args => exact Calls.mono h fun e w'' ⟨v, he, hv⟩ => by subst he; exact hv
    | _ => simp only [uponU] at h

def opB (P : Program) (ops : Array Oper) (i : Nat) (K : Act → World → Prop) (a : Act) (w : World) : Prop :=
  ∃ o, ops[i]? = some o ∧ if Region.wanted o (yielded ops a.tmps) then uponU P (fun v w' => K (a.put o.dst v) w') ((execOp a.eval o).run P w) else K (a.put o.dst undef) w
theorem opB_mono {i : Nat} {K K' : Act → World → Prop} {a : Act} {w : World} (h : ∀ a w, K a w → K' a w) (hh : opB P ops i K a w) : opB P ops i K' a w := by
  obtain ⟨o, ho, hr⟩ := hh
  refine ⟨o, ho, ?_⟩
  split
  · rename_i hw; rw [if_pos hw] at hr; exact uponU_mono (fun _ _ => h _ _) hr
  · rename_i hw; rw [if_neg hw] at hr; exact h _ _ hr
theorem wpOp_of_opB {Q : Exit → Act → World → Prop} {i : Nat} {K : Act → World → Prop} {a : Act} {w : World} (h : opB P ops i K a w) : wpOp P ops Q i K a w := by
  obtain ⟨o, ho, hr⟩ := h
  unfold wpOp
  simp only [ho]
  split
  · rename_i hw; rw [if_pos hw] at hr; exact .inl (wp_of_uponU hr)
  · rename_i hw; rw [if_neg hw] at hr; exact hr

/-- every order, in every world that is somewhat later; V: the operations that may change what is old -/
def wpB (P : Program) (md : Region.Mode) (ops : Array Oper) (V : Nat → Bool) (Q : Act → World → Prop) : Nat → Array Bool → Act → World → Prop
  | 0, L, a, w => ∀ w1, Below w.heap.size w w1 → Region.ready md ops L = [] ∧ Q a w1
  | k + 1, L, a, w => ∀ w1, Below w.heap.size w w1 → (Region.ready md ops L = [] → Q a w1) ∧
      ∀ i ∈ Region.ready md ops L, opB P ops i (fun a' w' => (V i = false → Below w1.heap.size w1 w') ∧ wpB P md ops V Q k (L.setIfInBounds i true) a' w') a w1
variable {V : Nat → Bool} {Q : Act → World → Prop}
theorem bel_trans {a b c : World} (h : Below a.heap.size a b) (k : Below b.heap.size b c) : Below a.heap.size a c := h.trans (k.mono h.size)
theorem wpB_up {k : Nat} {L : Array Bool} {a : Act} {w w1 : World} (h : wpB P md ops V Q k L a w) (hb : Below w.heap.size w w1) : wpB P md ops V Q k L a w1 := by
  cases k with
  | zero => exact fun w2 h2 => h w2 (bel_trans hb h2)
  | succ k => exact fun w2 h2 => h w2 (bel_trans hb h2)
theorem wpAny_of_wpB {Q' : Exit → Act → World → Prop} (hQ : ∀ a w, Q a w → Q' .normal a w) : ∀ (k : Nat) (L : Array Bool) (a : Act) (w : World), wpB P md ops V Q k L a w → wpAny P md ops Q' k L a w
  | 0, _, _, w, h => ⟨(h w (Below.refl _ _)).1, hQ _ _ (h w (Below.refl _ _)).2⟩
  | k + 1, _, _, w, h => ⟨fun h0 => hQ _ _ ((h w (Below.refl _ _)).1 h0), fun i hi => wpOp_mono (fun _ _ h => wpAny_of_wpB hQ k _ _ _ h.2) (wpOp_of_opB ((h w (Below.refl _ _)).2 i hi))⟩

/-- what has come up has come up behind what it waits for -/
def closed (md : Region.Mode) (ops : Array Oper) (L : Array Bool) : Prop := ∀ j o, ops[j]? = some o → L.getD j true = true → ∀ e ∈ o.after, Region.binds md e = true → L.getD e.on false = true
theorem getD_tf {L : Array Bool} {j : Nat} (h : L.getD j false = true) : L.getD j true = true := by
  rcases Nat.lt_or_ge j L.size with h' | h'
  · simpa [h'] using h
  · simp [Array.getElem?_eq_none h'] at h
theorem closed_set {L : Array Bool} {i : Nat} (h : closed md ops L) (hi : i ∈ Region.ready md ops L) : closed md ops (L.setIfInBounds i true) := by
  intro j o ho hj e he hb
  by_cases hji : j = i
  · subst hji
    obtain ⟨_, o', ho', hall⟩ := mem_ready.1 hi
    obtain rfl : o = o' := Option.some.inj (ho.symm.trans ho')
    exact Go.getD_set_true (hall e he hb)
  · rw [getD_set_ne true (Ne.symm hji)] at hj
    exact Go.getD_set_true (h j o ho hj e he hb)
def closedB (md : Region.Mode) (ops : Array Oper) (L : Array Bool) : Bool :=
  (List.range ops.size).all fun j => match ops[j]? with
    | none => true
    | some o => !L.getD j true || o.after.all fun e => !Region.binds md e || L.getD e.on false
theorem closed_of {L : Array Bool} (h : closedB md ops L = true) : closed md ops L := by
  intro j o ho hj e he hb
  unfold closedB at h
  have h1 := List.all_eq_true.1 h j (List.mem_range.2 (Array.getElem?_eq_some_iff.1 ho).1)
  simp only [ho, hj, Bool.not_true, Bool.false_or] at h1
  have h2 := Array.all_eq_true_iff_forall_mem.1 h1 e he
  simpa [hb] using h2
/-- operation j waits for i, at once or through others -/
def depB (md : Region.Mode) (ops : Array Oper) : Nat → Nat → Nat → Bool
  | 0, _, _ => false
  | n + 1, j, i => match ops[j]? with
    | none => false
    | some o => o.after.any fun e => Region.binds md e && (e.on == i || depB md ops n e.on i)
theorem dep_up {L : Array Bool} (hc : closed md ops L) {i : Nat} : ∀ (n j : Nat), depB md ops n j i = true → L.getD j true = true → L.getD i false = true
  | 0, _, h, _ => by cases h
  | n + 1, j, h, hj => by
    unfold depB at h
    cases ho : ops[j]? with
    | none => rw [ho] at h; cases h
    | some o =>
      rw [ho] at h
      obtain ⟨e, he, hb⟩ := Array.any_eq_true'.1 h
      simp only [Bool.and_eq_true, Bool.or_eq_true, beq_iff_eq] at hb
      have h1 := hc j o ho hj e he hb.1
      rcases hb.2 with rfl | h2
      · exact h1
      · exact dep_up hc n _ h2 (getD_tf h1)

/-- what an operation that changes nothing old hands back -/
def YieldsB (P : Program) (ops : Array Oper) (o : Oper) (v : Value) (a : Act) (w : World) : Prop :=
  (Region.wanted o (yielded ops a.tmps) = true ∧ ∀ w1, Below w.heap.size w w1 → uponQ P v w1 ((execOp a.eval o).run P w1)) ∨ (Region.wanted o (yielded ops a.tmps) = false ∧ v = undef)
theorem YieldsB.of_same {o : Oper} {v : Value} {a a' : Act} {w w' : World} (hy : YieldsB P ops o v a w) (he : execOp a'.eval o = execOp a.eval o)
    (hw : Region.wanted o (yielded ops a'.tmps) = Region.wanted o (yielded ops a.tmps)) (hb : Below w.heap.size w w') : YieldsB P ops o v a' w' := by
  unfold YieldsB at *
  rw [he, hw]
  exact hy.imp (fun ⟨h1, h2⟩ => ⟨h1, fun w1 h => h2 w1 (bel_trans hb h)⟩) id
theorem YieldsB.op {o : Oper} {i : Nat} {v : Value} {a : Act} {w : World} (hi : ops[i]? = some o) (hy : YieldsB P ops o v a w) {K : Act → World → Prop} (h : ∀ w', Below w.heap.size w w' → K (a.put o.dst v) w') : opB P ops i K a w := by
  refine ⟨o, hi, ?_⟩
  rcases hy with ⟨h1, h2⟩ | ⟨h1, rfl⟩
  · rw [if_pos h1]
    exact uponU_mono (fun u w' ⟨hu, hb⟩ => by subst hu; exact h w' hb) (h2 w (Below.refl _ _))
  · rw [if_neg (by rw [h1]; exact Bool.false_ne_true)]
    exact h w (Below.refl _ _)

/-- 'i' may be taken first -/
theorem wpB_first {i : Nat} {oi : Oper} {v : Value} (hi : ops[i]? = some oi) (hsel : ∀ (j : Nat) (o : Oper) cs b, ops[j]? = some o → o.op ≠ .select cs b) (m : Nat) (hVi : V i = false) :
    ∀ (n : Nat) (L : Array Bool) (a : Act) (w : World), closed md ops L → (∀ c, V c = true → L.getD c true = false → depB md ops m c i = true) →
      (∀ j oj, ops[j]? = some oj → j ≠ i → L.getD j true = false → (∀ e ∈ oj.after, Region.binds md e = true → e.on ≠ i) → oi.apart ops oj = true) →
      i ∈ Region.ready md ops L → YieldsB P ops oi v a w →
      wpB P md ops V Q n (L.setIfInBounds i true) (a.put oi.dst v) w → wpB P md ops V Q (n + 1) L a w := by
  intro n
  induction n with
  | zero =>
    intro L a w hcl hV _ hr hy H w1 hb
    refine ⟨fun h => (by rw [h] at hr; cases hr), fun j hj => ?_⟩
    by_cases hji : j = i
    · subst hji
      exact (hy.of_same rfl rfl hb).op hi fun w' hb' => ⟨fun _ => hb', wpB_up H (bel_trans hb hb')⟩
    · have := ready_mono hj hji
      rw [(H w1 hb).1] at this
      cases this
  | succ n ih =>
    intro L a w hcl hV hfree hr hy H w1 hb
    refine ⟨fun h => (by rw [h] at hr; cases hr), fun j hj => ?_⟩
    by_cases hji : j = i
    · subst hji
      exact (hy.of_same rfl rfl hb).op hi fun w' hb' => ⟨fun _ => hb', wpB_up H (bel_trans hb hb')⟩
    · obtain ⟨oj, hoj, hrun⟩ := (H w1 hb).2 j (ready_mono hj hji)
      obtain ⟨hjun, oj', hoj', hall⟩ := mem_ready.1 hj
      obtain rfl : oj = oj' := Option.some.inj (hoj.symm.trans hoj')
      have hnot : ∀ e ∈ oj.after, Region.binds md e = true → e.on ≠ i := fun e he hb heq => by
        have h1 := hall e he hb
        have h0 := (mem_ready.1 hr).1
        rw [heq] at h1
        rw [getD_tf h1] at h0; cases h0
      have hVj : V j = false := by
        cases hVj : V j with
        | false => rfl
        | true =>
          have h1 := hV j hVj hjun
          have hcl' := closed_set hcl hj
          have hjs : (L.setIfInBounds j true).getD j true = true := by
            rcases Nat.lt_or_ge j L.size with h' | h'
            · simp [h']
            · simp
          have h2 := getD_tf (dep_up hcl' m j h1 hjs)
          rw [getD_set_ne true hji, (mem_ready.1 hr).1] at h2
          cases h2
      obtain ⟨p1, p2, p3⟩ := Oper.apart_spec (hfree j oj hoj hji hjun hnot)
      rw [execOp_put oj (fun cs b => hsel j oj cs b hoj) a oi.dst v p1, wanted_put oj a oi.dst v p1] at hrun
      have hfree' : ∀ k ok, ops[k]? = some ok → k ≠ i → (L.setIfInBounds j true).getD k true = false →
          (∀ e ∈ ok.after, Region.binds md e = true → e.on ≠ i) → oi.apart ops ok = true := fun k ok hk hki hun hno => by
        refine hfree k ok hk hki ?_ hno
        by_cases hjk : j = k
        · subst hjk; exact hjun
        · rw [getD_set_ne true hjk] at hun; exact hun
      have hV' : ∀ c, V c = true → (L.setIfInBounds j true).getD c true = false → depB md ops m c i = true := fun c hc hun => by
        refine hV c hc ?_
        by_cases hjc : j = c
        · subst hjc; exact hjun
        · rw [getD_set_ne true hjc] at hun; exact hun
      have step : ∀ u w', Below w1.heap.size w1 w' → wpB P md ops V Q n ((L.setIfInBounds i true).setIfInBounds j true) ((a.put oi.dst v).put oj.dst u) w' → wpB P md ops V Q (n + 1) (L.setIfInBounds j true) (a.put oj.dst u) w' := fun u w' hb' h => by
        refine ih (L.setIfInBounds j true) (a.put oj.dst u) w' (closed_set hcl hj) hV' hfree' (ready_mono hr (Ne.symm hji)) ?_ ?_
        · exact hy.of_same (execOp_put oi (fun cs b => hsel i oi cs b hi) a oj.dst u p3) (wanted_put oi a oj.dst u p3) (bel_trans hb hb')
        · rw [Array.setIfInBounds_comm _ _ hji, Act.put_comm a u v (fun d hd hd' => p2 d hd' hd)]
          exact h
      refine ⟨oj, hoj, ?_⟩
      split
      · rename_i hw
        rw [if_pos hw] at hrun
        exact uponU_mono (fun u w' h => ⟨h.1, step u w' (h.1 hVj) h.2⟩) hrun
      · rename_i hw
        rw [if_neg hw] at hrun
        exact ⟨hrun.1, step undef w1 (hrun.1 hVj) hrun.2⟩
end

/-- a fact behind a condition -/
def cnd (c : Bool) (p : Per) : Per := ⟨fun w S => c = true → p.holds w S, fun h h1 h2 hc => p.mono (h hc) h1 h2⟩
/-! what an operation does to a state -/
section
variable {P : Program} {n : Nat} {ops : Array Oper}

theorem wpList_mono' {ops : Array Oper} {Q Q' : Exit → Act → World → Prop} (hq : ∀ e a w, Q e a w → Q' e a w) : ∀ (l : List Oper) (a : Act) (w : World), wpList P ops Q l a w → wpList P ops Q' l a w
  | [], _, _, h => hq _ _ _ h
  | o :: l, a, w, h => by
    unfold wpList at *
    split
    · rename_i hw
      rw [if_pos hw] at h
      rcases h with h | ⟨h1, a1, w1, h2⟩
      · left
        unfold Oper.wp at *
        generalize (execOp a.eval o).run P w = r at *
        cases r with
        | halt x w' => cases x <;> simp only [Oper.upon] at h ⊢ <;> exact hq _ _ _ h
        | ok m w' =>
          cases m <;> simp only [Oper.upon] at h ⊢ <;>
            first
            | exact wpList_mono' hq l _ _ h
            | exact Calls.mono h fun e w'' he => by
                cases e with
                | returned v => exact wpList_mono' hq l _ _ he
                | panicked ch => exact hq _ _ _ he
                | outgrown => obtain ⟨a1, w1, h2⟩ := he; exact ⟨a1, w1, hq _ _ _ h2⟩
            | exact Rows.mono h fun v w'' he => wpList_mono' hq l _ _ he
      · right; exact ⟨h1, a1, w1, hq _ _ _ h2⟩
    · rename_i hw
      rw [if_neg hw] at h
      exact wpList_mono' hq l _ _ h

/-- is the operation wanted? -/
def guardOf (ops : Array Oper) (env : Env) (o : Oper) : Option Bool :=
  match o.guard with
  | none => some true
  | some (j, want) => match (ops[j]?).bind (·.dst) with
    | none => none
    | some d => match look env d with
      | some (g, .bool b) => some (g && (b == want))
      | _ => none
theorem wanted_guard {env : Env} {o : Oper} {c : Bool} {a : Act} (hc : guardOf ops env o = some c) (he : EnvOk a env) : Region.wanted o (yielded ops a.tmps) = c := by
  unfold guardOf at hc
  split at hc
  · rename_i hg; simp only [Option.some.injEq] at hc; subst hc; simp [Region.wanted, hg]
  · rename_i j want hg
    split at hc
    · cases hc
    · rename_i d hd
      split at hc
      · rename_i g b hl
        simp only [Option.some.injEq] at hc
        have h1 := he d g (.bool b) hl
        have hy : yielded ops a.tmps j = if g then some b else none := by
          unfold yielded
          simp only [hd, Option.bind_some]
          rcases Nat.lt_or_ge d a.tmps.size with hlt | hge
          · simp only [Array.getD, hlt, dite_true] at h1
            have h' : a.tmps[d]? = some (bif g then .bool b else undef) := by rw [Array.getElem?_eq_getElem hlt]; exact congrArg some h1
            rw [h']
            cases g <;> simp [undef]
          · have h' : a.tmps[d]? = none := by simp [hge]
            rw [h']
            cases g with
            | true => simp [Array.getD, Nat.not_lt.2 hge, undef] at h1
            | false => rfl
        rw [← hc]
        unfold Region.wanted
        rw [hg]
        simp only [hy]
        cases g <;> cases b <;> cases want <;> rfl
      · cases hc
/-- the slots behind an operation -/
def setEnv (env : Env) (dst : Option Tmp) (c : Bool) (v : Value) : Env :=
  match dst with
  | some d => (d, c, v) :: env
  | none => env
def fits (n : Nat) (dst : Option Tmp) : Bool :=
  match dst with
  | some d => decide (d < n)
  | none => true
theorem EnvOk.set {a : Act} {env : Env} (h : EnvOk a env) {dst : Option Tmp} (hd : fits a.tmps.size dst = true) (c : Bool) (v : Value) : EnvOk (a.put dst (bif c then v else undef)) (setEnv env dst c v) := by
  cases dst with
  | none => exact h
  | some d => exact h.put (by simpa [fits] using hd) c v
theorem put_size (a : Act) (dst : Option Tmp) (v : Value) : (a.put dst v).tmps.size = a.tmps.size := by
  cases dst <;> simp [Act.put]
theorem put_defers (a : Act) (dst : Option Tmp) (v : Value) : (a.put dst v).defers = a.defers := by
  cases dst <;> rfl

/-- it changes nothing old, and hands back a value that the world's present fixes -/
def Quiet (P : Program) (n : Nat) (o : Oper) (s : Sta) (v : Value) : Prop :=
  ∀ (w : World) (S : Blks) (fp : Nat → Blks) (a : Act), St w S fp s.ps s.hp → EnvOk a s.env → a.tmps.size = n → uponQ P v w ((execOp a.eval o).run P w)
/-- the same, where the value is found in memory -/
def QuietE {β : Type} (P : Program) (n : Nat) (o : Oper) (s : Sta) (v : β → Value) (ps : β → List Per) : Prop :=
  ∀ (w : World) (S : Blks) (fp : Nat → Blks) (a : Act), St w S fp s.ps s.hp → EnvOk a s.env → a.tmps.size = n →
    ∃ x, (∀ w1, Below w.heap.size w w1 → uponQ P (v x) w1 ((execOp a.eval o).run P w1)) ∧ ∀ p ∈ ps x, p.holds w S
/-- a quiet operation whose value R keeps -/
def QuietR {β : Type} (P : Program) (R : World → World → Prop) (n : Nat) (o : Oper) (s : Sta) (v : β → Value) (ps : β → List Per) : Prop :=
  ∀ (w : World) (S : Blks) (fp : Nat → Blks) (a : Act), St w S fp s.ps s.hp → EnvOk a s.env → a.tmps.size = n →
    ∃ x, (∀ w1, R w w1 → uponQ P (v x) w1 ((execOp a.eval o).run P w1)) ∧ ∀ p ∈ ps x, p.holds w S
/-- it leads to a state of which K holds -/
def Eff (P : Program) (n : Nat) (o : Oper) (s : Sta) (quiet : Bool) (K : Sta → Prop) : Prop :=
  ∀ (w : World) (S : Blks) (fp : Nat → Blks) (a : Act), St w S fp s.ps s.hp → EnvOk a s.env → a.tmps.size = n →
    uponU P (fun u w' => ∃ s' S' fp', K s' ∧ St w' S' fp' s'.ps s'.hp ∧ EnvOk (a.put o.dst u) s'.env ∧ Evo w S (tot fp s.hp.length) w' S' ∧ (∀ b, tot fp' s'.hp.length b → tot fp s.hp.length b ∨ w.heap.size ≤ b) ∧
      (quiet = true → Below w.heap.size w w')) ((execOp a.eval o).run P w)

/-- a plain region from here on -/
def aL (P : Program) (n : Nat) (ops : Array Oper) (Q : Exit → Sta → Prop) (l : List Oper) (s : Sta) : Prop :=
  ∀ (w : World) (S : Blks) (fp : Nat → Blks) (a : Act), St w S fp s.ps s.hp → EnvOk a s.env → a.tmps.size = n → a.defers = [] → wpList P ops (PostA Q n w S (tot fp s.hp.length)) l a w
/-- a drawn region from here on -/
def aB (P : Program) (n : Nat) (ops : Array Oper) (V : List Nat) (Q : Exit → Sta → Prop) (k : Nat) (L : Array Bool) (s : Sta) : Prop :=
  ∀ (w : World) (S : Blks) (fp : Nat → Blks) (a : Act), St w S fp s.ps s.hp → EnvOk a s.env → a.tmps.size = n → a.defers = [] → wpB P .any ops (fun i => V.contains i) (PostA Q n w S (tot fp s.hp.length) .normal) k L a w

variable {Q : Exit → Sta → Prop} {s : Sta} {o : Oper} {rest : List Oper}
theorem aL_nil (h : Q .normal s) : aL P n ops Q [] s := fun w S fp a hst he hn hd => awp_here hst he hn hd h
theorem aL_quietE {β : Type} {v : β → Value} {ps : β → List Per} (c : Bool) (hc : guardOf ops s.env o = some c) (hd : fits n o.dst = true) (hq : c = true → QuietE P n o s v ps) (hin : c = false → Nonempty β)
    (h : ∀ x, aL P n ops Q rest ⟨setEnv s.env o.dst c (v x), (ps x).map (cnd c) ++ s.ps, s.hp⟩) : aL P n ops Q (o :: rest) s := fun w S fp a hst he hn hdf => by
  have hw := wanted_guard hc he
  unfold wpList
  rw [hw]
  cases c with
  | true =>
    rw [if_pos rfl]
    left
    obtain ⟨x, hx, hps⟩ := hq rfl w S fp a hst he hn
    refine wp_of_uponU (uponU_mono (fun u w' ⟨hu, hb⟩ => ?_) (hx w (Below.refl _ _)))
    subst hu
    have hst' := hst.below hb
    have := h x w' S fp (a.put o.dst (v x)) ⟨fun p hp => ?_, hst'.res, hst'.lt, hst'.dj, hst'.slt⟩ (he.set (c := true) (by rw [hn]; exact hd) (v x)) (by rw [put_size]; exact hn) (by rw [put_defers]; exact hdf)
    · exact wpList_mono' (fun e a' w2 hp => hp.trans (Evo.of_below _ _ hb) (fun _ h => .inl h)) _ _ _ this
    · rcases List.mem_append.1 hp with h1 | h1
      · obtain ⟨p0, h2, rfl⟩ := List.mem_map.1 h1
        exact fun _ => p0.mono (hps p0 h2) (fun b hb' => hb.block b (hst.slt b hb')) (fun _ h => h)
      · exact hst'.per p h1
  | false =>
    rw [if_neg Bool.false_ne_true]
    obtain ⟨x⟩ := hin rfl
    exact h x w S fp (a.put o.dst undef) ⟨fun p hp => (List.mem_append.1 hp).elim (fun h1 => by obtain ⟨p0, h2, rfl⟩ := List.mem_map.1 h1; exact fun h => by cases h) (hst.per p), hst.res, hst.lt, hst.dj, hst.slt⟩ (he.set (c := false) (by rw [hn]; exact hd) (v x)) (by rw [put_size]; exact hn) (by rw [put_defers]; exact hdf)
theorem Quiet.toE {v : Value} (h : Quiet P n o s v) : QuietE (β := Unit) P n o s (fun _ => v) (fun _ => []) := fun w S fp a hst he hn =>
  ⟨(), fun w1 hb => h w1 S fp a (hst.below hb) he hn, fun _ h => by cases h⟩
theorem aL_quiet {v : Value} (c : Bool) (hc : guardOf ops s.env o = some c) (hd : fits n o.dst = true) (hq : c = true → Quiet P n o s v)
    (h : aL P n ops Q rest ⟨setEnv s.env o.dst c v, s.ps, s.hp⟩) : aL P n ops Q (o :: rest) s :=
  aL_quietE c hc hd (fun hc => (hq hc).toE) (fun _ => ⟨()⟩) (fun _ => h)
theorem aL_eff {q : Bool} (hc : guardOf ops s.env o = some true) (h : Eff P n o s q (aL P n ops Q rest)) : aL P n ops Q (o :: rest) s := fun w S fp a hst he hn hdf => by
  have hw := wanted_guard hc he
  unfold wpList
  rw [hw, if_pos rfl]
  left
  refine wp_of_uponU (uponU_mono (fun u w' ⟨s', S', fp', hK, hst', he', hE, hg, _⟩ => ?_) (h w S fp a hst he hn))
  exact wpList_mono' (fun e a' w2 hp => hp.trans hE hg) _ _ _ (hK w' S' fp' _ hst' he' (by rw [put_size]; exact hn) (by rw [put_defers]; exact hdf))
theorem awp_region {l : List Oper} {id : Nat} (h : aL P n l.toArray Q l s) : awp P n (.region id l.toArray false) Q s := fun w S fp a hst he hn hd => wp_region_lit (h w S fp a hst he hn hd)

theorem aB_nil {V : List Nat} {L : Array Bool} (hr : Region.ready .any ops L = []) (h : Q .normal s) : aB P n ops V Q 0 L s := fun w S fp a hst he hn hd w1 hb =>
  ⟨hr, (awp_here (hst.below hb) he hn hd h).trans (Evo.of_below _ _ hb) (fun _ h => .inl h)⟩
theorem wpB_mono {V : Nat → Bool} {Q Q' : Act → World → Prop} (hq : ∀ a w, Q a w → Q' a w) : ∀ (k : Nat) (L : Array Bool) (a : Act) (w : World), wpB P .any ops V Q k L a w → wpB P .any ops V Q' k L a w
  | 0, _, _, _, h => fun w1 hb => ⟨(h w1 hb).1, hq _ _ (h w1 hb).2⟩
  | k + 1, _, _, _, h => fun w1 hb => ⟨fun h0 => hq _ _ ((h w1 hb).1 h0), fun i hi => opB_mono (fun a w h => ⟨h.1, wpB_mono hq k _ _ _ h.2⟩) ((h w1 hb).2 i hi)⟩
/-- may operation i be taken first? -/
def canFirst (ops : Array Oper) (V : List Nat) (L : Array Bool) (i : Nat) : Bool :=
  Region.noSelect ops && !V.contains i && closedB .any ops L && Region.free .any ops L i && (Region.ready .any ops L).contains i &&
    V.all fun c => L.getD c true || depB .any ops 60 c i
theorem aB_quietE {β : Type} {V : List Nat} {k : Nat} {L : Array Bool} {v : β → Value} {ps : β → List Per} (i : Nat) (hi : ops[i]? = some o) (hf : canFirst ops V L i = true) (c : Bool) (hc : guardOf ops s.env o = some c) (hd : fits n o.dst = true)
    (hq : c = true → QuietE P n o s v ps) (hin : c = false → Nonempty β)
    (h : ∀ x, aB P n ops V Q k (L.setIfInBounds i true) ⟨setEnv s.env o.dst c (v x), (ps x).map (cnd c) ++ s.ps, s.hp⟩) : aB P n ops V Q (k + 1) L s := fun w S fp a hst he hn hdf => by
  simp only [canFirst, Bool.and_eq_true] at hf
  obtain ⟨⟨⟨⟨⟨f1, f2⟩, f3⟩, f4⟩, f5⟩, f6⟩ := hf
  have hV : ∀ c, (fun i => V.contains i) c = true → L.getD c true = false → depB .any ops 60 c i = true := fun c hVc hL => by
    have := List.all_eq_true.1 f6 c (by simpa using hVc)
    simpa [hL] using this
  have hVi : (fun i => V.contains i) i = false := by simpa using f2
  have hw := wanted_guard (ops := ops) hc he
  cases c with
  | true =>
    obtain ⟨x, hx, hps⟩ := hq rfl w S fp a hst he hn
    refine wpB_first hi (Region.noSelect_spec f1) 60 hVi k L a w (closed_of f3) hV (Region.free_spec hi f4) (by simpa using f5) (v := v x) (.inl ⟨hw, hx⟩) ?_
    refine h x w S fp (a.put o.dst (v x)) ⟨fun p hp => ?_, hst.res, hst.lt, hst.dj, hst.slt⟩ (he.set (c := true) (by rw [hn]; exact hd) (v x)) (by rw [put_size]; exact hn) (by rw [put_defers]; exact hdf)
    rcases List.mem_append.1 hp with h1 | h1
    · obtain ⟨p0, h2, rfl⟩ := List.mem_map.1 h1
      exact fun _ => hps p0 h2
    · exact hst.per p h1
  | false =>
    obtain ⟨x⟩ := hin rfl
    refine wpB_first hi (Region.noSelect_spec f1) 60 hVi k L a w (closed_of f3) hV (Region.free_spec hi f4) (by simpa using f5) (v := undef) (.inr ⟨hw, rfl⟩) ?_
    exact h x w S fp (a.put o.dst undef) ⟨fun p hp => (List.mem_append.1 hp).elim (fun h1 => by obtain ⟨p0, h2, rfl⟩ := List.mem_map.1 h1; exact fun h => by cases h) (hst.per p), hst.res, hst.lt, hst.dj, hst.slt⟩ (he.set (c := false) (by rw [hn]; exact hd) (v x)) (by rw [put_size]; exact hn) (by rw [put_defers]; exact hdf)
theorem aB_quiet {V : List Nat} {k : Nat} {L : Array Bool} {v : Value} (i : Nat) (hi : ops[i]? = some o) (hf : canFirst ops V L i = true) (c : Bool) (hc : guardOf ops s.env o = some c) (hd : fits n o.dst = true)
    (hq : c = true → Quiet P n o s v) (h : aB P n ops V Q k (L.setIfInBounds i true) ⟨setEnv s.env o.dst c v, s.ps, s.hp⟩) : aB P n ops V Q (k + 1) L s :=
  aB_quietE i hi hf c hc hd (fun hc => (hq hc).toE) (fun _ => ⟨()⟩) (fun _ => h)
/-- the one operation that can come up -/
theorem aB_eff {V : List Nat} {k : Nat} {L : Array Bool} {q : Bool} (i : Nat) (hi : ops[i]? = some o) (hr : Region.ready .any ops L = [i]) (hq : (q || V.contains i) = true) (hc : guardOf ops s.env o = some true)
    (h : Eff P n o s q (aB P n ops V Q k (L.setIfInBounds i true))) : aB P n ops V Q (k + 1) L s := fun w S fp a hst he hn hdf w1 hb => by
  refine ⟨fun h0 => (by rw [hr] at h0; cases h0), fun j hj => ?_⟩
  rw [hr] at hj
  obtain rfl := List.mem_singleton.1 hj
  refine ⟨o, hi, ?_⟩
  rw [if_pos (wanted_guard (ops := ops) hc he)]
  refine uponU_mono (fun u w' ⟨s', S', fp', hK, hst', he', hE, hg, hqb⟩ => ⟨fun hVj => hqb (by have h0 : V.contains j = false := hVj; rw [h0, Bool.or_false] at hq; exact hq), ?_⟩) (h w1 S fp a (hst.below hb) he hn)
  refine wpB_mono (fun a2 w2 hp => (hp.trans hE hg).trans (Evo.of_below _ _ hb) (fun _ h => .inl h)) _ _ _ _ (hK w' S' fp' _ hst' he' (by rw [put_size]; exact hn) (by rw [put_defers]; exact hdf))
theorem awp_drawn {l : List Oper} {id : Nat} (V : List Nat) (hm : P.follows .mixedOrders = true) (h : aB P n l.toArray V Q l.length (Array.replicate l.length false) s) : awp P n (.region id l.toArray true) Q s := fun w S fp a hst he hn hd => by
  refine wp_region_any hm ?_
  have hb : Below w.heap.size w w.drew := (Below.refl _ _).drew
  have h1 := h w.drew S fp a (hst.below hb) he hn hd
  have h2 := wpAny_of_wpB (Q' := PostA Q n w S (tot fp s.hp.length)) (fun a' w' hp => PostA.trans (Evo.of_below _ _ hb) (fun _ h => .inl h) hp) _ _ _ _ h1
  simpa using h2
end
end Go.Sy
