/- A logic of states: calls with resources. No condition. -/
import Derived.Test.YtpgcoceggacplaaGreatDoorSyNew
set_option linter.unusedVariables false
set_option linter.unusedSimpArgs false
set_option maxRecDepth 20000
namespace Go.Sy
open Go.RowKit Go.Lp
/-- where a place stands in a list of places -/
def place : List Nat → Nat → Option Nat
  | [], _ => none
  | k :: l, i => if k == i then some 0 else (place l i).map (· + 1)
theorem place_some : ∀ (l : List Nat) (i k : Nat), place l i = some k → k < l.length ∧ l.getD k 0 = i
  | [], _, _, h => by cases h
  | a :: l, i, k, h => by
    unfold place at h
    split at h
    · rename_i hai
      obtain rfl : a = i := by simpa using hai
      simp only [Option.some.injEq] at h
      subst h
      exact ⟨by simp, rfl⟩
    · cases hp : place l i with
      | none => rw [hp] at h; cases h
      | some m =>
        rw [hp] at h
        simp only [Option.map_some, Option.some.injEq] at h
        subst h
        obtain ⟨h1, h2⟩ := place_some l i m hp
        exact ⟨by simp; omega, by simpa [List.getD] using h2⟩
theorem place_none : ∀ (l : List Nat) (i : Nat), place l i = none → i ∉ l
  | [], _, _ => by simp
  | a :: l, i, h => by
    unfold place at h
    split at h
    · cases h
    · rename_i hai
      have hne : ¬ a = i := by simpa using hai
      cases hp : place l i with
      | none => simp [place_none l i hp]; exact fun h => hne h.symm
      | some m => rw [hp] at h; cases h
/-- put resources back to their places; further ones go to the end -/
def putB (lh : List Nat) (new : List Res) : Nat → List Res → List Res
  | i, r :: hp => (match place lh i with
    | some k => new.getD k emp
    | none => r) :: putB lh new (i + 1) hp
  | _, [] => new.drop lh.length
theorem putB_get (lh : List Nat) (new : List Res) : ∀ (hp : List Res) (i j : Nat), (putB lh new i hp)[j]? = if j < hp.length then (match place lh (i + j) with
    | some k => some (new.getD k emp)
    | none => hp[j]?) else new[j - hp.length + lh.length]?
  | [], i, j => by simp [putB, List.getElem?_drop, Nat.add_comm]
  | r :: hp, i, 0 => by
    simp only [putB, List.getElem?_cons_zero, List.length_cons, Nat.zero_lt_succ, if_true, Nat.add_zero]
    cases place lh i <;> rfl
  | r :: hp, i, j + 1 => by
    simp only [putB, List.getElem?_cons_succ, putB_get lh new hp (i + 1) j, List.length_cons, Nat.add_lt_add_iff_right]
    rw [show i + 1 + j = i + (j + 1) by omega, show j + 1 - (hp.length + 1) = j - hp.length by omega]
theorem putB_len (lh : List Nat) (new : List Res) : ∀ (hp : List Res) (i : Nat), (putB lh new i hp).length = hp.length + (new.length - lh.length)
  | [], i => by simp [putB]
  | r :: hp, i => by simp [putB, putB_len lh new hp (i + 1)]; omega
/-- the footprints behind it -/
def fpB (lh : List Nat) (m k : Nat) (fp fp' : Nat → Blks) : Nat → Blks := fun i =>
  if i < m then (match place lh i with
    | some j => if j < k then fp' j else fun _ => False
    | none => fp i) else fp' (i - m + lh.length)
section
variable {w w' : World} {S S' : Blks} {fp fp' : Nat → Blks} {ps ps' : List Per} {hp new : List Res}
theorem St.back (h : St w S fp ps hp) (lp lh : List Nat) (ok : okH hp lh = true) (h' : St w' S' fp' ps' new) (hE : Evo w S (tot (fun k => fp (lh.getD k 0)) (Sy.keepH hp lh).length) w' S')
    (hg : ∀ b, tot fp' new.length b → tot (fun k => fp (lh.getD k 0)) (Sy.keepH hp lh).length b ∨ w.heap.size ≤ b) :
    St w' S' (fpB lh hp.length new.length fp fp') (ps' ++ ps) (putB lh new 0 hp) ∧ (∀ b, tot (fpB lh hp.length new.length fp fp') (putB lh new 0 hp).length b → tot fp hp.length b ∨ w.heap.size ≤ b) := by
  have ok' := ok
  simp only [okH, Bool.and_eq_true, decide_eq_true_eq] at ok
  have hlt : ∀ k, k < lh.length → lh.getD k 0 < hp.length := fun k hk => by simpa [List.getD, hk] using List.all_eq_true.1 ok.1 _ (List.getElem_mem hk)
  have hkl : (Sy.keepH hp lh).length = lh.length := by simp [Sy.keepH]
  rw [hkl] at hE hg
  -- a block that a resource that stays behind owns
  have out : ∀ i, i < hp.length → place lh i = none → ∀ b, fp i b → ¬ tot (fun k => fp (lh.getD k 0)) lh.length b := fun i hi hpl b hb ⟨k, hk, hbk⟩ => by
    have hne : i ≠ lh.getD k 0 := fun e => by
      refine place_none lh i hpl ?_
      rw [e]
      simp [List.getD, hk]
    exact h.dj i _ hi (hlt k hk) hne b hb hbk
  have hS : ∀ b, S b → w'.heap[b]? = w.heap[b]? := fun b hb => hE.block b (h.slt b hb) (fun ⟨k, hk, hbk⟩ => (h.lt _ (hlt k hk) b hbk).2 hb)
  have fpcase : ∀ i, i < (putB lh new 0 hp).length → ∀ b, fpB lh hp.length new.length fp fp' i b →
      (∃ j, j < new.length ∧ fp' j b ∧ ((i < hp.length ∧ place lh i = some j) ∨ (hp.length ≤ i ∧ j = i - hp.length + lh.length))) ∨ (i < hp.length ∧ place lh i = none ∧ fp i b) := fun i hi b hb => by
    unfold fpB at hb
    rw [putB_len] at hi
    by_cases him : i < hp.length
    · rw [if_pos him] at hb
      cases hpl : place lh i with
      | some j =>
        rw [hpl] at hb
        dsimp only at hb
        by_cases hjk : j < new.length
        · rw [if_pos hjk] at hb; exact .inl ⟨j, hjk, hb, .inl ⟨him, rfl⟩⟩
        · rw [if_neg hjk] at hb; exact hb.elim
      | none =>
        rw [hpl] at hb
        exact .inr ⟨him, rfl, hb⟩
    · rw [if_neg him] at hb
      exact .inl ⟨i - hp.length + lh.length, by omega, hb, .inr ⟨by omega, rfl⟩⟩
  refine ⟨⟨fun p hp' => ?_, fun i R hR => ?_, fun i hi b hb => ?_, fun i j hi hj hne b hbi hbj => ?_, h'.slt⟩, fun b ⟨i, hi, hb⟩ => ?_⟩
  · rcases List.mem_append.1 hp' with h1 | h1
    · exact h'.per p h1
    · exact p.mono (h.per p h1) hS hE.more
  · rw [putB_get] at hR
    unfold fpB
    split at hR
    · rename_i him
      rw [if_pos him]
      rw [Nat.zero_add] at hR
      cases hpl : place lh i with
      | some j =>
        rw [hpl] at hR
        simp only [Option.some.injEq] at hR
        subst hR
        dsimp only
        by_cases hjk : j < new.length
        · rw [if_pos hjk]
          refine h'.res j _ ?_
          simp [List.getD, hjk]
        · rw [if_neg hjk]
          have : new.getD j emp = emp := by simp [List.getD, Nat.not_lt.1 hjk]
          rw [this]
          exact fun b hb => hb
      | none =>
        rw [hpl] at hR
        dsimp only at hR ⊢
        exact R.mono (h.res i R hR) (fun b hb => hE.block b (h.lt i him b hb).1 (out i him hpl b hb)) hS hE.more
    · rename_i him
      rw [if_neg him]
      exact h'.res _ R hR
  · rcases fpcase i hi b hb with ⟨j, hj, hbj, _⟩ | ⟨him, hpl, hb'⟩
    · exact h'.lt j hj b hbj
    · refine ⟨Nat.lt_of_lt_of_le (h.lt i him b hb').1 hE.size, fun hS' => ?_⟩
      rcases hE.new b hS' with h1 | h1 | h1
      · exact (h.lt i him b hb').2 h1
      · exact out i him hpl b hb' h1
      · have := (h.lt i him b hb').1; omega
  · have key : ∀ i j, i < (putB lh new 0 hp).length → j < (putB lh new 0 hp).length → i ≠ j → ∀ b, (∃ k, k < new.length ∧ fp' k b ∧ ((i < hp.length ∧ place lh i = some k) ∨ (hp.length ≤ i ∧ k = i - hp.length + lh.length))) → (j < hp.length ∧ place lh j = none ∧ fp j b) → False := fun i j hi hj hne b ⟨k, hk, hb, _⟩ ⟨hjm, hpl, hbj⟩ => by
      rcases hg b ⟨k, hk, hb⟩ with h1 | h1
      · exact out j hjm hpl b hbj h1
      · have := (h.lt j hjm b hbj).1; omega
    rcases fpcase i hi b hbi with h1 | h1
    · rcases fpcase j hj b hbj with h2 | h2
      · obtain ⟨k, hk, hb1, hk'⟩ := h1
        obtain ⟨m, hm, hb2, hm'⟩ := h2
        have hkm : k ≠ m := fun e => by
          subst e
          rcases hk' with ⟨a1, a2⟩ | ⟨a1, a2⟩
          · rcases hm' with ⟨c1, c2⟩ | ⟨c1, c2⟩
            · have := (place_some _ _ _ a2).2; have := (place_some _ _ _ c2).2; omega
            · have := (place_some _ _ _ a2).1; omega
          · rcases hm' with ⟨c1, c2⟩ | ⟨c1, c2⟩
            · have := (place_some _ _ _ c2).1; omega
            · omega
        exact h'.dj k m hk hm hkm b hb1 hb2
      · exact key i j hi hj hne b h1 h2
    · rcases fpcase j hj b hbj with h2 | h2
      · exact key j i hj hi (Ne.symm hne) b h2 h1
      · exact h.dj i j h1.1 h2.1 hne b h1.2.2 h2.2.2
  · rcases fpcase i hi b hb with ⟨j, hj, hbj, _⟩ | ⟨him, hpl, hb'⟩
    · rcases hg b ⟨j, hj, hbj⟩ with ⟨k, hk, hbk⟩ | h1
      · exact .inl ⟨_, hlt k hk, hbk⟩
      · exact .inr h1
    · exact .inl ⟨i, him, hb'⟩
end
section
variable {P : Program} {n : Nat} {env : Env} {ps : List Per} {hp : List Res} {ty : TypeId} {pos : String} {af : Array Edge} {gd : Option (Nat × Bool)} {K : Sta → Prop}
theorem tot_nil (fp : Nat → Blks) (b : Nat) : ¬ tot fp 0 b := fun ⟨_, hi, _⟩ => by omega
/-- a call with resources; the function is a value with what it has captured -/
theorem e_callC {t : Nat} {f : FuncId} {g : Operand} {caps : List Value} {l : List Operand} {ts : Array TypeId} {vs : List Value} {q : Bool} {R : Value → List Per → List Res → Prop} (lp lh : List Nat) (hf : callOk P f = true) (hgv : ev env g = some (true, .func (.func f) #[] caps.toArray)) (hx : evs env l = some vs) (ht : fits n (some t) = true) (ok : okH hp lh = true)
    (hq : (!q || lh.isEmpty) = true) (hc : Con P f (vs ++ caps) (keepP ps lp) (keepH hp lh) R) (hK : ∀ v ps' hp', R v ps' hp' → K ⟨(t, true, v) :: env, ps' ++ ps, putB lh hp' 0 hp⟩) :
    Eff P n ⟨some t, .call ⟨.value g, l.toArray, ts⟩, ty, pos, af, gd⟩ ⟨env, ps, hp⟩ q K := fun w S fp a hst he hn => by
  rw [exec_call hf (he.val hgv rfl) (evs_map he l vs hx)]
  obtain ⟨k1, k2⟩ := hst.keepH lp lh ok
  have hcc := hc w S _ k1
  rw [show (vs ++ caps).toArray = vs.toArray ++ caps.toArray by simp] at hcc
  refine hcc.mono fun e w' ⟨v, ps', hp', S', fp', he', hR, hst', hE, hg⟩ => ⟨v, he', ?_⟩
  obtain ⟨m1, m2⟩ := hst.back lp lh ok hst' hE hg
  refine ⟨_, S', _, hK v ps' hp' hR, m1, ?_, hE.wider k2, m2, fun hq' => ?_⟩
  · exact he.put (g := true) (by rw [hn]; simpa [fits] using ht) v
  · rw [hq'] at hq
    have : lh = [] := by simpa using hq
    subst this
    exact hE.toX (fun b hb => tot_nil _ b hb)
theorem e_call {t : Nat} {f : FuncId} {l : List Operand} {ts : Array TypeId} {vs : List Value} {q : Bool} {R : Value → List Per → List Res → Prop} (lp lh : List Nat) (hf : callOk P f = true) (hx : evs env l = some vs) (ht : fits n (some t) = true) (ok : okH hp lh = true)
    (hq : (!q || lh.isEmpty) = true) (hc : Con P f vs (keepP ps lp) (keepH hp lh) R) (hK : ∀ v ps' hp', R v ps' hp' → K ⟨(t, true, v) :: env, ps' ++ ps, putB lh hp' 0 hp⟩) :
    Eff P n ⟨some t, .call ⟨.value (.func f), l.toArray, ts⟩, ty, pos, af, gd⟩ ⟨env, ps, hp⟩ q K :=
  e_callC (caps := []) lp lh hf rfl hx ht ok hq (by rw [List.append_nil]; exact hc) hK
end
end Go.Sy
