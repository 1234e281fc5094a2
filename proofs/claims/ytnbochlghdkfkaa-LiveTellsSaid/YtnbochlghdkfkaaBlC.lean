/- A logic of states: two resources as one. No condition. -/
import Derived.Test.YtnbochlghdkfkaaBlB
import Derived.Laws.MakeOwn
import Derived.Great.BuildSlice
import Derived.Laws.Cover3
set_option linter.unusedVariables false
set_option linter.unusedSimpArgs false
set_option maxRecDepth 20000
namespace Go.Sy
open Go.RowKit Go.Lp
/-- where a place stands in a list of places -/
def place : List Nat → Nat → Option Nat
  | [], _ => none
  | k :: l, i => if k == i then some 0 else (place l i).map (· + 1)
theorem place_some : ∀ (l : List Nat) (i k : Nat), place l i = some k → k < l.length ∧ l.getD k 0 = i
  | [], _, _, h => by cases h
  | a :: l, i, k, h => by
    unfold place at h
    split at h
    · rename_i hai
      obtain rfl : a = i := by simpa using hai
      simp only [Option.some.injEq] at h
      subst h
      exact ⟨by simp, rfl⟩
    · cases hp : place l i with
      | none => rw [hp] at h; cases h
      | some m =>
        rw [hp] at h
        simp only [Option.map_some, Option.some.injEq] at h
        subst h
        obtain ⟨h1, h2⟩ := place_some l i m hp
        exact ⟨by simp; omega, by simpa [List.getD] using h2⟩
theorem place_none : ∀ (l : List Nat) (i : Nat), place l i = none → i ∉ l
  | [], _, _ => by simp
  | a :: l, i, h => by
    unfold place at h
    split at h
    · cases h
    · rename_i hai
      have hne : ¬ a = i := by simpa using hai
      cases hp : place l i with
      | none => simp [place_none l i hp]; exact fun h => hne h.symm
      | some m => rw [hp] at h; cases h
/-- put resources back to their places; further ones go to the end -/
def putB (lh : List Nat) (new : List Res) : Nat → List Res → List Res
  | i, r :: hp => (match place lh i with
    | some k => new.getD k emp
    | none => r) :: putB lh new (i + 1) hp
  | _, [] => new.drop lh.length
theorem putB_get (lh : List Nat) (new : List Res) : ∀ (hp : List Res) (i j : Nat), (putB lh new i hp)[j]? = if j < hp.length then (match place lh (i + j) with
    | some k => some (new.getD k emp)
    | none => hp[j]?) else new[j - hp.length + lh.length]?
  | [], i, j => by simp [putB, List.getElem?_drop, Nat.add_comm]
  | r :: hp, i, 0 => by
    simp only [putB, List.getElem?_cons_zero, List.length_cons, Nat.zero_lt_succ, if_true, Nat.add_zero]
    cases place lh i <;> rfl
  | r :: hp, i, j + 1 => by
    simp only [putB, List.getElem?_cons_succ, putB_get lh new hp (i + 1) j, List.length_cons, Nat.add_lt_add_iff_right]
    rw [show i + 1 + j = i + (j + 1) by omega, show j + 1 - (hp.length + 1) = j - hp.length by omega]
theorem putB_len (lh : List Nat) (new : List Res) : ∀ (hp : List Res) (i : Nat), (putB lh new i hp).length = hp.length + (new.length - lh.length)
  | [], i => by simp [putB]
  | r :: hp, i => by simp [putB, putB_len lh new hp (i + 1)]; omega
/-- the footprints behind it -/
def fpB (lh : List Nat) (m k : Nat) (fp fp' : Nat → Blks) : Nat → Blks := fun i =>
  if i < m then (match place lh i with
    | some j => if j < k then fp' j else fun _ => False
    | none => fp i) else fp' (i - m + lh.length)
section
variable {w w' : World} {S S' : Blks} {fp fp' : Nat → Blks} {ps ps' : List Per} {hp new : List Res}
theorem St.back (h : St w S fp ps hp) (lp lh : List Nat) (ok : okH hp lh = true) (h' : St w' S' fp' ps' new) (hE : Evo w S (tot (fun k => fp (lh.getD k 0)) (Sy.keepH hp lh).length) w' S')
    (hg : ∀ b, tot fp' new.length b → tot (fun k => fp (lh.getD k 0)) (Sy.keepH hp lh).length b ∨ w.heap.size ≤ b) :
    St w' S' (fpB lh hp.length new.length fp fp') (ps' ++ ps) (putB lh new 0 hp) ∧ (∀ b, tot (fpB lh hp.length new.length fp fp') (putB lh new 0 hp).length b → tot fp hp.length b ∨ w.heap.size ≤ b) := by
  have ok' := ok
  simp only [okH, Bool.and_eq_true, decide_eq_true_eq] at ok
  have hlt : ∀ k, k < lh.length → lh.getD k 0 < hp.length := fun k hk => by simpa [List.getD, hk] using List.all_eq_true.1 ok.1 _ (List.getElem_mem hk)
  have hkl : (Sy.keepH hp lh).length = lh.length := by simp [Sy.keepH]
  rw [hkl] at hE hg
  -- a block that a resource that stays behind owns
  have out : ∀ i, i < hp.length → place lh i = none → ∀ b, fp i b → ¬ tot (fun k => fp (lh.getD k 0)) lh.length b := fun i hi hpl b hb ⟨k, hk, hbk⟩ => by
    have hne : i ≠ lh.getD k 0 := fun e => by
      refine place_none lh i hpl ?_
      rw [e]
      simp [List.getD, hk]
    exact h.dj i _ hi (hlt k hk) hne b hb hbk
  have hS : ∀ b, S b → w'.heap[b]? = w.heap[b]? := fun b hb => hE.block b (h.slt b hb) (fun ⟨k, hk, hbk⟩ => (h.lt _ (hlt k hk) b hbk).2 hb)
  have fpcase : ∀ i, i < (putB lh new 0 hp).length → ∀ b, fpB lh hp.length new.length fp fp' i b →
      (∃ j, j < new.length ∧ fp' j b ∧ ((i < hp.length ∧ place lh i = some j) ∨ (hp.length ≤ i ∧ j = i - hp.length + lh.length))) ∨ (i < hp.length ∧ place lh i = none ∧ fp i b) := fun i hi b hb => by
    unfold fpB at hb
    rw [putB_len] at hi
    by_cases him : i < hp.length
    · rw [if_pos him] at hb
      cases hpl : place lh i with
      | some j =>
        rw [hpl] at hb
        dsimp only at hb
        by_cases hjk : j < new.length
        · rw [if_pos hjk] at hb; exact .inl ⟨j, hjk, hb, .inl ⟨him, rfl⟩⟩
        · rw [if_neg hjk] at hb; exact hb.elim
      | none =>
        rw [hpl] at hb
        exact .inr ⟨him, rfl, hb⟩
    · rw [if_neg him] at hb
      exact .inl ⟨i - hp.length + lh.length, by omega, hb, .inr ⟨by omega, rfl⟩⟩
  refine ⟨⟨fun p hp' => ?_, fun i R hR => ?_, fun i hi b hb => ?_, fun i j hi hj hne b hbi hbj => ?_, h'.slt⟩, fun b ⟨i, hi, hb⟩ => ?_⟩
  · rcases List.mem_append.1 hp' with h1 | h1
    · exact h'.per p h1
    · exact p.mono (h.per p h1) hS hE.more
  · rw [putB_get] at hR
    unfold fpB
    split at hR
    · rename_i him
      rw [if_pos him]
      rw [Nat.zero_add] at hR
      cases hpl : place lh i with
      | some j =>
        rw [hpl] at hR
        simp only [Option.some.injEq] at hR
        subst hR
        dsimp only
        by_cases hjk : j < new.length
        · rw [if_pos hjk]
          refine h'.res j _ ?_
          simp [List.getD, hjk]
        · rw [if_neg hjk]
          have : new.getD j emp = emp := by simp [List.getD, Nat.not_lt.1 hjk]
          rw [this]
          exact fun b hb => hb
      | none =>
        rw [hpl] at hR
        dsimp only at hR ⊢
        exact R.mono (h.res i R hR) (fun b hb => hE.block b (h.lt i him b hb).1 (out i him hpl b hb)) hS hE.more
    · rename_i him
      rw [if_neg him]
      exact h'.res _ R hR
  · rcases fpcase i hi b hb with ⟨j, hj, hbj, _⟩ | ⟨him, hpl, hb'⟩
    · exact h'.lt j hj b hbj
    · refine ⟨Nat.lt_of_lt_of_le (h.lt i him b hb').1 hE.size, fun hS' => ?_⟩
      rcases hE.new b hS' with h1 | h1 | h1
      · exact (h.lt i him b hb').2 h1
      · exact out i him hpl b hb' h1
      · have := (h.lt i him b hb').1; omega
  · have key : ∀ i j, i < (putB lh new 0 hp).length → j < (putB lh new 0 hp).length → i ≠ j → ∀ b, (∃ k, k < new.length ∧ fp' k b ∧ ((i < hp.length ∧ place lh i = some k) ∨ (hp.length ≤ i ∧ k = i - hp.length + lh.length))) → (j < hp.length ∧ place lh j = none ∧ fp j b) → False := fun i j hi hj hne b ⟨k, hk, hb, _⟩ ⟨hjm, hpl, hbj⟩ => by
      rcases hg b ⟨k, hk, hb⟩ with h1 | h1
      · exact out j hjm hpl b hbj h1
      · have := (h.lt j hjm b hbj).1; omega
    rcases fpcase i hi b hbi with h1 | h1
    · rcases fpcase j hj b hbj with h2 | h2
      · obtain ⟨k, hk, hb1, hk'⟩ := h1
        obtain ⟨m, hm, hb2, hm'⟩ := h2
        have hkm : k ≠ m := fun e => by
          subst e
          rcases hk' with ⟨a1, a2⟩ | ⟨a1, a2⟩
          · rcases hm' with ⟨c1, c2⟩ | ⟨c1, c2⟩
            · have := (place_some _ _ _ a2).2; have := (place_some _ _ _ c2).2; omega
            · have := (place_some _ _ _ a2).1; omega
          · rcases hm' with ⟨c1, c2⟩ | ⟨c1, c2⟩
            · have := (place_some _ _ _ c2).1; omega
            · omega
        exact h'.dj k m hk hm hkm b hb1 hb2
      · exact key i j hi hj hne b h1 h2
    · rcases fpcase j hj b hbj with h2 | h2
      · exact key j i hj hi (Ne.symm hne) b h2 h1
      · exact h.dj i j h1.1 h2.1 hne b h1.2.2 h2.2.2
  · rcases fpcase i hi b hb with ⟨j, hj, hbj, _⟩ | ⟨him, hpl, hb'⟩
    · rcases hg b ⟨j, hj, hbj⟩ with ⟨k, hk, hbk⟩ | h1
      · exact .inl ⟨_, hlt k hk, hbk⟩
      · exact .inr h1
    · exact .inl ⟨i, him, hb'⟩
end
section
variable {P : Program} {n : Fr} {env : Env} {ps : List Per} {hp : List Res} {ty : TypeId} {pos : String} {af : Array Edge} {gd : Option (Nat × Bool)} {K : Sta → Prop}
theorem tot_nil (fp : Nat → Blks) (b : Nat) : ¬ tot fp 0 b := fun ⟨_, hi, _⟩ => by omega
/-- a call with resources; the function is a value with what it has captured -/
theorem e_callC {t : Nat} {f : FuncId} {g : Operand} {caps : List Value} {l : List Operand} {ts : Array TypeId} {vs : List Value} {q : Bool} {R : Value → List Per → List Res → Prop} (lp lh : List Nat) (hf : callOk P f = true) (hgv : ev env g = some (true, .func (.func f) #[] caps.toArray)) (hx : evs env l = some vs) (ht : fits n (some t) = true) (ok : okH hp lh = true)
    (hq : (!q || lh.isEmpty) = true) (hc : Con P f (vs ++ caps) (keepP ps lp) (keepH hp lh) R) (hK : ∀ v ps' hp', R v ps' hp' → K ⟨(t, true, v) :: env, ps' ++ ps, putB lh hp' 0 hp⟩) :
    Eff P n ⟨some t, .call ⟨.value g, l.toArray, ts⟩, ty, pos, af, gd⟩ ⟨env, ps, hp⟩ q K := fun w S fp a hst he hn => by
  rw [exec_call hf (he.val hgv rfl) (evs_map he l vs hx)]
  obtain ⟨k1, k2⟩ := hst.keepH lp lh ok
  have hcc := hc w S _ k1
  rw [show (vs ++ caps).toArray = vs.toArray ++ caps.toArray by simp] at hcc
  refine hcc.mono fun e w' ⟨v, ps', hp', S', fp', he', hR, hst', hE, hg⟩ => ⟨v, he', ?_⟩
  obtain ⟨m1, m2⟩ := hst.back lp lh ok hst' hE hg
  refine ⟨_, S', _, hK v ps' hp' hR, m1, ?_, hE.wider k2, m2, fun hq' => ?_⟩
  · exact he.put (g := true) (by rw [hn]; simpa [fits] using ht) v
  · rw [hq'] at hq
    have : lh = [] := by simpa using hq
    subst this
    exact hE.toX (fun b hb => tot_nil _ b hb)
theorem e_call {t : Nat} {f : FuncId} {l : List Operand} {ts : Array TypeId} {vs : List Value} {q : Bool} {R : Value → List Per → List Res → Prop} (lp lh : List Nat) (hf : callOk P f = true) (hx : evs env l = some vs) (ht : fits n (some t) = true) (ok : okH hp lh = true)
    (hq : (!q || lh.isEmpty) = true) (hc : Con P f vs (keepP ps lp) (keepH hp lh) R) (hK : ∀ v ps' hp', R v ps' hp' → K ⟨(t, true, v) :: env, ps' ++ ps, putB lh hp' 0 hp⟩) :
    Eff P n ⟨some t, .call ⟨.value (.func f), l.toArray, ts⟩, ty, pos, af, gd⟩ ⟨env, ps, hp⟩ q K :=
  e_callC (caps := []) lp lh hf rfl hx ht ok hq (by rw [List.append_nil]; exact hc) hK
end
end Go.Sy
namespace Go.Sy
open Go.RowKit Go.Lp
section
variable {w w' : World} {S S' : Blks} {fp : Nat → Blks} {ps : List Per} {hp : List Res}
/-- a resource becomes another one, on its blocks or new ones -/
theorem St.change2 (h : St w S fp ps hp) {i : Nat} (hi : i < hp.length) (hs : w.heap.size ≤ w'.heap.size) (hw : ∀ b, b < w.heap.size → ¬ fp i b → w'.heap[b]? = w.heap[b]?) (R : Res) (F : Blks) (hR : R.holds w' S F)
    (hF : ∀ b, F b → (fp i b ∨ w.heap.size ≤ b) ∧ b < w'.heap.size) : St w' S (fun k => if k = i then F else fp k) ps (hp.set i R) := by
  have hS : ∀ b, S b → w'.heap[b]? = w.heap[b]? := fun b hb => hw b (h.slt b hb) (fun hf => (h.lt i hi b hf).2 hb)
  refine ⟨fun p hp' => p.mono (h.per p hp') hS (fun _ h => h), fun j R' hj => ?_, fun j hj b hb => ?_, fun j k hj hk hne b hbj hbk => ?_, fun b hb => Nat.lt_of_lt_of_le (h.slt b hb) hs⟩
  · by_cases hij : i = j
    · subst hij
      rw [List.getElem?_set_self hi] at hj
      simp only [Option.some.injEq] at hj
      subst hj; rw [if_pos rfl]; exact hR
    · rw [List.getElem?_set_ne hij] at hj
      have hjl := (List.getElem?_eq_some_iff.1 hj).1
      rw [if_neg (Ne.symm hij)]
      exact R'.mono (h.res j R' hj) (fun b hb => hw b (h.lt j hjl b hb).1 (fun hf => h.dj i j hi hjl hij b hf hb)) hS (fun _ h => h)
  · have hj' : j < hp.length := by simpa using hj
    by_cases hij : j = i
    · rw [if_pos hij] at hb
      refine ⟨(hF b hb).2, fun hS' => ?_⟩
      rcases (hF b hb).1 with h1 | h1
      · exact (h.lt i hi b h1).2 hS'
      · have := h.slt b hS'; omega
    · rw [if_neg hij] at hb
      exact ⟨Nat.lt_of_lt_of_le (h.lt j hj' b hb).1 hs, (h.lt j hj' b hb).2⟩
  · have hj' : j < hp.length := by simpa using hj
    have hk' : k < hp.length := by simpa using hk
    have key : ∀ m, m < hp.length → m ≠ i → fp m b → F b → False := fun m hm hmi hbm hbF => by
      rcases (hF b hbF).1 with h1 | h1
      · exact h.dj m i hm hi hmi b hbm h1
      · have := (h.lt m hm b hbm).1; omega
    by_cases hji : j = i
    · rw [if_pos hji] at hbj
      rw [if_neg (by omega)] at hbk
      exact key k hk' (by omega) hbk hbj
    · rw [if_neg hji] at hbj
      by_cases hki : k = i
      · rw [if_pos hki] at hbk; exact key j hj' hji hbj hbk
      · rw [if_neg hki] at hbk; exact h.dj j k hj' hk' hne b hbj hbk
theorem St.drop (h : St w S fp ps hp) (i : Nat) : St w S (fun k => if k = i then (fun _ => False) else fp k) ps (hp.set i emp) := by
  by_cases hi : i < hp.length
  · exact h.change2 hi (Nat.le_refl _) (fun _ _ _ => rfl) emp _ (fun b hb => hb) (fun b hb => hb.elim)
  · rw [List.set_eq_of_length_le (Nat.not_lt.1 hi)]
    refine ⟨h.per, fun j R hj => ?_, fun j hj b hb => ?_, fun j k hj hk hne b hbj hbk => ?_, h.slt⟩
    · rw [if_neg (by have := (List.getElem?_eq_some_iff.1 hj).1; omega)]; exact h.res j R hj
    · rw [if_neg (by omega)] at hb; exact h.lt j hj b hb
    · rw [if_neg (by omega)] at hbj hbk; exact h.dj j k hj hk hne b hbj hbk
end
/-- an own slice: nil, or at the head of a block of its own -/
def OwnS (v : Value) (E : TypeId) (sz : Nat) (rows : List (List D)) : Res :=
  ⟨fun w S F => (v = .slice none 0 0 ∧ rows = [] ∧ ∀ b, ¬ F b) ∨ ∃ b cap, v = .slice (some ⟨b, 0, none⟩) rows.length cap ∧ (Own b E sz cap rows).holds w S F,
   fun h h1 h2 h3 => h.imp id fun ⟨b, cap, hv, ho⟩ => ⟨b, cap, hv, (Own b E sz cap rows).mono ho h1 h2 h3⟩⟩
/-- cells that stand for a row -/
inductive RC (ps : List Per) : List Value → List D → Prop where
  | nil : RC ps [] []
  | v {u : Value} {us : List Value} {ds : List D} : u.oneCell' = true → RC ps us ds → RC ps (u :: us) (.v u :: ds)
  | s {u : Value} {d : D} {us : List Value} {ds : List D} : u.oneCell' = true → Sh u d ∈ ps → RC ps us ds → RC ps (u :: us) (d :: ds)
theorem RC.get {ps : List Per} {us : List Value} {ds : List D} (h : RC ps us ds) : us.length = ds.length ∧ (∀ u ∈ us, u.oneCell' = true) ∧ ∀ (j : Nat) (d : D), ds[j]? = some d → ∃ u, us[j]? = some u ∧ (d = .v u ∨ Sh u d ∈ ps) := by
  induction h with
  | nil => exact ⟨rfl, by simp, fun j d h => by simp at h⟩
  | v ho _ ih =>
    obtain ⟨h1, h2, h3⟩ := ih
    refine ⟨by simp [h1], fun u hu => ?_, fun j d hj => ?_⟩
    · rcases List.mem_cons.1 hu with rfl | hu
      · exact ho
      · exact h2 u hu
    · cases j with
      | zero => simp only [List.getElem?_cons_zero, Option.some.injEq] at hj; exact ⟨_, rfl, .inl hj.symm⟩
      | succ j => exact h3 j d hj
  | s ho hs _ ih =>
    obtain ⟨h1, h2, h3⟩ := ih
    refine ⟨by simp [h1], fun u hu => ?_, fun j d hj => ?_⟩
    · rcases List.mem_cons.1 hu with rfl | hu
      · exact ho
      · exact h2 u hu
    · cases j with
      | zero => simp only [List.getElem?_cons_zero, Option.some.injEq] at hj; subst hj; exact ⟨_, rfl, .inr hs⟩
      | succ j => exact h3 j d hj
/-- the cells of several rows -/
inductive RCs (ps : List Per) (sz : Nat) : List Value → List (List D) → Prop where
  | nil : RCs ps sz [] []
  | cons {us vs : List Value} {r : List D} {rows : List (List D)} : us.length = sz → RC ps us r → RCs ps sz vs rows → RCs ps sz (us ++ vs) (r :: rows)
theorem RCs.rows {ps : List Per} {sz : Nat} {cs : List Value} {rows : List (List D)} (h : RCs ps sz cs rows) {w : World} {S : Blks} (hp : ∀ p ∈ ps, p.holds w S) : RowsAt w S sz cs rows := by
  induction h with
  | nil => exact ⟨by simp, by simp, by simp, by simp⟩
  | @cons us vs r rows hl hr _ ih =>
    obtain ⟨h1, h2, h3⟩ := hr.get
    refine ⟨by simp [ih.len, hl, Nat.add_mul, Nat.add_comm], fun i r' hi => ?_, fun v hv => ?_, fun i j r' d hi hj => ?_⟩
    · cases i with
      | zero => simp only [List.getElem?_cons_zero, Option.some.injEq] at hi; subst hi; omega
      | succ i => exact ih.row i r' hi
    · rcases List.mem_append.1 hv with h | h
      · exact h2 v h
      · exact ih.one v h
    · cases i with
      | zero =>
        simp only [List.getElem?_cons_zero, Option.some.injEq] at hi; subst hi
        obtain ⟨u, hu, hd⟩ := h3 j d hj
        refine ⟨u, ?_, ?_⟩
        · rw [Nat.zero_mul, Nat.zero_add, List.getElem?_append_left (List.getElem?_eq_some_iff.1 hu).1]; exact hu
        · rcases hd with rfl | hd
          · exact .v u
          · exact hp _ hd
      | succ i =>
        obtain ⟨u, hu, hr⟩ := ih.rep i j r' d hi hj
        refine ⟨u, ?_, hr⟩
        rw [List.getElem?_append_right (by rw [Nat.add_mul]; omega), hl, show (i + 1) * sz + j - sz = i * sz + j by rw [Nat.add_mul]; omega]; exact hu
theorem RowsAt.append {w : World} {S : Blks} {sz : Nat} {cs cs' : List Value} {rows rows' : List (List D)} (h : RowsAt w S sz cs rows) (h' : RowsAt w S sz cs' rows') : RowsAt w S sz (cs ++ cs') (rows ++ rows') := by
  refine ⟨by simp [h.len, h'.len, Nat.add_mul], fun i r hi => ?_, fun v hv => ?_, fun i j r d hi hj => ?_⟩
  · rw [List.getElem?_append] at hi
    split at hi
    · exact h.row i r hi
    · exact h'.row _ r hi
  · rcases List.mem_append.1 hv with h1 | h1
    · exact h.one v h1
    · exact h'.one v h1
  · rw [List.getElem?_append] at hi
    split at hi
    · obtain ⟨u, hu, hr⟩ := h.rep i j r d hi hj
      exact ⟨u, by rw [List.getElem?_append_left (List.getElem?_eq_some_iff.1 hu).1]; exact hu, hr⟩
    · rename_i hge
      obtain ⟨u, hu, hr⟩ := h'.rep _ j r d hi hj
      refine ⟨u, ?_, hr⟩
      have e : i * sz = cs.length + (i - rows.length) * sz := by
        rw [h.len, ← Nat.add_mul]; congr 1; omega
      rw [e, Nat.add_assoc, List.getElem?_append_right (by omega), Nat.add_sub_cancel_left]; exact hu

section
variable {P : Program} {n : Fr} {env : Env} {ps : List Per} {hp : List Res} {ty : TypeId} {pos : String} {af : Array Edge} {gd : Option (Nat × Bool)} {K : Sta → Prop} {d : Option Tmp} {v : Value} {q : Bool}
/-- a slice's length -/
theorem q_lenO {x : Operand} {T T' E : TypeId} {sz : Nat} {rows : List (List D)} (i : Nat) (hT : P.underlying T = some (.slice E)) (hx : ev env x = some (true, v)) (hi : hp[i]? = some (OwnS v T' sz rows)) :
    Quiet P n ⟨d, .call ⟨.builtin .len, #[x], #[T]⟩, ty, pos, af, gd⟩ ⟨env, ps, hp⟩ (.int .i64 rows.length) := fun w S fp a hst he hn => by
  have hr := hst.res i _ hi
  have hl : ∃ ad c, v = .slice ad rows.length c := by
    rcases hr with ⟨rfl, rfl, _⟩ | ⟨b, c, rfl, _⟩
    · exact ⟨none, 0, rfl⟩
    · exact ⟨_, _, rfl⟩
  obtain ⟨ad, c, rfl⟩ := hl
  exact q_lenS (P := P) (n := n) (s := ⟨env, ps, hp⟩) hT hx w S fp a hst he hn
/-- a fact out of what is owned: a length is an int -/
theorem awp_lenO {c : Code} {Q : Exit → Sta → Prop} {T : TypeId} {sz : Nat} {rows : List (List D)} (i : Nat) (hi : hp[i]? = some (OwnS v T sz rows)) (h : rows.length ≤ 9223372036854775807 → awp P n c Q ⟨env, ps, hp⟩) : awp P n c Q ⟨env, ps, hp⟩ :=
  awp_know (fun w S fp hst => by
    rcases hst.res i _ hi with ⟨_, rfl, _⟩ | ⟨b, c, _, ⟨cs, sp, _, _, _, h1, h2⟩, _⟩
    · simp
    · unfold maxLen at h2; omega) h
/-- nil is an own slice -/
theorem awp_nil {c : Code} {Q : Exit → Sta → Prop} (T : TypeId) (sz : Nat) (h : awp P n c Q ⟨env, ps, hp ++ [OwnS (.slice none 0 0) T sz []]⟩) : awp P n c Q ⟨env, ps, hp⟩ := fun w S fp a hst he hn hd => by
  have h1 := hst.push (Below.refl _ _) (OwnS (.slice none 0 0) T sz []) (fun _ => False) (.inl ⟨rfl, rfl, fun b h => h⟩) (fun b h => h.elim)
  refine cwp_mono (fun e a' w' hp' => PostA.trans (Evo.refl _ _ _) (fun b hb => ?_) hp') (h w S _ a h1 he hn hd)
  have hb' : tot (fun i => if i = hp.length then (fun _ => False) else fp i) (hp.length + 1) b := by simpa using hb
  exact (tot_push hb').elim .inl (fun h => h.elim)
/-- an own slice is shared from now on -/
theorem awp_share {c : Code} {Q : Exit → Sta → Prop} {T : TypeId} {sz : Nat} {rows : List (List D)} (i : Nat) (hi : hp[i]? = some (OwnS v T sz rows)) (h : awp P n c Q ⟨env, Sh v (.sl rows) :: ps, hp.set i emp⟩) : awp P n c Q ⟨env, ps, hp⟩ := fun w S fp a hst he hn hd => by
  have hil := (List.getElem?_eq_some_iff.1 hi).1
  have hr := hst.res i _ hi
  have hst0 := hst.drop i
  have hS : ∀ b, S b → (S b ∨ fp i b) := fun _ h => .inl h
  have h1 : St w (fun b => S b ∨ fp i b) (fun k => if k = i then (fun _ => False) else fp k) (Sh v (.sl rows) :: ps) (hp.set i emp) := by
    refine ⟨fun p hp' => ?_, fun j R hj => R.mono (hst0.res j R hj) (fun _ _ => rfl) (fun _ _ => rfl) hS, fun j hj b hb => ?_, hst0.dj, fun b hb => hb.elim (hst.slt b) (fun h => (hst.lt i hil b h).1)⟩
    · rcases List.mem_cons.1 hp' with rfl | h2
      · rcases hr with ⟨rfl, rfl, _⟩ | ⟨b, cap, rfl, ⟨cs, sp, hb, hrows, hl, hle, hcap⟩, hF⟩
        · exact .e none 0 (by unfold maxLen; omega)
        · refine .sl b 0 cap sz rows (fun i j => cs.getD (i * sz + j) undef) (.inr ((hF b).2 rfl)) hle hcap hrows.row (fun i j r d h1 h2 => ?_) (fun i j r d h1 h2 => ?_)
          · obtain ⟨u, hu, _⟩ := hrows.rep i j r d h1 h2
            have e : cs.getD (i * sz + j) undef = u := by simp [List.getD, hu]
            rw [e]
            refine ⟨?_, hrows.one u (List.mem_of_getElem? hu)⟩
            rw [Nat.zero_add, cell_box hb, List.getElem?_append_left (List.getElem?_eq_some_iff.1 hu).1]; exact hu
          · obtain ⟨u, hu, hr⟩ := hrows.rep i j r d h1 h2
            have e : cs.getD (i * sz + j) undef = u := by simp [List.getD, hu]
            rw [e]
            exact hr.mono (fun _ _ => rfl) hS
      · exact p.mono (hst.per p h2) (fun _ _ => rfl) hS
    · have hj' : j < hp.length := by simpa using hj
      by_cases hji : j = i
      · rw [if_pos hji] at hb; exact hb.elim
      · rw [if_neg hji] at hb
        exact ⟨(hst.lt j hj' b hb).1, fun h => h.elim (hst.lt j hj' b hb).2 (hst.dj j i hj' hil hji b hb)⟩
  refine cwp_mono (fun e a' w' hp' => PostA.trans (X := tot fp hp.length) ⟨rfl, rfl, rfl, Nat.le_refl _, fun _ _ _ => rfl, hS, fun b hb => hb.elim .inl (fun h => .inr (.inl ⟨i, hil, h⟩))⟩ (fun b hb => ?_) hp') (h w _ _ a h1 he hn hd)
  obtain ⟨k, hk, hbk⟩ := hb
  have hk' : k < hp.length := by simpa using hk
  by_cases hki : k = i
  · simp only [hki, if_true] at hbk
  · simp only [if_neg hki] at hbk
    exact .inl ⟨k, hk', hbk⟩
/-- the same in front of a region -/
theorem look_set (env : Env) (t : Nat) (g : Bool) (v : Value) : look ((t, g, v) :: env) t = some (g, v) := by simp [look]

/-- where an append's second operand comes from -/
structure AppSrc (P : Program) (s : Sta) (tx : TypeId) (sz : Nat) (x : Value) (rows : List (List D)) : Prop where
  src : ∀ w S fp, St w S fp s.ps s.hp → ∃ news, RowsAt w S sz news rows ∧ Src P sz tx x rows.length news w
theorem RowsAt.src {w : World} {S : Blks} {tx e' : TypeId} {sz V o vc : Nat} {cs : List Value} {rows : List (List D)} (h : RowsAt w S sz cs rows) (hk : P.underlying tx = some (.slice e')) (hV : ∀ j u, cs[j]? = some u → w.cell? ⟨V, o + j, none⟩ = some u) :
    Src P sz tx (.slice (some ⟨V, o, none⟩) rows.length vc) rows.length cs w := Src.row w tx e' hk sz V o rows.length vc cs h.len hV h.one
theorem src_own {T E' : TypeId} {tx : TypeId} {sz : Nat} {x : Value} {rows : List (List D)} (j : Nat) (hk : P.underlying tx = some (.slice E')) (hj : hp[j]? = some (OwnS x T sz rows)) (hne : rows ≠ []) : AppSrc P ⟨env, ps, hp⟩ tx sz x rows := ⟨fun w S fp hst => by
  rcases hst.res j _ hj with ⟨_, rfl, _⟩ | ⟨b, cap, rfl, ⟨cs, sp, hb, hr, _⟩, _⟩
  · exact absurd rfl hne
  · exact ⟨cs, hr, hr.src hk fun j u hu => by rw [Nat.zero_add, cell_box hb, List.getElem?_append_left (List.getElem?_eq_some_iff.1 hu).1]; exact hu⟩⟩
theorem src_sh {E' : TypeId} {tx : TypeId} {sz : Nat} {x : Value} {rows : List (List D)} (hk : P.underlying tx = some (.slice E')) (hs : Sh x (.sl rows) ∈ ps) (hrl : ∀ r ∈ rows, r.length = sz) (hne : rows ≠ []) : AppSrc P ⟨env, ps, hp⟩ tx sz x rows := ⟨fun w S fp hst => by
  have hh := hst.per _ hs
  cases hh with
  | e a c hc => exact absurd rfl hne
  | sl b o c sz' _ us hb hn hc hr hcell hd =>
    have hsz : sz' = sz := by
      cases rows with
      | nil => exact absurd rfl hne
      | cons r rs => rw [← hr 0 r rfl]; exact hrl r (by simp)
    subst hsz
    have hR : RowsAt w S sz' ((List.range (rows.length * sz')).map fun k => us (k / sz') (k % sz')) rows := by
      refine ⟨by simp, hr, fun v hv => ?_, fun i j r d h1 h2 => ?_⟩
      · obtain ⟨k, hk, rfl⟩ := List.mem_map.1 hv
        have hk' := List.mem_range.1 hk
        have h0 : 0 < sz' := by
          rcases Nat.eq_zero_or_pos sz' with h | h
          · rw [h] at hk'; simp at hk'
          · exact h
        have hi : k / sz' < rows.length := (Nat.div_lt_iff_lt_mul h0).2 hk'
        have hrl' := hr (k / sz') rows[k / sz'] (by simp [hi])
        have hj : k % sz' < rows[k / sz'].length := by rw [hrl']; exact Nat.mod_lt _ h0
        exact (hcell (k / sz') (k % sz') rows[k / sz'] rows[k / sz'][k % sz'] (by simp [hi]) (by simp [hj])).2
      · have hj : j < sz' := by rw [← hr i r h1]; exact (List.getElem?_eq_some_iff.1 h2).1
        have hi := (List.getElem?_eq_some_iff.1 h1).1
        have hlt : i * sz' + j < rows.length * sz' := by
          have := Nat.mul_le_mul_right sz' (show i + 1 ≤ rows.length by omega)
          rw [Nat.add_mul] at this; omega
        refine ⟨us i j, ?_, hd i j r d h1 h2⟩
        rw [List.getElem?_map, List.getElem?_range hlt]
        simp only [Option.map_some]
        rw [Nat.mul_comm, Nat.mul_add_div (by omega), Nat.div_eq_of_lt hj, Nat.mul_add_mod, Nat.mod_eq_of_lt hj, Nat.add_zero]
    refine ⟨_, hR, hR.src hk fun k u hu => ?_⟩
    have hk' := (List.getElem?_eq_some_iff.1 hu).1
    simp only [List.length_map, List.length_range] at hk'
    rw [List.getElem?_map, List.getElem?_range hk'] at hu
    simp only [Option.map_some, Option.some.injEq] at hu
    have h0 : 0 < sz' := by
      rcases Nat.eq_zero_or_pos sz' with h | h
      · rw [h] at hk'; simp at hk'
      · exact h
    have hi : k / sz' < rows.length := (Nat.div_lt_iff_lt_mul h0).2 hk'
    have hrl' := hr (k / sz') rows[k / sz'] (by simp [hi])
    have hj : k % sz' < rows[k / sz'].length := by rw [hrl']; exact Nat.mod_lt _ h0
    have := (hcell (k / sz') (k % sz') rows[k / sz'] rows[k / sz'][k % sz'] (by simp [hi]) (by simp [hj])).1
    rw [Nat.add_assoc, Nat.mul_comm, Nat.div_add_mod] at this
    rw [this, hu]⟩
/-- an append to an own slice -/
theorem e_append {t : Nat} {x y : Operand} {T tx E : TypeId} {it : TypeInfo} {sz : Nat} {vy : Value} {rows rows2 : List (List D)} (i : Nat) (hT : P.underlying T = some (.slice E)) (hin : P.info? E = some it) (hiz : (it.zero.map fun z => z.cells.size) = some it.size) (hsz : it.size = sz) (hby : it.bytes ≤ 4096)
    (hx : ev env x = some (true, v)) (hy : ev env y = some (true, vy)) (ht : fits n (some t) = true) (hi : hp[i]? = some (OwnS v E sz rows)) (hs : AppSrc P ⟨env, ps, hp⟩ tx sz vy rows2) (h0 : rows2 ≠ []) (hle : rows.length + rows2.length ≤ 1000000000)
    (m : Nat) (hm : rows.length + rows2.length = m) (hK : ∀ ad c, K ⟨(t, true, .slice ad m c) :: env, ps, hp.set i (OwnS (.slice ad m c) E sz (rows ++ rows2))⟩) :
    Eff P n ⟨some t, .call ⟨.builtin .append, #[x, y], #[T, tx]⟩, ty, pos, af, gd⟩ ⟨env, ps, hp⟩ false K := fun w S fp a hst he hn => by
  subst hm
  have e1 := he.val hx rfl
  have e2 := he.val hy rfl
  have hil := (List.getElem?_eq_some_iff.1 hi).1
  obtain ⟨news, hnews, hsrc⟩ := hs.src w S fp hst
  obtain ⟨z, hz, hzs⟩ : ∃ z, it.zero = some z ∧ z.cells.size = it.size := by
    cases hz : it.zero with
    | none => rw [hz] at hiz; cases hiz
    | some z => rw [hz] at hiz; exact ⟨z, rfl, by simpa using hiz⟩
  have hk0 : 0 < rows2.length := by cases rows2 with
    | nil => exact absurd rfl h0
    | cons => simp
  subst hsz
  have hexec : execOp a.eval ⟨some t, .call ⟨.builtin .append, #[x, y], #[T, tx]⟩, ty, pos, af, gd⟩ = (Builtin.append_ #[T, tx] ty (#[x, y].map a.eval)).bind fun r => Sem.pure (Next.value r) := rfl
  have hargs : #[x, y].map a.eval = #[v, vy] := by simp [e1, e2]
  rw [hexec, hargs, Sem.run_bind']
  have fin : ∀ (b C : Nat) (w1 : World) (cur : List Value), (Builtin.append_ #[T, tx] ty #[v, vy]).run P w = .ok (.slice (some ⟨b, 0, none⟩) (rows.length + rows2.length) C) w1 → w.heap.size ≤ w1.heap.size →
      (∀ b', b' < w.heap.size → ¬ fp i b' → w1.heap[b']? = w.heap[b']?) → w1.os = w.os → w1.tape = w.tape → w1.output = w.output → w1.heap[b]? = some (.cells cur.toArray E (0, 0)) → (fp i b ∨ w.heap.size ≤ b) →
      (∃ cs, RowsAt w S it.size cs rows ∧ cur.take ((rows.length + rows2.length) * it.size) = cs ++ news) → cur.length = C * it.size → rows.length + rows2.length ≤ C → C ≤ maxLen →
      uponU P (fun u w' => ∃ s' S' fp', K s' ∧ St w' S' fp' s'.ps s'.hp ∧ EnvOk (a.put (some t) u) s'.env ∧ Evo w S (tot fp hp.length) w' S' ∧ (∀ b, tot fp' s'.hp.length b → tot fp hp.length b ∨ w.heap.size ≤ b) ∧ (false = true → Below w.heap.size w w'))
        (((Builtin.append_ #[T, tx] ty #[v, vy]).run P w).andThen fun r w' => (Sem.pure (Next.value r)).run P w') := by
    intro b C w1 cur hrun hsz1 hw1 o1 o2 o3 hb hbF ⟨cs, hcs, htake⟩ hlen hC hCm
    rw [hrun]
    have hlt : b < w1.heap.size := (Array.getElem?_eq_some_iff.1 hb).1
    have hR : (OwnS (.slice (some ⟨b, 0, none⟩) (rows.length + rows2.length) C) E it.size (rows ++ rows2)).holds w1 S (fun k => k = b) := by
      refine .inr ⟨b, C, by simp, ⟨cs ++ news, cur.drop ((rows.length + rows2.length) * it.size), ?_, ?_, ?_, by simpa using hC, hCm⟩, fun _ => Iff.rfl⟩
      · rw [← htake, List.take_append_drop]; exact hb
      · refine (hcs.append hnews).mono (fun b' hb' => hw1 b' (hst.slt b' hb') (fun hf => (hst.lt i hil b' hf).2 hb')) (fun _ h => h)
      · rw [← htake, List.take_append_drop]; exact hlen
    have hst' := hst.change2 hil hsz1 hw1 _ (fun k => k = b) hR (fun k hk => by subst hk; exact ⟨hbF, hlt⟩)
    refine ⟨_, S, _, hK _ _, hst', he.put (g := true) (by rw [hn]; simpa [fits] using ht) _, ⟨o1, o2, o3, hsz1, fun b' hb' hx' => hw1 b' hb' (fun hf => hx' ⟨i, hil, hf⟩), fun _ h => h, fun _ h => .inl h⟩, fun b' ⟨k, hk, hbk⟩ => ?_, fun h => by cases h⟩
    have hk' : k < hp.length := by simpa using hk
    dsimp only at hbk
    by_cases hki : k = i
    · rw [if_pos hki] at hbk
      subst hbk
      exact hbF.imp (fun h => ⟨i, hil, h⟩) id
    · rw [if_neg hki] at hbk; exact .inl ⟨k, hk', hbk⟩
  rcases hst.res i _ hi with ⟨hv, hr0, _⟩ | ⟨B, c, hv, ⟨cs, sp, hB, hrows, hl, hc, hcm⟩, hF⟩
  · subst hv; subst hr0
    obtain ⟨C, w1, h1, h2, hrun, ⟨cur1, g1, g2, g3⟩, g4, g5⟩ := append_grow (P := P) w T tx ty E it z hT hin hz hzs none 0 0 rows2.length [] (by simp [Builtin.firstCells]) (by simp) vy news hsrc (by omega) (by simpa using hle) hby
    have hrun' : (Builtin.append_ #[T, tx] ty #[.slice none 0 0, vy]).run P w = .ok (.slice (some ⟨w.heap.size, 0, none⟩) (([] : List (List D)).length + rows2.length) C) w1 := by rw [hrun]; rfl
    exact fin w.heap.size C w1 cur1 hrun' g5.size (fun b' hb' _ => g5.block b' hb') g5.os g5.tape g5.output g1 (.inr (Nat.le_refl _)) ⟨[], ⟨by simp, by simp, by simp, by simp⟩, by simpa using g3⟩ g2 (by simpa using h1) h2
  · subst hv
    by_cases hroom : rows.length + rows2.length ≤ c
    · have hfit : 0 + rows.length * it.size + news.length ≤ (cs ++ sp).toArray.size := by
        have h1 := hsrc.newsLen
        have := Nat.mul_le_mul_right it.size hroom
        rw [Nat.add_mul] at this
        simp only [List.size_toArray, hl]; omega
      have hrun := append_room (P := P) w T tx ty E it hT hin B 0 rows.length c vy rows2.length news hsrc hroom (cs ++ sp).toArray E hB hfit
      have hlen : (splice (cs ++ sp) (0 + rows.length * it.size) news).length = c * it.size := by
        unfold splice
        have h1 := hsrc.newsLen
        have := Nat.mul_le_mul_right it.size hroom
        rw [Nat.add_mul] at this
        simp only [List.length_append, List.length_take, List.length_drop] at hl ⊢
        omega
      refine fin B c _ _ hrun (by simp [World.setRow]) (fun b' hb' hne => setRow_other _ _ _ _ (fun h => hne ((hF b').2 h))) rfl rfl rfl (setRow_heap _ _ _ _ _ _ hB) (.inl ((hF B).2 rfl)) ⟨cs, hrows, ?_⟩ hlen hroom hcm
      have hcl := hrows.len
      unfold splice
      rw [Nat.zero_add, Nat.add_mul, ← hcl, List.take_append_of_le_length (Nat.le_refl _), List.take_length, ← hsrc.newsLen, ← List.append_assoc, ← List.length_append, List.take_append_of_le_length (Nat.le_refl _), List.take_length]
    · have hfc := run_firstCells_row (P := P) w.drew B 0 it.size rows.length c (cs ++ sp) E (0, 0) hB (by rw [hl, Nat.zero_add]; exact Nat.mul_le_mul_right _ hc)
      obtain ⟨C, w1, h1, h2, hrun, ⟨cur1, g1, g2, g3⟩, g4, g5⟩ := append_grow (P := P) w T tx ty E it z hT hin hz hzs (some ⟨B, 0, none⟩) rows.length c rows2.length cs (by
        rw [hfc]
        congr 2
        rw [List.drop_zero, ← hrows.len, List.take_append_of_le_length (Nat.le_refl _), List.take_length]) hrows.len vy news hsrc (by omega) hle hby
      exact fin w.heap.size C w1 cur1 hrun g5.size (fun b' hb' _ => g5.block b' hb') g5.os g5.tape g5.output g1 (.inr (Nat.le_refl _)) ⟨cs, hrows, g3⟩ g2 h1 h2
end
end Go.Sy
namespace Go.Sy
open Go.RowKit Go.Lp
/-- a literal's cells, part by part -/
def bld (place : Nat → Option (Nat × Nat)) : List Value → List (Nat × Value) → Option (List Value)
  | cells, [] => some cells
  | cells, (i, v) :: rest => match place i with
    | some (off, size) => match wrL size cells off v.cells.toList with
      | some cells' => bld place cells' rest
      | none => none
    | none => none
theorem fold_set (off : Nat) : ∀ (vs : List Value) (k : Nat) (cs : List Value), off + k + vs.length ≤ cs.length →
    (vs.zipIdx k).foldl (fun (cs : Array Value) (x : Value × Nat) => cs.setIfInBounds (off + x.2) x.1) cs.toArray = (wrC cs (off + k) vs).toArray
  | [], k, cs, _ => by simp [wrC]
  | v :: vs, k, cs, h => by
    have hlt : off + k < cs.length := by simp at h; omega
    rw [List.zipIdx_cons, List.foldl_cons]
    have e : (cs.toArray.setIfInBounds (off + k) v) = (cs.set (off + k) v).toArray := by simp
    rw [e, fold_set off vs (k + 1) (cs.set (off + k) v) (by simp at h ⊢; omega)]
    congr 1
    unfold wrC
    apply List.ext_getElem?
    intro j
    simp only [List.getElem?_append, List.length_take, List.length_set, List.getElem?_take, List.getElem?_drop, List.getElem?_set, List.length_cons, List.getElem?_cons]
    rw [Nat.min_eq_left (by simp at h; omega), Nat.min_eq_left (by omega)]
    by_cases h1 : j < off + k
    · simp [show j < off + (k + 1) by omega, h1, show ¬ off + k = j by omega]
    · by_cases h2 : j = off + k
      · subst h2; simp [hlt]
      · have h3 : ¬ j < off + (k + 1) := by omega
        simp only [h1, h3, if_false]
        by_cases h5 : j - (off + (k + 1)) < vs.length
        · rw [if_pos h5, if_pos (by omega), if_neg (by omega)]
          congr 1 <;> omega
        · rw [if_neg h5, if_neg (by omega), if_neg (by omega)]
          congr 1 <;> omega
theorem bld_fill (place : Nat → Option (Nat × Nat)) : ∀ (parts : List (Nat × Value)) (cells cells' : List Value), bld place cells parts = some cells' → Instr.fill place cells.toArray parts = some cells'.toArray
  | [], cells, cells', h => by simp only [bld, Option.some.injEq] at h; subst h; rfl
  | (i, v) :: rest, cells, cells', h => by
    unfold bld at h
    split at h
    · rename_i off size hp
      split at h
      · rename_i c1 hc1
        obtain ⟨h1, _, h3, rfl⟩ := wrL_eq _ _ _ _ _ hc1
        have ih := bld_fill place rest _ cells' h
        have hsz : v.cells.size = size := by rw [← h1]; simp
        have hf : v.cells.zipIdx.foldl (fun cs (x : Value × Nat) => cs.setIfInBounds (off + x.2) x.1) cells.toArray = (wrC cells off v.cells.toList).toArray := by
          rw [← Array.foldl_toList, Array.toList_zipIdx]
          exact fold_set off v.cells.toList 0 cells (by omega)
        have hle : ¬ off + v.cells.size > cells.toArray.size := by simp at h3 ⊢; omega
        simp only [Instr.fill, hp]
        rw [if_neg (by simp [hsz]; simpa [hsz] using hle)]
        have : (v.cells.zipIdx.foldl (fun cs (c, j) => cs.setIfInBounds (off + j) c) cells.toArray) = (wrC cells off v.cells.toList).toArray := hf
        rw [this]
        exact ih
      · cases h
    · cases h
def placesOf (P : Program) (T : TypeId) : Option (List (Nat × Nat)) :=
  match P.underlying T with
  | some (.struct fields) => fields.toList.mapM (fun f => (P.info? f.type).map fun i => (f.offset, i.size))
  | some (.array n e) => (P.info? e).map fun i => (List.range n).map fun k => (k * i.size, i.size)
  | _ => none
def structB (P : Program) (T : TypeId) : Bool := match P.underlying T with
  | some (.struct _) => true
  | _ => false
section
variable {P : Program} {n : Fr} {env : Env} {ps : List Per} {hp : List Res} {ty : TypeId} {pos : String} {af : Array Edge} {gd : Option (Nat × Bool)} {K : Sta → Prop} {d : Option Tmp} {v : Value} {q : Bool}
/-- a struct literal -/
theorem q_bld {T : TypeId} {l : List (Nat × Operand)} {xs : List Operand} {vs : List Value} {zs cells : List Value} {pl : List (Nat × Nat)} (hst : structB P T = true) (hz : zcells P T = some zs) (hpl : placesOf P T = some pl) (hxs : l.map (·.2) = xs) (hx : evs env xs = some vs)
    (hb : bld (pl[·]?) zs ((l.map (·.1)).zip vs) = some cells) :
    Quiet P n ⟨d, .build T l.toArray, ty, pos, af, gd⟩ ⟨env, ps, hp⟩ (.agg cells.toArray) := fun w S fp a hs he hn => by
  have hm := evs_map he xs vs hx
  have hf := bld_fill _ _ _ _ hb
  have hbuilt : P.built T ((l.map (·.1)).zip vs) = some cells.toArray := by
    unfold structB at hst
    unfold placesOf at hpl
    unfold zcells at hz
    unfold Program.built
    cases hi : P.info? T with
    | none => rw [hi] at hz; cases hz
    | some it =>
      rw [hi] at hz
      cases hzz : it.zero with
      | none => rw [Option.bind_some, hzz] at hz; cases hz
      | some z =>
        rw [Option.bind_some, hzz] at hz
        simp only [Option.map_some, Option.some.injEq] at hz
        cases hu : P.underlying T with
        | none => rw [hu] at hst; cases hst
        | some dd =>
          rw [hu] at hst hpl
          cases dd with
          | struct fields =>
            simp only at hpl
            simp only [hzz, hpl]
            have e : z.cells = zs.toArray := by rw [← hz]
            rw [e]
            simpa using hf
          | _ => cases hst
  have : (execOp a.eval ⟨d, .build T l.toArray, ty, pos, af, gd⟩).run P w = .ok (.value (.agg cells.toArray)) w := by
    have e : (execOp a.eval ⟨d, .build T l.toArray, ty, pos, af, gd⟩) = (Instr.build T (l.toArray.map fun (i, x) => (i, a.eval x))).bind fun r => Sem.pure (Next.value r) := rfl
    have e2 : l.toArray.map (fun (i, x) => (i, a.eval x)) = ((l.map (·.1)).zip vs).toArray := by
      rw [← hm, ← hxs]
      simp only [List.map_toArray, List.map_map]
      congr 1
      rw [List.zip_map']
      rfl
    rw [e, e2, Sem.run_bind', run_build w T _ cells.toArray (by simpa using hbuilt)]; rfl
  rw [this]; exact uponQ_ok _ _
/-- the cells of n zero values -/
def repC : Nat → List Value → List Value
  | 0, _ => []
  | n + 1, zs => zs ++ repC n zs
theorem repC_len (n : Nat) (zs : List Value) : (repC n zs).length = n * zs.length := by
  induction n with
  | zero => simp [repC]
  | succ n ih => simp [repC, ih, Nat.add_mul]; omega
theorem repC_get (zs : List Value) (h0 : 0 < zs.length) : ∀ (n j : Nat), j < n * zs.length → (repC n zs)[j]? = zs[j % zs.length]?
  | 0, j, h => by omega
  | n + 1, j, h => by
    unfold repC
    rw [List.getElem?_append]
    split
    · rename_i hj; rw [Nat.mod_eq_of_lt hj]
    · rename_i hj
      have e : j % zs.length = (j - zs.length) % zs.length := Nat.mod_eq_sub_mod (by omega)
      rw [repC_get zs h0 n (j - zs.length) (by rw [Nat.add_mul] at h; omega), e]
theorem made_eq (z : Array Value) (n : Nat) (h0 : 0 < z.size) : (madeCells z (n * z.size)) = (repC n z.toList).toArray := by
  apply Array.ext'
  rw [List.toList_toArray]
  apply List.ext_getElem?
  intro j
  by_cases hj : j < n * z.size
  · rw [repC_get z.toList (by simpa using h0) n j (by simpa using hj)]
    have hm : j % z.size < z.size := Nat.mod_lt _ h0
    simp only [madeCells, Array.toList_map, Array.toList_range, List.getElem?_map, List.getElem?_range hj, Option.map_some, Array.length_toList, Array.getElem?_toList]
    simp [hm]
  · rw [List.getElem?_eq_none (by simp [madeCells]; omega), List.getElem?_eq_none (by rw [repC_len]; simpa using hj)]
theorem rows_zero {w : World} {S : Blks} {zs : List Value} (h1 : ∀ v ∈ zs, v.oneCell' = true) (n : Nat) : RowsAt w S zs.length (repC n zs) (List.replicate n (zs.map .v)) := by
  refine ⟨by simp [repC_len], fun i r h => ?_, fun v hv => ?_, fun i j r dd h1' h2 => ?_⟩
  · rw [List.getElem?_replicate] at h
    split at h
    · simp only [Option.some.injEq] at h; rw [← h]; simp
    · cases h
  · induction n with
    | zero => simp [repC] at hv
    | succ n ih =>
      unfold repC at hv
      rcases List.mem_append.1 hv with h | h
      · exact h1 v h
      · exact ih h
  · rw [List.getElem?_replicate] at h1'
    split at h1'
    · rename_i hi
      simp only [Option.some.injEq] at h1'
      rw [← h1', List.getElem?_map] at h2
      cases hj : zs[j]? with
      | none => rw [hj] at h2; cases h2
      | some u =>
        rw [hj] at h2
        simp only [Option.map_some, Option.some.injEq] at h2
        have hjl := (List.getElem?_eq_some_iff.1 hj).1
        refine ⟨u, ?_, by rw [← h2]; exact .v u⟩
        have hlt : i * zs.length + j < n * zs.length := by
          have := Nat.mul_le_mul_right zs.length (show i + 1 ≤ n by omega)
          rw [Nat.add_mul] at this; omega
        rw [repC_get zs (by omega) n _ hlt, Nat.mul_comm, Nat.mul_add_mod, Nat.mod_eq_of_lt hjl]; exact hj
    · cases h1'
theorem own_new {w : World} {S : Blks} {E : TypeId} {sz m : Nat} {cs : List Value} {rows : List (List D)} (h : RowsAt w S sz cs rows) (hst : ∀ b, S b → b < w.heap.size) (hm : rows.length = m) (hle : m ≤ maxLen) :
    (OwnS (.slice (some ⟨w.heap.size, 0, none⟩) m m) E sz rows).holds (w.alloc (.cells cs.toArray E)) S (fun b => b = w.heap.size) := by
  refine .inr ⟨w.heap.size, m, by rw [hm], ⟨cs, [], by rw [List.append_nil]; exact heap_new _ _, h.mono (fun b hb => (below_new w _).block b (hst b hb)) (fun _ h => h), by rw [List.append_nil, h.len, hm], by omega, hle⟩, fun _ => Iff.rfl⟩
/-- make([]T, m) -/
theorem e_make {t : Nat} {T E : TypeId} {it : TypeInfo} {x y : Operand} {m : Nat} {zs : List Value} (hT : P.underlying T = some (.slice E)) (hi : P.info? E = some it) (hz : zcells P E = some zs) (h1 : zs.all (·.oneCell') = true) (hsz : it.size = zs.length) (h0 : 0 < zs.length) (hby : it.bytes ≤ 4096)
    (hx : ev env x = some (true, .int .i64 m)) (hy : ev env y = some (true, .int .i64 m)) (hm : m ≤ 1000000000) (ht : fits n (some t) = true)
    (hK : ∀ ad, K ⟨(t, true, .slice ad m m) :: env, ps, hp ++ [OwnS (.slice ad m m) E zs.length (List.replicate m (zs.map .v))]⟩) :
    Eff P n ⟨some t, .makeSlice T x y, ty, pos, af, gd⟩ ⟨env, ps, hp⟩ q K := .push fun w S fp a hst he hn => by
  have e1 := he.val hx rfl
  have e2 := he.val hy rfl
  obtain ⟨z, hzz, hzc⟩ : ∃ z, it.zero = some z ∧ z.cells.toList = zs := by
    unfold zcells at hz
    rw [hi] at hz
    cases hzz : it.zero with
    | none => rw [Option.bind_some, hzz] at hz; cases hz
    | some z => rw [Option.bind_some, hzz] at hz; simp only [Option.map_some, Option.some.injEq] at hz; exact ⟨z, rfl, hz⟩
  have hzl : z.cells.size = zs.length := by rw [← hzc]; simp
  have hb : (it.bytes : Int) * (m : Int) ≤ 281474976710656 := by
    have h1 : it.bytes * m ≤ 4096 * 1000000000 := Nat.mul_le_mul hby hm
    have : ((it.bytes * m : Nat) : Int) ≤ ((4096 * 1000000000 : Nat) : Int) := by exact_mod_cast h1
    rw [← Int.natCast_mul]; omega
  have hrun := run_make (P := P) w T E it z hT hi hzz .i64 .i64 m m (by omega) (by omega) hb (by omega)
  rw [Int.toNat_natCast, hsz, ← hzl, made_eq _ _ (by omega), hzc] at hrun
  have : (execOp a.eval ⟨some t, .makeSlice T x y, ty, pos, af, gd⟩).run P w = .ok (.value (.slice (some ⟨w.heap.size, 0, none⟩) m m)) (w.alloc (.cells (repC m zs).toArray E)) := by
    show ((Instr.makeSlice T (a.eval x) (a.eval y)).bind fun r => Sem.pure (Next.value r)).run P w = _
    rw [e1, e2, Sem.run_bind', hrun]; rfl
  rw [this]
  refine ⟨_, fun b => b = w.heap.size, _, hK (some ⟨w.heap.size, 0, none⟩), rfl, rfl, he.put (g := true) (by rw [hn]; simpa [fits] using ht) _, below_new _ _, own_new (rows_zero (fun v hv => List.all_eq_true.1 h1 v hv) m) hst.slt (by simp) (by unfold maxLen; omega), fun b hb => ?_⟩
  subst hb; simp
/-- a slice literal -/
theorem e_buildSlice {t : Nat} {T E : TypeId} {it : TypeInfo} {len : Nat} {l : List (Nat × Operand)} {xs : List Operand} {vs zs cs : List Value} {rows : List (List D)} (hT : P.underlying T = some (.slice E)) (hi : P.info? E = some it) (hz : zcells P E = some zs) (hsz : it.size = zs.length) (h0 : 0 < zs.length)
    (hlen : 0 < len) (hsm : len * zs.length ≤ 16777216) (hxs : l.map (·.2) = xs) (hx : evs env xs = some vs) (hb : bld (fun i => some (i * zs.length, zs.length)) (repC len zs) ((l.map (·.1)).zip vs) = some cs) (hr : RCs ps zs.length cs rows) (hrl : rows.length = len) (ht : fits n (some t) = true)
    (hK : ∀ ad, K ⟨(t, true, .slice ad len len) :: env, ps, hp ++ [OwnS (.slice ad len len) E zs.length rows]⟩) :
    Eff P n ⟨some t, .buildSlice T len l.toArray, ty, pos, af, gd⟩ ⟨env, ps, hp⟩ q K := .push fun w S fp a hst he hn => by
  have hm := evs_map he xs vs hx
  obtain ⟨z, hzz, hzc⟩ : ∃ z, it.zero = some z ∧ z.cells.toList = zs := by
    unfold zcells at hz
    rw [hi] at hz
    cases hzz : it.zero with
    | none => rw [Option.bind_some, hzz] at hz; cases hz
    | some z => rw [Option.bind_some, hzz] at hz; simp only [Option.map_some, Option.some.injEq] at hz; exact ⟨z, rfl, hz⟩
  have hzl : z.cells.size = zs.length := by rw [← hzc]; simp
  have hf := bld_fill _ _ _ _ hb
  have hme := made_eq z.cells len (by omega)
  rw [hzc] at hme
  unfold madeCells at hme
  have hrun := run_buildSlice (P := P) w T E len ((l.map (·.1)).zip vs).toArray cs.toArray it z hT hi hzz (by rw [hsz]; omega) (by rw [hsz]; have := Nat.mul_pos hlen h0; omega) (by rw [hsz, ← hzl, hme, hzl]; simpa using hf)
  have e2 : l.toArray.map (fun (i, x) => (i, a.eval x)) = ((l.map (·.1)).zip vs).toArray := by
    rw [← hm, ← hxs]
    simp only [List.map_toArray, List.map_map]
    congr 1
    rw [List.zip_map']
    rfl
  have : (execOp a.eval ⟨some t, .buildSlice T len l.toArray, ty, pos, af, gd⟩).run P w = .ok (.value (.slice (some ⟨w.heap.size, 0, none⟩) len len)) (w.alloc (.cells cs.toArray E)) := by
    show ((Instr.buildSlice T len (l.toArray.map fun (i, x) => (i, a.eval x))).bind fun r => Sem.pure (Next.value r)).run P w = _
    rw [e2, Sem.run_bind', hrun]; rfl
  rw [this]
  refine ⟨_, fun b => b = w.heap.size, _, hK (some ⟨w.heap.size, 0, none⟩), rfl, rfl, he.put (g := true) (by rw [hn]; simpa [fits] using ht) _, below_new _ _, own_new (hr.rows hst.per) hst.slt hrl (by unfold maxLen; have := Nat.le_mul_of_pos_right len h0; omega), fun b hb => ?_⟩
  subst hb; simp
end
end Go.Sy
namespace Go.Sy
open Go.RowKit Go.Lp
/-- a slice type, its element, the element's size -/
def elB (P : Program) (T E : TypeId) (sz : Nat) : Bool :=
  match P.underlying T with
  | some (.slice e) => e == E && match P.info? E with
    | some it => it.zero.map (·.cells.size) == some it.size && it.size == sz && decide (it.bytes ≤ 4096)
    | none => false
  | _ => false
theorem elB_spec {P : Program} {T E : TypeId} {sz : Nat} (h : elB P T E sz = true) : P.underlying T = some (.slice E) ∧ ∃ it, P.info? E = some it ∧ (it.zero.map fun z => z.cells.size) = some it.size ∧ it.size = sz ∧ it.bytes ≤ 4096 := by
  unfold elB at h
  split at h
  · rename_i e hu
    simp only [Bool.and_eq_true, beq_iff_eq] at h
    obtain ⟨rfl, h⟩ := h
    split at h
    · rename_i it hi
      simp only [Bool.and_eq_true, beq_iff_eq, decide_eq_true_eq] at h
      exact ⟨hu, it, hi, h.1.1, h.1.2, h.2⟩
    · cases h
  · cases h
theorem RCs.more {ps : List Per} {sz : Nat} {cs us : List Value} {r : List D} {rows : List (List D)} (h1 : tkL sz cs = some us) (hr : RC ps us r) (h2 : RCs ps sz (cs.drop sz) rows) : RCs ps sz cs (r :: rows) := by
  obtain ⟨hl, rfl⟩ := tkL_eq _ _ _ h1
  have := RCs.cons (by simp; omega) hr h2
  rwa [List.take_append_drop] at this
section
variable {P : Program} {n : Fr} {env : Env} {ps : List Per} {hp : List Res} {ty : TypeId} {pos : String} {af : Array Edge} {gd : Option (Nat × Bool)} {K : Sta → Prop} {d : Option Tmp} {v : Value} {q : Bool}
theorem q_ptrNil {x : Operand} {t t' : TypeId} {a : Addr} (hT : (match P.underlying t with | some (.pointer _) => true | _ => false) = true) (hx : ev env x = some (true, .pointer (some a))) : Quiet P n ⟨d, .binOp .eql t x (.const (.pointer none)) t', ty, pos, af, gd⟩ ⟨env, ps, hp⟩ (.bool false) := .run2 hx (y := .const (.pointer none)) (vy := .pointer none) rfl fun ρ w h1 h2 => by
  have hu : ∃ e, P.underlying t = some (.pointer e) := by
    cases h : P.underlying t with
    | none => rw [h] at hT; cases hT
    | some dd => rw [h] at hT; cases dd <;> first | exact ⟨_, rfl⟩ | cases hT
  obtain ⟨e, hu⟩ := hu
  unfold execOp; dsimp only; rw [h1, h2]
  have e1 : (do eqGuard BinOp.eql t x (.const (.pointer none)) (Value.pointer (some a)) (Value.pointer none); binOp BinOp.eql t (Value.pointer (some a)) (Value.pointer none)) = binOp BinOp.eql t (Value.pointer (some a)) (Value.pointer none) := rfl
  have e2 : (binOp BinOp.eql t (Value.pointer (some a)) (Value.pointer none)).run P w = .ok (.bool false) w := by
    have := run_eql_pointer_nil (P := P) (w := w) t (some a) (by rw [hu]; unfold Program.pointee; rw [hu])
    exact this
  show ((do eqGuard BinOp.eql t x (.const (.pointer none)) (Value.pointer (some a)) (Value.pointer none); binOp BinOp.eql t (Value.pointer (some a)) (Value.pointer none)).bind fun r => Sem.pure (Next.value r)).run P w = _
  rw [e1, Sem.run_bind', e2]; rfl
theorem w_append {t : Nat} {x y : Operand} {T tx E : TypeId} {sz : Nat} {vy : Value} {rows rows2 : List (List D)} (i : Nat) (hel : elB P T E sz = true)
    (hx : ev env x = some (true, v)) (hy : ev env y = some (true, vy)) (ht : fits n (some t) = true) (hi : hp[i]? = some (OwnS v E sz rows)) (hs : AppSrc P ⟨env, ps, hp⟩ tx sz vy rows2) (h0 : rows2 ≠ []) (hle : rows.length + rows2.length ≤ 1000000000)
    (m : Nat) (hm : rows.length + rows2.length = m) (hK : ∀ ad c, K ⟨(t, true, .slice ad m c) :: env, ps, hp.set i (OwnS (.slice ad m c) E sz (rows ++ rows2))⟩) :
    Eff P n ⟨some t, .call ⟨.builtin .append, #[x, y], #[T, tx]⟩, ty, pos, af, gd⟩ ⟨env, ps, hp⟩ false K := by
  obtain ⟨h1, it, h2, h3, h4, h5⟩ := elB_spec hel
  exact e_append i h1 h2 h3 h4 h5 hx hy ht hi hs h0 hle m hm hK
theorem w_srcO {T : TypeId} {tx E : TypeId} {sz : Nat} {x : Value} {rows : List (List D)} (j : Nat) (hel : elB P tx E sz = true) (hj : hp[j]? = some (OwnS x T sz rows)) (hne : rows ≠ []) : AppSrc P ⟨env, ps, hp⟩ tx sz x rows := src_own j (elB_spec hel).1 hj hne
theorem w_srcS {tx E : TypeId} {sz : Nat} {x : Value} {rows : List (List D)} (hel : elB P tx E sz = true) (hs : Sh x (.sl rows) ∈ ps) (hrl : ∀ r ∈ rows, r.length = sz) (hne : rows ≠ []) : AppSrc P ⟨env, ps, hp⟩ tx sz x rows := src_sh (elB_spec hel).1 hs hrl hne
theorem w_make {t : Nat} {T E : TypeId} {x y : Operand} {m : Nat} {zs : List Value} (hel : elB P T E zs.length = true) (hz : zcells P E = some zs) (h1 : zs.all (·.oneCell') = true) (h0 : 0 < zs.length)
    (hx : ev env x = some (true, .int .i64 m)) (hy : ev env y = some (true, .int .i64 m)) (hm : m ≤ 1000000000) (ht : fits n (some t) = true)
    (hK : ∀ ad, K ⟨(t, true, .slice ad m m) :: env, ps, hp ++ [OwnS (.slice ad m m) E zs.length (List.replicate m (zs.map .v))]⟩) :
    Eff P n ⟨some t, .makeSlice T x y, ty, pos, af, gd⟩ ⟨env, ps, hp⟩ q K := by
  obtain ⟨h1', it, h2, h3, h4, h5⟩ := elB_spec hel
  exact e_make h1' h2 hz h1 h4 h0 h5 hx hy hm ht hK
theorem w_lit {t : Nat} {T E : TypeId} {len : Nat} {l : List (Nat × Operand)} {xs : List Operand} {vs zs cs : List Value} {rows : List (List D)} (hel : elB P T E zs.length = true) (hz : zcells P E = some zs) (h0 : 0 < zs.length)
    (hlen : 0 < len) (hsm : len * zs.length ≤ 16777216) (hxs : l.map (·.2) = xs) (hx : evs env xs = some vs) (hb : bld (fun i => some (i * zs.length, zs.length)) (repC len zs) ((l.map (·.1)).zip vs) = some cs) (hr : RCs ps zs.length cs rows) (hrl : rows.length = len) (ht : fits n (some t) = true)
    (hK : ∀ ad, K ⟨(t, true, .slice ad len len) :: env, ps, hp ++ [OwnS (.slice ad len len) E zs.length rows]⟩) :
    Eff P n ⟨some t, .buildSlice T len l.toArray, ty, pos, af, gd⟩ ⟨env, ps, hp⟩ q K := by
  obtain ⟨h1', it, h2, h3, h4, h5⟩ := elB_spec hel
  exact e_buildSlice h1' h2 hz h4 h0 hlen hsm hxs hx hb hr hrl ht hK
end
end Go.Sy
namespace Go.Sy
open Go.RowKit
section
variable {P : Program} {n : Fr} {s : Sta} {d : Option Tmp} {ty : TypeId} {pos : String} {af : Array Edge} {gd : Option (Nat × Bool)} {x : Operand} {T t' : TypeId}
theorem qn_eql {E : TypeId} {ad : Option Addr} {k c : Nat} (hT : P.underlying T = some (.slice E)) (hx : ev s.env x = some (true, .slice ad k c)) : Quiet P n ⟨d, .binOp .eql T x (.const (.slice none 0 0)) t', ty, pos, af, gd⟩ s (.bool ad.isNone) :=
  .run2 (vy := .slice none 0 0) hx rfl fun ρ w h1 h2 => by
    unfold execOp; dsimp only; rw [h1, h2]
    simp only [eqGuard_at_slice, binOp, Sem.run_bind, Sem.run_pure, run_equal_slice_nil w T E ad k c hT, Result.andThen_ok]
end
section
variable {P : Program} {n : Fr} {env : Env} {ps : List Per} {hp : List Res} {ty : TypeId} {pos : String} {af : Array Edge} {gd : Option (Nat × Bool)} {q : Bool} {K : Sta → Prop}
/-- a slice literal of no element -/
theorem w_lit0 {t : Nat} {T E : TypeId} {sz : Nat} (hel : elB P T E sz = true) (ht : fits n (some t) = true)
    (hK : ∀ ad, K ⟨(t, true, .slice ad 0 0) :: env, ps, hp ++ [OwnS (.slice ad 0 0) E sz []]⟩) :
    Eff P n ⟨some t, .buildSlice T 0 #[], ty, pos, af, gd⟩ ⟨env, ps, hp⟩ q K := .push fun w S fp a hst he hn => by
  obtain ⟨hT, it, hi, h3, h4, h5⟩ := elB_spec hel
  have : (execOp a.eval ⟨some t, .buildSlice T 0 #[], ty, pos, af, gd⟩).run P w = .ok (.value (.slice (some ⟨w.heap.size, 0, none⟩) 0 0)) (w.alloc (.cells #[] E)) := by
    show ((Instr.buildSlice T 0 ((#[] : Array (Nat × Operand)).map fun (i, x) => (i, a.eval x))).bind fun r => Sem.pure (Next.value r)).run P w = _
    have hrun : (Instr.buildSlice T 0 #[]).run P w = .ok (.slice (some ⟨w.heap.size, 0, none⟩) 0 0) (w.alloc (.cells #[] E)) := by
      simp [Instr.buildSlice, run_underlying hT, sizeOf, typeInfo, hi, newRow, Instr.fill, show Array.range 0 = #[] by decide]
    rw [Array.map_empty, Sem.run_bind', hrun]; rfl
  rw [this]
  refine ⟨_, fun b => b = w.heap.size, _, hK (some ⟨w.heap.size, 0, none⟩), rfl, rfl, he.put (g := true) (by rw [hn]; simpa [fits] using ht) _, below_new _ _, own_new (cs := []) (RCs.rows .nil hst.per) hst.slt rfl (by unfold maxLen; omega), fun b hb => ?_⟩
  subst hb; simp
end
/-- a fact that follows from the others -/
theorem awp_fact {P : Program} {n : Fr} {env : Env} {ps : List Per} {hp : List Res} {c : Code} {Q : Exit → Sta → Prop} (p : Per) (hf : ∀ w S, (∀ q ∈ ps, q.holds w S) → p.holds w S) (h : awp P n c Q ⟨env, p :: ps, hp⟩) : awp P n c Q ⟨env, ps, hp⟩ := fun w S fp a hst he hn hd =>
  h w S fp a ⟨fun q hq => by
    rcases List.mem_cons.1 hq with rfl | hq
    · exact hf w S hst.per
    · exact hst.per q hq, hst.res, hst.lt, hst.dj, hst.slt⟩ he hn hd
end Go.Sy
namespace Go.Sy
open Go.RowKit Go.Lp
/-- the block of a slice value -/
def blkOf : Value → Nat
  | .slice (some a) _ _ => a.block
  | _ => 0
theorem wrC_get {cs vs : List Value} {o : Nat} (h : o + vs.length ≤ cs.length) (k : Nat) : (wrC cs o vs)[k]? = if k < o then cs[k]? else if k < o + vs.length then vs[k - o]? else cs[k]? := by
  unfold wrC
  simp only [List.getElem?_append, List.length_take, List.getElem?_take, List.getElem?_drop]
  rw [Nat.min_eq_left (by omega)]
  by_cases h1 : k < o
  · simp [h1]
  · by_cases h2 : k < o + vs.length
    · rw [if_neg h1, if_pos (by omega), if_neg h1, if_pos h2]
    · rw [if_neg h1, if_neg (by omega), if_neg h1, if_neg h2]; congr 1; omega
theorem wrC_len {cs vs : List Value} {o : Nat} (h : o + vs.length ≤ cs.length) : (wrC cs o vs).length = cs.length := by
  unfold wrC; simp; omega
theorem wrC_append {cs sp vs : List Value} {o : Nat} (h : o + vs.length ≤ cs.length) : wrC (cs ++ sp) o vs = wrC cs o vs ++ sp := by
  unfold wrC
  rw [List.take_append_of_le_length (by omega), List.drop_append_of_le_length (by omega)]
  simp
/-- a row, partly new -/
def setD (row : List D) (j : Nat) (ds : List D) : List D := row.take j ++ (ds ++ row.drop (j + ds.length))
theorem setD_len {row ds : List D} {j : Nat} (h : j + ds.length ≤ row.length) : (setD row j ds).length = row.length := by
  unfold setD; simp; omega
theorem setD_get {row ds : List D} {j : Nat} (h : j + ds.length ≤ row.length) (k : Nat) : (setD row j ds)[k]? = if k < j then row[k]? else if k < j + ds.length then ds[k - j]? else row[k]? := by
  unfold setD
  simp only [List.getElem?_append, List.length_take, List.getElem?_take, List.getElem?_drop]
  rw [Nat.min_eq_left (by omega)]
  by_cases h1 : k < j
  · simp [h1]
  · by_cases h2 : k < j + ds.length
    · rw [if_neg h1, if_pos (by omega), if_neg h1, if_pos h2]
    · rw [if_neg h1, if_neg (by omega), if_neg h1, if_neg h2]; congr 1; omega
theorem RowsAt.set {w : World} {S : Blks} {sz : Nat} {cs : List Value} {rows : List (List D)} (h : RowsAt w S sz cs rows) {r j : Nat} {row ds : List D} {vs : List Value} (hr : rows[r]? = some row) (hl : vs.length = ds.length) (hj : j + ds.length ≤ sz)
    (h1 : ∀ v ∈ vs, v.oneCell' = true) (hd : ∀ (k : Nat) (d : D), ds[k]? = some d → ∃ u, vs[k]? = some u ∧ RepD w S u d) : RowsAt w S sz (wrC cs (r * sz + j) vs) (rows.set r (setD row j ds)) := by
  have hrl := (List.getElem?_eq_some_iff.1 hr).1
  have hrow := h.row r row hr
  have hle : r * sz + j + vs.length ≤ cs.length := by
    have := Nat.mul_le_mul_right sz (show r + 1 ≤ rows.length by omega)
    rw [Nat.add_mul] at this
    have := h.len; omega
  refine ⟨by rw [wrC_len hle, h.len]; simp, fun i r' hi => ?_, fun v hv => ?_, fun i k r' d hi hk => ?_⟩
  · by_cases hir : r = i
    · subst hir
      rw [List.getElem?_set_self hrl] at hi
      simp only [Option.some.injEq] at hi
      rw [← hi, setD_len (by omega)]; exact hrow
    · rw [List.getElem?_set_ne hir] at hi; exact h.row i r' hi
  · unfold wrC at hv
    rcases List.mem_append.1 hv with hv | hv
    · exact h.one v (List.mem_of_mem_take hv)
    · rcases List.mem_append.1 hv with hv | hv
      · exact h1 v hv
      · exact h.one v (List.mem_of_mem_drop hv)
  · rw [wrC_get hle]
    by_cases hir : r = i
    · subst hir
      rw [List.getElem?_set_self hrl] at hi
      simp only [Option.some.injEq] at hi
      subst hi
      rw [setD_get (by omega)] at hk
      by_cases c1 : k < j
      · rw [if_pos c1] at hk
        rw [if_pos (by omega)]
        exact h.rep r k row d hr hk
      · rw [if_neg c1] at hk
        rw [if_neg (by omega)]
        by_cases c2 : k < j + ds.length
        · rw [if_pos c2] at hk
          rw [if_pos (by omega), show r * sz + k - (r * sz + j) = k - j by omega]
          exact hd _ d hk
        · rw [if_neg c2] at hk
          rw [if_neg (by omega)]
          exact h.rep r k row d hr hk
    · rw [List.getElem?_set_ne hir] at hi
      have hks : k < sz := by rw [← h.row i r' hi]; exact (List.getElem?_eq_some_iff.1 hk).1
      have hno : i * sz + k < r * sz + j ∨ r * sz + j + vs.length ≤ i * sz + k := by
        rcases Nat.lt_or_gt_of_ne hir with hlt | hlt
        · have := Nat.mul_le_mul_right sz (show r + 1 ≤ i by omega)
          rw [Nat.add_mul] at this; omega
        · have := Nat.mul_le_mul_right sz (show i + 1 ≤ r by omega)
          rw [Nat.add_mul] at this; omega
      obtain ⟨u, hu, hr'⟩ := h.rep i k r' d hi hk
      refine ⟨u, ?_, hr'⟩
      rcases hno with hno | hno
      · rw [if_pos hno]; exact hu
      · rw [if_neg (by omega), if_neg (by omega)]; exact hu
section
variable {P : Program} {n : Fr} {env : Env} {ps : List Per} {hp : List Res} {ty : TypeId} {pos : String} {af : Array Edge} {gd : Option (Nat × Bool)} {K : Sta → Prop} {d : Option Tmp} {v : Value} {E T U : TypeId} {sz : Nat} {rows : List (List D)} {x y : Operand}
/-- the place of an element of an own slice -/
theorem q_idxO (i k : Nat) (hel : elB P T E sz = true) (hx : ev env x = some (true, v)) (hi : hp[i]? = some (OwnS v E sz rows)) {z : Int} (hy : ev env y = some (true, .int .i64 z)) (hz : z = (k : Int)) (hk : k < rows.length) :
    Quiet P n ⟨d, .indexAddr T x y, ty, pos, af, gd⟩ ⟨env, ps, hp⟩ (.pointer (some ⟨blkOf v, k * sz, none⟩)) := fun w S fp a hst he hn => by
  subst hz
  obtain ⟨hT, it, hit, _, hsz, _⟩ := elB_spec hel
  have h1 := he.val hx rfl
  have h2 := he.val hy rfl
  rcases hst.res i _ hi with ⟨_, rfl, _⟩ | ⟨B, c, rfl, _⟩
  · simp at hk
  · have : (execOp a.eval ⟨d, .indexAddr T x y, ty, pos, af, gd⟩).run P w = .ok (.value (.pointer (some ⟨B, k * sz, none⟩))) w := by
      unfold execOp; dsimp only; rw [h1, h2]
      show ((Instr.indexAt T (.slice (some ⟨B, 0, none⟩) rows.length c) (.int .i64 k)).bind fun r => Sem.pure (Next.value r)).run P w = _
      have hE : P.elem T = E := by unfold Program.elem; rw [hT]
      rw [Sem.run_bind', run_indexAt_slice _ _ _ _ _ _ _ (by rw [hE]; exact hT), if_pos (by omega), hE, run_sizeOf' hit, hsz]
      simp only [Result.andThen, Int.toNat_natCast]
      unfold Addr.add
      split
      · rename_i h0; rw [h0]; rfl
      · simp only [Nat.zero_add]; rfl
    rw [this]; exact uponQ_ok _ _
theorem own_cell {w : World} {S F : Blks} (h : (OwnS v E sz rows).holds w S F) {r : Nat} {row : List D} (hr : rows[r]? = some row) {j : Nat} {dd : D} (hj : row[j]? = some dd) : ∃ u, w.cell? ⟨blkOf v, r * sz + j, none⟩ = some u ∧ RepD w S u dd ∧ u.oneCell' = true := by
  rcases h with ⟨_, rfl, _⟩ | ⟨b, cap, rfl, ⟨cs, sp, h1, h2, _⟩, _⟩
  · simp at hr
  · obtain ⟨u, hu, hrep⟩ := h2.rep r j row dd hr hj
    refine ⟨u, ?_, hrep, h2.one u (List.mem_of_getElem? hu)⟩
    show w.cell? ⟨b, r * sz + j, none⟩ = _
    rw [cell_box h1, List.getElem?_append_left (List.getElem?_eq_some_iff.1 hu).1]; exact hu
/-- a load out of an own slice: known values -/
theorem q_loadO {ag : Bool} {kk o : Nat} {row : List D} {u : Value} (i r j : Nat) (hk : tyk P U = some (ag, kk)) (hx : ev env x = some (true, .pointer (some ⟨blkOf v, o, none⟩))) (hi : hp[i]? = some (OwnS v E sz rows)) (hr : rows[r]? = some row) (ho : o = r * sz + j) (hv : rdD ag kk row j = some u) :
    Quiet P n ⟨d, .load U x, ty, pos, af, gd⟩ ⟨env, ps, hp⟩ u := fun w S fp a hst he hn => by
  subst ho
  have h1 := he.val hx rfl
  have hres := hst.res i _ hi
  have hat : (At (blkOf v) (r * sz) row).holds w (fun _ => True) := ⟨trivial, fun j dd hj => by
    obtain ⟨u, hu, hrep, h1⟩ := own_cell hres hr hj
    exact ⟨u, hu, h1, hrep.mono (fun _ _ => rfl) (fun _ _ => trivial)⟩⟩
  have : (execOp a.eval ⟨d, .load U x, ty, pos, af, gd⟩).run P w = .ok (.value u) w := by
    unfold execOp; dsimp only; rw [h1]
    have := rdD_run (P := P) hk hv hat
    show ((loadVar U ⟨blkOf v, r * sz + j, none⟩).bind fun r => Sem.pure (Next.value r)).run P w = _
    rw [Sem.run_bind', this]; rfl
  rw [this]; exact uponQ_ok _ _
/-- a store into an own slice -/
theorem e_storeO {ag : Bool} {kk o : Nat} {row ds : List D} {vy : Value} (i r j : Nat) (hk : tyk P U = some (ag, kk)) (hx : ev env x = some (true, .pointer (some ⟨blkOf v, o, none⟩))) (hy : ev env y = some (true, vy)) (hi : hp[i]? = some (OwnS v E sz rows)) (hr : rows[r]? = some row) (ho : o = r * sz + j)
    (hc : RC ps vy.cells.toList ds) (hl : ds.length = kk) (hj : j + kk ≤ sz) (hK : K ⟨env, ps, hp.set i (OwnS v E sz (rows.set r (setD row j ds)))⟩) :
    Eff P n ⟨none, .store U x y, ty, pos, af, gd⟩ ⟨env, ps, hp⟩ false K := .change i hi fun w S fp a hst he hn hR => by
  subst ho
  have e1 := he.val hx rfl
  have e2 := he.val hy rfl
  obtain ⟨_, it, _, hit, _, hjk⟩ := tyk_parts hk
  obtain ⟨hvl, hv1, hvd⟩ := hc.get
  generalize hv : vy.cells.toList = vs at hvl hv1 hvd
  rcases hR with ⟨_, rfl, _⟩ | ⟨b, cap, rfl, ⟨cs, sp, hb, hrows, hcap, hrc, hcm⟩, hF⟩
  · simp at hr
  · have hrl := (List.getElem?_eq_some_iff.1 hr).1
    have hle : r * sz + j + vs.length ≤ cs.length := by
      have := Nat.mul_le_mul_right sz (show r + 1 ≤ rows.length by omega)
      rw [Nat.add_mul] at this
      have := hrows.len; omega
    have : (execOp a.eval ⟨none, .store U x y, ty, pos, af, gd⟩).run P w = .ok .skip (w.setRow b (wrC (cs ++ sp) (r * sz + j) vs).toArray) := by
      show ((Instr.storeAt U (a.eval x) (a.eval y)).bind fun _ => Sem.pure Next.skip).run P w = _
      rw [e1, e2, Sem.run_bind']
      have : (Instr.storeAt U (.pointer (some ⟨b, r * sz + j, none⟩)) vy).run P w = .ok () (w.setRow b (wrC (cs ++ sp) (r * sz + j) vs).toArray) := by
        show (storeVar U ⟨b, r * sz + j, none⟩ vy).run P w = _
        unfold storeVar
        simp only [Sem.run_bind, run_sizeOf' hit, Result.andThen]
        have hsz : vy.cells.size = it.size := by rw [hjk, ← hl, ← hvl, ← hv]; simp
        rw [if_neg (by simpa using hsz), hv]
        exact storeCells_run b E (r * sz + j) vs 0 (cs ++ sp) w hb hv1 (by simp; omega)
      show (Result.andThen ((Instr.storeAt U (.pointer (some ⟨b, r * sz + j, none⟩)) vy).run P w) _) = _
      rw [this]; rfl
    rw [this]
    have hbS : ¬ S b := (hst.lt i (List.getElem?_eq_some_iff.1 hi).1 b ((hF b).2 rfl)).2
    refine ⟨OwnS _ E sz (rows.set r (setD row j ds)), _, hK, rfl, rfl, he, ?_, rfl, rfl, rfl, by simp [World.setRow], fun b' hb' hne => setRow_other _ _ _ _ (fun h => hne ((hF b').2 h))⟩
    refine .inr ⟨b, cap, by simp, ⟨wrC cs (r * sz + j) vs, sp, ?_, ?_, ?_, by simpa using hrc, hcm⟩, hF⟩
    · rw [← wrC_append hle]; exact setRow_heap _ _ _ _ _ _ hb
    · refine (hrows.set hr hvl (by omega) hv1 (fun k dd hk => ?_)).mono (fun b' hb' => setRow_other _ _ _ _ (fun h => hbS (h ▸ hb'))) (fun _ h => h)
      obtain ⟨u, hu, hd⟩ := hvd k dd hk
      refine ⟨u, hu, ?_⟩
      rcases hd with rfl | hd
      · exact .v u
      · exact hst.per _ hd
    · rw [List.length_append, wrC_len hle, ← List.length_append]; exact hcap
end
end Go.Sy
namespace Go.Sy
open Go.RowKit Go.Lp
/-- both, on blocks of their own -/
def Star (R R' : Res) : Res :=
  ⟨fun w S F => ∃ G H : Blks, R.holds w S G ∧ R'.holds w S H ∧ (∀ b, G b → ¬ H b) ∧ ∀ b, F b ↔ G b ∨ H b,
   fun ⟨G, H, h1, h2, h3, h4⟩ k1 k2 k3 => ⟨G, H, R.mono h1 (fun b hb => k1 b ((h4 b).2 (.inl hb))) k2 k3, R'.mono h2 (fun b hb => k1 b ((h4 b).2 (.inr hb))) k2 k3, h3, h4⟩⟩
section
variable {w : World} {S : Blks} {fp : Nat → Blks} {ps : List Per} {hp : List Res}
theorem St.star (h : St w S fp ps hp) {i j : Nat} {R R' : Res} (hi : hp[i]? = some R) (hj : hp[j]? = some R') (hne : i ≠ j) :
    St w S (fun k => if k = i then (fun b => fp i b ∨ fp j b) else if k = j then (fun _ => False) else fp k) ps ((hp.set i (Star R R')).set j emp) := by
  have hil := (List.getElem?_eq_some_iff.1 hi).1
  have hjl := (List.getElem?_eq_some_iff.1 hj).1
  refine ⟨h.per, fun k T hk => ?_, fun k hk b hb => ?_, fun k l hk hl hkl b hb hb' => ?_, h.slt⟩
  · by_cases hkj : k = j
    · subst hkj
      rw [List.getElem?_set_self (by simpa using hjl)] at hk
      simp only [Option.some.injEq] at hk
      subst hk
      rw [if_neg (Ne.symm hne), if_pos rfl]
      exact fun b hb => hb
    · rw [List.getElem?_set_ne (Ne.symm hkj)] at hk
      by_cases hki : k = i
      · subst hki
        rw [List.getElem?_set_self hil] at hk
        simp only [Option.some.injEq] at hk
        subst hk
        rw [if_pos rfl]
        exact ⟨fp k, fp j, h.res k R hi, h.res j R' hj, h.dj k j hil hjl hne, fun b => Iff.rfl⟩
      · rw [List.getElem?_set_ne (Ne.symm hki)] at hk
        rw [if_neg hki, if_neg hkj]
        exact h.res k T hk
  · have hk' : k < hp.length := by simpa using hk
    by_cases hki : k = i
    · rw [if_pos hki] at hb
      rcases hb with hb | hb
      · exact h.lt i hil b hb
      · exact h.lt j hjl b hb
    · rw [if_neg hki] at hb
      by_cases hkj : k = j
      · rw [if_pos hkj] at hb; exact hb.elim
      · rw [if_neg hkj] at hb; exact h.lt k hk' b hb
  · have hk' : k < hp.length := by simpa using hk
    have hl' : l < hp.length := by simpa using hl
    by_cases hki : k = i
    · rw [if_pos hki] at hb
      rw [if_neg (by omega)] at hb'
      by_cases hlj : l = j
      · rw [if_pos hlj] at hb'; exact hb'
      · rw [if_neg hlj] at hb'
        rcases hb with hb | hb
        · exact h.dj i l hil hl' (by omega) b hb hb'
        · exact h.dj j l hjl hl' (by omega) b hb hb'
    · rw [if_neg hki] at hb
      by_cases hkj : k = j
      · rw [if_pos hkj] at hb; exact hb
      · rw [if_neg hkj] at hb
        by_cases hli : l = i
        · rw [if_pos hli] at hb'
          rcases hb' with hb' | hb'
          · exact h.dj k i hk' hil hki b hb hb'
          · exact h.dj k j hk' hjl hkj b hb hb'
        · rw [if_neg hli] at hb'
          by_cases hlj : l = j
          · rw [if_pos hlj] at hb'; exact hb'
          · rw [if_neg hlj] at hb'; exact h.dj k l hk' hl' hkl b hb hb'
end
section
variable {P : Program} {n : Fr} {env : Env} {ps : List Per} {hp : List Res} {c : Code} {Q : Exit → Sta → Prop}
/-- the states of the same world -/
theorem awp_st {hp' : List Res} {ps' : List Per} (h0 : ∀ w S fp, St w S fp ps hp → ∃ fp', St w S fp' ps' hp' ∧ ∀ b, tot fp' hp'.length b → tot fp hp.length b) (h : awp P n c Q ⟨env, ps', hp'⟩) : awp P n c Q ⟨env, ps, hp⟩ := fun w S fp a hst he hn hd => by
  obtain ⟨fp', h1, h2⟩ := h0 w S fp hst
  exact cwp_mono (fun e a' w' hp' => PostA.trans (Evo.refl _ _ _) (fun b hb => .inl (h2 b hb)) hp') (h w S fp' a h1 he hn hd)
/-- two resources become one -/
theorem awp_star (i j : Nat) {R R' : Res} (hi : hp[i]? = some R) (hj : hp[j]? = some R') (hne : (i == j) = false) (h : awp P n c Q ⟨env, ps, (hp.set i (Star R R')).set j emp⟩) : awp P n c Q ⟨env, ps, hp⟩ := by
  have hil := (List.getElem?_eq_some_iff.1 hi).1
  have hjl := (List.getElem?_eq_some_iff.1 hj).1
  refine awp_st (fun w S fp hst => ⟨_, hst.star hi hj (by simpa using hne), fun b ⟨k, hk, hb⟩ => ?_⟩) h
  have hk' : k < hp.length := by simpa using hk
  dsimp only at hb
  split at hb
  · exact hb.elim (fun h => ⟨i, hil, h⟩) (fun h => ⟨j, hjl, h⟩)
  · split at hb
    · exact hb.elim
    · exact ⟨k, hk', hb⟩
/-- a resource of no block -/
theorem awp_void (R : Res) (hR : ∀ w S, R.holds w S (fun _ => False)) (h : awp P n c Q ⟨env, ps, hp ++ [R]⟩) : awp P n c Q ⟨env, ps, hp⟩ := awp_st (fun w S fp hst => ⟨_, hst.push (Below.refl _ _) R (fun _ => False) (hR w S) (fun b h => h.elim), fun b hb => by
  have hb' : tot (fun i => if i = hp.length then (fun _ => False) else fp i) (hp.length + 1) b := by simpa using hb
  exact (tot_push hb').elim id (fun h => h.elim)⟩) h
/-- a fact out of one resource -/
theorem awp_knowR (i : Nat) {R : Res} {φ : Prop} (hi : hp[i]? = some R) (h0 : ∀ w S F, R.holds w S F → φ) (h : φ → awp P n c Q ⟨env, ps, hp⟩) : awp P n c Q ⟨env, ps, hp⟩ := awp_know (fun w S fp hst => h0 w S _ (hst.res i R hi)) h
end
end Go.Sy
