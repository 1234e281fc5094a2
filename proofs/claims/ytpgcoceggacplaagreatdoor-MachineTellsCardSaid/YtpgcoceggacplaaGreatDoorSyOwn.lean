/- A logic of states: own slices. No condition. -/
import Derived.Test.YtpgcoceggacplaaGreatDoorSyCall
import Derived.Laws.MakeOwn
set_option linter.unusedVariables false
set_option linter.unusedSimpArgs false
set_option maxRecDepth 20000
namespace Go.Sy
open Go.RowKit Go.Lp
section
variable {w w' : World} {S S' : Blks} {fp : Nat → Blks} {ps : List Per} {hp : List Res}
/-- a resource becomes another one, on its blocks or new ones -/
theorem St.change2 (h : St w S fp ps hp) {i : Nat} (hi : i < hp.length) (hs : w.heap.size ≤ w'.heap.size) (hw : ∀ b, b < w.heap.size → ¬ fp i b → w'.heap[b]? = w.heap[b]?) (R : Res) (F : Blks) (hR : R.holds w' S F)
    (hF : ∀ b, F b → (fp i b ∨ w.heap.size ≤ b) ∧ b < w'.heap.size) : St w' S (fun k => if k = i then F else fp k) ps (hp.set i R) := by
  have hS : ∀ b, S b → w'.heap[b]? = w.heap[b]? := fun b hb => hw b (h.slt b hb) (fun hf => (h.lt i hi b hf).2 hb)
  refine ⟨fun p hp' => p.mono (h.per p hp') hS (fun _ h => h), fun j R' hj => ?_, fun j hj b hb => ?_, fun j k hj hk hne b hbj hbk => ?_, fun b hb => Nat.lt_of_lt_of_le (h.slt b hb) hs⟩
  · by_cases hij : i = j
    · subst hij
      rw [List.getElem?_set_self hi] at hj
      simp only [Option.some.injEq] at hj
      subst hj; rw [if_pos rfl]; exact hR
    · rw [List.getElem?_set_ne hij] at hj
      have hjl := (List.getElem?_eq_some_iff.1 hj).1
      rw [if_neg (Ne.symm hij)]
      exact R'.mono (h.res j R' hj) (fun b hb => hw b (h.lt j hjl b hb).1 (fun hf => h.dj i j hi hjl hij b hf hb)) hS (fun _ h => h)
  · have hj' : j < hp.length := by simpa using hj
    by_cases hij : j = i
    · rw [if_pos hij] at hb
      refine ⟨(hF b hb).2, fun hS' => ?_⟩
      rcases (hF b hb).1 with h1 | h1
      · exact (h.lt i hi b h1).2 hS'
      · have := h.slt b hS'; omega
    · rw [if_neg hij] at hb
      exact ⟨Nat.lt_of_lt_of_le (h.lt j hj' b hb).1 hs, (h.lt j hj' b hb).2⟩
  · have hj' : j < hp.length := by simpa using hj
    have hk' : k < hp.length := by simpa using hk
    have key : ∀ m, m < hp.length → m ≠ i → fp m b → F b → False := fun m hm hmi hbm hbF => by
      rcases (hF b hbF).1 with h1 | h1
      · exact h.dj m i hm hi hmi b hbm h1
      · have := (h.lt m hm b hbm).1; omega
    by_cases hji : j = i
    · rw [if_pos hji] at hbj
      rw [if_neg (by omega)] at hbk
      exact key k hk' (by omega) hbk hbj
    · rw [if_neg hji] at hbj
      by_cases hki : k = i
      · rw [if_pos hki] at hbk; exact key j hj' hji hbj hbk
      · rw [if_neg hki] at hbk; exact h.dj j k hj' hk' hne b hbj hbk
theorem St.drop (h : St w S fp ps hp) (i : Nat) : St w S (fun k => if k = i then (fun _ => False) else fp k) ps (hp.set i emp) := by
  by_cases hi : i < hp.length
  · exact h.change2 hi (Nat.le_refl _) (fun _ _ _ => rfl) emp _ (fun b hb => hb) (fun b hb => hb.elim)
  · rw [List.set_eq_of_length_le (Nat.not_lt.1 hi)]
    refine ⟨h.per, fun j R hj => ?_, fun j hj b hb => ?_, fun j k hj hk hne b hbj hbk => ?_, h.slt⟩
    · rw [if_neg (by have := (List.getElem?_eq_some_iff.1 hj).1; omega)]; exact h.res j R hj
    · rw [if_neg (by omega)] at hb; exact h.lt j hj b hb
    · rw [if_neg (by omega)] at hbj hbk; exact h.dj j k hj hk hne b hbj hbk
end
/-- an own slice: nil, or at the head of a block of its own -/
def OwnS (v : Value) (E : TypeId) (sz : Nat) (rows : List (List D)) : Res :=
  ⟨fun w S F => (v = .slice none 0 0 ∧ rows = [] ∧ ∀ b, ¬ F b) ∨ ∃ b cap, v = .slice (some ⟨b, 0, none⟩) rows.length cap ∧ (Own b E sz cap rows).holds w S F,
   fun h h1 h2 h3 => h.imp id fun ⟨b, cap, hv, ho⟩ => ⟨b, cap, hv, (Own b E sz cap rows).mono ho h1 h2 h3⟩⟩
/-- cells that stand for a row -/
inductive RC (ps : List Per) : List Value → List D → Prop where
  | nil : RC ps [] []
  | v {u : Value} {us : List Value} {ds : List D} : u.oneCell' = true → RC ps us ds → RC ps (u :: us) (.v u :: ds)
  | s {u : Value} {d : D} {us : List Value} {ds : List D} : u.oneCell' = true → Sh u d ∈ ps → RC ps us ds → RC ps (u :: us) (d :: ds)
theorem RC.get {ps : List Per} {us : List Value} {ds : List D} (h : RC ps us ds) : us.length = ds.length ∧ (∀ u ∈ us, u.oneCell' = true) ∧ ∀ (j : Nat) (d : D), ds[j]? = some d → ∃ u, us[j]? = some u ∧ (d = .v u ∨ Sh u d ∈ ps) := by
  induction h with
  | nil => exact ⟨rfl, by simp, fun j d h => by simp at h⟩
  | v ho _ ih =>
    obtain ⟨h1, h2, h3⟩ := ih
    refine ⟨by simp [h1], fun u hu => ?_, fun j d hj => ?_⟩
    · rcases List.mem_cons.1 hu with rfl | hu
      · exact ho
      · exact h2 u hu
    · cases j with
      | zero => simp only [List.getElem?_cons_zero, Option.some.injEq] at hj; exact ⟨_, rfl, .inl hj.symm⟩
      | succ j => exact h3 j d hj
  | s ho hs _ ih =>
    obtain ⟨h1, h2, h3⟩ := ih
    refine ⟨by simp [h1], fun u hu => ?_, fun j d hj => ?_⟩
    · rcases List.mem_cons.1 hu with rfl | hu
      · exact ho
      · exact h2 u hu
    · cases j with
      | zero => simp only [List.getElem?_cons_zero, Option.some.injEq] at hj; subst hj; exact ⟨_, rfl, .inr hs⟩
      | succ j => exact h3 j d hj
/-- the cells of several rows -/
inductive RCs (ps : List Per) (sz : Nat) : List Value → List (List D) → Prop where
  | nil : RCs ps sz [] []
  | cons {us vs : List Value} {r : List D} {rows : List (List D)} : us.length = sz → RC ps us r → RCs ps sz vs rows → RCs ps sz (us ++ vs) (r :: rows)
theorem RCs.rows {ps : List Per} {sz : Nat} {cs : List Value} {rows : List (List D)} (h : RCs ps sz cs rows) {w : World} {S : Blks} (hp : ∀ p ∈ ps, p.holds w S) : RowsAt w S sz cs rows := by
  induction h with
  | nil => exact ⟨by simp, by simp, by simp, by simp⟩
  | @cons us vs r rows hl hr _ ih =>
    obtain ⟨h1, h2, h3⟩ := hr.get
    refine ⟨by simp [ih.len, hl, Nat.add_mul, Nat.add_comm], fun i r' hi => ?_, fun v hv => ?_, fun i j r' d hi hj => ?_⟩
    · cases i with
      | zero => simp only [List.getElem?_cons_zero, Option.some.injEq] at hi; subst hi; omega
      | succ i => exact ih.row i r' hi
    · rcases List.mem_append.1 hv with h | h
      · exact h2 v h
      · exact ih.one v h
    · cases i with
      | zero =>
        simp only [List.getElem?_cons_zero, Option.some.injEq] at hi; subst hi
        obtain ⟨u, hu, hd⟩ := h3 j d hj
        refine ⟨u, ?_, ?_⟩
        · rw [Nat.zero_mul, Nat.zero_add, List.getElem?_append_left (List.getElem?_eq_some_iff.1 hu).1]; exact hu
        · rcases hd with rfl | hd
          · exact .v u
          · exact hp _ hd
      | succ i =>
        obtain ⟨u, hu, hr⟩ := ih.rep i j r' d hi hj
        refine ⟨u, ?_, hr⟩
        rw [List.getElem?_append_right (by rw [Nat.add_mul]; omega), hl, show (i + 1) * sz + j - sz = i * sz + j by rw [Nat.add_mul]; omega]; exact hu
theorem RowsAt.append {w : World} {S : Blks} {sz : Nat} {cs cs' : List Value} {rows rows' : List (List D)} (h : RowsAt w S sz cs rows) (h' : RowsAt w S sz cs' rows') : RowsAt w S sz (cs ++ cs') (rows ++ rows') := by
  refine ⟨by simp [h.len, h'.len, Nat.add_mul], fun i r hi => ?_, fun v hv => ?_, fun i j r d hi hj => ?_⟩
  · rw [List.getElem?_append] at hi
    split at hi
    · exact h.row i r hi
    · exact h'.row _ r hi
  · rcases List.mem_append.1 hv with h1 | h1
    · exact h.one v h1
    · exact h'.one v h1
  · rw [List.getElem?_append] at hi
    split at hi
    · obtain ⟨u, hu, hr⟩ := h.rep i j r d hi hj
      exact ⟨u, by rw [List.getElem?_append_left (List.getElem?_eq_some_iff.1 hu).1]; exact hu, hr⟩
    · rename_i hge
      obtain ⟨u, hu, hr⟩ := h'.rep _ j r d hi hj
      refine ⟨u, ?_, hr⟩
      have e : i * sz = cs.length + (i - rows.length) * sz := by
        rw [h.len, ← Nat.add_mul]; congr 1; omega
      rw [e, Nat.add_assoc, List.getElem?_append_right (by omega), Nat.add_sub_cancel_left]; exact hu

section
variable {P : Program} {n : Nat} {env : Env} {ps : List Per} {hp : List Res} {ty : TypeId} {pos : String} {af : Array Edge} {gd : Option (Nat × Bool)} {K : Sta → Prop} {d : Option Tmp} {v : Value} {q : Bool}
/-- a slice's length -/
theorem q_lenO {x : Operand} {T T' E : TypeId} {sz : Nat} {rows : List (List D)} (i : Nat) (hT : P.underlying T = some (.slice E)) (hx : ev env x = some (true, v)) (hi : hp[i]? = some (OwnS v T' sz rows)) :
    Quiet P n ⟨d, .call ⟨.builtin .len, #[x], #[T]⟩, ty, pos, af, gd⟩ ⟨env, ps, hp⟩ (.int .i64 rows.length) := fun w S fp a hst he hn => by
  have hr := hst.res i _ hi
  have hl : ∃ ad c, v = .slice ad rows.length c := by
    rcases hr with ⟨rfl, rfl, _⟩ | ⟨b, c, rfl, _⟩
    · exact ⟨none, 0, rfl⟩
    · exact ⟨_, _, rfl⟩
  obtain ⟨ad, c, rfl⟩ := hl
  exact q_lenS (P := P) (n := n) (s := ⟨env, ps, hp⟩) hT hx w S fp a hst he hn
/-- a fact out of what is owned: a length is an int -/
theorem awp_lenO {c : Code} {Q : Exit → Sta → Prop} {T : TypeId} {sz : Nat} {rows : List (List D)} (i : Nat) (hi : hp[i]? = some (OwnS v T sz rows)) (h : rows.length ≤ 9223372036854775807 → awp P n c Q ⟨env, ps, hp⟩) : awp P n c Q ⟨env, ps, hp⟩ :=
  awp_know (fun w S fp hst => by
    rcases hst.res i _ hi with ⟨_, rfl, _⟩ | ⟨b, c, _, ⟨cs, sp, _, _, _, h1, h2⟩, _⟩
    · simp
    · unfold maxLen at h2; omega) h
/-- nil is an own slice -/
theorem awp_nil {c : Code} {Q : Exit → Sta → Prop} (T : TypeId) (sz : Nat) (h : awp P n c Q ⟨env, ps, hp ++ [OwnS (.slice none 0 0) T sz []]⟩) : awp P n c Q ⟨env, ps, hp⟩ := fun w S fp a hst he hn hd => by
  have h1 := hst.push (Below.refl _ _) (OwnS (.slice none 0 0) T sz []) (fun _ => False) (.inl ⟨rfl, rfl, fun b h => h⟩) (fun b h => h.elim)
  refine Code.wp_mono (fun e a' w' hp' => PostA.trans (Evo.refl _ _ _) (fun b hb => ?_) hp') (h w S _ a h1 he hn hd)
  have hb' : tot (fun i => if i = hp.length then (fun _ => False) else fp i) (hp.length + 1) b := by simpa using hb
  exact (tot_push hb').elim .inl (fun h => h.elim)
/-- an own slice is shared from now on -/
theorem awp_share {c : Code} {Q : Exit → Sta → Prop} {T : TypeId} {sz : Nat} {rows : List (List D)} (i : Nat) (hi : hp[i]? = some (OwnS v T sz rows)) (h : awp P n c Q ⟨env, Sh v (.sl rows) :: ps, hp.set i emp⟩) : awp P n c Q ⟨env, ps, hp⟩ := fun w S fp a hst he hn hd => by
  have hil := (List.getElem?_eq_some_iff.1 hi).1
  have hr := hst.res i _ hi
  have hst0 := hst.drop i
  have hS : ∀ b, S b → (S b ∨ fp i b) := fun _ h => .inl h
  have h1 : St w (fun b => S b ∨ fp i b) (fun k => if k = i then (fun _ => False) else fp k) (Sh v (.sl rows) :: ps) (hp.set i emp) := by
    refine ⟨fun p hp' => ?_, fun j R hj => R.mono (hst0.res j R hj) (fun _ _ => rfl) (fun _ _ => rfl) hS, fun j hj b hb => ?_, hst0.dj, fun b hb => hb.elim (hst.slt b) (fun h => (hst.lt i hil b h).1)⟩
    · rcases List.mem_cons.1 hp' with rfl | h2
      · rcases hr with ⟨rfl, rfl, _⟩ | ⟨b, cap, rfl, ⟨cs, sp, hb, hrows, hl, hle, hcap⟩, hF⟩
        · exact .e none 0 (by unfold maxLen; omega)
        · refine .sl b 0 cap sz rows (fun i j => cs.getD (i * sz + j) undef) (.inr ((hF b).2 rfl)) hle hcap hrows.row (fun i j r d h1 h2 => ?_) (fun i j r d h1 h2 => ?_)
          · obtain ⟨u, hu, _⟩ := hrows.rep i j r d h1 h2
            have e : cs.getD (i * sz + j) undef = u := by simp [List.getD, hu]
            rw [e]
            refine ⟨?_, hrows.one u (List.mem_of_getElem? hu)⟩
            rw [Nat.zero_add, cell_box hb, List.getElem?_append_left (List.getElem?_eq_some_iff.1 hu).1]; exact hu
          · obtain ⟨u, hu, hr⟩ := hrows.rep i j r d h1 h2
            have e : cs.getD (i * sz + j) undef = u := by simp [List.getD, hu]
            rw [e]
            exact hr.mono (fun _ _ => rfl) hS
      · exact p.mono (hst.per p h2) (fun _ _ => rfl) hS
    · have hj' : j < hp.length := by simpa using hj
      by_cases hji : j = i
      · rw [if_pos hji] at hb; exact hb.elim
      · rw [if_neg hji] at hb
        exact ⟨(hst.lt j hj' b hb).1, fun h => h.elim (hst.lt j hj' b hb).2 (hst.dj j i hj' hil hji b hb)⟩
  refine Code.wp_mono (fun e a' w' hp' => PostA.trans (X := tot fp hp.length) ⟨rfl, rfl, rfl, Nat.le_refl _, fun _ _ _ => rfl, hS, fun b hb => hb.elim .inl (fun h => .inr (.inl ⟨i, hil, h⟩))⟩ (fun b hb => ?_) hp') (h w _ _ a h1 he hn hd)
  obtain ⟨k, hk, hbk⟩ := hb
  have hk' : k < hp.length := by simpa using hk
  by_cases hki : k = i
  · simp only [hki, if_true] at hbk
  · simp only [if_neg hki] at hbk
    exact .inl ⟨k, hk', hbk⟩
/-- the same in front of a region -/
theorem look_set (env : Env) (t : Nat) (g : Bool) (v : Value) : look ((t, g, v) :: env) t = some (g, v) := by simp [look]

/-- where an append's second operand comes from -/
structure AppSrc (P : Program) (s : Sta) (tx : TypeId) (sz : Nat) (x : Value) (rows : List (List D)) : Prop where
  src : ∀ w S fp, St w S fp s.ps s.hp → ∃ news, RowsAt w S sz news rows ∧ Src P sz tx x rows.length news w
theorem RowsAt.src {w : World} {S : Blks} {tx e' : TypeId} {sz V o vc : Nat} {cs : List Value} {rows : List (List D)} (h : RowsAt w S sz cs rows) (hk : P.underlying tx = some (.slice e')) (hV : ∀ j u, cs[j]? = some u → w.cell? ⟨V, o + j, none⟩ = some u) :
    Src P sz tx (.slice (some ⟨V, o, none⟩) rows.length vc) rows.length cs w := Src.row w tx e' hk sz V o rows.length vc cs h.len hV h.one
theorem src_own {T E' : TypeId} {tx : TypeId} {sz : Nat} {x : Value} {rows : List (List D)} (j : Nat) (hk : P.underlying tx = some (.slice E')) (hj : hp[j]? = some (OwnS x T sz rows)) (hne : rows ≠ []) : AppSrc P ⟨env, ps, hp⟩ tx sz x rows := ⟨fun w S fp hst => by
  rcases hst.res j _ hj with ⟨_, rfl, _⟩ | ⟨b, cap, rfl, ⟨cs, sp, hb, hr, _⟩, _⟩
  · exact absurd rfl hne
  · exact ⟨cs, hr, hr.src hk fun j u hu => by rw [Nat.zero_add, cell_box hb, List.getElem?_append_left (List.getElem?_eq_some_iff.1 hu).1]; exact hu⟩⟩
theorem src_sh {E' : TypeId} {tx : TypeId} {sz : Nat} {x : Value} {rows : List (List D)} (hk : P.underlying tx = some (.slice E')) (hs : Sh x (.sl rows) ∈ ps) (hrl : ∀ r ∈ rows, r.length = sz) (hne : rows ≠ []) : AppSrc P ⟨env, ps, hp⟩ tx sz x rows := ⟨fun w S fp hst => by
  have hh := hst.per _ hs
  cases hh with
  | e a c hc => exact absurd rfl hne
  | sl b o c sz' _ us hb hn hc hr hcell hd =>
    have hsz : sz' = sz := by
      cases rows with
      | nil => exact absurd rfl hne
      | cons r rs => rw [← hr 0 r rfl]; exact hrl r (by simp)
    subst hsz
    have hR : RowsAt w S sz' ((List.range (rows.length * sz')).map fun k => us (k / sz') (k % sz')) rows := by
      refine ⟨by simp, hr, fun v hv => ?_, fun i j r d h1 h2 => ?_⟩
      · obtain ⟨k, hk, rfl⟩ := List.mem_map.1 hv
        have hk' := List.mem_range.1 hk
        have h0 : 0 < sz' := by
          rcases Nat.eq_zero_or_pos sz' with h | h
          · rw [h] at hk'; simp at hk'
          · exact h
        have hi : k / sz' < rows.length := (Nat.div_lt_iff_lt_mul h0).2 hk'
        have hrl' := hr (k / sz') rows[k / sz'] (by simp [hi])
        have hj : k % sz' < rows[k / sz'].length := by rw [hrl']; exact Nat.mod_lt _ h0
        exact (hcell (k / sz') (k % sz') rows[k / sz'] rows[k / sz'][k % sz'] (by simp [hi]) (by simp [hj])).2
      · have hj : j < sz' := by rw [← hr i r h1]; exact (List.getElem?_eq_some_iff.1 h2).1
        have hi := (List.getElem?_eq_some_iff.1 h1).1
        have hlt : i * sz' + j < rows.length * sz' := by
          have := Nat.mul_le_mul_right sz' (show i + 1 ≤ rows.length by omega)
          rw [Nat.add_mul] at this; omega
        refine ⟨us i j, ?_, hd i j r d h1 h2⟩
        rw [List.getElem?_map, List.getElem?_range hlt]
        simp only [Option.map_some]
        rw [Nat.mul_comm, Nat.mul_add_div (by omega), Nat.div_eq_of_lt hj, Nat.mul_add_mod, Nat.mod_eq_of_lt hj, Nat.add_zero]
    refine ⟨_, hR, hR.src hk fun k u hu => ?_⟩
    have hk' := (List.getElem?_eq_some_iff.1 hu).1
    simp only [List.length_map, List.length_range] at hk'
    rw [List.getElem?_map, List.getElem?_range hk'] at hu
    simp only [Option.map_some, Option.some.injEq] at hu
    have h0 : 0 < sz' := by
      rcases Nat.eq_zero_or_pos sz' with h | h
      · rw [h] at hk'; simp at hk'
      · exact h
    have hi : k / sz' < rows.length := (Nat.div_lt_iff_lt_mul h0).2 hk'
    have hrl' := hr (k / sz') rows[k / sz'] (by simp [hi])
    have hj : k % sz' < rows[k / sz'].length := by rw [hrl']; exact Nat.mod_lt _ h0
    have := (hcell (k / sz') (k % sz') rows[k / sz'] rows[k / sz'][k % sz'] (by simp [hi]) (by simp [hj])).1
    rw [Nat.add_assoc, Nat.mul_comm, Nat.div_add_mod] at this
    rw [this, hu]⟩
/-- an append to an own slice -/
theorem e_append {t : Nat} {x y : Operand} {T tx E : TypeId} {it : TypeInfo} {sz : Nat} {vy : Value} {rows rows2 : List (List D)} (i : Nat) (hT : P.underlying T = some (.slice E)) (hin : P.info? E = some it) (hiz : (it.zero.map fun z => z.cells.size) = some it.size) (hsz : it.size = sz) (hby : it.bytes ≤ 4096)
    (hx : ev env x = some (true, v)) (hy : ev env y = some (true, vy)) (ht : fits n (some t) = true) (hi : hp[i]? = some (OwnS v E sz rows)) (hs : AppSrc P ⟨env, ps, hp⟩ tx sz vy rows2) (h0 : rows2 ≠ []) (hle : rows.length + rows2.length ≤ 1000000000)
    (m : Nat) (hm : rows.length + rows2.length = m) (hK : ∀ ad c, K ⟨(t, true, .slice ad m c) :: env, ps, hp.set i (OwnS (.slice ad m c) E sz (rows ++ rows2))⟩) :
    Eff P n ⟨some t, .call ⟨.builtin .append, #[x, y], #[T, tx]⟩, ty, pos, af, gd⟩ ⟨env, ps, hp⟩ false K := fun w S fp a hst he hn => by
  subst hm
  have e1 := he.val hx rfl
  have e2 := he.val hy rfl
  have hil := (List.getElem?_eq_some_iff.1 hi).1
  obtain ⟨news, hnews, hsrc⟩ := hs.src w S fp hst
  obtain ⟨z, hz, hzs⟩ : ∃ z, it.zero = some z ∧ z.cells.size = it.size := by
    cases hz : it.zero with
    | none => rw [hz] at hiz; cases hiz
    | some z => rw [hz] at hiz; exact ⟨z, rfl, by simpa using hiz⟩
  have hk0 : 0 < rows2.length := by cases rows2 with
    | nil => exact absurd rfl h0
    | cons => simp
  subst hsz
  have hexec : execOp a.eval ⟨some t, .call ⟨.builtin .append, #[x, y], #[T, tx]⟩, ty, pos, af, gd⟩ = (Builtin.append_ #[T, tx] ty (#[x, y].map a.eval)).bind fun r => Sem.pure (Next.value r) := rfl
  have hargs : #[x, y].map a.eval = #[v, vy] := by simp [e1, e2]
  rw [hexec, hargs, Sem.run_bind']
  have fin : ∀ (b C : Nat) (w1 : World) (cur : List Value), (Builtin.append_ #[T, tx] ty #[v, vy]).run P w = .ok (.slice (some ⟨b, 0, none⟩) (rows.length + rows2.length) C) w1 → w.heap.size ≤ w1.heap.size →
      (∀ b', b' < w.heap.size → ¬ fp i b' → w1.heap[b']? = w.heap[b']?) → w1.os = w.os → w1.tape = w.tape → w1.output = w.output → w1.heap[b]? = some (.cells cur.toArray E (0, 0)) → (fp i b ∨ w.heap.size ≤ b) →
      (∃ cs, RowsAt w S it.size cs rows ∧ cur.take ((rows.length + rows2.length) * it.size) = cs ++ news) → cur.length = C * it.size → rows.length + rows2.length ≤ C → C ≤ maxLen →
      uponU P (fun u w' => ∃ s' S' fp', K s' ∧ St w' S' fp' s'.ps s'.hp ∧ EnvOk (a.put (some t) u) s'.env ∧ Evo w S (tot fp hp.length) w' S' ∧ (∀ b, tot fp' s'.hp.length b → tot fp hp.length b ∨ w.heap.size ≤ b) ∧ (false = true → Below w.heap.size w w'))
        (((Builtin.append_ #[T, tx] ty #[v, vy]).run P w).andThen fun r w' => (Sem.pure (Next.value r)).run P w') := by
    intro b C w1 cur hrun hsz1 hw1 o1 o2 o3 hb hbF ⟨cs, hcs, htake⟩ hlen hC hCm
    rw [hrun]
    have hlt : b < w1.heap.size := (Array.getElem?_eq_some_iff.1 hb).1
    have hR : (OwnS (.slice (some ⟨b, 0, none⟩) (rows.length + rows2.length) C) E it.size (rows ++ rows2)).holds w1 S (fun k => k = b) := by
      refine .inr ⟨b, C, by simp, ⟨cs ++ news, cur.drop ((rows.length + rows2.length) * it.size), ?_, ?_, ?_, by simpa using hC, hCm⟩, fun _ => Iff.rfl⟩
      · rw [← htake, List.take_append_drop]; exact hb
      · refine (hcs.append hnews).mono (fun b' hb' => hw1 b' (hst.slt b' hb') (fun hf => (hst.lt i hil b' hf).2 hb')) (fun _ h => h)
      · rw [← htake, List.take_append_drop]; exact hlen
    have hst' := hst.change2 hil hsz1 hw1 _ (fun k => k = b) hR (fun k hk => by subst hk; exact ⟨hbF, hlt⟩)
    refine ⟨_, S, _, hK _ _, hst', he.put (g := true) (by rw [hn]; simpa [fits] using ht) _, ⟨o1, o2, o3, hsz1, fun b' hb' hx' => hw1 b' hb' (fun hf => hx' ⟨i, hil, hf⟩), fun _ h => h, fun _ h => .inl h⟩, fun b' ⟨k, hk, hbk⟩ => ?_, fun h => by cases h⟩
    have hk' : k < hp.length := by simpa using hk
    dsimp only at hbk
    by_cases hki : k = i
    · rw [if_pos hki] at hbk
      subst hbk
      exact hbF.imp (fun h => ⟨i, hil, h⟩) id
    · rw [if_neg hki] at hbk; exact .inl ⟨k, hk', hbk⟩
  rcases hst.res i _ hi with ⟨hv, hr0, _⟩ | ⟨B, c, hv, ⟨cs, sp, hB, hrows, hl, hc, hcm⟩, hF⟩
  · subst hv; subst hr0
    obtain ⟨C, w1, h1, h2, hrun, ⟨cur1, g1, g2, g3⟩, g4, g5⟩ := append_grow (P := P) w T tx ty E it z hT hin hz hzs none 0 0 rows2.length [] (by simp [Builtin.firstCells]) (by simp) vy news hsrc (by omega) (by simpa using hle) hby
    have hrun' : (Builtin.append_ #[T, tx] ty #[.slice none 0 0, vy]).run P w = .ok (.slice (some ⟨w.heap.size, 0, none⟩) (([] : List (List D)).length + rows2.length) C) w1 := by rw [hrun]; rfl
    exact fin w.heap.size C w1 cur1 hrun' g5.size (fun b' hb' _ => g5.block b' hb') g5.os g5.tape g5.output g1 (.inr (Nat.le_refl _)) ⟨[], ⟨by simp, by simp, by simp, by simp⟩, by simpa using g3⟩ g2 (by simpa using h1) h2
  · subst hv
    by_cases hroom : rows.length + rows2.length ≤ c
    · have hfit : 0 + rows.length * it.size + news.length ≤ (cs ++ sp).toArray.size := by
        have h1 := hsrc.newsLen
        have := Nat.mul_le_mul_right it.size hroom
        rw [Nat.add_mul] at this
        simp only [List.size_toArray, hl]; omega
      have hrun := append_room (P := P) w T tx ty E it hT hin B 0 rows.length c vy rows2.length news hsrc hroom (cs ++ sp).toArray E hB hfit
      have hlen : (splice (cs ++ sp) (0 + rows.length * it.size) news).length = c * it.size := by
        unfold splice
        have h1 := hsrc.newsLen
        have := Nat.mul_le_mul_right it.size hroom
        rw [Nat.add_mul] at this
        simp only [List.length_append, List.length_take, List.length_drop] at hl ⊢
        omega
      refine fin B c _ _ hrun (by simp [World.setRow]) (fun b' hb' hne => setRow_other _ _ _ _ (fun h => hne ((hF b').2 h))) rfl rfl rfl (setRow_heap _ _ _ _ _ _ hB) (.inl ((hF B).2 rfl)) ⟨cs, hrows, ?_⟩ hlen hroom hcm
      have hcl := hrows.len
      unfold splice
      rw [Nat.zero_add, Nat.add_mul, ← hcl, List.take_append_of_le_length (Nat.le_refl _), List.take_length, ← hsrc.newsLen, ← List.append_assoc, ← List.length_append, List.take_append_of_le_length (Nat.le_refl _), List.take_length]
    · have hfc := run_firstCells_row (P := P) w.drew B 0 it.size rows.length c (cs ++ sp) E (0, 0) hB (by rw [hl, Nat.zero_add]; exact Nat.mul_le_mul_right _ hc)
      obtain ⟨C, w1, h1, h2, hrun, ⟨cur1, g1, g2, g3⟩, g4, g5⟩ := append_grow (P := P) w T tx ty E it z hT hin hz hzs (some ⟨B, 0, none⟩) rows.length c rows2.length cs (by
        rw [hfc]
        congr 2
        rw [List.drop_zero, ← hrows.len, List.take_append_of_le_length (Nat.le_refl _), List.take_length]) hrows.len vy news hsrc (by omega) hle hby
      exact fin w.heap.size C w1 cur1 hrun g5.size (fun b' hb' _ => g5.block b' hb') g5.os g5.tape g5.output g1 (.inr (Nat.le_refl _)) ⟨cs, hrows, g3⟩ g2 h1 h2
end
end Go.Sy
