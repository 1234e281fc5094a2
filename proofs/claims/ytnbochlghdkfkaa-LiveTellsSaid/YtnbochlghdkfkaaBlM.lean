/- The least of the shortest ways, on lists of numbers: both searches find it. No condition. -/
import Derived.Test.YtnbochlghdkfkaaBlD
import Derived.Test.YtnbochlghdkfkaaBlG
set_option linter.unusedVariables false
set_option linter.unusedSimpArgs false
set_option maxRecDepth 20000
namespace Go.Sy
open Go.RowKit Go.Lp
theorem aL_fact {P : Program} {n : Fr} {ops : Array Oper} {env : Env} {ps : List Per} {hp : List Res} {Q : Exit → Sta → Prop} {rest : List Oper} (p : Per) (hf : ∀ w S, (∀ q ∈ ps, q.holds w S) → p.holds w S) (h : aL P n ops Q rest ⟨env, p :: ps, hp⟩) : aL P n ops Q rest ⟨env, ps, hp⟩ := fun w S fp a hst he hn hd =>
  h w S fp a ⟨fun q hq => by
    rcases List.mem_cons.1 hq with rfl | hq
    · exact hf w S hst.per
    · exact hst.per q hq, hst.res, hst.lt, hst.dj, hst.slt⟩ he hn hd
theorem aL_share {P : Program} {n : Fr} {ops : Array Oper} {env : Env} {ps : List Per} {hp : List Res} {Q : Exit → Sta → Prop} {rest : List Oper} {v : Value} {T : TypeId} {sz : Nat} {rows : List (List D)} (i : Nat) (hi : hp[i]? = some (OwnS v T sz rows)) (h : aL P n ops Q rest ⟨env, Sh v (.sl rows) :: ps, hp.set i emp⟩) : aL P n ops Q rest ⟨env, ps, hp⟩ := fun w S fp a hst he hn hd => by
  have hil := (List.getElem?_eq_some_iff.1 hi).1
  have h1 := st_share hst i hi
  have htot : ∀ b, tot (fun k => if k = i then (fun _ => False) else fp k) (hp.set i emp).length b → tot fp hp.length b := fun b ⟨j, hj, hb⟩ => by
    dsimp only at hb
    by_cases hji : j = i
    · rw [if_pos hji] at hb; exact hb.elim
    · rw [if_neg hji] at hb; exact ⟨j, by simpa using hj, hb⟩
  have hE : Evo w S (tot fp hp.length) w (fun b => S b ∨ fp i b) := ⟨rfl, rfl, rfl, Nat.le_refl _, fun _ _ _ => rfl, fun _ h => .inl h, fun b hb => hb.elim .inl fun h => .inr (.inl ⟨i, hil, h⟩)⟩
  exact wpList_mono' (fun e a2 w2 hp => hp.trans hE (fun b hb => .inl (htot b hb))) _ _ _ (h w _ _ a h1 he hn hd)
end Go.Sy
namespace Go.Lv
open Go.Sy
/-- the order of the wave -/
structure WOrd (N : Nat) (rs : List Int) (s : BS) : Prop where
  rt : ∀ v ∈ rs, 0 ≤ v → v < N → elt s.1 v = v
  root : ∀ (j1 j2 : Nat) (v1 v2 : Int), j1 < j2 → s.2[j1]? = some v1 → s.2[j2]? = some v2 → elt s.1 v2 = v2 → elt s.1 v1 = v1 ∧ v1 < v2
  par : ∀ (j1 j2 : Nat) (v1 v2 : Int), j1 < j2 → s.2[j1]? = some v1 → s.2[j2]? = some v2 → elt s.1 v1 ≠ v1 → elt s.1 v2 ≠ v2 →
    ∃ i1 i2 : Nat, s.2[i1]? = some (elt s.1 v1) ∧ s.2[i2]? = some (elt s.1 v2) ∧ (i1 < i2 ∨ (i1 = i2 ∧ v1 < v2))
theorem bstart_is {N : Nat} {rs : List Int} (hn : rs.Nodup) : G0 N rs (bstart N rs) := by
  have h0 : G0 N [] (List.replicate N (-1), []) := by
    refine ⟨by simp, (fun v hv => by cases hv), fun v h0 h1 => ?_, by simp, fun v hv => by cases hv⟩
    dsimp only; rw [elt_rep N v h0 h1]; simp
  have := bstart_G0 N rs [] _ h0 (by simpa using hn)
  unfold bstart; simpa using this
theorem bstart_wave (N : Nat) (rs : List Int) : (bstart N rs).2 = rs.filter fun v => decide (0 ≤ v ∧ v < (N : Int)) := by
  have : ∀ (rs : List Int) (s : BS), (rs.foldl (rootStep N) s).2 = s.2 ++ rs.filter fun v => decide (0 ≤ v ∧ v < (N : Int)) := by
    intro rs
    induction rs with
    | nil => intro s; simp
    | cons v rs ih =>
      intro s
      rw [List.foldl_cons, ih, List.filter_cons]
      unfold rootStep
      by_cases h : 0 ≤ v ∧ v < (N : Int)
      · rw [if_pos h, if_pos (by simpa using h), List.append_assoc]; rfl
      · rw [if_neg h, if_neg (by simpa using h)]
  unfold bstart; rw [this]; rfl
theorem bstart_Ord {N : Nat} {rs : List Int} (hs : rs.Pairwise (· < ·)) : WOrd N rs (bstart N rs) := by
  have hn : rs.Nodup := hs.imp fun h => by omega
  have h := bstart_is (N := N) hn
  have hw : ((bstart N rs).2).Pairwise (· < ·) := by rw [bstart_wave]; exact hs.filter _
  refine ⟨fun v hv h0 h1 => (h.mem v (h.root v hv h0 h1)).2.1, fun j1 j2 v1 v2 hj h1 h2 _ => ?_, fun j1 j2 v1 v2 hj h1 _ hne => (hne (h.mem v1 (List.mem_of_getElem? h1)).2.1).elim⟩
  obtain ⟨l1, rfl⟩ := List.getElem?_eq_some_iff.1 h1
  obtain ⟨l2, rfl⟩ := List.getElem?_eq_some_iff.1 h2
  exact ⟨(h.mem _ (List.getElem_mem l1)).2.1, List.pairwise_iff_getElem.1 hw j1 j2 l1 l2 hj⟩
/-- those that u found are smaller than x -/
def Small (u : Int) (s : BS) (x : Int) : Prop := ∀ v ∈ s.2, elt s.1 v = u → elt s.1 v ≠ v → v < x
theorem visit_Ord {N : Nat} {out : List (List Int)} {rs : List Int} {k : Nat} {s : BS} {u x : Int} (h : G N out rs k s) (ho : WOrd N rs s) (hu : s.2[k]? = some u) (hx : x ∈ elt out u) (hxn : 0 ≤ x ∧ x < N) (hsm : Small u s x) : WOrd N rs (visit u s x) ∧ ∀ y, x < y → Small u s y → Small u (visit u s x) y := by
  unfold visit
  split
  · rename_i h0
    have hxs : x ∉ s.2 := fun hm => by have := (h.iff x hxn.1 hxn.2).2 hm; omega
    have hum := List.mem_of_getElem? hu
    have hux : u ≠ x := fun e => hxs (e ▸ hum)
    have he : ∀ y, 0 ≤ y → elt (s.1.set x.toNat u) y = if x = y then u else elt s.1 y := fun y hy => elt_set hxn.1 (by rw [h.len]; exact hxn.2) hy
    have heo : ∀ v ∈ s.2, elt (s.1.set x.toNat u) v = elt s.1 v := fun v hv => by rw [he v (h.mem v hv).1, if_neg (fun e : x = v => hxs (e ▸ hv))]
    have hex : elt (s.1.set x.toNat u) x = u := by rw [he x hxn.1, if_pos rfl]
    have hget : ∀ (i : Nat) (v : Int), s.2[i]? = some v → (s.2 ++ [x])[i]? = some v := fun i v hi => by rw [List.getElem?_append_left (List.getElem?_eq_some_iff.1 hi).1]; exact hi
    have hcase : ∀ (j : Nat) (v : Int), (s.2 ++ [x])[j]? = some v → s.2[j]? = some v ∨ (j = s.2.length ∧ v = x) := fun j v hj => by
      by_cases hjl : j < s.2.length
      · rw [List.getElem?_append_left hjl] at hj; exact .inl hj
      · have hjl2 := (List.getElem?_eq_some_iff.1 hj).1
        rw [List.length_append, List.length_singleton] at hjl2
        rw [List.getElem?_append_right (by omega), show j - s.2.length = 0 by omega] at hj
        exact .inr ⟨by omega, by simpa using hj.symm⟩
    refine ⟨⟨fun v hv h1 h2 => ?_, fun j1 j2 v1 v2 hj h1 h2 h3 => ?_, fun j1 j2 v1 v2 hj h1 h2 h3 h4 => ?_⟩, fun y hxy hsy v hv hvu hne => ?_⟩
    · rw [heo v (h.root v hv h1 h2)]; exact ho.rt v hv h1 h2
    · dsimp only at h1 h2 h3 ⊢
      rcases hcase j2 v2 h2 with h2' | ⟨_, rfl⟩
      · have h1' : s.2[j1]? = some v1 := (hcase j1 v1 h1).resolve_right fun hh => by have := (List.getElem?_eq_some_iff.1 h2').1; omega
        rw [heo v2 (List.mem_of_getElem? h2')] at h3
        rw [heo v1 (List.mem_of_getElem? h1')]
        exact ho.root j1 j2 v1 v2 hj h1' h2' h3
      · rw [hex] at h3; exact (hux h3).elim
    · dsimp only at h1 h2 h3 h4 ⊢
      rcases hcase j2 v2 h2 with h2' | ⟨hj2, rfl⟩
      · have h1' : s.2[j1]? = some v1 := (hcase j1 v1 h1).resolve_right fun hh => by have := (List.getElem?_eq_some_iff.1 h2').1; omega
        rw [heo v1 (List.mem_of_getElem? h1')] at h3 ⊢
        rw [heo v2 (List.mem_of_getElem? h2')] at h4 ⊢
        obtain ⟨i1, i2, q1, q2, q3⟩ := ho.par j1 j2 v1 v2 hj h1' h2' h3 h4
        exact ⟨i1, i2, hget _ _ q1, hget _ _ q2, q3⟩
      · have h1' : s.2[j1]? = some v1 := (hcase j1 v1 h1).resolve_right fun hh => by omega
        have hm1 := List.mem_of_getElem? h1'
        rw [heo v1 hm1] at h3 ⊢
        rw [hex]
        rcases h.par j1 v1 h1' with hr | ⟨i, w, _, hik, hi, hw, _⟩
        · exact (h3 hr.1).elim
        · refine ⟨i, k, by rw [hw]; exact hget _ _ hi, hget _ _ hu, ?_⟩
          by_cases hie : i = k
          · subst hie
            rw [hu] at hi
            have hwu : u = w := Option.some.inj hi
            exact .inr ⟨rfl, hsm v1 hm1 (by rw [hw, hwu]) h3⟩
          · exact .inl (by omega)
    · dsimp only at hv hvu hne
      rcases List.mem_append.1 hv with hv | hv
      · rw [heo v hv] at hvu hne; exact hsy v hv hvu hne
      · rw [List.mem_singleton.1 hv]; exact hxy
  · exact ⟨ho, fun y _ hs => hs⟩
theorem visits_Ord {N : Nat} {out : List (List Int)} {rs : List Int} {k : Nat} {u : Int} : ∀ (l : List Int) (s : BS), G N out rs k s → WOrd N rs s → s.2[k]? = some u → (∀ x ∈ l, x ∈ elt out u ∧ 0 ≤ x ∧ x < N) → l.Pairwise (· < ·) → (∀ x ∈ l, Small u s x) → WOrd N rs (l.foldl (visit u) s)
  | [], _, _, ho, _, _, _, _ => ho
  | x :: l, s, h, ho, hu, hl, hp, hs => by
    obtain ⟨p1, p2⟩ := List.pairwise_cons.1 hp
    obtain ⟨o1, o2⟩ := visit_Ord h ho hu (hl x List.mem_cons_self).1 (hl x List.mem_cons_self).2 (hs x List.mem_cons_self)
    exact visits_Ord l _ (visit_G h hu (hl x List.mem_cons_self).1 (hl x List.mem_cons_self).2).1 o1 (pre_get visit_pre hu) (fun y hy => hl y (List.mem_cons_of_mem _ hy)) p2 (fun y hy => o2 y (p1 y hy) (hs y (List.mem_cons_of_mem _ hy)))
theorem bfs_par {N : Nat} {out : List (List Int)} {rs : List Int} (hn : rs.Nodup) (ho : OutOk N out) : ∀ (k : Nat) (v : Int), v ∈ (bfs out (bstart N rs) k).2 → elt (bfs out (bstart N rs) k).1 v = v ∨ ∃ i < k, (bfs out (bstart N rs) k).2[i]? = some (elt (bfs out (bstart N rs) k).1 v)
  | 0, v, hv => .inl ((bstart_is hn).mem v hv).2.1
  | k + 1, v, hv => by
    have ih := bfs_G hn ho k
    unfold bfs bstep at hv ⊢
    split at hv
    · obtain ⟨j, hj⟩ := List.mem_iff_getElem?.1 hv
      exact (ih.par j v hj).imp (fun h => h.1) fun ⟨i, u, _, h2, h3, h4, _⟩ => ⟨i, by omega, by rw [h4]; exact h3⟩
    · rename_i u hu
      have h1 := (visits_G (elt out u) _ ih hu (fun x hx => ⟨hx, ho u x hx⟩)).1
      obtain ⟨j, hj⟩ := List.mem_iff_getElem?.1 hv
      exact (h1.par j v hj).imp (fun h => h.1) fun ⟨i, u, _, h2, h3, h4, _⟩ => ⟨i, by omega, by rw [h4]; exact h3⟩
theorem bfs_Ord {N : Nat} {out : List (List Int)} {rs : List Int} (hs : rs.Pairwise (· < ·)) (ho : OutOk N out) (hout : ∀ u, (elt out u).Pairwise (· < ·)) : ∀ k, WOrd N rs (bfs out (bstart N rs) k)
  | 0 => bstart_Ord hs
  | k + 1 => by
    have hn : rs.Nodup := hs.imp fun h => by omega
    have ih := bfs_Ord hs ho hout k
    have hG := bfs_G hn ho k
    unfold bfs bstep
    split
    · exact ih
    · rename_i u hu
      refine visits_Ord (elt out u) _ hG ih hu (fun x hx => ⟨hx, ho u x hx⟩) (hout u) fun x hx v hv hvu hne => ?_
      rcases bfs_par hn ho k v hv with h | ⟨i, hik, hi⟩
      · exact (hne h).elim
      · rw [hvu] at hi
        have e1 := rank_get hG.nodup hi
        have e2 := rank_get hG.nodup hu
        omega
end Go.Lv
namespace Go.Lv
open Go.Sy
structure WP where
  N : Nat
  root : Int → Bool
  need : Int → Int → Bool
  better : List Int → List Int → Bool
abbrev WT := List (List Int)
namespace WP
def rootStep (Q : WP) (W : WT) (i : Nat) : WT := if Q.root i then W.set i [(i : Int)] else W
def roots (Q : WP) (n : Nat) : WT := (List.range n).foldl Q.rootStep (List.replicate Q.N [])
def cand (Q : WP) (W : WT) (i k : Nat) : Bool := !(elt W (i : Int)).isEmpty && (elt W (k : Int)).isEmpty && Q.need i k
def step (Q : WP) (W : WT) (i : Nat) (X : WT) (k : Nat) : WT := if Q.cand W i k && Q.better (elt W (i : Int) ++ [(k : Int)]) (elt X (k : Int)) then X.set k (elt W (i : Int) ++ [(k : Int)]) else X
def row (Q : WP) (W : WT) (i : Nat) (X : WT) (n : Nat) : WT := (List.range n).foldl (Q.step W i) X
def next (Q : WP) (W : WT) (n : Nat) : WT := (List.range n).foldl (fun X i => Q.row W i X Q.N) (List.replicate Q.N [])
def put (X : WT) (W : WT) (k : Nat) : WT := if (elt X (k : Int)).isEmpty then W else W.set k (elt X (k : Int))
def merge (X W : WT) (n : Nat) : WT := (List.range n).foldl (put X) W
def any (X : WT) (n : Nat) : Bool := (List.range n).any fun k => !(elt X (k : Int)).isEmpty
def round (Q : WP) (W : WT) : WT := merge (Q.next W Q.N) W Q.N
def iter (Q : WP) : Nat → WT
  | 0 => Q.roots Q.N
  | j + 1 => Q.round (iter Q j)
def empt (W : WT) : Nat := W.countP (·.isEmpty)
theorem roots_succ (Q : WP) (n : Nat) : Q.roots (n + 1) = Q.rootStep (Q.roots n) n := by unfold roots; rw [List.range_succ, List.foldl_append]; rfl
theorem row_succ (Q : WP) (W : WT) (i : Nat) (X : WT) (n : Nat) : Q.row W i X (n + 1) = Q.step W i (Q.row W i X n) n := by unfold row; rw [List.range_succ, List.foldl_append]; rfl
theorem next_succ (Q : WP) (W : WT) (n : Nat) : Q.next W (n + 1) = Q.row W n (Q.next W n) Q.N := by unfold next; rw [List.range_succ, List.foldl_append]; rfl
theorem merge_succ (X W : WT) (n : Nat) : merge X W (n + 1) = put X (merge X W n) n := by unfold merge; rw [List.range_succ, List.foldl_append]; rfl
theorem any_succ (X : WT) (n : Nat) : any X (n + 1) = (any X n || !(elt X (n : Int)).isEmpty) := by unfold any; rw [List.range_succ, List.any_append]; simp
theorem rootStep_len (Q : WP) (W : WT) (i : Nat) : (Q.rootStep W i).length = W.length := by unfold rootStep; split <;> simp
theorem roots_len (Q : WP) : ∀ n, (Q.roots n).length = Q.N
  | 0 => by simp [roots]
  | n + 1 => by rw [roots_succ, rootStep_len, roots_len Q n]
theorem step_len (Q : WP) (W : WT) (i : Nat) (X : WT) (k : Nat) : (Q.step W i X k).length = X.length := by unfold step; split <;> simp
theorem row_len (Q : WP) (W : WT) (i : Nat) (X : WT) : ∀ n, (Q.row W i X n).length = X.length
  | 0 => rfl
  | n + 1 => by rw [row_succ, step_len, row_len Q W i X n]
theorem next_len (Q : WP) (W : WT) : ∀ n, (Q.next W n).length = Q.N
  | 0 => by simp [next]
  | n + 1 => by rw [next_succ, row_len, next_len Q W n]
theorem put_len (X W : WT) (k : Nat) : (put X W k).length = W.length := by unfold put; split <;> simp
theorem merge_len (X W : WT) : ∀ n, (merge X W n).length = W.length
  | 0 => rfl
  | n + 1 => by rw [merge_succ, put_len, merge_len X W n]
theorem iter_len (Q : WP) : ∀ j, (Q.iter j).length = Q.N
  | 0 => roots_len Q _
  | j + 1 => by show (merge _ _ _).length = _; rw [merge_len, iter_len Q j]
theorem elt_setN {α : Type} [Inhabited α] {l : List α} {k : Nat} (hk : k < l.length) (v : α) (j : Nat) : elt (l.set k v) (j : Int) = if k = j then v else elt l (j : Int) := by
  unfold elt
  rw [List.getD_eq_getElem?_getD, List.getD_eq_getElem?_getD, Int.toNat_natCast, List.getElem?_set]
  by_cases h : k = j
  · rw [if_pos h, if_pos hk, if_pos h]; rfl
  · rw [if_neg h, if_neg h]
theorem elt_repN {α : Type} [Inhabited α] (n : Nat) (v : α) (j : Nat) (h : v = default) : elt (List.replicate n v) (j : Int) = v := by
  unfold elt; rw [List.getD_eq_getElem?_getD, List.getElem?_replicate]; split
  · rfl
  · exact h.symm
/-- an entry of the merged list -/
theorem merge_elt (X W : WT) : ∀ n, n ≤ W.length → ∀ j : Nat, elt (merge X W n) (j : Int) = if j < n ∧ elt X (j : Int) ≠ [] then elt X (j : Int) else elt W (j : Int)
  | 0, _, j => by rw [if_neg (by omega)]; rfl
  | n + 1, hn, j => by
    have ih := merge_elt X W n (by omega) j
    rw [merge_succ]
    unfold put
    by_cases he : elt X (n : Int) = []
    · rw [if_pos (by rw [he]; rfl), ih]
      by_cases hj : j = n
      · subst hj; rw [if_neg (by omega), if_neg (fun h => h.2 he)]
      · by_cases h : j < n ∧ elt X (j : Int) ≠ []
        · rw [if_pos h, if_pos ⟨by omega, h.2⟩]
        · rw [if_neg h, if_neg (fun hh => h ⟨by omega, hh.2⟩)]
    · rw [if_neg (by simpa using he), elt_setN (by rw [merge_len]; omega)]
      by_cases hj : n = j
      · subst hj; rw [if_pos rfl, if_pos ⟨by omega, he⟩]
      · rw [if_neg hj, ih]
        by_cases h : j < n ∧ elt X (j : Int) ≠ []
        · rw [if_pos h, if_pos ⟨by omega, h.2⟩]
        · rw [if_neg h, if_neg (fun hh => h ⟨by omega, hh.2⟩)]
theorem cand_iff {Q : WP} {W : WT} {i k : Nat} : Q.cand W i k = true ↔ elt W (i : Int) ≠ [] ∧ elt W (k : Int) = [] ∧ Q.need i k = true := by
  unfold cand; simp [and_assoc]
theorem step_elt {Q : WP} {W X : WT} {i k : Nat} (hk : k < X.length) (j : Nat) : elt (Q.step W i X k) (j : Int) = if k = j ∧ Q.cand W i k = true ∧ Q.better (elt W (i : Int) ++ [(k : Int)]) (elt X (k : Int)) = true then elt W (i : Int) ++ [(k : Int)] else elt X (j : Int) := by
  unfold step
  by_cases h : (Q.cand W i k && Q.better (elt W (i : Int) ++ [(k : Int)]) (elt X (k : Int))) = true
  · rw [if_pos h, elt_setN hk]
    rw [Bool.and_eq_true] at h
    by_cases hj : k = j
    · rw [if_pos hj, if_pos ⟨hj, h⟩]
    · rw [if_neg hj, if_neg (fun hh => hj hh.1)]
  · rw [if_neg h, if_neg]
    rintro ⟨_, h1, h2⟩; exact h (by rw [h1, h2]; rfl)
/-- what holds of what is new -/
theorem row_ind {Q : WP} {W X : WT} {i : Nat} (p : Nat → List Int → Prop) (hX : X.length = Q.N) (hp : ∀ j : Nat, p j (elt X (j : Int))) (hs : ∀ k, k < Q.N → Q.cand W i k = true → p k (elt W (i : Int) ++ [(k : Int)])) : ∀ m, m ≤ Q.N → ∀ j : Nat, p j (elt (Q.row W i X m) (j : Int))
  | 0, _, j => hp j
  | m + 1, hm, j => by
    rw [row_succ, step_elt (by rw [row_len, hX]; omega)]
    split
    · rename_i h; rw [← h.1]; exact hs m (by omega) h.2.1
    · exact row_ind p hX hp hs m (by omega) j
theorem next_ind {Q : WP} {W : WT} (p : Nat → List Int → Prop) (hp : ∀ k, p k []) (hs : ∀ i k, i < Q.N → k < Q.N → Q.cand W i k = true → p k (elt W (i : Int) ++ [(k : Int)])) : ∀ n, n ≤ Q.N → ∀ j : Nat, p j (elt (Q.next W n) (j : Int))
  | 0, _, j => by
    have : elt (Q.next W 0) (j : Int) = [] := elt_repN _ _ _ rfl
    rw [this]; exact hp j
  | n + 1, hn, j => by
    rw [next_succ]
    exact row_ind p (next_len Q W n) (next_ind p hp hs n (by omega)) (fun k hk hc => hs n k (by omega) hk hc) Q.N (Nat.le_refl _) j
theorem next_free {Q : WP} {W : WT} (j : Nat) (h : elt (Q.next W Q.N) (j : Int) ≠ []) : elt W (j : Int) = [] :=
  next_ind (Q := Q) (W := W) (fun k l => l ≠ [] → elt W (k : Int) = []) (fun _ h => (h rfl).elim) (fun i k _ _ hc _ => (cand_iff.1 hc).2.1) Q.N (Nat.le_refl _) j h
theorem any_iff {X : WT} {n : Nat} : any X n = false ↔ ∀ k, k < n → elt X (k : Int) = [] := by
  unfold any
  rw [List.any_eq_false]
  simp only [List.mem_range, Bool.not_eq_true', Bool.not_eq_false', List.isEmpty_iff, Bool.not_eq_true, Bool.not_eq_false]
theorem merge_none {X W : WT} {n : Nat} (h : any X n = false) : merge X W n = W := by
  have := any_iff.1 h
  clear h
  induction n with
  | zero => rfl
  | succ n ih => rw [merge_succ, ih (fun k hk => this k (by omega))]; unfold put; rw [this n (by omega)]; rfl
theorem merge_empt {X W : WT} (hf : ∀ j : Nat, elt X (j : Int) ≠ [] → elt W (j : Int) = []) : ∀ n, n ≤ W.length → empt (merge X W n) ≤ empt W ∧ (any X n = true → empt (merge X W n) < empt W)
  | 0, _ => ⟨Nat.le_refl _, fun h => by simp [any] at h⟩
  | n + 1, hn => by
    obtain ⟨h1, h2⟩ := merge_empt hf n (by omega)
    rw [merge_succ, any_succ]
    unfold put
    by_cases he : elt X (n : Int) = []
    · rw [he, if_pos (show ([] : List Int).isEmpty = true from rfl)]
      exact ⟨h1, fun h => h2 (by simpa using h)⟩
    · have hne : (elt X (n : Int)).isEmpty = false := by simpa using he
      have hl : n < (merge X W n).length := by rw [merge_len]; omega
      have hz : elt (merge X W n) (n : Int) = [] := by rw [merge_elt X W n (by omega), if_neg (by omega)]; exact hf n he
      have hg : (merge X W n)[n] = [] := by
        have := elt_nat (l := merge X W n) hl
        rw [List.getElem?_eq_getElem hl, hz] at this
        exact Option.some.inj this
      have hpos : 0 < empt (merge X W n) := List.countP_pos_iff.2 ⟨_, List.getElem_mem hl, by rw [hg]; rfl⟩
      have hc : empt ((merge X W n).set n (elt X (n : Int))) + 1 = empt (merge X W n) := by
        unfold empt at hpos ⊢
        rw [List.countP_set hl, hg, hne]
        simp
        omega
      rw [hne, if_neg (by decide)]
      exact ⟨by omega, fun _ => by omega⟩
/-- the numbers are numbers of nodes -/
def Ok (Q : WP) (l : List Int) : Prop := ∀ z ∈ l, 0 ≤ z ∧ z < Q.N
theorem ok_snoc {Q : WP} {l : List Int} {k : Nat} (h : Q.Ok l) (hk : k < Q.N) : Q.Ok (l ++ [(k : Int)]) := fun z hz => by
  rcases List.mem_append.1 hz with hz | hz
  · exact h z hz
  · rw [List.mem_singleton.1 hz]; omega
theorem roots_elt (Q : WP) : ∀ n, n ≤ Q.N → ∀ j : Nat, elt (Q.roots n) (j : Int) = if j < n ∧ Q.root (j : Int) = true then [(j : Int)] else []
  | 0, _, j => by rw [if_neg (by omega)]; exact elt_repN _ _ _ rfl
  | n + 1, hn, j => by
    have ih := roots_elt Q n (by omega) j
    rw [roots_succ]
    unfold rootStep
    by_cases hr : Q.root (n : Int) = true
    · rw [if_pos hr, elt_setN (by rw [roots_len]; omega)]
      by_cases hj : n = j
      · subst hj; rw [if_pos rfl, if_pos ⟨by omega, hr⟩]
      · rw [if_neg hj, ih]
        by_cases h : j < n ∧ Q.root (j : Int) = true
        · rw [if_pos h, if_pos ⟨by omega, h.2⟩]
        · rw [if_neg h, if_neg (fun hh => h ⟨by omega, hh.2⟩)]
    · rw [if_neg hr, ih]
      by_cases h : j < n ∧ Q.root (j : Int) = true
      · rw [if_pos h, if_pos ⟨by omega, h.2⟩]
      · rw [if_neg h, if_neg]
        rintro ⟨h1, h2⟩
        by_cases hj : j = n
        · subst hj; exact hr h2
        · exact h ⟨by omega, h2⟩
theorem round_elt (Q : WP) {W : WT} (hW : W.length = Q.N) (j : Nat) (hj : j < Q.N) : elt (Q.round W) (j : Int) = if elt (Q.next W Q.N) (j : Int) ≠ [] then elt (Q.next W Q.N) (j : Int) else elt W (j : Int) := by
  unfold round
  rw [merge_elt _ _ _ (by omega)]
  by_cases h : elt (Q.next W Q.N) (j : Int) ≠ []
  · rw [if_pos ⟨hj, h⟩, if_pos h]
  · rw [if_neg (fun hh => h hh.2), if_neg h]
theorem elt_over {W : WT} {j : Nat} (h : W.length ≤ j) : elt W (j : Int) = [] := by
  unfold elt; rw [List.getD_eq_getElem?_getD, List.getElem?_eq_none (by omega)]; rfl
theorem iter_ok (Q : WP) : ∀ (r j : Nat), Q.Ok (elt (Q.iter r) (j : Int))
  | 0, j => by
    show Q.Ok (elt (Q.roots Q.N) _)
    rw [roots_elt Q _ (Nat.le_refl _)]
    split
    · rename_i h; exact fun z hz => by rw [List.mem_singleton.1 hz]; omega
    · exact fun z hz => by cases hz
  | r + 1, j => by
    by_cases hj : j < Q.N
    · show Q.Ok (elt (Q.round (Q.iter r)) _)
      rw [round_elt Q (iter_len Q r) j hj]
      split
      · exact next_ind (Q := Q) (W := Q.iter r) (fun _ l => Q.Ok l) (fun _ z hz => by cases hz) (fun i k _ hk _ => ok_snoc (iter_ok Q r i) hk) Q.N (Nat.le_refl _) j
      · exact iter_ok Q r j
    · rw [elt_over (by rw [iter_len]; omega)]; exact fun z hz => by cases hz
theorem empt_lt {W : WT} {j : Nat} (h : elt W (j : Int) ≠ []) : empt W < W.length := by
  have hl : j < W.length := Nat.lt_of_not_le fun hle => h (elt_over hle)
  refine Nat.lt_of_le_of_ne List.countP_le_length fun he => h ?_
  have := List.countP_eq_length.1 he W[j] (List.getElem_mem hl)
  have e := elt_nat hl
  rw [List.getElem?_eq_getElem hl] at e
  rw [← Option.some.inj e]; simpa using this
theorem next_any {X : WT} {n j : Nat} (hj : j < n) (h : elt X (j : Int) ≠ []) : any X n = true := by
  refine Bool.not_eq_false _ ▸ fun h0 => ?_
  exact h (any_iff.1 h0 j hj)
theorem iter_bound (Q : WP) : ∀ (r j : Nat), elt (Q.iter r) (j : Int) ≠ [] → (elt (Q.iter r) (j : Int)).length + empt (Q.iter r) ≤ Q.N
  | 0, j, h => by
    have h1 := empt_lt h
    rw [iter_len] at h1
    have h2 : (elt (Q.iter 0) (j : Int)).length ≤ 1 := by
      show (elt (Q.roots Q.N) _).length ≤ 1
      rw [roots_elt Q _ (Nat.le_refl _)]
      split <;> simp
    omega
  | r + 1, j, h => by
    have hj : j < Q.N := Nat.lt_of_not_le fun hle => h (elt_over (by rw [iter_len]; exact hle))
    have hm := merge_empt (X := Q.next (Q.iter r) Q.N) (W := Q.iter r) (fun j => next_free j) Q.N (by rw [iter_len]; exact Nat.le_refl _)
    have he : elt (Q.iter (r + 1)) (j : Int) = _ := round_elt Q (iter_len Q r) j hj
    have e1 : empt (Q.iter (r + 1)) = empt (merge (Q.next (Q.iter r) Q.N) (Q.iter r) Q.N) := rfl
    rw [he] at h ⊢
    rw [e1]
    split at h
    · rename_i hne
      rw [if_pos hne]
      have h3 := hm.2 (next_any hj hne)
      have : elt (Q.next (Q.iter r) Q.N) (j : Int) ≠ [] → (elt (Q.next (Q.iter r) Q.N) (j : Int)).length + empt (Q.iter r) ≤ Q.N + 1 :=
        next_ind (Q := Q) (W := Q.iter r) (fun _ l => l ≠ [] → l.length + empt (Q.iter r) ≤ Q.N + 1) (fun _ h => (h rfl).elim) (fun i k _ _ hc _ => by
          have := iter_bound Q r i (cand_iff.1 hc).1
          rw [List.length_append, List.length_singleton]; omega) Q.N (Nat.le_refl _) j
      have := this hne
      omega
    · rename_i hne
      rw [if_neg hne]
      have := iter_bound Q r j h
      omega
end WP
end Go.Lv
namespace Go.Lv
open Go.Sy Go.Proofs.Ytnbochlghdkfkaa
/-- before, number by number -/
def lx : List Int → List Int → Prop
  | a :: l, b :: m => a < b ∨ (a = b ∧ lx l m)
  | _, _ => False
theorem lx_irr : ∀ l : List Int, ¬ lx l l
  | [], h => h
  | _ :: l, h => h.elim (fun h => by omega) fun h => lx_irr l h.2
theorem lx_trans : ∀ {l m n : List Int}, lx l m → lx m n → lx l n
  | a :: l, b :: m, c :: n, h1, h2 => by
    rcases h1 with h1 | ⟨rfl, h1⟩
    · rcases h2 with h2 | ⟨rfl, _⟩
      · exact .inl (by omega)
      · exact .inl h1
    · rcases h2 with h2 | ⟨rfl, h2⟩
      · exact .inl h2
      · exact .inr ⟨rfl, lx_trans h1 h2⟩
  | [], _, _, h1, _ => h1.elim
  | _ :: _, [], _, h1, _ => h1.elim
  | _ :: _, _ :: _, [], _, h2 => h2.elim
theorem lx_tri : ∀ {l m : List Int}, l.length = m.length → lx l m ∨ l = m ∨ lx m l
  | [], [], _ => .inr (.inl rfl)
  | a :: l, b :: m, h => by
    rcases Int.lt_trichotomy a b with h1 | rfl | h1
    · exact .inl (.inl h1)
    · rcases lx_tri (l := l) (m := m) (by simpa using h) with h2 | rfl | h2
      · exact .inl (.inr ⟨rfl, h2⟩)
      · exact .inr (.inl rfl)
      · exact .inr (.inr (.inr ⟨rfl, h2⟩))
    · exact .inr (.inr (.inl h1))
  | [], _ :: _, h => by simp at h
  | _ :: _, [], h => by simp at h
theorem lx_app : ∀ {l m : List Int} {a b : List Int}, l.length = m.length → lx l m → lx (l ++ a) (m ++ b)
  | x :: l, y :: m, a, b, hl, h => by
    rcases h with h | ⟨rfl, h⟩
    · exact .inl h
    · exact .inr ⟨rfl, lx_app (by simpa using hl) h⟩
  | [], _, _, _, _, h => h.elim
  | _ :: _, [], _, _, _, h => h.elim
theorem lx_same : ∀ {l a b : List Int}, lx a b → lx (l ++ a) (l ++ b)
  | [], _, _, h => h
  | _ :: _, _, _, h => .inr ⟨rfl, lx_same h⟩
/-- shorter, or as long and before -/
def SL (l m : List Int) : Prop := l.length < m.length ∨ (l.length = m.length ∧ lx l m)
theorem SL_irr (l : List Int) : ¬ SL l l := fun h => h.elim (fun h => by omega) fun h => lx_irr l h.2
theorem SL_trans {l m n : List Int} (h1 : SL l m) (h2 : SL m n) : SL l n := by
  rcases h1 with h1 | ⟨e1, h1⟩
  · rcases h2 with h2 | ⟨e2, _⟩
    · exact .inl (by omega)
    · exact .inl (by omega)
  · rcases h2 with h2 | ⟨e2, h2⟩
    · exact .inl (by omega)
    · exact .inr ⟨by omega, lx_trans h1 h2⟩
theorem SL_tri (l m : List Int) : SL l m ∨ l = m ∨ SL m l := by
  rcases Nat.lt_trichotomy l.length m.length with h | h | h
  · exact .inl (.inl h)
  · rcases lx_tri h with h1 | h1 | h1
    · exact .inl (.inr ⟨h, h1⟩)
    · exact .inr (.inl h1)
    · exact .inr (.inr (.inr ⟨h.symm, h1⟩))
  · exact .inr (.inr (.inl h))
theorem SL_snoc {l m : List Int} {u v : Int} (h : SL l m) : SL (l ++ [u]) (m ++ [v]) := by
  rcases h with h | ⟨e, h⟩
  · exact .inl (by simp; omega)
  · exact .inr ⟨by simp; omega, lx_app e h⟩
theorem SL_last {l : List Int} {u v : Int} (h : u < v) : SL (l ++ [u]) (l ++ [v]) := .inr ⟨by simp, lx_same (.inl h)⟩
/-- a way from a root -/
inductive WayTo (N : Nat) (R : Int → Prop) (E : Int → Int → Prop) : Int → List Int → Prop where
  | root {v : Int} : 0 ≤ v ∧ v < (N : Int) → R v → WayTo N R E v [v]
  | snoc {u v : Int} {l : List Int} : WayTo N R E u l → 0 ≤ v ∧ v < (N : Int) → E u v → WayTo N R E v (l ++ [v])
section
variable {N : Nat} {R : Int → Prop} {E : Int → Int → Prop}
theorem WayTo.range {v : Int} {l : List Int} (h : WayTo N R E v l) : 0 ≤ v ∧ v < (N : Int) := by
  cases h with
  | root h _ => exact h
  | snoc _ h _ => exact h
theorem WayTo.pos {v : Int} {l : List Int} (h : WayTo N R E v l) : 1 ≤ l.length := by cases h <;> simp
theorem WayTo.congr {R' : Int → Prop} {E' : Int → Int → Prop} (hR : ∀ v : Int, 0 ≤ v ∧ v < (N : Int) → R v → R' v) (hE : ∀ u v : Int, 0 ≤ u ∧ u < (N : Int) → 0 ≤ v ∧ v < (N : Int) → E u v → E' u v) {v : Int} {l : List Int} (h : WayTo N R E v l) : WayTo N R' E' v l := by
  induction h with
  | root h1 h2 => exact .root h1 (hR _ h1 h2)
  | snoc h1 h2 h3 ih => exact .snoc ih h2 (hE _ _ h1.range h2 h3)
/-- the least of the shortest ways -/
def Least (N : Nat) (R : Int → Prop) (E : Int → Int → Prop) (v : Int) (l : List Int) : Prop := WayTo N R E v l ∧ ∀ m, WayTo N R E v m → l = m ∨ SL l m
theorem Least.uniq {v : Int} {l m : List Int} (h1 : Least N R E v l) (h2 : Least N R E v m) : l = m := by
  rcases h1.2 m h2.1 with h | h
  · exact h
  · rcases h2.2 l h1.1 with h' | h'
    · exact h'.symm
    · exact (SL_irr _ (SL_trans h h')).elim
theorem Least.congr {R' : Int → Prop} {E' : Int → Int → Prop} (hR : ∀ v : Int, 0 ≤ v ∧ v < (N : Int) → (R v ↔ R' v)) (hE : ∀ u v : Int, 0 ≤ u ∧ u < (N : Int) → 0 ≤ v ∧ v < (N : Int) → (E u v ↔ E' u v)) {v : Int} {l : List Int} (h : Least N R E v l) : Least N R' E' v l :=
  ⟨h.1.congr (fun v hv => (hR v hv).1) fun u v hu hv => (hE u v hu hv).1, fun m hm => h.2 m (hm.congr (fun v hv => (hR v hv).2) fun u v hu hv => (hE u v hu hv).2)⟩
end
/-! ### the reference -/
namespace WP
variable {Q : WP}
def RR (Q : WP) (v : Int) : Prop := Q.root v = true
def EE (Q : WP) (u v : Int) : Prop := Q.need u v = true
/-- better means before -/
def Bet (Q : WP) : Prop := ∀ a b : List Int, Q.Ok a → Q.Ok b → (Q.better a b = true ↔ b = [] ∨ SL a b)
theorem row_elt {W : WT} {i : Nat} {X : WT} (hX : X.length = Q.N) : ∀ m, m ≤ Q.N → ∀ j : Nat, elt (Q.row W i X m) (j : Int) = if j < m ∧ Q.cand W i j = true ∧ Q.better (elt W (i : Int) ++ [(j : Int)]) (elt X (j : Int)) = true then elt W (i : Int) ++ [(j : Int)] else elt X (j : Int)
  | 0, _, j => by rw [if_neg (by omega)]; rfl
  | m + 1, hm, j => by
    have ih := row_elt (W := W) (i := i) hX m (by omega)
    rw [row_succ, step_elt (by rw [row_len, hX]; omega), ih m, ih j, if_neg (show ¬ (m < m ∧ _) by omega)]
    by_cases hj : m = j
    · subst hj
      rw [if_neg (show ¬ (m < m ∧ _) by omega)]
      by_cases h : Q.cand W i m = true ∧ Q.better (elt W (i : Int) ++ [(m : Int)]) (elt X (m : Int)) = true
      · rw [if_pos ⟨rfl, h⟩, if_pos ⟨by omega, h⟩]
      · rw [if_neg (fun hh => h hh.2), if_neg (fun hh => h hh.2)]
    · rw [if_neg (fun hh => hj hh.1)]
      by_cases h : j < m ∧ Q.cand W i j = true ∧ Q.better (elt W (i : Int) ++ [(j : Int)]) (elt X (j : Int)) = true
      · rw [if_pos h, if_pos ⟨by omega, h.2⟩]
      · rw [if_neg h, if_neg (fun hh => h ⟨by omega, hh.2⟩)]
theorem next_min (hb : Q.Bet) {W : WT} (hW : ∀ j : Nat, Q.Ok (elt W (j : Int))) : ∀ n, n ≤ Q.N → ∀ i k : Nat, i < n → k < Q.N → Q.cand W i k = true → elt (Q.next W n) (k : Int) ≠ [] ∧ (elt (Q.next W n) (k : Int) = elt W (i : Int) ++ [(k : Int)] ∨ SL (elt (Q.next W n) (k : Int)) (elt W (i : Int) ++ [(k : Int)]))
  | 0, _, i, _, hi, _, _ => by omega
  | n + 1, hn, i, k, hi, hk, hc => by
    have hok : Q.Ok (elt (Q.next W n) (k : Int)) := next_ind (Q := Q) (W := W) (fun _ l => Q.Ok l) (fun _ z hz => by cases hz) (fun i k _ hk _ => ok_snoc (hW i) hk) n (by omega) k
    have hbn := hb _ _ (ok_snoc (hW n) hk) hok
    rw [next_succ, row_elt (next_len Q W n) Q.N (Nat.le_refl _) k]
    by_cases hin : i = n
    · subst hin
      by_cases h : Q.better (elt W (i : Int) ++ [(k : Int)]) (elt (Q.next W i) (k : Int)) = true
      · rw [if_pos ⟨hk, hc, h⟩]; exact ⟨by simp, .inl rfl⟩
      · rw [if_neg (fun hh => h hh.2.2)]
        have h' := fun hh => h (hbn.2 hh)
        refine ⟨fun he => h' (.inl he), ?_⟩
        rcases SL_tri (elt (Q.next W i) (k : Int)) (elt W (i : Int) ++ [(k : Int)]) with h1 | h1 | h1
        · exact .inr h1
        · exact .inl h1
        · exact (h' (.inr h1)).elim
    · obtain ⟨i1, i2⟩ := next_min hb hW n (by omega) i k (by omega) hk hc
      by_cases h : Q.cand W n k = true ∧ Q.better (elt W (n : Int) ++ [(k : Int)]) (elt (Q.next W n) (k : Int)) = true
      · rw [if_pos ⟨hk, h⟩]
        refine ⟨by simp, .inr ?_⟩
        rcases hbn.1 h.2 with h1 | h1
        · exact (i1 h1).elim
        · rcases i2 with i2 | i2
          · rw [← i2]; exact h1
          · exact SL_trans h1 i2
      · rw [if_neg (fun hh => h hh.2)]; exact ⟨i1, i2⟩
theorem next_from {W : WT} (k : Nat) (h : elt (Q.next W Q.N) (k : Int) ≠ []) : ∃ i : Nat, i < Q.N ∧ k < Q.N ∧ Q.cand W i k = true ∧ elt (Q.next W Q.N) (k : Int) = elt W (i : Int) ++ [(k : Int)] :=
  next_ind (Q := Q) (W := W) (fun k l => l ≠ [] → ∃ i : Nat, i < Q.N ∧ k < Q.N ∧ Q.cand W i k = true ∧ l = elt W (i : Int) ++ [(k : Int)]) (fun _ h => (h rfl).elim) (fun i k hi hk hc _ => ⟨i, hi, hk, hc, rfl⟩) Q.N (Nat.le_refl _) k h
/-- what holds after r rounds -/
def RInv (Q : WP) (r : Nat) (W : WT) : Prop := ∀ j : Nat, j < Q.N → (elt W (j : Int) ≠ [] → Least Q.N Q.RR Q.EE j (elt W (j : Int)) ∧ (elt W (j : Int)).length ≤ r + 1) ∧ ∀ m, WayTo Q.N Q.RR Q.EE j m → m.length ≤ r + 1 → elt W (j : Int) ≠ []
theorem way_one {v : Int} {m : List Int} (h : WayTo Q.N Q.RR Q.EE v m) (hl : m.length ≤ 1) : m = [v] ∧ Q.root v = true := by
  cases h with
  | root _ h => exact ⟨rfl, h⟩
  | snoc h _ _ => have := h.pos; rw [List.length_append, List.length_singleton] at hl; omega
theorem iter_inv (hb : Q.Bet) : ∀ r, Q.RInv r (Q.iter r)
  | 0 => fun j hj => by
    have he : elt (Q.iter 0) (j : Int) = _ := roots_elt Q Q.N (Nat.le_refl _) j
    rw [he]
    refine ⟨fun h => ?_, fun m hm hl => ?_⟩
    · by_cases hr : j < Q.N ∧ Q.root (j : Int) = true
      · rw [if_pos hr]
        refine ⟨⟨.root ⟨by omega, by omega⟩ hr.2, fun m hm => ?_⟩, by simp⟩
        by_cases hl : m.length ≤ 1
        · exact .inl (way_one hm hl).1.symm
        · exact .inr (.inl (by simp; omega))
      · rw [if_neg hr] at h; exact (h rfl).elim
    · rw [if_pos ⟨hj, (way_one hm (by omega)).2⟩]; simp
  | r + 1 => fun j hj => by
    have ih := iter_inv hb r
    have hok := fun j => iter_ok Q r j
    have he : elt (Q.iter (r + 1)) (j : Int) = _ := round_elt Q (iter_len Q r) j hj
    rw [he]
    have step : ∀ (u : Int) (l : List Int), WayTo Q.N Q.RR Q.EE u l → Q.EE u j → l.length ≤ r + 1 → elt (Q.iter r) (j : Int) = [] → ∃ i : Nat, (i : Int) = u ∧ i < Q.N ∧ Q.cand (Q.iter r) i j = true ∧ (elt (Q.iter r) (i : Int) = l ∨ SL (elt (Q.iter r) (i : Int)) l) := fun u l hl hE hle hj0 => by
      have hr := hl.range
      have hu : ((u.toNat : Nat) : Int) = u := Int.toNat_of_nonneg hr.1
      have hi := ih u.toNat (by omega)
      rw [hu] at hi
      have hne := hi.2 l hl hle
      refine ⟨u.toNat, hu, by omega, cand_iff.2 ⟨by rw [hu]; exact hne, hj0, by rw [hu]; exact hE⟩, ?_⟩
      rw [hu]; exact (hi.1 hne).1.2 l hl
    refine ⟨fun h => ?_, fun m hm hl => ?_⟩
    · by_cases hn : elt (Q.next (Q.iter r) Q.N) (j : Int) ≠ []
      · rw [if_pos hn]
        obtain ⟨i, hi, _, hc, hx⟩ := next_from j hn
        obtain ⟨c1, c2, c3⟩ := cand_iff.1 hc
        obtain ⟨h1, h2⟩ := (ih i hi).1 c1
        refine ⟨⟨by rw [hx]; exact .snoc h1.1 ⟨by omega, by omega⟩ c3, fun m hm => ?_⟩, by rw [hx]; simp; omega⟩
        have hlong : r + 1 < m.length := Nat.lt_of_not_le fun hle => (ih j hj).2 m hm hle c2
        by_cases hl : m.length ≤ r + 2
        · cases hm with
          | root => simp at hlong
          | @snoc u _ l hm1 _ hE =>
            have hl' : l.length + 1 ≤ r + 2 := by simpa using hl
            obtain ⟨i', e, hi', hc', hle⟩ := step u l hm1 hE (by omega) c2
            have hmin := (next_min hb hok Q.N (Nat.le_refl _) i' j hi' hj hc').2
            rcases hle with hle | hle
            · rw [hle] at hmin; exact hmin
            · refine .inr ?_
              rcases hmin with hmin | hmin
              · rw [hmin]; exact SL_snoc hle
              · exact SL_trans hmin (SL_snoc hle)
        · exact .inr (.inl (by rw [hx]; simp; omega))
      · rw [if_neg hn] at h ⊢
        obtain ⟨h1, h2⟩ := (ih j hj).1 h
        exact ⟨h1, by omega⟩
    · by_cases hn : elt (Q.next (Q.iter r) Q.N) (j : Int) ≠ []
      · rw [if_pos hn]; exact hn
      · rw [if_neg hn]
        intro h0
        have hlong : r + 1 < m.length := Nat.lt_of_not_le fun hle => (ih j hj).2 m hm hle h0
        cases hm with
        | root => simp at hlong
        | @snoc u _ l hm1 _ hE =>
          have hl' : l.length + 1 ≤ r + 1 + 1 := by simpa using hl
          obtain ⟨i', e, hi', hc', _⟩ := step u l hm1 hE (by omega) h0
          exact hn (next_min hb hok Q.N (Nat.le_refl _) i' j hi' hj hc').1
/-- at the end all ways are found -/
theorem iter_end (hb : Q.Bet) {r : Nat} (he : any (Q.next (Q.iter r) Q.N) Q.N = false) {v : Int} {m : List Int} (hm : WayTo Q.N Q.RR Q.EE v m) : elt (Q.iter r) v ≠ [] := by
  have ih := iter_inv hb r
  induction hm with
  | @root v hv h =>
    have hu : ((v.toNat : Nat) : Int) = v := Int.toNat_of_nonneg hv.1
    have := (ih v.toNat (by omega)).2 [v] (by rw [hu]; exact .root hv h) (by simp)
    rw [hu] at this; exact this
  | @snoc u v l hm hv hE iu =>
    intro h0
    have hr := hm.range
    have hu : ((u.toNat : Nat) : Int) = u := Int.toNat_of_nonneg hr.1
    have hv' : ((v.toNat : Nat) : Int) = v := Int.toNat_of_nonneg hv.1
    have hc : Q.cand (Q.iter r) u.toNat v.toNat = true := cand_iff.2 ⟨by rw [hu]; exact iu, by rw [hv']; exact h0, by rw [hu, hv']; exact hE⟩
    have := (next_min hb (fun j => iter_ok Q r j) Q.N (Nat.le_refl _) u.toNat v.toNat (by omega) (by omega) hc).1
    exact this (any_iff.1 he v.toNat (by omega))
theorem iter_least (hb : Q.Bet) (r : Nat) {v : Int} (hv : 0 ≤ v ∧ v < (Q.N : Int)) (h : elt (Q.iter r) v ≠ []) : Least Q.N Q.RR Q.EE v (elt (Q.iter r) v) := by
  have hu : ((v.toNat : Nat) : Int) = v := Int.toNat_of_nonneg hv.1
  have := (iter_inv hb r v.toNat (by omega)).1
  rw [hu] at this
  exact (this h).1
end WP
/-! ### the breadth first search -/
/-- the way that the parents tell -/
inductive PathTo (b : List Int) : Int → List Int → Prop where
  | root {v : Int} : elt b v = v → PathTo b v [v]
  | step {v : Int} {l : List Int} : elt b v ≠ v → PathTo b (elt b v) l → PathTo b v (l ++ [v])
theorem PathTo.pos {b : List Int} {v : Int} {l : List Int} (h : PathTo b v l) : 1 ≤ l.length := by cases h <;> simp
theorem PathTo.uniq {b : List Int} {v : Int} {l : List Int} (h : PathTo b v l) : ∀ {m : List Int}, PathTo b v m → l = m := by
  induction h with
  | root h => intro m hm; cases hm with
    | root => rfl
    | step h' => exact (h' h).elim
  | step h _ ih => intro m hm; cases hm with
    | root h' => exact (h h').elim
    | step _ h2 => rw [ih h2]
section
variable {N : Nat} {out : List (List Int)} {rs : List Int}
structure Srt (N : Nat) (out : List (List Int)) (rs : List Int) : Prop where
  rs : rs.Pairwise (· < ·)
  ok : OutOk N out
  row : ∀ u, (elt out u).Pairwise (· < ·)
theorem Srt.nd (h : Srt N out rs) : rs.Nodup := h.rs.imp fun h => by omega
theorem Srt.G (h : Srt N out rs) : G N out rs (rs.length + N) (searchF N out rs, waveF N out rs) := final_G h.nd h.ok
theorem Srt.O (h : Srt N out rs) : WOrd N rs (searchF N out rs, waveF N out rs) := bfs_Ord h.rs h.ok h.row _
theorem Srt.idx (h : Srt N out rs) {i j : Nat} {v : Int} (hi : (waveF N out rs)[i]? = some v) (hj : (waveF N out rs)[j]? = some v) : i = j := by
  have e1 := rank_get h.G.nodup hi
  have e2 := rank_get h.G.nodup hj
  dsimp only at e1 e2
  omega
/-- what stands at a place of the wave -/
theorem Srt.at (h : Srt N out rs) {j : Nat} {v : Int} (hj : (waveF N out rs)[j]? = some v) : (elt (searchF N out rs) v = v ∧ v ∈ rs) ∨ (elt (searchF N out rs) v ≠ v ∧ ∃ i < j, (waveF N out rs)[i]? = some (elt (searchF N out rs) v) ∧ v ∈ elt out (elt (searchF N out rs) v) ∧ ∀ i' < i, ∀ u', (waveF N out rs)[i']? = some u' → v ∉ elt out u') := by
  rcases h.G.par j v hj with h1 | ⟨i, u, h1, _, h3, h4, h5, h6⟩
  · exact .inl h1
  · have h4' : elt (searchF N out rs) v = u := h4
    subst h4'
    refine .inr ⟨fun e => ?_, i, h1, h3, h5, h6⟩
    rw [e] at h3
    have := h.idx h3 hj
    omega
theorem path_ex (h : Srt N out rs) : ∀ (f : Nat) (v : Int) (j : Nat), (waveF N out rs)[j]? = some v → j ≤ f → PathTo (searchF N out rs) v (chain (searchF N out rs) f v).reverse
  | 0, v, j, hj, hf => by
    rcases h.at hj with h1 | ⟨_, i, hi, _⟩
    · exact .root h1.1
    · omega
  | f + 1, v, j, hj, hf => by
    rcases h.at hj with h1 | ⟨hne, i, hi, hw, _⟩
    · rw [chain_end _ h1.1]; exact .root h1.1
    · have hc : chain (searchF N out rs) (f + 1) v = v :: chain (searchF N out rs) f (elt (searchF N out rs) v) := if_neg hne
      rw [hc, List.reverse_cons]
      exact .step hne (path_ex h f _ i hw (by omega))
theorem path_way (h : Srt N out rs) : ∀ (j : Nat) (v : Int) (l : List Int), (waveF N out rs)[j]? = some v → PathTo (searchF N out rs) v l → WayTo N (· ∈ rs) (fun u v => v ∈ elt out u) v l := by
  intro j
  induction j using Nat.strongRecOn with
  | _ j ih =>
    intro v l hj hp
    have hv := h.G.mem v (List.mem_of_getElem? hj)
    rcases h.at hj with h1 | ⟨hne, i, hi, hw, hE, _⟩
    · cases hp with
      | root => exact .root hv h1.2
      | step h2 => exact (h2 h1.1).elim
    · cases hp with
      | root h2 => exact (hne h2).elim
      | step _ h2 => exact .snoc (ih i hi _ _ hw h2) hv hE
/-- the wave is in the order of the ways -/
theorem path_mono (h : Srt N out rs) : ∀ (j2 j1 : Nat) (v1 v2 : Int) (l1 l2 : List Int), j1 < j2 → (waveF N out rs)[j1]? = some v1 → (waveF N out rs)[j2]? = some v2 → PathTo (searchF N out rs) v1 l1 → PathTo (searchF N out rs) v2 l2 → SL l1 l2 := by
  intro j2
  induction j2 using Nat.strongRecOn with
  | _ j2 ih =>
    intro j1 v1 v2 l1 l2 hj h1 h2 p1 p2
    have hO := h.O
    cases p2 with
    | root e2 =>
      obtain ⟨e1, hlt⟩ := hO.root j1 j2 v1 v2 hj h1 h2 e2
      cases p1 with
      | root => exact .inr ⟨rfl, .inl hlt⟩
      | step hne => exact (hne e1).elim
    | @step _ l2 hne2 p2 =>
      have q2 := p2.pos
      cases p1 with
      | root => exact .inl (by simp; omega)
      | @step _ l1 hne1 p1 =>
        obtain ⟨i1, i2, w1, w2, hc⟩ := hO.par j1 j2 v1 v2 hj h1 h2 hne1 hne2
        rcases hc with hc | ⟨rfl, hc⟩
        · rcases h.at h2 with k1 | ⟨_, i, hi, hw, _⟩
          · exact (hne2 k1.1).elim
          · have := h.idx hw w2
            exact SL_snoc (ih i2 (by omega) i1 _ _ l1 l2 hc w1 w2 p1 p2)
        · have e : elt (searchF N out rs) v1 = elt (searchF N out rs) v2 := Option.some.inj (w1.symm.trans w2)
          rw [e] at p1
          rw [p1.uniq p2]
          exact SL_last hc
theorem path_least (h : Srt N out rs) {v : Int} {m : List Int} (hm : WayTo N (· ∈ rs) (fun u v => v ∈ elt out u) v m) : ∃ l, PathTo (searchF N out rs) v l ∧ v ∈ waveF N out rs ∧ (l = m ∨ SL l m) := by
  induction hm with
  | @root v hv hr =>
    exact ⟨[v], .root (h.O.rt v hr hv.1 hv.2), h.G.root v hr hv.1 hv.2, .inl rfl⟩
  | @snoc u v m hm hv hE ih =>
    obtain ⟨lu, pu, hu, hle⟩ := ih
    have hvw : v ∈ waveF N out rs := by
      refine (mem_wave h.nd h.ok v).2 (.arc ((mem_wave h.nd h.ok u).1 hu) hE)
    obtain ⟨j, hj⟩ := List.mem_iff_getElem?.1 hvw
    obtain ⟨ju, hju⟩ := List.mem_iff_getElem?.1 hu
    have pv := path_ex h j v j hj (Nat.le_refl _)
    refine ⟨_, pv, hvw, ?_⟩
    have hq := pu.pos
    have key : (chain (searchF N out rs) j v).reverse = lu ++ [v] ∨ SL (chain (searchF N out rs) j v).reverse (lu ++ [v]) := by
      generalize (chain (searchF N out rs) j v).reverse = l at pv
      rcases h.at hj with h1 | ⟨hne, i, hi, hw, _, hmin⟩
      · cases pv with
        | root => exact .inr (.inl (by simp; omega))
        | step h2 => exact (h2 h1.1).elim
      · cases pv with
        | root h2 => exact (hne h2).elim
        | @step _ l h2 pv =>
          rcases Nat.lt_trichotomy i ju with hlt | heq | hgt
          · exact .inr (SL_snoc (path_mono h ju i _ _ _ _ hlt hw hju pv pu))
          · subst heq
            have e : elt (searchF N out rs) v = u := Option.some.inj (hw.symm.trans hju)
            rw [e] at pv
            exact .inl (by rw [pv.uniq pu])
          · exact (hmin ju hgt u hju hE).elim
    rcases hle with rfl | hle
    · exact key
    · refine .inr ?_
      rcases key with key | key
      · rw [key]; exact SL_snoc hle
      · exact SL_trans key (SL_snoc hle)
theorem bfs_least (h : Srt N out rs) {v : Int} {f : Nat} (hv : v ∈ waveF N out rs) (hf : rank (waveF N out rs) v ≤ f) : Least N (· ∈ rs) (fun u v => v ∈ elt out u) v (chain (searchF N out rs) f v).reverse := by
  obtain ⟨j, hj⟩ := List.mem_iff_getElem?.1 hv
  have hr : rank (waveF N out rs) v = j := rank_get h.G.nodup hj
  have pv := path_ex h f v j hj (by omega)
  refine ⟨path_way h j v _ hj pv, fun m hm => ?_⟩
  obtain ⟨l, pl, _, hl⟩ := path_least h hm
  rw [pv.uniq pl]; exact hl
end
end Go.Lv
