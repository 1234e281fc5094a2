/- live: choice, section. No condition. -/
import Derived.Test.YtnbochlghdkfkaaBlE
import Derived.Test.YtnbochlghdkfkaaBlF
set_option linter.unusedVariables false
set_option linter.unusedSimpArgs false
set_option maxRecDepth 20000
namespace Go.Proofs.Ytnbochlghdkfkaa
open Go.RowKit Go.Lp Go.Sy
open Go.Proofs.Try
attribute [local irreducible] aL aB awp aC fwp
def good (l : List Int) (v : Int) : Prop := 0 ≤ v ∧ v < l.length ∧ 0 ≤ elt l v
def chain (l : List Int) : Nat → Int → List Int
  | 0, v => [v]
  | f + 1, v => if elt l v = v then [v] else v :: chain l f (elt l v)
structure Tree (l : List Int) (ρ : Int → Nat) : Prop where
  step : ∀ v, good l v → elt l v ≠ v → good l (elt l v) ∧ ρ (elt l v) < ρ v
theorem chain_eq {l : List Int} {ρ : Int → Nat} (hT : Tree l ρ) : ∀ (f g : Nat) (v : Int), good l v → ρ v ≤ f → ρ v ≤ g → chain l f v = chain l g v
  | 0, 0, v, _, _, _ => rfl
  | 0, g + 1, v, h, hf, _ => by
    unfold chain
    split
    · rfl
    · rename_i hne; have := (hT.step v h hne).2; omega
  | f + 1, 0, v, h, _, hg => by
    unfold chain
    split
    · rfl
    · rename_i hne; have := (hT.step v h hne).2; omega
  | f + 1, g + 1, v, h, hf, hg => by
    unfold chain
    split
    · rfl
    · rename_i hne
      obtain ⟨h1, h2⟩ := hT.step v h hne
      rw [chain_eq hT f g _ h1 (by omega) (by omega)]
theorem chain_cons (l : List Int) (f : Nat) (v : Int) : chain l f v = v :: (chain l f v).tail := by
  cases f with
  | zero => rfl
  | succ f => unfold chain; split <;> rfl
theorem chain_step {l : List Int} {ρ : Int → Nat} (hT : Tree l ρ) {v : Int} (h : good l v) (hne : elt l v ≠ v) : (chain l (ρ v) v).tail = chain l (ρ (elt l v)) (elt l v) := by
  obtain ⟨h1, h2⟩ := hT.step v h hne
  obtain ⟨f, hf⟩ : ∃ f, ρ v = f + 1 := ⟨ρ v - 1, by omega⟩
  rw [hf]
  show (if elt l v = v then [v] else v :: chain l f (elt l v)).tail = _
  rw [if_neg hne, List.tail_cons]
  exact chain_eq hT _ _ _ h1 (by omega) (Nat.le_refl _)
theorem chain_end {l : List Int} (f : Nat) {v : Int} (h : elt l v = v) : chain l f v = [v] := by
  cases f with
  | zero => rfl
  | succ f => unfold chain; rw [if_pos h]
def trackF (l : List Int) (ρ : Int → Nat) (to_ : Int) : List Int := if elt l to_ < 0 then [] else (chain l (ρ to_) to_).reverse
theorem con_track (l : Sl Int) (ρ : Int → Nat) (hT : Tree l.l ρ) (to_ : Int) (ht : 0 ≤ to_ ∧ to_ < l.l.length) (hb : ρ to_ ≤ 100000) :
    Con Try.prog 35 [l.val, .int .i64 to_] [ShF (fun z => [.v (encI z)]) l] [] fun r ps hp => hp = [] ∧ ∃ ad c, r = .slice ad (trackF l.l ρ to_).length c ∧ ps = [Sh (.slice ad (trackF l.l ρ to_).length c) (.sl (encR encI (trackF l.l ρ to_)))] := by
  refine Con.enter Try.func35 rfl (by simp [Try.ntmps35]) ?_
  show awp _ _ _ _ ⟨[(0, true, _), (1, true, _)], _, _⟩
  refine awp_seq (awp_region (aL_s true rfl rfl (fun _ => q_assign rfl) (aL_nil (thn_n (awp_seq (awp_seq (awp_region ?_)))))))
  refine aL_s true rfl rfl (fun _ => q_move rfl) (aL_s true rfl rfl (fun _ => q_move rfl) ?_)
  refine aL_E true rfl rfl (fun _ => q_indexAddrG Try.underlying37 tk3 rfl ((.of (psAt 0 rfl))) rfl (rows_elt (i := to_) (by omega) (by omega)) (by omega) rfl) (fun h => absurd h (by decide)) (fun ⟨b1_2, o1_2⟩ => ?_)
  refine aL_s true rfl rfl (fun _ => q_loadD (o := 0) tk3 rfl (psAt 0 rfl) rfl rfl) (aL_s true rfl rfl (fun _ => q_lss rfl rfl) (aL_nil (thn_n ?_)))
  refine awp_cond _ rfl (fun h1 => ?_) (fun h1 => ?_)
  ·skip
   refine awp_seq (awp_region (aL_s true rfl rfl (fun _ => q_assign rfl) (aL_nil (thn_n ?_))))
   refine awp_fact (Sh (.slice none 0 0) (.sl [])) (fun _ _ _ => RepD.e _ _ (by unfold maxLen; omega)) ?_
   refine awp_ret (thn_r ?_)
   refine fin1 [2] [] rfl Try.results35 rfl ?_ (.inr rfl)
   exact ⟨rfl, none, 0, by rw [show trackF l.l ρ to_ = [] from if_pos (by simpa using h1)]; rfl, by rw [show trackF l.l ρ to_ = [] from if_pos (by simpa using h1)]; rfl⟩
  ·skip
   have hgo : good l.l to_ := ⟨ht.1, ht.2, by simpa using h1⟩
   refine awp_skip (thn_n (awp_seq (awp_region (aL_s true rfl rfl (fun _ => q_move rfl) ?_))))
   refine aL_eff (q := true) rfl (w_lit (zs := [.int .i64 0]) (l := [(0, .tmp 11)]) el37 (by kernel_rfl) (by decide) (by decide) (by decide) rfl rfl rfl (.more rfl (.v rfl .nil) .nil) rfl rfl (fun v3_1 => ?_))
   refine aL_hp (by (try simp only [nM, nN]); rfl) ?_
   refine aL_s true rfl rfl (fun _ => q_assign rfl) (aL_nil (thn_n (awp_seq (awp_block ?_))))
   refine awp_loopK [0, 1, 5] [0] [0] (fun (p : Int × List Int × Value) s => (good l.l p.1 ∧ p.2.1 ++ (chain l.l (ρ p.1) p.1).tail = chain l.l (ρ to_) to_ ∧ p.2.1.length + ρ p.1 ≤ ρ to_ + 1) ∧ s = ⟨[(0, true, l.val), (1, true, .int .i64 p.1), (5, true, p.2.2)], [ShF (fun z => [.v (encI z)]) l], [OwnS p.2.2 3 1 (encR encI p.2.1)]⟩) (fun p => ρ p.1) rfl (⟨(to_, [to_], _), ⟨hgo, (chain_cons _ _ _).symm, by simp; omega⟩, rfl⟩) ?_
   rintro ⟨v, acc, out⟩ s ⟨⟨hv, hch, hlen⟩, rfl⟩
   dsimp only at hv hch hlen
   have hv1 := hv.1
   have hv2 := hv.2.1
   refine awp_seq (awp_seq (awp_region (aL_s true rfl rfl (fun _ => q_move rfl) (aL_s true rfl rfl (fun _ => q_move rfl) ?_))))
   refine aL_E true rfl rfl (fun _ => q_indexAddrG Try.underlying37 tk3 rfl ((.of (psAt 0 rfl))) rfl (rows_elt (i := v) (by omega) (by omega)) (by omega) rfl) (fun h => absurd h (by decide)) (fun ⟨b4_2, o4_2⟩ => ?_)
   refine aL_s true rfl rfl (fun _ => q_loadD (o := 0) tk3 rfl (psAt 0 rfl) rfl rfl) (aL_s true rfl rfl (fun _ => q_move rfl) (aL_s true rfl rfl (fun _ => q_neq rfl rfl) (aL_nil (thn_n ?_))))
   refine awp_cond _ rfl (fun h2 => ?_) (fun h2 => ?_)
   ·skip
    have hne : elt l.l v ≠ v := by simpa using h2
    have hst := hT.step v hv hne
    have hcs := chain_step hT hv hne
    refine awp_skip (thn_n (awp_block (awp_seq (awp_region (aL_s true rfl rfl (fun _ => q_move rfl) (aL_s true rfl rfl (fun _ => q_move rfl) ?_))))))
    refine aL_E true rfl rfl (fun _ => q_indexAddrG Try.underlying37 tk3 rfl ((.of (psAt 1 rfl))) rfl (rows_elt (i := v) (by omega) (by omega)) (by omega) rfl) (fun h => absurd h (by decide)) (fun ⟨b5_2, o5_2⟩ => ?_)
    refine aL_s true rfl rfl (fun _ => q_loadD (o := 0) tk3 rfl (psAt 0 rfl) rfl rfl) (aL_s true rfl rfl (fun _ => q_assign rfl) (aL_nil (thn_n (awp_region (aL_s true rfl rfl (fun _ => q_move rfl) (aL_s true rfl rfl (fun _ => q_move rfl) ?_))))))
    refine aL_eff (q := true) rfl (w_lit (zs := [.int .i64 0]) (l := [(0, .tmp 24)]) el37 (by kernel_rfl) (by decide) (by decide) (by decide) rfl rfl rfl (.more rfl (.v rfl .nil) .nil) rfl rfl (fun v6_2 => ?_))
    refine aL_hp (by (try simp only [nM, nN]); rfl) ?_
    refine aL_eff rfl (w_append 0 el37 rfl rfl rfl rfl (w_srcO 1 el37 rfl (by simp)) (by first | assumption | simp) (by simp [encR_len]; omega) _ rfl (fun v6_3 c6_3 => ?_))
    refine aL_hp (by simp only [nK, nL]; rfl) ?_
    refine aL_s true rfl rfl (fun _ => q_assign rfl) (aL_nil (blk_n (thn_n ?_)))
    refine ⟨[0, 1, 5], [0], [0], rfl, ?_⟩
    refine ⟨(elt l.l v, acc ++ [elt l.l v], .slice v6_3 ((encR encI acc).length + 1) c6_3), ⟨⟨hst.1, ?_, by simp; omega⟩, ?_⟩, hst.2⟩
    · rw [← hch, hcs, List.append_assoc]
      exact congrArg _ (chain_cons _ _ _).symm
    · show _ = (⟨_, _, [OwnS _ _ 1 (encR encI (acc ++ [elt l.l v]))]⟩ : Sta)
      rw [show encR encI (acc ++ [elt l.l v]) = encR encI acc ++ [[.v (encI (elt l.l v))]] by simp [encR]]
      rfl
   ·skip
    have heq : elt l.l v = v := by simpa using h2
    rw [chain_end _ heq, List.tail_cons, List.append_nil] at hch
    subst hch
    refine awp_exit (thn_e (thn_e (blk_hit (thn_n (awp_seq (awp_region (aL_s true rfl rfl (fun _ => q_move rfl) ?_)))))))
    refine aL_eff (q := false) rfl (e_call [] [0] (by kernel_rfl) rfl rfl rfl rfl (con_reverseI _) ?_)
    rintro r7 _ _ ⟨rfl, rfl⟩
    refine aL_st (by (try simp only [nM, nN]); rfl) (by (try simp only [putB, place, Nat.reduceBEq, nA, if_true, if_false, reduceIte, nB, nC, nD, nE, nF, nG, nH, nI, Nat.reduceAdd, nJ, beq_self_eq_true, nK, nL, nM, nN]); rfl) ?_
    refine aL_nil (thn_n (awp_seq (awp_region (aL_s true rfl rfl (fun _ => q_move rfl) (aL_s true rfl rfl (fun _ => q_assign rfl) (aL_nil (thn_n ?_)))))))
    refine awp_share 0 rfl ?_
    refine awp_form (.of (psAt 0 rfl)) (fun ad kc hv => ?_)
    rw [encR_len] at hv
    refine awp_ret ?_
    refine fin1 [2] [] rfl Try.results35 rfl ?_ (.inr rfl)
    have e : trackF l.l ρ to_ = (chain l.l (ρ to_) to_).reverse := if_neg (by simpa using h1)
    exact ⟨rfl, ad, kc, by rw [e]; exact hv, by rw [e, ← hv]; rfl⟩
end Go.Proofs.Ytnbochlghdkfkaa
namespace Go.Lv
open Go.Sy
structure G (N : Nat) (out : List (List Int)) (rs : List Int) (k : Nat) (s : BS) : Prop where
  len : s.1.length = N
  mem : ∀ v ∈ s.2, 0 ≤ v ∧ v < N
  iff : ∀ v : Int, 0 ≤ v → v < N → (0 ≤ elt s.1 v ↔ v ∈ s.2)
  nodup : s.2.Nodup
  par : ∀ (j : Nat) (v : Int), s.2[j]? = some v → (elt s.1 v = v ∧ v ∈ rs) ∨ ∃ (i : Nat) (u : Int), i < j ∧ i ≤ k ∧ s.2[i]? = some u ∧ elt s.1 v = u ∧ v ∈ elt out u ∧ ∀ i' < i, ∀ u', s.2[i']? = some u' → v ∉ elt out u'
  clo : ∀ i < k, ∀ u, s.2[i]? = some u → ∀ x ∈ elt out u, x ∈ s.2
  root : ∀ v ∈ rs, 0 ≤ v → v < N → v ∈ s.2
theorem elt_rep (N : Nat) (v : Int) (h0 : 0 ≤ v) (h1 : v < N) : elt (List.replicate N (-1 : Int)) v = -1 := by
  unfold elt; rw [List.getD_eq_getElem?_getD, List.getElem?_replicate, if_pos (by omega)]; rfl
structure G0 (N : Nat) (rd : List Int) (s : BS) : Prop where
  len : s.1.length = N
  mem : ∀ v ∈ s.2, (0 ≤ v ∧ v < N) ∧ elt s.1 v = v ∧ v ∈ rd
  iff : ∀ v : Int, 0 ≤ v → v < N → (0 ≤ elt s.1 v ↔ v ∈ s.2)
  nodup : s.2.Nodup
  root : ∀ v ∈ rd, 0 ≤ v → v < N → v ∈ s.2
theorem rootStep_G0 {N : Nat} {rd : List Int} {s : BS} {v : Int} (h : G0 N rd s) (hv : v ∉ rd) : G0 N (rd ++ [v]) (rootStep N s v) := by
  unfold rootStep
  split
  · rename_i hvn
    have hvs : v ∉ s.2 := fun hm => hv (h.mem v hm).2.2
    have he : ∀ y, 0 ≤ y → elt (s.1.set v.toNat v) y = if v = y then v else elt s.1 y := fun y hy => elt_set hvn.1 (by rw [h.len]; exact hvn.2) hy
    refine ⟨by simpa using h.len, fun y hy => ?_, fun y hy0 hy1 => ?_, ?_, fun y hy h0 h1 => ?_⟩
    · dsimp only
      rcases List.mem_append.1 hy with hy | hy
      · obtain ⟨h1, h2, h3⟩ := h.mem y hy
        refine ⟨h1, ?_, List.mem_append_left _ h3⟩
        rw [he y h1.1]; split
        · rename_i e; exact e
        · exact h2
      · rw [List.mem_singleton.1 hy]
        exact ⟨hvn, by rw [he v hvn.1, if_pos rfl], by simp⟩
    · dsimp only
      rw [he y hy0, List.mem_append, List.mem_singleton]
      split
      · rename_i e; exact ⟨fun _ => .inr e.symm, fun _ => hvn.1⟩
      · rename_i e
        rw [h.iff y hy0 hy1]
        exact ⟨.inl, fun h => h.elim id fun h => (e h.symm).elim⟩
    · refine List.nodup_append.2 ⟨h.nodup, by simp, fun a ha b hb => ?_⟩
      rw [List.mem_singleton.1 hb]; rintro rfl; exact hvs ha
    · rcases List.mem_append.1 hy with hy | hy
      · exact List.mem_append_left _ (h.root y hy h0 h1)
      · exact List.mem_append_right _ hy
  · rename_i hvn
    refine ⟨h.len, fun y hy => ⟨(h.mem y hy).1, (h.mem y hy).2.1, List.mem_append_left _ (h.mem y hy).2.2⟩, h.iff, h.nodup, fun y hy h0 h1 => ?_⟩
    rcases List.mem_append.1 hy with hy | hy
    · exact h.root y hy h0 h1
    · rw [List.mem_singleton.1 hy] at h0 h1; exact (hvn ⟨h0, h1⟩).elim
theorem bstart_G0 (N : Nat) : ∀ (l rd : List Int) (s : BS), G0 N rd s → (rd ++ l).Nodup → G0 N (rd ++ l) (l.foldl (rootStep N) s)
  | [], rd, s, h, _ => by simpa using h
  | v :: l, rd, s, h, hn => by
    rw [List.foldl_cons, show rd ++ v :: l = (rd ++ [v]) ++ l by simp]
    refine bstart_G0 N l (rd ++ [v]) _ (rootStep_G0 h fun hm => ?_) (by simpa using hn)
    have := (List.nodup_append.1 hn).2.2 v hm v List.mem_cons_self
    exact this rfl
theorem bstart_G {N : Nat} {out : List (List Int)} {rs : List Int} (hn : rs.Nodup) : G N out rs 0 (bstart N rs) := by
  have h : G0 N rs (bstart N rs) := by
    have h0 : G0 N [] (List.replicate N (-1), []) := by
      refine ⟨by simp, (fun v hv => by cases hv), fun v h0 h1 => ?_, by simp, fun v hv => by cases hv⟩
      dsimp only; rw [elt_rep N v h0 h1]; simp
    have := bstart_G0 N rs [] _ h0 (by simpa using hn)
    unfold bstart; simpa using this
  exact ⟨h.len, fun v hv => (h.mem v hv).1, h.iff, h.nodup, fun j v hj => .inl (h.mem v (List.mem_of_getElem? hj)).2, fun i hi => by omega, h.root⟩
theorem visit_G {N : Nat} {out : List (List Int)} {rs : List Int} {k : Nat} {s : BS} {u x : Int} (h : G N out rs k s) (hu : s.2[k]? = some u) (hx : x ∈ elt out u) (hxn : 0 ≤ x ∧ x < N) : G N out rs k (visit u s x) ∧ x ∈ (visit u s x).2 := by
  unfold visit
  split
  · rename_i h0
    have hxs : x ∉ s.2 := fun hm => by have := (h.iff x hxn.1 hxn.2).2 hm; omega
    have hun := h.mem u (List.mem_of_getElem? hu)
    have he : ∀ y, 0 ≤ y → elt (s.1.set x.toNat u) y = if x = y then u else elt s.1 y := fun y hy => elt_set hxn.1 (by rw [h.len]; exact hxn.2) hy
    have hkl := (List.getElem?_eq_some_iff.1 hu).1
    have hget : ∀ (i : Nat), i < s.2.length → (s.2 ++ [x])[i]? = s.2[i]? := fun i hi => List.getElem?_append_left hi
    refine ⟨⟨by simpa using h.len, fun y hy => ?_, fun y hy0 hy1 => ?_, ?_, fun j v hj => ?_, fun i hi w hw y hy => ?_, fun y hy h1 h2 => List.mem_append_left _ (h.root y hy h1 h2)⟩, by simp⟩
    · rcases List.mem_append.1 hy with hy | hy
      · exact h.mem y hy
      · rw [List.mem_singleton.1 hy]; exact hxn
    · dsimp only
      rw [he y hy0, List.mem_append, List.mem_singleton]
      split
      · rename_i e; exact ⟨fun _ => .inr e.symm, fun _ => hun.1⟩
      · rename_i e
        rw [h.iff y hy0 hy1]
        exact ⟨.inl, fun h => h.elim id fun h => (e h.symm).elim⟩
    · refine List.nodup_append.2 ⟨h.nodup, by simp, fun a ha b hb => ?_⟩
      rw [List.mem_singleton.1 hb]; rintro rfl; exact hxs ha
    · dsimp only at hj ⊢
      by_cases hjl : j < s.2.length
      · rw [hget j hjl] at hj
        have hvm := List.mem_of_getElem? hj
        have hvx : x ≠ v := fun e => hxs (e ▸ hvm)
        rw [he v (h.mem v hvm).1, if_neg hvx]
        rcases h.par j v hj with h1 | ⟨i, w, h1, h2, h3, h4, h5, h6⟩
        · exact .inl h1
        · refine .inr ⟨i, w, h1, h2, by rw [hget i (by omega)]; exact h3, h4, h5, fun i' hi' u' hu' => h6 i' hi' u' ?_⟩
          rwa [hget i' (by omega)] at hu'
      · have hjx : v = x := by
          have hjl2 := (List.getElem?_eq_some_iff.1 hj).1
          rw [List.length_append, List.length_singleton] at hjl2
          rw [List.getElem?_append_right (by omega), show j - s.2.length = 0 by omega] at hj
          simpa using hj.symm
        subst hjx
        refine .inr ⟨k, u, by omega, Nat.le_refl _, by rw [hget k hkl]; exact hu, by rw [he v hxn.1, if_pos rfl], hx, fun i' hi' u' hu' hm => hxs (h.clo i' hi' u' ?_ v hm)⟩
        rwa [hget i' (by omega)] at hu'
    · dsimp only at hw ⊢
      rw [hget i (by omega)] at hw
      exact List.mem_append_left _ (h.clo i hi w hw y hy)
  · rename_i h0
    exact ⟨h, (h.iff x hxn.1 hxn.2).1 (by omega)⟩
theorem visits_G {N : Nat} {out : List (List Int)} {rs : List Int} {k : Nat} {u : Int} : ∀ (l : List Int) (s : BS), G N out rs k s → s.2[k]? = some u → (∀ x ∈ l, x ∈ elt out u ∧ 0 ≤ x ∧ x < N) → G N out rs k (l.foldl (visit u) s) ∧ ∀ x ∈ l, x ∈ (l.foldl (visit u) s).2
  | [], s, h, _, _ => ⟨h, fun _ h => by cases h⟩
  | x :: l, s, h, hu, hl => by
    obtain ⟨h1, h2⟩ := visit_G h hu (hl x List.mem_cons_self).1 (hl x List.mem_cons_self).2
    obtain ⟨h3, h4⟩ := visits_G l (visit u s x) h1 (pre_get visit_pre hu) (fun y hy => hl y (List.mem_cons_of_mem _ hy))
    refine ⟨h3, fun y hy => ?_⟩
    rcases List.mem_cons.1 hy with rfl | hy
    · exact (visits_pre l (visit u s y)).subset h2
    · exact h4 y hy
theorem bfs_G {N : Nat} {out : List (List Int)} {rs : List Int} (hn : rs.Nodup) (ho : OutOk N out) : ∀ k, G N out rs k (bfs out (bstart N rs) k)
  | 0 => bstart_G hn
  | k + 1 => by
    have ih := bfs_G hn ho k
    unfold bfs bstep
    split
    · rename_i hnone
      refine ⟨ih.len, ih.mem, ih.iff, ih.nodup, fun j v hj => ?_, fun i hi u hu x hx => ?_, ih.root⟩
      · exact (ih.par j v hj).imp id fun ⟨i, u, h1, h2, h⟩ => ⟨i, u, h1, by omega, h⟩
      · by_cases hik : i = k
        · subst hik; rw [hnone] at hu; cases hu
        · exact ih.clo i (by omega) u hu x hx
    · rename_i u hu
      obtain ⟨h1, h2⟩ := visits_G (elt out u) _ ih hu (fun x hx => ⟨hx, ho u x hx⟩)
      refine ⟨h1.len, h1.mem, h1.iff, h1.nodup, fun j v hj => ?_, fun i hi w hw x hx => ?_, h1.root⟩
      · exact (h1.par j v hj).imp id fun ⟨i, u, h1, h2, h⟩ => ⟨i, u, h1, by omega, h⟩
      · by_cases hik : i = k
        · subst hik
          have := pre_get (visits_pre (u := u) (elt out u) _) hu
          rw [this] at hw
          simp only [Option.some.injEq] at hw
          subst hw
          exact h2 x hx
        · exact h1.clo i (by omega) w hw x hx
/-- what is reached -/
inductive Rch (N : Nat) (out : List (List Int)) (rs : List Int) : Int → Prop where
  | root {v : Int} : v ∈ rs → 0 ≤ v → v < N → Rch N out rs v
  | arc {u v : Int} : Rch N out rs u → v ∈ elt out u → Rch N out rs v
def waveF (N : Nat) (out : List (List Int)) (rs : List Int) : List Int := (bfs out (bstart N rs) (rs.length + N)).2
section
variable {N : Nat} {out : List (List Int)} {rs : List Int}
theorem wave_len (ho : OutOk N out) : (waveF N out rs).length ≤ rs.length + N := (bfs_BI ho (bstart_BI N rs) _).le
theorem final_G (hn : rs.Nodup) (ho : OutOk N out) : G N out rs (rs.length + N) (searchF N out rs, waveF N out rs) := bfs_G hn ho _
theorem mem_wave (hn : rs.Nodup) (ho : OutOk N out) (v : Int) : v ∈ waveF N out rs ↔ Rch N out rs v := by
  have hG := final_G (rs := rs) hn ho
  have hl := wave_len (rs := rs) ho
  constructor
  · have : ∀ (j : Nat) (v : Int), (waveF N out rs)[j]? = some v → Rch N out rs v := by
      intro j
      induction j using Nat.strongRecOn with
      | _ j ih =>
        intro v hj
        have hvn := hG.mem v (List.mem_of_getElem? hj)
        rcases hG.par j v hj with ⟨_, h1⟩ | ⟨i, u, h1, _, h3, _, h5, _⟩
        · exact .root h1 hvn.1 hvn.2
        · exact .arc (ih i h1 u h3) h5
    intro hv
    obtain ⟨j, hj⟩ := List.mem_iff_getElem?.1 hv
    exact this j v hj
  · intro h
    induction h with
    | root h h0 h1 => exact hG.root _ h h0 h1
    | arc _ h ih =>
      obtain ⟨i, hi⟩ := List.mem_iff_getElem?.1 ih
      have := (List.getElem?_eq_some_iff.1 hi).1
      exact hG.clo i (by omega) _ hi _ h
theorem search_len (ho : OutOk N out) : (searchF N out rs).length = N := (bfs_BI ho (bstart_BI N rs) _).len
theorem search_nonneg (hn : rs.Nodup) (ho : OutOk N out) {v : Int} (h0 : 0 ≤ v) (h1 : v < N) : 0 ≤ elt (searchF N out rs) v ↔ Rch N out rs v := by
  rw [← mem_wave hn ho]; exact (final_G hn ho).iff v h0 h1
theorem rch_lt (ho : OutOk N out) {v : Int} (h : Rch N out rs v) : 0 ≤ v ∧ v < N := by
  cases h with
  | root _ h0 h1 => exact ⟨h0, h1⟩
  | arc _ h => exact ho _ _ h
def rank (w : List Int) (v : Int) : Nat := w.idxOf v
theorem rank_get {w : List Int} (hn : w.Nodup) {j : Nat} {v : Int} (h : w[j]? = some v) : rank w v = j := by
  obtain ⟨hj, rfl⟩ := List.getElem?_eq_some_iff.1 h
  exact hn.idxOf_getElem j hj
end
end Go.Lv
namespace Go.Proofs.Ytnbochlghdkfkaa
open Go.RowKit Go.Lp Go.Sy Go.Lv
open Go.Proofs.Try
attribute [local irreducible] aL aB awp aC fwp
theorem right_ok {N : Nat} {l : List GArc} (hN : N ≤ 100000) (hr : ∀ a ∈ l, arcOk N a) : rightF (N : Int) l = true := by
  unfold rightF
  have h : l.any (badArc (N : Int)) = false := by
    rw [List.any_eq_false]
    intro a ha
    have := hr a ha
    unfold arcOk at this
    obtain ⟨⟨h1, h2⟩, h3, h4⟩ := this
    simp [badArc, nodeF, h1, h2, h3, h4]
  rw [h]
  simp; omega
theorem uniqI_nodup (zs : List Int) : (uniqI zs).Nodup := (uniqI_spec zs).1.imp fun h => by omega
abbrev graphF (N : Nat) (l : List GArc) (rs : List Int) : List Int := searchF N (nextF N l) (uniqI rs)
abbrev graphW (N : Nat) (l : List GArc) (rs : List Int) : List Int := waveF N (nextF N l) (uniqI rs)
theorem graph_tree {N : Nat} {l : List GArc} (hr : ∀ a ∈ l, arcOk N a) (rs : List Int) : Tree (graphF N l rs) (rank (graphW N l rs)) := ⟨fun v hv hne => by
  have hG := final_G (rs := uniqI rs) (uniqI_nodup rs) (outOk hr)
  have hlen := hG.len
  have hvm := (hG.iff v hv.1 (by have := hv.2.1; rw [← hlen]; exact this)).1 hv.2.2
  obtain ⟨j, hj⟩ := List.mem_iff_getElem?.1 hvm
  rcases hG.par j v hj with ⟨h, _⟩ | ⟨i, u, h1, _, h3, h4, _⟩
  · exact (hne h).elim
  · have h4' : elt (graphF N l rs) v = u := h4
    have hum := List.mem_of_getElem? h3
    have hun := hG.mem u hum
    rw [h4', rank_get hG.nodup h3, rank_get hG.nodup hj]
    exact ⟨⟨hun.1, by rw [show (graphF N l rs).length = N from hlen]; exact hun.2, (hG.iff u hun.1 hun.2).2 hum⟩, h1⟩⟩
theorem rank_le (w : List Int) (v : Int) : rank w v ≤ w.length := List.idxOf_le_length
def reachF (N : Nat) (b : List Int) : List Int := ((List.range N).filter fun v : Nat => decide (0 ≤ elt b (v : Int))).map fun v : Nat => (v : Int)
theorem reach_snoc (b : List Int) (k : Nat) : reachF (k + 1) b = if 0 ≤ elt b (k : Int) then reachF k b ++ [(k : Int)] else reachF k b := by
  unfold reachF
  rw [List.range_succ, List.filter_append, List.map_append]
  split
  · rename_i h; simp [h]
  · rename_i h; simp [h]
theorem reach_le (b : List Int) (k : Nat) : (reachF k b).length ≤ k := by
  unfold reachF; rw [List.length_map]; exact Nat.le_trans (List.length_filter_le _ _) (by simp)
theorem con_search' (N : Nat) (hN : N ≤ 1000000) (l : Sl GArc) (hl : l.l.length ≤ 1000000) (hr : ∀ a ∈ l.l, arcOk N a) (rs : Sl Int) (hrs : rs.l.length ≤ 1000000) {b : List Int} (hb : graphF N l.l rs.l = b) :
    Con Try.prog 36 [.int .i64 N, l.val, rs.val] [ShF GArc.row l, ShF (fun z => [.v (encI z)]) rs] [] fun r ps hp => ps = [] ∧ hp = [OwnS r 3 1 (encR encI b)] := by
  subst hb; exact con_search N hN l hl hr rs hrs
theorem con_reach (N : Nat) (hN : N ≤ 100000) (l : Sl GArc) (hl : l.l.length ≤ 1000000) (hr : ∀ a ∈ l.l, arcOk N a) (rs : Sl Int) (hrs : rs.l.length ≤ 1000000) :
    Con Try.prog 28 [.int .i64 N, l.val, rs.val] [ShF GArc.row l, ShF (fun z => [.v (encI z)]) rs] [] fun r ps hp => ps = [] ∧ ∃ ad c, r = .slice ad (reachF N (graphF N l.l rs.l)).length c ∧ hp = [OwnS r 3 1 (encR encI (reachF N (graphF N l.l rs.l)))] := by
  obtain ⟨b, hb⟩ : ∃ b, graphF N l.l rs.l = b := ⟨_, rfl⟩
  have hbl : b.length = N := by rw [← hb]; exact search_len (outOk hr)
  rw [hb]
  refine Con.enter Try.func28 rfl (by simp [Try.ntmps28]) ?_
  show awp _ _ _ _ ⟨[(0, true, _), (1, true, _), (2, true, _)], _, _⟩
  refine awp_seq (awp_region (aL_s true rfl rfl (fun _ => q_assign rfl) (aL_nil (thn_n (awp_seq (awp_seq (awp_region ?_)))))))
  refine aL_s true rfl rfl (fun _ => q_move rfl) (aL_s true rfl rfl (fun _ => q_move rfl) ?_)
  refine aL_s true rfl rfl (fun _ => q_call (by kernel_rfl) rfl (fun w S fp hst => (con_right N l).quiet1 (psAt 0 rfl) hst)) ?_
  refine aL_s true rfl rfl (fun _ => q_not rfl) (aL_nil (thn_n ?_))
  refine awp_cond _ rfl (fun h1 => ?_) (fun h1 => ?_)
  ·skip
   exact absurd h1 (by rw [right_ok hN hr]; decide)
  ·skip
   refine awp_skip (thn_n (awp_seq (awp_nil 3 1 ?_)))
   show awp _ _ _ _ ⟨_, _, [_]⟩
   refine awp_region (aL_s true rfl rfl (fun _ => q_assign rfl) (aL_nil (thn_n (awp_seq (awp_seq (awp_region (aL_s true rfl rfl (fun _ => q_move rfl) ?_)))))))
   refine aL_s true rfl rfl (fun _ => q_move rfl) (aL_s true rfl rfl (fun _ => q_move rfl) ?_)
   refine aL_eff (q := true) rfl (e_call [1, 0] [] (by kernel_rfl) rfl rfl rfl rfl (con_search' N (by omega) l hl hr rs hrs hb) ?_)
   rintro vb _ _ ⟨rfl, rfl⟩
   refine aL_st (by (try simp only [nM, nN]); rfl) (by (try simp only [putB, place, Nat.reduceBEq, nA, if_true, if_false, reduceIte, nB, nC, nD, nE, nF, nG, nH, nI, Nat.reduceAdd, nJ, beq_self_eq_true, nK, nL, nM, nN]); rfl) ?_
   refine aL_s true rfl rfl (fun _ => q_lenO 1 Try.underlying37 rfl rfl) (aL_s true rfl rfl (fun _ => q_move rfl) (aL_nil (thn_n (awp_block ?_))))
   refine awp_formV 1 rfl (fun ab cb hvb => ?_)
   simp only [encR_len, hbl] at hvb ⊢
   subst hvb
   refine awp_share 1 rfl (awp_loopK [7, 17, 18, 19] [2] [0] (fun (p : Nat × Value) s => p.1 ≤ N ∧ s = ⟨[(7, true, p.2), (17, true, .slice ab N cb), (18, true, .int .i64 N), (19, true, .int .i64 p.1)], [Sh (.slice ab N cb) (.sl (encR encI b))], [OwnS p.2 3 1 (encR encI (reachF p.1 b))]⟩) (fun p => N - p.1) rfl (⟨(0, .slice none 0 0), Nat.zero_le _, rfl⟩) ?_)
   rintro ⟨k, vr⟩ s ⟨hk, rfl⟩
   dsimp only at hk
   refine awp_seq (awp_region (aL_s true rfl rfl (fun _ => q_lss rfl rfl) (aL_nil (thn_n (awp_seq ?_)))))
   refine awp_cond _ rfl (fun h2 => ?_) (fun h2 => ?_)
   ·skip
    have hk' : k < N := by simp at h2; omega
    have hbk : b[k]? = some (elt b (k : Int)) := elt_nat (by omega)
    refine awp_skip (thn_n (awp_seq (awp_block (awp_seq (awp_region (aL_s true rfl rfl (fun _ => q_move rfl) ?_))))))
    refine aL_E true rfl rfl (fun _ => q_indexAddrG Try.underlying37 tk3 rfl ((.of (psAt 0 rfl))) rfl (encR_get hbk) rfl rfl) (fun h => absurd h (by decide)) (fun ⟨b6_1, o6_1⟩ => ?_)
    refine aL_s true rfl rfl (fun _ => q_loadD (o := 0) tk3 rfl (psAt 0 rfl) rfl rfl) (aL_s true rfl rfl (fun _ => q_assign rfl) (aL_s true rfl rfl (fun _ => q_assign rfl) (aL_nil (thn_n (awp_seq (awp_region (aL_s true rfl rfl (fun _ => q_move rfl) ?_)))))))
    refine aL_s true rfl rfl (fun _ => q_geq rfl rfl) (aL_nil (thn_n ?_))
    refine awp_cond _ rfl (fun h3 => ?_) (fun h3 => ?_)
    ·skip
     have hge : 0 ≤ elt b (k : Int) := by simpa using h3
     refine awp_region (aL_s true rfl rfl (fun _ => q_move rfl) (aL_s true rfl rfl (fun _ => q_move rfl) ?_))
     refine aL_eff (q := true) rfl (w_lit (zs := [.int .i64 0]) (l := [(0, .tmp 27)]) el37 (by kernel_rfl) (by decide) (by decide) (by decide) rfl rfl rfl (.more rfl (.v rfl .nil) .nil) rfl rfl (fun v8_2 => ?_))
     refine aL_hp (by (try simp only [nM, nN]); rfl) ?_
     refine aL_eff rfl (w_append 0 el37 rfl rfl rfl rfl (w_srcO 1 el37 rfl (by simp)) (by first | assumption | simp) (by have := reach_le b k; simp [encR_len]; omega) _ rfl (fun v8_3 c8_3 => ?_))
     refine aL_hp (by simp only [nK, nL]; rfl) ?_
     refine aL_s true rfl rfl (fun _ => q_assign rfl) (aL_nil (blk_n (thn_n (awp_region ?_))))
     refine aL_s true rfl rfl (fun _ => q_addi rfl rfl (by omega)) ?_
     refine aL_s true rfl rfl (fun _ => q_move rfl) (aL_nil (thn_n ?_))
     refine ⟨[7, 17, 18, 19], [0], [0], rfl, ?_⟩
     refine ⟨(k + 1, .slice v8_3 ((encR encI (reachF k b)).length + 1) c8_3), ⟨by omega, ?_⟩, by omega⟩
     dsimp only
     rw [reach_snoc, if_pos hge, encR_snoc]
     rfl
    ·skip
     have hge : ¬ 0 ≤ elt b (k : Int) := by simpa using h3
     refine awp_skip (blk_n (thn_n (awp_region ?_)))
     refine aL_s true rfl rfl (fun _ => q_addi rfl rfl (by omega)) ?_
     refine aL_s true rfl rfl (fun _ => q_move rfl) (aL_nil (thn_n ?_))
     refine ⟨[7, 17, 18, 19], [0], [0], rfl, ?_⟩
     refine ⟨(k + 1, vr), ⟨by omega, ?_⟩, by omega⟩
     dsimp only
     rw [reach_snoc, if_neg hge]
     rfl
   ·skip
    have hkN : k = N := by simp at h2; omega
    subst hkN
    dsimp only
    refine awp_formV 0 rfl (fun ad cd hvr => ?_)
    rw [encR_len] at hvr
    subst hvr
    refine awp_exit (thn_e (thn_e (blk_hit (thn_n (awp_seq (awp_region (aL_s true rfl rfl (fun _ => q_move rfl) ?_)))))))
    refine aL_s true rfl rfl (fun _ => q_assign rfl) (aL_nil (thn_n (awp_ret ?_)))
    refine fin1 [] [0] rfl Try.results28 rfl ?_ (.inr rfl)
    exact ⟨rfl, ad, cd, rfl, rfl⟩
theorem con_trackO (b : List Int) (ρ : Int → Nat) (hT : Tree b ρ) (v : Value) (to_ : Int) (ht : 0 ≤ to_ ∧ to_ < b.length) (hb : ρ to_ ≤ 100000) :
    Con Try.prog 35 [v, .int .i64 to_] [] [OwnS v 3 1 (encR encI b)] fun r ps hp => hp = [] ∧ ∃ ad c, r = .slice ad (trackF b ρ to_).length c ∧ ps = [Sh (.slice ad (trackF b ρ to_).length c) (.sl (encR encI (trackF b ρ to_)))] := fun w S fp hst => by
  obtain ⟨ad, cap, rfl⟩ := own_val (hst.res 0 _ rfl)
  rw [encR_len] at hst ⊢
  exact Con.ofOwn (con_track ⟨ad, cap, b⟩ ρ hT to_ ht hb) w S fp hst
theorem con_way (N : Nat) (hN : N ≤ 10000) (l : Sl GArc) (hl : l.l.length ≤ 10000) (hr : ∀ a ∈ l.l, arcOk N a) (rs : Sl Int) (hrs : rs.l.length ≤ 10000) (to_ : Int) (ht : 0 ≤ to_ ∧ to_ < N) :
    Con Try.prog 23 [.int .i64 N, l.val, rs.val, .int .i64 to_] [ShF GArc.row l, ShF (fun z => [.v (encI z)]) rs] [] fun r ps hp => hp = [] ∧ ∃ ad c, r = .slice ad (trackF (graphF N l.l rs.l) (rank (graphW N l.l rs.l)) to_).length c ∧ ps = [Sh (.slice ad (trackF (graphF N l.l rs.l) (rank (graphW N l.l rs.l)) to_).length c) (.sl (encR encI (trackF (graphF N l.l rs.l) (rank (graphW N l.l rs.l)) to_)))] := by
  have hT := graph_tree hr rs.l
  have hrk : rank (graphW N l.l rs.l) to_ ≤ 100000 := by
    have h1 := rank_le (graphW N l.l rs.l) to_
    have h2 : (graphW N l.l rs.l).length ≤ _ := wave_len (rs := uniqI rs.l) (outOk hr)
    have h3 := uniqI_le rs.l
    omega
  obtain ⟨ρ, hρ⟩ : ∃ ρ, rank (graphW N l.l rs.l) = ρ := ⟨_, rfl⟩
  rw [hρ] at hT hrk ⊢
  obtain ⟨b, hb⟩ : ∃ b, graphF N l.l rs.l = b := ⟨_, rfl⟩
  have hbl : b.length = N := by rw [← hb]; exact search_len (outOk hr)
  rw [hb] at hT ⊢
  refine Con.enter Try.func23 rfl (by simp [Try.ntmps23]) ?_
  show awp _ _ _ _ ⟨[(0, true, _), (1, true, _), (2, true, _), (3, true, _)], _, _⟩
  refine awp_seq (awp_region (aL_s true rfl rfl (fun _ => q_assign rfl) (aL_nil (thn_n (awp_seq (awp_seq (awp_region ?_)))))))
  refine aL_s true rfl rfl (fun _ => q_move rfl) (aL_s true rfl rfl (fun _ => q_move rfl) ?_)
  refine aL_s true rfl rfl (fun _ => q_call (by kernel_rfl) rfl (fun w S fp hst => (con_right N l).quiet1 (psAt 0 rfl) hst)) ?_
  refine aL_s true rfl rfl (fun _ => q_not rfl) (aL_s true rfl rfl (fun _ => q_move rfl) (aL_s _ rfl rfl (fun hc => q_move rfl) (aL_s _ rfl rfl (fun hc => q_lss (ev_yes rfl hc) rfl) (aL_s true rfl rfl (fun _ => q_or rfl rfl (fun h => gf rfl h)) (aL_s true rfl rfl (fun _ => q_move rfl) (aL_s _ rfl rfl (fun hc => q_move rfl) (aL_s _ rfl rfl (fun hc => q_move rfl) ?_)))))))
  refine aL_s _ rfl rfl (fun hc => q_geq (ev_yes rfl hc) (ev_yes rfl hc)) (aL_s true rfl rfl (fun _ => q_or rfl rfl (fun h => gf rfl h)) (aL_nil (thn_n ?_)))
  refine awp_cond _ rfl (fun h1 => ?_) (fun h1 => ?_)
  ·skip
   exact absurd h1 (by rw [right_ok (by omega) hr]; simp; omega)
  ·skip
   refine awp_skip (thn_n (awp_seq (awp_region (aL_s true rfl rfl (fun _ => q_move rfl) (aL_s true rfl rfl (fun _ => q_move rfl) (aL_s true rfl rfl (fun _ => q_move rfl) ?_))))))
   refine aL_eff (q := true) rfl (e_call [1, 0] [] (by kernel_rfl) rfl rfl rfl rfl (con_search' N (by omega) l (by omega) hr rs (by omega) hb) ?_)
   rintro vb _ _ ⟨rfl, rfl⟩
   refine aL_st (by (try simp only [nM, nN]); rfl) (by (try simp only [putB, place, Nat.reduceBEq, nA, if_true, if_false, reduceIte, nB, nC, nD, nE, nF, nG, nH, nI, Nat.reduceAdd, nJ, beq_self_eq_true, nK, nL, nM, nN]); rfl) ?_
   refine aL_s true rfl rfl (fun _ => q_move rfl) ?_
   refine aL_eff (q := false) rfl (e_call [] [0] (by kernel_rfl) rfl rfl rfl rfl (con_trackO b ρ hT vb to_ (by omega) hrk) ?_)
   rintro _ _ _ ⟨rfl, ad, c, rfl, rfl⟩
   refine aL_st (by (try simp only [nM, nN]); rfl) (by (try simp only [putB, place, Nat.reduceBEq, nA, if_true, if_false, reduceIte, nB, nC, nD, nE, nF, nG, nH, nI, Nat.reduceAdd, nJ, beq_self_eq_true, nK, nL, nM, nN]); rfl) ?_
   refine aL_s true rfl rfl (fun _ => q_assign rfl) (aL_nil (thn_n (awp_ret ?_)))
   refine fin1 [2] [] rfl Try.results23 rfl ?_ (.inr rfl)
   exact ⟨rfl, ad, c, rfl, rfl⟩
end Go.Proofs.Ytnbochlghdkfkaa
namespace Go.Proofs.Ytnbochlghdkfkaa
open Go.RowKit Go.Lp Go.Sy Go.Lv
open Go.Proofs.Try
attribute [local irreducible] aL aB awp aC fwp
def insU (x : Int) : List Int → List Int
  | [] => [x]
  | y :: l => if x < y then x :: y :: l else if x = y then y :: l else y :: insU x l
def uniqS (zs : List Int) : List Int := zs.foldr insU []
theorem mem_insU {x z : Int} : ∀ {l : List Int}, z ∈ insU x l ↔ z = x ∨ z ∈ l
  | [] => by simp [insU]
  | y :: l => by
    unfold insU
    split
    · simp
    · split
      · rename_i h1 h2; subst h2; simp
      · rw [List.mem_cons, mem_insU, List.mem_cons]
        constructor
        · rintro (h | h | h)
          · exact .inr (.inl h)
          · exact .inl h
          · exact .inr (.inr h)
        · rintro (h | h | h)
          · exact .inr (.inl h)
          · exact .inl h
          · exact .inr (.inr h)
theorem insU_sorted {x : Int} : ∀ {l : List Int}, l.Pairwise (· < ·) → (insU x l).Pairwise (· < ·)
  | [], _ => by simp [insU]
  | y :: l, h => by
    obtain ⟨h1, h2⟩ := List.pairwise_cons.1 h
    unfold insU
    split
    · rename_i hxy
      refine List.pairwise_cons.2 ⟨fun z hz => ?_, h⟩
      rcases List.mem_cons.1 hz with rfl | hz
      · exact hxy
      · exact Int.lt_trans hxy (h1 z hz)
    · split
      · exact h
      · rename_i h3 h4
        refine List.pairwise_cons.2 ⟨fun z hz => ?_, insU_sorted h2⟩
        rcases mem_insU.1 hz with rfl | hz
        · omega
        · exact h1 z hz
theorem uniqS_spec (zs : List Int) : (uniqS zs).Pairwise (· < ·) ∧ ∀ x, x ∈ uniqS zs ↔ x ∈ zs := by
  induction zs with
  | nil => exact ⟨List.Pairwise.nil, fun x => Iff.rfl⟩
  | cons z zs ih => exact ⟨insU_sorted ih.1, fun x => by show x ∈ insU z (uniqS zs) ↔ _; rw [mem_insU, ih.2, List.mem_cons]⟩
theorem sorted_ext : ∀ {a b : List Int}, a.Pairwise (· < ·) → b.Pairwise (· < ·) → (∀ x, x ∈ a ↔ x ∈ b) → a = b
  | [], [], _, _, _ => rfl
  | [], y :: b, _, _, h => by have := (h y).2 List.mem_cons_self; cases this
  | x :: a, [], _, _, h => by have := (h x).1 List.mem_cons_self; cases this
  | x :: a, y :: b, ha, hb, h => by
    obtain ⟨a1, a2⟩ := List.pairwise_cons.1 ha
    obtain ⟨b1, b2⟩ := List.pairwise_cons.1 hb
    have hxy : x = y := by
      rcases List.mem_cons.1 ((h x).1 List.mem_cons_self) with e | e
      · exact e
      · rcases List.mem_cons.1 ((h y).2 List.mem_cons_self) with e' | e'
        · exact e'.symm
        · have := b1 x e; have := a1 y e'; omega
    subst hxy
    rw [sorted_ext a2 b2 fun z => ⟨fun hz => ?_, fun hz => ?_⟩]
    · rcases List.mem_cons.1 ((h z).1 (List.mem_cons_of_mem _ hz)) with e | e
      · have := a1 z hz; omega
      · exact e
    · rcases List.mem_cons.1 ((h z).2 (List.mem_cons_of_mem _ hz)) with e | e
      · have := b1 z hz; omega
      · exact e
theorem uniqI_eq (zs : List Int) : uniqI zs = uniqS zs := sorted_ext (uniqI_spec zs).1 (uniqS_spec zs).1 fun x => by rw [(uniqI_spec zs).2, (uniqS_spec zs).2]
theorem nextF_eq (N : Nat) (l : List GArc) : nextF N l = (phase1 N l).map uniqS := by unfold nextF; rw [show (uniqI : List Int → List Int) = uniqS from funext uniqI_eq]
theorem graphF_eq (N : Nat) (l : List GArc) (rs : List Int) : graphF N l rs = searchF N ((phase1 N l).map uniqS) (uniqS rs) := by unfold graphF; rw [nextF_eq, uniqI_eq]
theorem graphW_eq (N : Nat) (l : List GArc) (rs : List Int) : graphW N l rs = waveF N ((phase1 N l).map uniqS) (uniqS rs) := by unfold graphW; rw [nextF_eq, uniqI_eq]
end Go.Proofs.Ytnbochlghdkfkaa
namespace Go.Proofs.Ytnbochlghdkfkaa
open Go.RowKit Go.Lp Go.Sy
open Go.Proofs.Try
attribute [local irreducible] aL aB awp aC fwp
def indexF (n len : Int) : Bool := decide (n ≥ 0) && decide (n < len)
theorem indexF_iff {n len : Int} : indexF n len = true ↔ 0 ≤ n ∧ n < len := by simp [indexF]
def keptF (os : List GObject) (kp : List (Sl Bool)) (o s : Int) : Bool :=
  indexF o os.length && indexF s (elt os o).secs.l.length && decide (o < kp.length) && decide (s < (elt kp o).l.length) && elt (elt kp o).l s
theorem con_index (n len : Int) : Con Try.prog 32 [.int .i64 n, .int .i64 len] [] [] fun r _ _ => r = .bool (indexF n len) := by
  refine Con.enter Try.func32 rfl (by simp [Try.ntmps32]) ?_
  show awp _ _ _ _ ⟨[(0, true, _), (1, true, _)], _, _⟩
  refine awp_seq (awp_region (aL_s true rfl rfl (fun _ => q_assign rfl) (aL_nil (thn_n (awp_seq (awp_region (aL_s true rfl rfl (fun _ => q_move rfl) ?_)))))))
  refine aL_s true rfl rfl (fun _ => q_geq rfl rfl) (aL_s true rfl rfl (fun _ => q_move rfl) (aL_s _ rfl rfl (fun hc => q_move rfl) (aL_s _ rfl rfl (fun hc => q_move rfl) (aL_s _ rfl rfl (fun hc => q_lss (ev_yes rfl hc) (ev_yes rfl hc)) (aL_s true rfl rfl (fun _ => q_and rfl rfl (fun h => gt rfl h)) (aL_s true rfl rfl (fun _ => q_assign rfl) (aL_nil ?_)))))))
  refine thn_n (awp_ret ?_)
  refine fin1 [] [] rfl Try.results32 rfl ?_ (.inr rfl)
  rfl
theorem con_kept (x : GLink) (lb : Nat) (o s : Int) : Con Try.prog 21 [.pointer (some ⟨lb, 0, none⟩), .agg #[.int .i64 o, .int .i64 s]] [At lb 0 x.row, x.ok] [] fun r _ _ => r = .bool (keptF x.objs.l x.keep.l o s) := by
  refine Con.enter Try.func21 rfl (by simp [Try.ntmps21]) ?_
  show awp _ _ _ _ ⟨[(0, true, _), (1, true, _)], _, _⟩
  refine awp_seq (awp_region ?_)
  refine aL_eff (q := true) rfl (x_box rfl rfl rfl (fun b0_0 => ?_))
  refine aL_hp (by (try simp only [nM, nN]); rfl) ?_
  refine aL_s true rfl rfl (fun _ => q_assign rfl) (aL_nil (thn_n (awp_seq ?_)))
  refine awp_drawn [] (by kernel_rfl) ?_
  show aB _ _ _ _ _ 62 #[false, false, false, false, false, false, false, false, false, false, false, false, false, false, false, false, false, false, false, false, false, false, false, false, false, false, false, false, false, false, false, false, false, false, false, false, false, false, false, false, false, false, false, false, false, false, false, false, false, false, false, false, false, false, false, false, false, false, false, false, false, false] _
  refine aB_s 0 rfl (by kernel_rfl) true rfl rfl (fun _ => q_fieldAddr (off := 0) (by kernel_rfl) rfl) ?_
  refine aB_hp (by simp only [nO, nK, nL]; rfl) rfl ?_
  refine aB_s 1 rfl (by kernel_rfl) true rfl rfl (fun _ => q_load 0 tk3 rfl rfl rfl) ?_
  refine aB_hp (by simp only [nO, nK, nL]; rfl) rfl ?_
  refine aB_s 2 rfl (by kernel_rfl) true rfl rfl (fun _ => q_move rfl) ?_
  refine aB_hp (by simp only [nO, nK, nL]; rfl) rfl ?_
  refine aB_s 3 rfl (by kernel_rfl) true rfl rfl (fun _ => q_nilCheck rfl) ?_
  refine aB_hp (by simp only [nO, nK, nL]; rfl) rfl ?_
  refine aB_s 4 rfl (by kernel_rfl) true rfl rfl (fun _ => q_fieldAddr (off := 7) (by kernel_rfl) rfl) ?_
  refine aB_hp (by simp only [nO, nK, nL]; rfl) rfl ?_
  refine aB_s 5 rfl (by kernel_rfl) true rfl rfl (fun _ => q_loadDE (o := 7) tk26 rfl (.of (psAt 0 rfl)) rfl) ?_
  refine aB_hp (by simp only [nO, nK, nL]; rfl) rfl ?_
  refine aB_s 6 rfl (by kernel_rfl) true rfl rfl (fun _ => q_lenS Try.underlying26 rfl) ?_
  refine aB_hp (by simp only [nO, nK, nL]; rfl) rfl ?_
  refine aB_s 7 rfl (by kernel_rfl) true rfl rfl (fun _ => q_call (by kernel_rfl) rfl (fun w S fp hst => (con_index _ _).quiet0 hst)) ?_
  refine aB_hp (by simp only [nO, nK, nL]; rfl) rfl ?_
  refine aB_s 8 rfl (by kernel_rfl) true rfl rfl (fun _ => q_move rfl) ?_
  refine aB_hp (by simp only [nO, nK, nL]; rfl) rfl ?_
  refine aB_s 9 rfl (by kernel_rfl) _ rfl rfl (fun hc => q_fieldAddr (off := 1) (by kernel_rfl) rfl) ?_
  refine aB_hp (by simp only [nO, nK, nL]; rfl) rfl ?_
  refine aB_s 10 rfl (by kernel_rfl) _ rfl rfl (fun hc => q_load 0 tk3 (ev_yes rfl hc) rfl rfl) ?_
  refine aB_hp (by simp only [nO, nK, nL]; rfl) rfl ?_
  refine aB_s 11 rfl (by kernel_rfl) _ rfl rfl (fun hc => q_move rfl) ?_
  refine aB_hp (by simp only [nO, nK, nL]; rfl) rfl ?_
  refine aB_s 12 rfl (by kernel_rfl) _ rfl rfl (fun hc => q_nilCheck (ev_yes rfl hc)) ?_
  refine aB_hp (by simp only [nO, nK, nL]; rfl) rfl ?_
  refine aB_s 13 rfl (by kernel_rfl) _ rfl rfl (fun hc => q_fieldAddr (off := 7) (by kernel_rfl) (ev_yes rfl hc)) ?_
  refine aB_hp (by simp only [nO, nK, nL]; rfl) rfl ?_
  refine aB_s 14 rfl (by kernel_rfl) _ rfl rfl (fun hc => q_loadDE (o := 7) tk26 (ev_yes rfl hc) (.of (psAt 0 rfl)) rfl) ?_
  refine aB_hp (by simp only [nO, nK, nL]; rfl) rfl ?_
  refine aB_s 15 rfl (by kernel_rfl) _ rfl rfl (fun hc => q_fieldAddr (off := 0) (by kernel_rfl) rfl) ?_
  refine aB_hp (by simp only [nO, nK, nL]; rfl) rfl ?_
  refine aB_s 16 rfl (by kernel_rfl) _ rfl rfl (fun hc => q_load 0 tk3 (ev_yes rfl hc) rfl rfl) ?_
  refine aB_hp (by simp only [nO, nK, nL]; rfl) rfl ?_
  refine aB_E 17 rfl (by kernel_rfl) _ rfl rfl (fun hc => q_indexAddrG Try.underlying26 tk53 (ev_yes rfl hc) ((GLink.f_objs (.of (psAt 1 rfl)))) (ev_yes rfl hc) (rows_elt (i := o) (by simp [indexF] at hc; omega) (by simp [indexF] at hc; omega)) (by simp [indexF] at hc; omega) rfl) (fun _ => ⟨(0, 0)⟩) (fun ⟨b1_17, o1_17⟩ => ?_)
  refine aB_hp (by simp only [nO, nK, nL]; rfl) rfl ?_
  refine aB_s 18 rfl (by kernel_rfl) _ rfl rfl (fun hc => q_fieldAddr (off := 1) (by kernel_rfl) (ev_yes rfl hc)) ?_
  refine aB_hp (by simp only [nO, nK, nL]; rfl) rfl ?_
  refine aB_s 19 rfl (by kernel_rfl) _ rfl rfl (fun hc => q_loadD (o := 1) tk42 (ev_yes rfl hc) (psAt 0 rfl) hc rfl) ?_
  refine aB_hp (by simp only [nO, nK, nL]; rfl) rfl ?_
  refine aB_s 20 rfl (by kernel_rfl) _ rfl rfl (fun hc => q_lenS Try.underlying42 (ev_yes rfl hc)) ?_
  refine aB_hp (by simp only [nO, nK, nL]; rfl) rfl ?_
  refine aB_s 21 rfl (by kernel_rfl) _ rfl rfl (fun hc => q_call (by kernel_rfl) (evs_cons (ev_yes rfl hc) (evs_cons (ev_yes rfl hc) rfl)) (fun w S fp hst => (con_index _ _).quiet0 hst)) ?_
  refine aB_hp (by simp only [nO, nK, nL]; rfl) rfl ?_
  refine aB_s 22 rfl (by kernel_rfl) true rfl rfl (fun _ => q_and rfl rfl (fun h => gt rfl h)) ?_
  refine aB_hp (by simp only [nO, nK, nL]; rfl) rfl ?_
  refine aB_s 23 rfl (by kernel_rfl) true rfl rfl (fun _ => q_move rfl) ?_
  refine aB_hp (by simp only [nO, nK, nL]; rfl) rfl ?_
  refine aB_s 24 rfl (by kernel_rfl) _ rfl rfl (fun hc => q_fieldAddr (off := 0) (by kernel_rfl) rfl) ?_
  refine aB_hp (by simp only [nO, nK, nL]; rfl) rfl ?_
  refine aB_s 25 rfl (by kernel_rfl) _ rfl rfl (fun hc => q_load 0 tk3 (ev_yes rfl hc) rfl rfl) ?_
  refine aB_hp (by simp only [nO, nK, nL]; rfl) rfl ?_
  refine aB_s 26 rfl (by kernel_rfl) _ rfl rfl (fun hc => q_move rfl) ?_
  refine aB_hp (by simp only [nO, nK, nL]; rfl) rfl ?_
  refine aB_s 27 rfl (by kernel_rfl) _ rfl rfl (fun hc => q_nilCheck (ev_yes rfl hc)) ?_
  refine aB_hp (by simp only [nO, nK, nL]; rfl) rfl ?_
  refine aB_s 28 rfl (by kernel_rfl) _ rfl rfl (fun hc => q_fieldAddr (off := 8) (by kernel_rfl) (ev_yes rfl hc)) ?_
  refine aB_hp (by simp only [nO, nK, nL]; rfl) rfl ?_
  refine aB_s 29 rfl (by kernel_rfl) _ rfl rfl (fun hc => q_loadDE (o := 8) tk27 (ev_yes rfl hc) (.of (psAt 1 rfl)) rfl) ?_
  refine aB_hp (by simp only [nO, nK, nL]; rfl) rfl ?_
  refine aB_s 30 rfl (by kernel_rfl) _ rfl rfl (fun hc => q_lenS Try.underlying27 (ev_yes rfl hc)) ?_
  refine aB_hp (by simp only [nO, nK, nL]; rfl) rfl ?_
  refine aB_s 31 rfl (by kernel_rfl) _ rfl rfl (fun hc => q_lss (ev_yes rfl hc) (ev_yes rfl hc)) ?_
  refine aB_hp (by simp only [nO, nK, nL]; rfl) rfl ?_
  refine aB_s 32 rfl (by kernel_rfl) true rfl rfl (fun _ => q_and rfl rfl (fun h => gt rfl h)) ?_
  refine aB_hp (by simp only [nO, nK, nL]; rfl) rfl ?_
  refine aB_s 33 rfl (by kernel_rfl) true rfl rfl (fun _ => q_move rfl) ?_
  refine aB_hp (by simp only [nO, nK, nL]; rfl) rfl ?_
  refine aB_s 34 rfl (by kernel_rfl) _ rfl rfl (fun hc => q_fieldAddr (off := 1) (by kernel_rfl) rfl) ?_
  refine aB_hp (by simp only [nO, nK, nL]; rfl) rfl ?_
  refine aB_s 35 rfl (by kernel_rfl) _ rfl rfl (fun hc => q_load 0 tk3 (ev_yes rfl hc) rfl rfl) ?_
  refine aB_hp (by simp only [nO, nK, nL]; rfl) rfl ?_
  refine aB_s 36 rfl (by kernel_rfl) _ rfl rfl (fun hc => q_move rfl) ?_
  refine aB_hp (by simp only [nO, nK, nL]; rfl) rfl ?_
  refine aB_s 37 rfl (by kernel_rfl) _ rfl rfl (fun hc => q_nilCheck (ev_yes rfl hc)) ?_
  refine aB_hp (by simp only [nO, nK, nL]; rfl) rfl ?_
  refine aB_s 38 rfl (by kernel_rfl) _ rfl rfl (fun hc => q_fieldAddr (off := 8) (by kernel_rfl) (ev_yes rfl hc)) ?_
  refine aB_hp (by simp only [nO, nK, nL]; rfl) rfl ?_
  refine aB_s 39 rfl (by kernel_rfl) _ rfl rfl (fun hc => q_loadDE (o := 8) tk27 (ev_yes rfl hc) (.of (psAt 1 rfl)) rfl) ?_
  refine aB_hp (by simp only [nO, nK, nL]; rfl) rfl ?_
  refine aB_s 40 rfl (by kernel_rfl) _ rfl rfl (fun hc => q_fieldAddr (off := 0) (by kernel_rfl) rfl) ?_
  refine aB_hp (by simp only [nO, nK, nL]; rfl) rfl ?_
  refine aB_s 41 rfl (by kernel_rfl) _ rfl rfl (fun hc => q_load 0 tk3 (ev_yes rfl hc) rfl rfl) ?_
  refine aB_hp (by simp only [nO, nK, nL]; rfl) rfl ?_
  refine aB_E 42 rfl (by kernel_rfl) _ rfl rfl (fun hc => q_indexAddrG Try.underlying27 tk54 (ev_yes rfl hc) ((GLink.f_keep (.of (psAt 2 rfl)))) (ev_yes rfl hc) (rows_elt (i := o) (by simp [indexF] at hc; omega) (by simp [indexF] at hc; omega)) (by simp [indexF] at hc; omega) rfl) (fun _ => ⟨(0, 0)⟩) (fun ⟨b1_42, o1_42⟩ => ?_)
  refine aB_hp (by simp only [nO, nK, nL]; rfl) rfl ?_
  refine aB_s 43 rfl (by kernel_rfl) _ rfl rfl (fun hc => q_loadD (o := 0) tk54 (ev_yes rfl hc) (psAt 0 rfl) hc rfl) ?_
  refine aB_hp (by simp only [nO, nK, nL]; rfl) rfl ?_
  refine aB_s 44 rfl (by kernel_rfl) _ rfl rfl (fun hc => q_lenS Try.underlying54 (ev_yes rfl hc)) ?_
  refine aB_hp (by simp only [nO, nK, nL]; rfl) rfl ?_
  refine aB_s 45 rfl (by kernel_rfl) _ rfl rfl (fun hc => q_lss (ev_yes rfl hc) (ev_yes rfl hc)) ?_
  refine aB_hp (by simp only [nO, nK, nL]; rfl) rfl ?_
  refine aB_s 46 rfl (by kernel_rfl) true rfl rfl (fun _ => q_and rfl rfl (fun h => gt rfl h)) ?_
  refine aB_hp (by simp only [nO, nK, nL]; rfl) rfl ?_
  refine aB_s 47 rfl (by kernel_rfl) true rfl rfl (fun _ => q_move rfl) ?_
  refine aB_hp (by simp only [nO, nK, nL]; rfl) rfl ?_
  refine aB_s 48 rfl (by kernel_rfl) _ rfl rfl (fun hc => q_move rfl) ?_
  refine aB_hp (by simp only [nO, nK, nL]; rfl) rfl ?_
  refine aB_s 49 rfl (by kernel_rfl) _ rfl rfl (fun hc => q_nilCheck (ev_yes rfl hc)) ?_
  refine aB_hp (by simp only [nO, nK, nL]; rfl) rfl ?_
  refine aB_s 50 rfl (by kernel_rfl) _ rfl rfl (fun hc => q_fieldAddr (off := 8) (by kernel_rfl) (ev_yes rfl hc)) ?_
  refine aB_hp (by simp only [nO, nK, nL]; rfl) rfl ?_
  refine aB_s 51 rfl (by kernel_rfl) _ rfl rfl (fun hc => q_loadDE (o := 8) tk27 (ev_yes rfl hc) (.of (psAt 2 rfl)) rfl) ?_
  refine aB_hp (by simp only [nO, nK, nL]; rfl) rfl ?_
  refine aB_s 52 rfl (by kernel_rfl) _ rfl rfl (fun hc => q_fieldAddr (off := 0) (by kernel_rfl) rfl) ?_
  refine aB_hp (by simp only [nO, nK, nL]; rfl) rfl ?_
  refine aB_s 53 rfl (by kernel_rfl) _ rfl rfl (fun hc => q_load 0 tk3 (ev_yes rfl hc) rfl rfl) ?_
  refine aB_hp (by simp only [nO, nK, nL]; rfl) rfl ?_
  refine aB_E 54 rfl (by kernel_rfl) _ rfl rfl (fun hc => q_indexAddrG Try.underlying27 tk54 (ev_yes rfl hc) ((GLink.f_keep (.of (psAt 3 rfl)))) (ev_yes rfl hc) (rows_elt (i := o) (by simp [indexF] at hc; omega) (by simp [indexF] at hc; omega)) (by simp [indexF] at hc; omega) rfl) (fun _ => ⟨(0, 0)⟩) (fun ⟨b1_54, o1_54⟩ => ?_)
  refine aB_hp (by simp only [nO, nK, nL]; rfl) rfl ?_
  refine aB_s 55 rfl (by kernel_rfl) _ rfl rfl (fun hc => q_loadD (o := 0) tk54 (ev_yes rfl hc) (psAt 0 rfl) hc rfl) ?_
  refine aB_hp (by simp only [nO, nK, nL]; rfl) rfl ?_
  refine aB_s 56 rfl (by kernel_rfl) _ rfl rfl (fun hc => q_fieldAddr (off := 1) (by kernel_rfl) rfl) ?_
  refine aB_hp (by simp only [nO, nK, nL]; rfl) rfl ?_
  refine aB_s 57 rfl (by kernel_rfl) _ rfl rfl (fun hc => q_load 0 tk3 (ev_yes rfl hc) rfl rfl) ?_
  refine aB_hp (by simp only [nO, nK, nL]; rfl) rfl ?_
  refine aB_E 58 rfl (by kernel_rfl) _ rfl rfl (fun hc => q_indexAddrG Try.underlying54 tk4 (ev_yes rfl hc) (((GLink.f_keepA (.of (psAt 4 rfl))).elt (i := o) (by simp [indexF] at hc; omega) (by simp [indexF] at hc; omega))) (ev_yes rfl hc) (rows_elt (i := s) (by simp [indexF] at hc; omega) (by simp [indexF] at hc; omega)) (by simp [indexF] at hc; omega) rfl) (fun _ => ⟨(0, 0)⟩) (fun ⟨b1_58, o1_58⟩ => ?_)
  refine aB_hp (by simp only [nO, nK, nL]; rfl) rfl ?_
  refine aB_s 59 rfl (by kernel_rfl) _ rfl rfl (fun hc => q_loadD (o := 0) tk4 (ev_yes rfl hc) (psAt 0 rfl) hc rfl) ?_
  refine aB_hp (by simp only [nO, nK, nL]; rfl) rfl ?_
  refine aB_s 60 rfl (by kernel_rfl) true rfl rfl (fun _ => q_and rfl rfl (fun h => gt rfl h)) ?_
  refine aB_hp (by simp only [nO, nK, nL]; rfl) rfl ?_
  refine aB_s 61 rfl (by kernel_rfl) true rfl rfl (fun _ => q_assign rfl) ?_
  refine aB_hp (by simp only [nO, nK, nL]; rfl) rfl ?_
  refine aB_nil (by kernel_rfl) ?_
  refine thn_n (awp_ret ?_)
  refine fin1 [] [] rfl Try.results21 rfl ?_ (.inr rfl)
  rfl
end Go.Proofs.Ytnbochlghdkfkaa
namespace Go.Proofs.Ytnbochlghdkfkaa
open Go.RowKit Go.Lp Go.Sy
open Go.Proofs.Try
attribute [local irreducible] aL aB awp aC fwp
def choiceF (cs : List (Sl GChoice)) (o k : Int) : GChoice :=
  if indexF o cs.length && indexF k (elt cs o).l.length then elt (elt cs o).l k else default
theorem con_choice (x : GLink) (lb : Nat) (o k : Int) : Con Try.prog 41 [.pointer (some ⟨lb, 0, none⟩), .int .i64 o, .int .i64 k] [At lb 0 x.row, x.ok] [] fun r _ _ => r = (choiceF x.choices.l o k).val := by
  refine Con.enter Try.func41 rfl (by simp [Try.ntmps41]) ?_
  show awp _ _ _ _ ⟨[(0, true, _), (1, true, _), (2, true, _)], _, _⟩
  refine awp_seq (awp_region ?_)
  refine aL_eff (q := true) rfl (x_alloc (zs := [.int .i64 0, .int .i64 0, .int .i64 0, .int .i64 0, .int .i64 0, .bool false]) (by kernel_rfl) rfl (fun b0_0 => ?_))
  refine aL_hp (by (try simp only [nM, nN]); rfl) ?_
  refine aL_nil (thn_n (awp_seq (awp_seq (awp_region (aL_s true rfl rfl (fun _ => q_move rfl) (aL_s true rfl rfl (fun _ => q_move rfl) (aL_s true rfl rfl (fun _ => q_nilCheck rfl) ?_)))))))
  refine aL_s true rfl rfl (fun _ => q_fieldAddr (off := 9) (by kernel_rfl) rfl) ?_
  refine aL_s true rfl rfl (fun _ => q_loadDE (o := 9) tk28 rfl (.of (psAt 0 rfl)) rfl) (aL_s true rfl rfl (fun _ => q_lenS Try.underlying28 rfl) ?_)
  refine aL_s true rfl rfl (fun _ => q_call (by kernel_rfl) rfl (fun w S fp hst => (con_index _ _).quiet0 hst)) ?_
  refine aL_s true rfl rfl (fun _ => q_not rfl) (aL_s true rfl rfl (fun _ => q_move rfl) (aL_s _ rfl rfl (fun hc => q_move rfl) (aL_s _ rfl rfl (fun hc => q_move rfl) (aL_s _ rfl rfl (fun hc => q_nilCheck (ev_yes rfl hc)) ?_))))
  refine aL_s _ rfl rfl (fun hc => q_fieldAddr (off := 9) (by kernel_rfl) (ev_yes rfl hc)) ?_
  refine aL_s _ rfl rfl (fun hc => q_loadDE (o := 9) tk28 (ev_yes rfl hc) (.of (psAt 0 rfl)) rfl) (aL_s _ rfl rfl (fun hc => q_move rfl) ?_)
  refine aL_E _ rfl rfl (fun hc => q_indexAddrG Try.underlying28 tk69 (ev_yes rfl hc) ((GLink.f_choices (.of (psAt 1 rfl)))) (ev_yes rfl hc) (rows_elt (i := o) (by simp [indexF] at hc; omega) (by simp [indexF] at hc; omega)) (by simp [indexF] at hc; omega) rfl) (fun _ => ⟨(0, 0)⟩) (fun ⟨b1_15, o1_15⟩ => ?_)
  refine aL_s _ rfl rfl (fun hc => q_loadD (o := 0) tk69 (ev_yes rfl hc) (psAt 0 rfl) hc rfl) (aL_s _ rfl rfl (fun hc => q_lenS Try.underlying69 (ev_yes rfl hc)) ?_)
  refine aL_s _ rfl rfl (fun hc => q_call (by kernel_rfl) (evs_cons (ev_yes rfl hc) (evs_cons (ev_yes rfl hc) rfl)) (fun w S fp hst => (con_index _ _).quiet0 hst)) ?_
  refine aL_s _ rfl rfl (fun hc => q_not (ev_yes rfl hc)) (aL_s true rfl rfl (fun _ => q_or rfl rfl (fun h => gf rfl h)) (aL_nil (thn_n ?_)))
  refine awp_cond _ rfl (fun h1 => ?_) (fun h1 => ?_)
  ·skip
   skip
   refine awp_seq (awp_region ?_)
   refine aL_s true rfl rfl (fun _ => q_bld (l := []) (zs := [.int .i64 0, .int .i64 0, .int .i64 0, .int .i64 0, .int .i64 0, .bool false]) (pl := [(0, 1), (1, 1), (2, 1), (3, 1), (4, 1), (5, 1)]) (by kernel_rfl) (by kernel_rfl) (by kernel_rfl) rfl rfl rfl) ?_
   refine aL_eff rfl (x_store 0 tk68 rfl rfl rfl rfl ?_)
   refine aL_hp (by simp only [nK, nL]; rfl) ?_
   refine aL_nil (thn_n (awp_ret (thn_r ?_)))
   refine finR1 [] [] rfl Try.results41 (rv_cell 0 tk68 rfl rfl rfl) ?_ (.inr rfl)
   unfold choiceF
   cases hh : (indexF o x.choices.l.length && indexF k (elt x.choices.l o).l.length)
   · rfl
   · rw [← Bool.not_and, hh] at h1; cases h1
  ·skip
   simp [indexF] at h1
   refine awp_skip (thn_n (awp_seq (awp_region (aL_s true rfl rfl (fun _ => q_move rfl) (aL_s true rfl rfl (fun _ => q_nilCheck rfl) ?_)))))
   refine aL_s true rfl rfl (fun _ => q_fieldAddr (off := 9) (by kernel_rfl) rfl) ?_
   refine aL_s true rfl rfl (fun _ => q_loadDE (o := 9) tk28 rfl (.of (psAt 1 rfl)) rfl) (aL_s true rfl rfl (fun _ => q_move rfl) ?_)
   refine aL_E true rfl rfl (fun _ => q_indexAddrG Try.underlying28 tk69 rfl ((GLink.f_choices (.of (psAt 2 rfl)))) rfl (rows_elt (i := o) (by omega) (by omega)) (by omega) rfl) (fun h => absurd h (by decide)) (fun ⟨b3_5, o3_5⟩ => ?_)
   refine aL_s true rfl rfl (fun _ => q_loadD (o := 0) tk69 rfl (psAt 0 rfl) rfl rfl) (aL_s true rfl rfl (fun _ => q_move rfl) ?_)
   refine aL_E true rfl rfl (fun _ => q_indexAddrG Try.underlying69 tk68 rfl (((GLink.f_choicesA (.of (psAt 3 rfl))).elt (i := o) (by omega) (by omega))) rfl (rows_elt (i := k) (by omega) (by omega)) (by omega) rfl) (fun h => absurd h (by decide)) (fun ⟨b3_8, o3_8⟩ => ?_)
   refine aL_s true rfl rfl (fun _ => q_loadD (o := 0) tk68 rfl (psAt 0 rfl) rfl rfl) ?_
   refine aL_eff rfl (x_store 0 tk68 rfl rfl rfl rfl ?_)
   refine aL_hp (by simp only [nK, nL]; rfl) ?_
   refine aL_nil (thn_n (awp_ret ?_))
   refine finR1 [] [] rfl Try.results41 (rv_cell 0 tk68 rfl rfl rfl) ?_ (.inr rfl)
   rw [show choiceF x.choices.l o k = elt (elt x.choices.l o).l k from if_pos (by simpa [indexF] using h1)]
/-- what a link's numbers are like -/
structure LkOk (x : GLink) : Prop where
  len : x.first.l.length = x.objs.l.length
  bound : ∀ o s, keptF x.objs.l x.keep.l o s = true → 0 ≤ elt x.first.l o ∧ elt x.first.l o + s ≤ 1000000
theorem keptF_iff {os : List GObject} {kp : List (Sl Bool)} {o s : Int} (h : keptF os kp o s = true) : (0 ≤ o ∧ o < os.length) ∧ (0 ≤ s ∧ s < (elt os o).secs.l.length) ∧ o < kp.length ∧ s < (elt kp o).l.length := by
  simp [keptF, indexF] at h; omega
def secBad (x : GLink) (o k : Int) : Bool :=
  (!indexF k (elt x.objs.l o).syms.l.length || decide ((choiceF x.choices.l o k).kind ≠ 1) && decide ((choiceF x.choices.l o k).kind ≠ 2) || !indexF (choiceF x.choices.l o k).obj x.objs.l.length) || !indexF (choiceF x.choices.l o k).sym (elt x.objs.l (choiceF x.choices.l o k).obj).syms.l.length
def secOf (x : GLink) (o k : Int) : Int := (elt (elt x.objs.l (choiceF x.choices.l o k).obj).syms.l (choiceF x.choices.l o k).sym).sec
/-- the number of the section of the choice -/
def sectionF (x : GLink) (o k : Int) : Option Int :=
  if secBad x o k then none
  else if keptF x.objs.l x.keep.l (choiceF x.choices.l o k).obj (secOf x o k) then some (elt x.first.l (choiceF x.choices.l o k).obj + secOf x o k) else none
abbrev optV (o : Option Int) : Value := .tuple #[.int .i64 (o.getD 0), .bool o.isSome]
theorem con_section (x : GLink) (hx : LkOk x) (lb : Nat) (o k : Int) (ho : 0 ≤ o ∧ o < x.objs.l.length) : Con Try.prog 38 [.pointer (some ⟨lb, 0, none⟩), .int .i64 o, .int .i64 k] [At lb 0 x.row, x.ok] [] fun r _ _ => r = optV (sectionF x o k) := by
  refine Con.enter Try.func38 rfl (by simp [Try.ntmps38]) ?_
  show awp _ _ _ _ ⟨[(0, true, _), (1, true, _), (2, true, _)], _, _⟩
  have key : sectionF x o k = sectionF x o k := rfl
  refine awp_seq (awp_region (aL_s true rfl rfl (fun _ => q_assign rfl) (aL_s true rfl rfl (fun _ => q_assign rfl) (aL_nil (thn_n (awp_seq (awp_region ?_)))))))
  refine aL_s true rfl rfl (fun _ => q_move rfl) (aL_s true rfl rfl (fun _ => q_move rfl) (aL_s true rfl rfl (fun _ => q_move rfl) ?_))
  refine aL_s true rfl rfl (fun _ => q_call (by kernel_rfl) rfl (fun w S fp hst => (con_choice x lb o k).quiet2 (psAt 0 rfl) (psAt 1 rfl) hst)) ?_
  refine aL_eff (q := true) rfl (x_alloc (zs := [.int .i64 0, .int .i64 0, .int .i64 0, .int .i64 0, .int .i64 0, .bool false]) (by kernel_rfl) rfl (fun b1_4 => ?_))
  refine aL_hp (by (try simp only [nM, nN]); rfl) ?_
  refine aL_eff rfl (x_store 0 tk68 rfl rfl rfl rfl ?_)
  refine aL_hp (by simp only [nK, nL]; rfl) ?_
  refine aL_nil (thn_n (awp_seq (awp_seq ?_)))
  refine awp_drawn [] (by kernel_rfl) ?_
  show aB _ _ _ _ _ 49 #[false, false, false, false, false, false, false, false, false, false, false, false, false, false, false, false, false, false, false, false, false, false, false, false, false, false, false, false, false, false, false, false, false, false, false, false, false, false, false, false, false, false, false, false, false, false, false, false, false] _
  refine aB_s 0 rfl (by kernel_rfl) true rfl rfl (fun _ => q_move rfl) ?_
  refine aB_hp (by simp only [nO, nK, nL]; rfl) rfl ?_
  refine aB_s 1 rfl (by kernel_rfl) true rfl rfl (fun _ => q_move rfl) ?_
  refine aB_hp (by simp only [nO, nK, nL]; rfl) rfl ?_
  refine aB_s 2 rfl (by kernel_rfl) true rfl rfl (fun _ => q_nilCheck rfl) ?_
  refine aB_hp (by simp only [nO, nK, nL]; rfl) rfl ?_
  refine aB_s 3 rfl (by kernel_rfl) true rfl rfl (fun _ => q_fieldAddr (off := 7) (by kernel_rfl) rfl) ?_
  refine aB_hp (by simp only [nO, nK, nL]; rfl) rfl ?_
  refine aB_s 4 rfl (by kernel_rfl) true rfl rfl (fun _ => q_loadDE (o := 7) tk26 rfl (.of (psAt 0 rfl)) rfl) ?_
  refine aB_hp (by simp only [nO, nK, nL]; rfl) rfl ?_
  refine aB_s 5 rfl (by kernel_rfl) true rfl rfl (fun _ => q_move rfl) ?_
  refine aB_hp (by simp only [nO, nK, nL]; rfl) rfl ?_
  refine aB_E 6 rfl (by kernel_rfl) true rfl rfl (fun _ => q_indexAddrG Try.underlying26 tk53 rfl ((GLink.f_objs (.of (psAt 1 rfl)))) rfl (rows_elt (i := o) (by omega) (by omega)) (by omega) rfl) (fun h => absurd h (by decide)) (fun ⟨b2_6, o2_6⟩ => ?_)
  refine aB_hp (by simp only [nO, nK, nL]; rfl) rfl ?_
  refine aB_s 7 rfl (by kernel_rfl) true rfl rfl (fun _ => q_fieldAddr (off := 2) (by kernel_rfl) rfl) ?_
  refine aB_hp (by simp only [nO, nK, nL]; rfl) rfl ?_
  refine aB_s 8 rfl (by kernel_rfl) true rfl rfl (fun _ => q_loadD (o := 2) tk43 rfl (psAt 0 rfl) rfl rfl) ?_
  refine aB_hp (by simp only [nO, nK, nL]; rfl) rfl ?_
  refine aB_s 9 rfl (by kernel_rfl) true rfl rfl (fun _ => q_lenS Try.underlying43 rfl) ?_
  refine aB_hp (by simp only [nO, nK, nL]; rfl) rfl ?_
  refine aB_s 10 rfl (by kernel_rfl) true rfl rfl (fun _ => q_call (by kernel_rfl) rfl (fun w S fp hst => (con_index _ _).quiet0 hst)) ?_
  refine aB_hp (by simp only [nO, nK, nL]; rfl) rfl ?_
  refine aB_s 11 rfl (by kernel_rfl) true rfl rfl (fun _ => q_not rfl) ?_
  refine aB_hp (by simp only [nO, nK, nL]; rfl) rfl ?_
  refine aB_s 12 rfl (by kernel_rfl) true rfl rfl (fun _ => q_move rfl) ?_
  refine aB_hp (by simp only [nO, nK, nL]; rfl) rfl ?_
  refine aB_s 13 rfl (by kernel_rfl) _ rfl rfl (fun hc => q_fieldAddr (off := 0) (by kernel_rfl) rfl) ?_
  refine aB_hp (by simp only [nO, nK, nL]; rfl) rfl ?_
  refine aB_s 14 rfl (by kernel_rfl) _ rfl rfl (fun hc => q_load 0 tk3 (ev_yes rfl hc) rfl rfl) ?_
  refine aB_hp (by simp only [nO, nK, nL]; rfl) rfl ?_
  refine aB_s 15 rfl (by kernel_rfl) _ rfl rfl (fun hc => q_neq (ev_yes rfl hc) rfl) ?_
  refine aB_hp (by simp only [nO, nK, nL]; rfl) rfl ?_
  refine aB_s 16 rfl (by kernel_rfl) _ rfl rfl (fun hc => q_move (ev_yes rfl hc)) ?_
  refine aB_hp (by simp only [nO, nK, nL]; rfl) rfl ?_
  refine aB_s 17 rfl (by kernel_rfl) _ rfl rfl (fun hc => q_fieldAddr (off := 0) (by kernel_rfl) rfl) ?_
  refine aB_hp (by simp only [nO, nK, nL]; rfl) rfl ?_
  refine aB_s 18 rfl (by kernel_rfl) _ rfl rfl (fun hc => q_load 0 tk3 (ev_yes rfl hc) rfl rfl) ?_
  refine aB_hp (by simp only [nO, nK, nL]; rfl) rfl ?_
  refine aB_s 19 rfl (by kernel_rfl) _ rfl rfl (fun hc => q_neq (ev_yes rfl hc) rfl) ?_
  refine aB_hp (by simp only [nO, nK, nL]; rfl) rfl ?_
  refine aB_s 20 rfl (by kernel_rfl) _ rfl rfl (fun hc => q_and (ev_yes rfl hc) rfl (fun h => gt hc h)) ?_
  refine aB_hp (by simp only [nO, nK, nL]; rfl) rfl ?_
  refine aB_s 21 rfl (by kernel_rfl) true rfl rfl (fun _ => q_or rfl rfl (fun h => gf rfl h)) ?_
  refine aB_hp (by simp only [nO, nK, nL]; rfl) rfl ?_
  refine aB_s 22 rfl (by kernel_rfl) true rfl rfl (fun _ => q_move rfl) ?_
  refine aB_hp (by simp only [nO, nK, nL]; rfl) rfl ?_
  refine aB_s 23 rfl (by kernel_rfl) _ rfl rfl (fun hc => q_fieldAddr (off := 1) (by kernel_rfl) rfl) ?_
  refine aB_hp (by simp only [nO, nK, nL]; rfl) rfl ?_
  refine aB_s 24 rfl (by kernel_rfl) _ rfl rfl (fun hc => q_load 0 tk3 (ev_yes rfl hc) rfl rfl) ?_
  refine aB_hp (by simp only [nO, nK, nL]; rfl) rfl ?_
  refine aB_s 25 rfl (by kernel_rfl) _ rfl rfl (fun hc => q_move rfl) ?_
  refine aB_hp (by simp only [nO, nK, nL]; rfl) rfl ?_
  refine aB_s 26 rfl (by kernel_rfl) _ rfl rfl (fun hc => q_nilCheck (ev_yes rfl hc)) ?_
  refine aB_hp (by simp only [nO, nK, nL]; rfl) rfl ?_
  refine aB_s 27 rfl (by kernel_rfl) _ rfl rfl (fun hc => q_fieldAddr (off := 7) (by kernel_rfl) (ev_yes rfl hc)) ?_
  refine aB_hp (by simp only [nO, nK, nL]; rfl) rfl ?_
  refine aB_s 28 rfl (by kernel_rfl) _ rfl rfl (fun hc => q_loadDE (o := 7) tk26 (ev_yes rfl hc) (.of (psAt 1 rfl)) rfl) ?_
  refine aB_hp (by simp only [nO, nK, nL]; rfl) rfl ?_
  refine aB_s 29 rfl (by kernel_rfl) _ rfl rfl (fun hc => q_lenS Try.underlying26 (ev_yes rfl hc)) ?_
  refine aB_hp (by simp only [nO, nK, nL]; rfl) rfl ?_
  refine aB_s 30 rfl (by kernel_rfl) _ rfl rfl (fun hc => q_call (by kernel_rfl) (evs_cons (ev_yes rfl hc) (evs_cons (ev_yes rfl hc) rfl)) (fun w S fp hst => (con_index _ _).quiet0 hst)) ?_
  refine aB_hp (by simp only [nO, nK, nL]; rfl) rfl ?_
  refine aB_s 31 rfl (by kernel_rfl) _ rfl rfl (fun hc => q_not (ev_yes rfl hc)) ?_
  refine aB_hp (by simp only [nO, nK, nL]; rfl) rfl ?_
  refine aB_s 32 rfl (by kernel_rfl) true rfl rfl (fun _ => q_or rfl rfl (fun h => gf rfl h)) ?_
  refine aB_hp (by simp only [nO, nK, nL]; rfl) rfl ?_
  refine aB_s 33 rfl (by kernel_rfl) true rfl rfl (fun _ => q_move rfl) ?_
  refine aB_hp (by simp only [nO, nK, nL]; rfl) rfl ?_
  refine aB_s 34 rfl (by kernel_rfl) _ rfl rfl (fun hc => q_fieldAddr (off := 2) (by kernel_rfl) rfl) ?_
  refine aB_hp (by simp only [nO, nK, nL]; rfl) rfl ?_
  refine aB_s 35 rfl (by kernel_rfl) _ rfl rfl (fun hc => q_load 0 tk3 (ev_yes rfl hc) rfl rfl) ?_
  refine aB_hp (by simp only [nO, nK, nL]; rfl) rfl ?_
  refine aB_s 36 rfl (by kernel_rfl) _ rfl rfl (fun hc => q_move rfl) ?_
  refine aB_hp (by simp only [nO, nK, nL]; rfl) rfl ?_
  refine aB_s 37 rfl (by kernel_rfl) _ rfl rfl (fun hc => q_nilCheck (ev_yes rfl hc)) ?_
  refine aB_hp (by simp only [nO, nK, nL]; rfl) rfl ?_
  refine aB_s 38 rfl (by kernel_rfl) _ rfl rfl (fun hc => q_fieldAddr (off := 7) (by kernel_rfl) (ev_yes rfl hc)) ?_
  refine aB_hp (by simp only [nO, nK, nL]; rfl) rfl ?_
  refine aB_s 39 rfl (by kernel_rfl) _ rfl rfl (fun hc => q_loadDE (o := 7) tk26 (ev_yes rfl hc) (.of (psAt 1 rfl)) rfl) ?_
  refine aB_hp (by simp only [nO, nK, nL]; rfl) rfl ?_
  refine aB_s 40 rfl (by kernel_rfl) _ rfl rfl (fun hc => q_fieldAddr (off := 1) (by kernel_rfl) rfl) ?_
  refine aB_hp (by simp only [nO, nK, nL]; rfl) rfl ?_
  refine aB_s 41 rfl (by kernel_rfl) _ rfl rfl (fun hc => q_load 0 tk3 (ev_yes rfl hc) rfl rfl) ?_
  refine aB_hp (by simp only [nO, nK, nL]; rfl) rfl ?_
  refine aB_E 42 rfl (by kernel_rfl) _ rfl rfl (fun hc => q_indexAddrG Try.underlying26 tk53 (ev_yes rfl hc) ((GLink.f_objs (.of (psAt 2 rfl)))) (ev_yes rfl hc) (rows_elt (i := (choiceF x.choices.l o k).obj) (by simp [indexF] at hc; omega) (by simp [indexF] at hc; omega)) (by simp [indexF] at hc; omega) rfl) (fun _ => ⟨(0, 0)⟩) (fun ⟨b2_42, o2_42⟩ => ?_)
  refine aB_hp (by simp only [nO, nK, nL]; rfl) rfl ?_
  refine aB_s 43 rfl (by kernel_rfl) _ rfl rfl (fun hc => q_fieldAddr (off := 2) (by kernel_rfl) (ev_yes rfl hc)) ?_
  refine aB_hp (by simp only [nO, nK, nL]; rfl) rfl ?_
  refine aB_s 44 rfl (by kernel_rfl) _ rfl rfl (fun hc => q_loadD (o := 2) tk43 (ev_yes rfl hc) (psAt 0 rfl) hc rfl) ?_
  refine aB_hp (by simp only [nO, nK, nL]; rfl) rfl ?_
  refine aB_s 45 rfl (by kernel_rfl) _ rfl rfl (fun hc => q_lenS Try.underlying43 (ev_yes rfl hc)) ?_
  refine aB_hp (by simp only [nO, nK, nL]; rfl) rfl ?_
  refine aB_s 46 rfl (by kernel_rfl) _ rfl rfl (fun hc => q_call (by kernel_rfl) (evs_cons (ev_yes rfl hc) (evs_cons (ev_yes rfl hc) rfl)) (fun w S fp hst => (con_index _ _).quiet0 hst)) ?_
  refine aB_hp (by simp only [nO, nK, nL]; rfl) rfl ?_
  refine aB_s 47 rfl (by kernel_rfl) _ rfl rfl (fun hc => q_not (ev_yes rfl hc)) ?_
  refine aB_hp (by simp only [nO, nK, nL]; rfl) rfl ?_
  refine aB_s 48 rfl (by kernel_rfl) true rfl rfl (fun _ => q_or rfl rfl (fun h => gf rfl h)) ?_
  refine aB_hp (by simp only [nO, nK, nL]; rfl) rfl ?_
  refine aB_nil (by kernel_rfl) ?_
  refine thn_n ?_
  refine awp_cond _ rfl (fun h1 => ?_) (fun h1 => ?_)
  ·skip
   refine awp_seq (awp_region (aL_s true rfl rfl (fun _ => q_assign rfl) (aL_s true rfl rfl (fun _ => q_assign rfl) (aL_nil (thn_n (awp_ret (thn_r ?_)))))))
   refine fin2 [] [] rfl Try.results38 rfl rfl ?_ (.inr rfl)
   have hb : secBad x o k = true := by simpa [secBad] using h1
   rw [show sectionF x o k = none from if_pos hb]; rfl
  ·skip
   have hbad : secBad x o k = false := by simpa [secBad] using h1
   simp [indexF] at h1
   refine awp_skip (thn_n (awp_seq ?_))
   refine awp_drawnC [18] [18] [b1_4] (by kernel_rfl) ?_
   show aC _ _ _ _ _ _ _ 19 #[false, false, false, false, false, false, false, false, false, false, false, false, false, false, false, false, false, false, false] _
   refine aC_f 0 rfl (by kernel_rfl) true rfl rfl (fun _ => q_fieldAddr (off := 1) (by kernel_rfl) rfl) ?_
   refine aC_box 1 0 rfl (by kernel_rfl) true rfl rfl (by simp) tk3 (fun _ => rfl) rfl rfl ?_
   refine aC_f 2 rfl (by kernel_rfl) true rfl rfl (fun _ => q_move rfl) ?_
   refine aC_f 3 rfl (by kernel_rfl) true rfl rfl (fun _ => q_nilCheck rfl) ?_
   refine aC_f 4 rfl (by kernel_rfl) true rfl rfl (fun _ => q_fieldAddr (off := 7) (by kernel_rfl) rfl) ?_
   refine aC_f 5 rfl (by kernel_rfl) true rfl rfl (fun _ => q_loadDE (o := 7) tk26 rfl (.of (psAt 2 rfl)) rfl) ?_
   refine aC_f 6 rfl (by kernel_rfl) true rfl rfl (fun _ => q_fieldAddr (off := 1) (by kernel_rfl) rfl) ?_
   refine aC_box 7 0 rfl (by kernel_rfl) true rfl rfl (by simp) tk3 (fun _ => rfl) rfl rfl ?_
   refine aC_R1 8 rfl (by kernel_rfl) rfl rfl (q_indexAddrGR Try.underlying26 tk53 rfl ((GLink.f_objs (.of (psAt 3 rfl)))) rfl (rows_elt (i := (choiceF x.choices.l o k).obj) (by omega) (by omega)) (by omega) rfl) (fun ⟨b4_8, o4_8⟩ => ?_)
   refine aC_f 9 rfl (by kernel_rfl) true rfl rfl (fun _ => q_fieldAddr (off := 2) (by kernel_rfl) rfl) ?_
   refine aC_f 10 rfl (by kernel_rfl) true rfl rfl (fun _ => q_loadDE (o := 2) tk43 rfl (.of (psAt 0 rfl)) rfl) ?_
   refine aC_f 11 rfl (by kernel_rfl) true rfl rfl (fun _ => q_fieldAddr (off := 2) (by kernel_rfl) rfl) ?_
   refine aC_box 12 0 rfl (by kernel_rfl) true rfl rfl (by simp) tk3 (fun _ => rfl) rfl rfl ?_
   refine aC_R1 13 rfl (by kernel_rfl) rfl rfl (q_indexAddrGR Try.underlying43 tk88 rfl ((GObject.f_syms ((GLink.f_objsA (.of (psAt 4 rfl))).elt (i := (choiceF x.choices.l o k).obj) (by omega) (by omega)))) rfl (rows_elt (i := (choiceF x.choices.l o k).sym) (by omega) (by omega)) (by omega) rfl) (fun ⟨b4_13, o4_13⟩ => ?_)
   refine aC_f 14 rfl (by kernel_rfl) true rfl rfl (fun _ => q_fieldAddr (off := 6) (by kernel_rfl) rfl) ?_
   refine aC_f 15 rfl (by kernel_rfl) true rfl rfl (fun _ => q_loadDE (o := 6) tk3 rfl (.of (psAt 0 rfl)) rfl) ?_
   refine aC_f 16 rfl (by kernel_rfl) true rfl rfl (fun _ => q_bld (l := [(0, .tmp 64), (1, .tmp 78)]) (zs := [.int .i64 0, .int .i64 0]) (pl := [(0, 1), (1, 1)]) (by kernel_rfl) (by kernel_rfl) (by kernel_rfl) rfl rfl rfl) ?_
   refine aC_arms 17 [] (by kernel_rfl) (arms_cons ?_ arms_nil)
   refine aC_arm 17 rfl rfl (Eff.x ?_)
   refine id (x_alloc (zs := [.int .i64 0, .int .i64 0]) (by kernel_rfl) rfl (fun b4_17 => ?_))
   refine aC_st (by (try simp only [nO, nK, nL]); rfl) (by (try simp only [nM, nN]); rfl) (by (try simp only [keepH, nQ, nR, putB, place, Nat.reduceBEq, nA, if_true, if_false, reduceIte, nB, nC, nD, nE, nF, nG, nH, nI, Nat.reduceAdd, nJ, beq_self_eq_true, nK, nL, nM, nN]); rfl) ?_
   refine aC_arms 18 [] (by kernel_rfl) (arms_cons ?_ arms_nil)
   refine aC_arm 18 rfl rfl (Eff.wild (q := false) ?_)
   refine id (x_store 1 tk36 rfl rfl rfl rfl ?_)
   refine aC_st (by (try simp only [nO, nK, nL]); rfl) (by (try simp only [nM, nN]); rfl) (by (try simp only [keepH, nQ, nR, putB, place, Nat.reduceBEq, nA, if_true, if_false, reduceIte, nB, nC, nD, nE, nF, nG, nH, nI, Nat.reduceAdd, nJ, beq_self_eq_true, nK, nL, nM, nN]); rfl) ?_
   refine aC_nil (by kernel_rfl) ?_
   refine thn_n (awp_seq (awp_seq (awp_region (aL_s true rfl rfl (fun _ => q_move rfl) (aL_s true rfl rfl (fun _ => q_load 1 tk36 rfl rfl rfl) ?_)))))
   refine aL_s true rfl rfl (fun _ => q_call (by kernel_rfl) rfl (fun w S fp hst => (con_kept x lb _ _).quiet2 (psAt 4 rfl) (psAt 5 rfl) hst)) ?_
   refine aL_s true rfl rfl (fun _ => q_not rfl) (aL_nil (thn_n ?_))
   refine awp_cond _ rfl (fun h2 => ?_) (fun h2 => ?_)
   ·skip
    refine awp_seq (awp_region (aL_s true rfl rfl (fun _ => q_assign rfl) (aL_s true rfl rfl (fun _ => q_assign rfl) (aL_nil (thn_n (awp_ret (thn_r ?_)))))))
    refine fin2 [] [] rfl Try.results38 rfl rfl ?_ (.inr rfl)
    have hk : keptF x.objs.l x.keep.l (choiceF x.choices.l o k).obj (secOf x o k) = false := by simpa [secOf] using h2
    rw [show sectionF x o k = none by simp [sectionF, hbad, hk]]; rfl
   ·skip
    have hk : keptF x.objs.l x.keep.l (choiceF x.choices.l o k).obj (secOf x o k) = true := by simpa [secOf] using h2
    have hkk := keptF_iff hk
    have hb := hx.bound _ _ hk
    have hl := hx.len
    refine awp_skip (thn_n (awp_seq ?_))
    refine awp_drawn [] (by kernel_rfl) ?_
    show aB _ _ _ _ _ 13 #[false, false, false, false, false, false, false, false, false, false, false, false, false] _
    refine aB_s 0 rfl (by kernel_rfl) true rfl rfl (fun _ => q_move rfl) ?_
    refine aB_hp (by simp only [nO, nK, nL]; rfl) rfl ?_
    refine aB_s 1 rfl (by kernel_rfl) true rfl rfl (fun _ => q_nilCheck rfl) ?_
    refine aB_hp (by simp only [nO, nK, nL]; rfl) rfl ?_
    refine aB_s 2 rfl (by kernel_rfl) true rfl rfl (fun _ => q_fieldAddr (off := 10) (by kernel_rfl) rfl) ?_
    refine aB_hp (by simp only [nO, nK, nL]; rfl) rfl ?_
    refine aB_s 3 rfl (by kernel_rfl) true rfl rfl (fun _ => q_loadDE (o := 10) tk37 rfl (.of (psAt 4 rfl)) rfl) ?_
    refine aB_hp (by simp only [nO, nK, nL]; rfl) rfl ?_
    refine aB_s 4 rfl (by kernel_rfl) true rfl rfl (fun _ => q_fieldAddr (off := 0) (by kernel_rfl) rfl) ?_
    refine aB_hp (by simp only [nO, nK, nL]; rfl) rfl ?_
    refine aB_s 5 rfl (by kernel_rfl) true rfl rfl (fun _ => q_load 1 tk3 rfl rfl rfl) ?_
    refine aB_hp (by simp only [nO, nK, nL]; rfl) rfl ?_
    refine aB_E 6 rfl (by kernel_rfl) true rfl rfl (fun _ => q_indexAddrG Try.underlying37 tk3 rfl ((GLink.f_first (.of (psAt 5 rfl)))) rfl (rows_elt (i := (choiceF x.choices.l o k).obj) (by omega) (by omega)) (by omega) rfl) (fun h => absurd h (by decide)) (fun ⟨b7_6, o7_6⟩ => ?_)
    refine aB_hp (by simp only [nO, nK, nL]; rfl) rfl ?_
    refine aB_s 7 rfl (by kernel_rfl) true rfl rfl (fun _ => q_loadD (o := 0) tk3 rfl (psAt 0 rfl) rfl rfl) ?_
    refine aB_hp (by simp only [nO, nK, nL]; rfl) rfl ?_
    refine aB_s 8 rfl (by kernel_rfl) true rfl rfl (fun _ => q_fieldAddr (off := 1) (by kernel_rfl) rfl) ?_
    refine aB_hp (by simp only [nO, nK, nL]; rfl) rfl ?_
    refine aB_s 9 rfl (by kernel_rfl) true rfl rfl (fun _ => q_load 1 tk3 rfl rfl rfl) ?_
    refine aB_hp (by simp only [nO, nK, nL]; rfl) rfl ?_
    refine aB_s 10 rfl (by kernel_rfl) true rfl rfl (fun _ => q_addi rfl rfl (by (unfold secOf at hb hkk; omega))) ?_
    refine aB_hp (by simp only [nO, nK, nL]; rfl) rfl ?_
    refine aB_s 11 rfl (by kernel_rfl) true rfl rfl (fun _ => q_assign rfl) ?_
    refine aB_hp (by simp only [nO, nK, nL]; rfl) rfl ?_
    refine aB_s 12 rfl (by kernel_rfl) true rfl rfl (fun _ => q_assign rfl) ?_
    refine aB_hp (by simp only [nO, nK, nL]; rfl) rfl ?_
    refine aB_nil (by kernel_rfl) ?_
    refine thn_n (awp_ret ?_)
    refine fin2 [] [] rfl Try.results38 rfl rfl ?_ (.inr rfl)
    rw [show sectionF x o k = some (elt x.first.l (choiceF x.choices.l o k).obj + secOf x o k) by simp [sectionF, hbad, hk]]; rfl
end Go.Proofs.Ytnbochlghdkfkaa
