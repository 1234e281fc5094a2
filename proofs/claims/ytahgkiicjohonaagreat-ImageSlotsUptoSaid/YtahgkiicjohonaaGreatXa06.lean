/- Parts of the proof, in build order. No condition. -/
import Derived.Test.YtahgkiicjohonaaGreatXa04
import Derived.Sort.Grow
import Derived.Test.YtahgkiicjohonaaGreatXa05
set_option linter.unusedSimpArgs false
set_option linter.unusedVariables false
set_option maxHeartbeats 1000000
set_option maxRecDepth 20000
namespace Go.Sy
open Go.RowKit Go.Lp Go.Sort
section
variable {α : Type} [Inhabited α]
def cB (enc : α → Value) (l : List α) : List (List D) := l.map fun x => [.v (enc x)]
omit [Inhabited α] in
theorem dv (enc : α → Value) (l : List α) : (cB enc l).length = l.length := by simp [cB]
theorem lH (enc : α → Value) (l : List α) : ∀ (cs sp : List Value), cs.length = l.length → putCells enc 0 l.toArray (cs ++ sp).toArray = (l.map enc ++ sp).toArray := by
 intro cs sp h
 apply Array.ext_getElem?
 intro k
 unfold putCells
 rw [Array.getElem?_mapIdx]
 simp only [List.getElem?_toArray, List.size_toArray, Nat.zero_le, true_and, Nat.zero_add, Nat.sub_zero]
 by_cases hk : k < l.length
 · rw [List.getElem?_append_left (by omega), List.getElem?_append_left (by simpa using hk), List.getElem?_map, List.getElem?_eq_getElem (by omega), List.getElem?_eq_getElem hk, Option.map_some, Option.map_some, if_pos hk]
   congr 2
   simp [hk]
 · rw [List.getElem?_append_right (by omega), List.getElem?_append_right (by simpa using hk)]
   rw [h, List.length_map]
   cases sp[k - l.length]? with
   | none => rfl
   | some x => simp [hk]
theorem xO {enc : α → Value} {w : World} {S F : bH} {v : Value} {T : TypeId} {zs : List α} (h : (aN v T 1 (cB enc zs)).holds w S F) :
   (v = .slice none 0 0 ∧ zs = []) ∨ ∃ b cap sp, v = .slice (some ⟨b, 0, none⟩) zs.length cap ∧ w.heap[b]? = some (.cells (zs.map enc ++ sp).toArray T (0, 0)) ∧ zs.length + sp.length = cap ∧ cap ≤ maxLen ∧ (∀ k, F k ↔ k = b) ∧ Holds enc w b 0 zs.toArray := by
 rcases h with ⟨h1, h2, _⟩ | ⟨b, cap, hv, ⟨cs, sp, hb, hr, hl, hle, hc⟩, hF⟩
 · left; exact ⟨h1, by unfold cB at h2; simpa using h2⟩
 · right
   have hlen := hr.len
   rw [dv, Nat.mul_one] at hlen
   have hcs : cs = zs.map enc := by
     apply List.ext_getElem?
     intro k
     by_cases hk : k < zs.length
     · obtain ⟨u, hu, hrep⟩ := hr.rep k 0 [.v (enc zs[k])] (.v (enc zs[k])) (by simp [cB, hk]) rfl
       rw [Nat.mul_one, Nat.add_zero] at hu
       cases hrep
       rw [hu, List.getElem?_map, List.getElem?_eq_getElem hk]; rfl
     · rw [List.getElem?_eq_none (by omega), List.getElem?_eq_none (by simpa using hk)]
   subst hcs
   refine ⟨b, cap, sp, by rw [hv, dv], hb, by simpa using hl, hc, hF, fun j hj => ?_⟩
   have hj' : j < zs.length := by simpa using hj
   refine ⟨?_, ?_⟩
   · rw [Nat.zero_add, dQ hb, List.getElem?_append_left (by simpa using hj'), List.getElem?_map, List.getElem?_eq_getElem hj', Option.map_some]
     congr 2
     simp [hj']
   · unfold World.frozen?
     rw [hb]
     simp
theorem l0 {P : Program} {f : FuncId} {enc : α → Value} (henc : ∀ x, (enc x).oneCell' = true) {T : TypeId} {v : Value} {zs zs1 rest : List α} (hlen : zs1.length + rest.length = zs.length)
   {R : Value → List Per → List Res → Prop} (hnil : v = .slice none 0 0 → zs = [] → ∀ w, Calls P f #[v] w fun e w' => ∃ r, e = .returned r ∧ w' = w ∧ R r [] [aN v T 1 (cB enc [])])
   (h : ∀ (b cap : Nat) (w : World), v = .slice (some ⟨b, 0, none⟩) zs.length cap → b < w.heap.size → zs.length ≤ cap → cap ≤ maxLen → Holds enc w b 0 zs.toArray →
     Calls P f #[.slice (some ⟨b, 0, none⟩) zs.length cap] w fun e w' => (∃ r, e = .returned r ∧ R r [] [aN (.slice (some ⟨b, 0, none⟩) zs1.length cap) T 1 (cB enc zs1)]) ∧ ∃ n os, w' = grow (putRow enc (Sort.ahead w n) b 0 (zs1 ++ rest).toArray) os) :
   Con P f [v] [] [aN v T 1 (cB enc zs)] R := fun w S fp hst => by
 have hr := hst.res 0 _ rfl
 rcases xO hr with ⟨h1, h2⟩ | ⟨b, cap, sp, hv, hb, hl, hc, hF, hH⟩
 · refine (hnil h1 h2 w).mono fun e w' ⟨r, he, hw, hR⟩ => ?_
   subst hw
   subst h2
   exact ⟨r, _, _, S, fp, he, hR, ⟨(fun p hp => by cases hp), hst.res, hst.lt, hst.dj, hst.slt⟩, Evo.refl _ _ _, fun b hb => .inl hb⟩
 · have hbl := lt_of_heap hb
   have hcall := h b cap w hv hbl (by omega) hc hH
   rw [← hv] at hcall
   refine hcall.mono fun e w' ⟨⟨r, he, hR⟩, n, os, hw⟩ => ?_
   have hb' : w'.heap[b]? = some (.cells (zs1.map enc ++ (rest.map enc ++ sp)).toArray T (0, 0)) := by
     rw [hw]
     show ((w.heap.modify b (onCells (putCells enc 0 (zs1 ++ rest).toArray))) ++ os)[b]? = _
     rw [Array.getElem?_append_left (by simpa using hbl), Array.getElem?_modify, if_pos rfl, hb, Option.map_some]
     show some (Obj.cells (putCells enc 0 (zs1 ++ rest).toArray (zs.map enc ++ sp).toArray) T (0, 0)) = _
     rw [lH enc (zs1 ++ rest) (zs.map enc) sp (by simp; omega), List.map_append, List.append_assoc]
   have hoth : ∀ k, k < w.heap.size → k ≠ b → w'.heap[k]? = w.heap[k]? := fun k hk hne => by
     rw [hw]
     show ((w.heap.modify b (onCells (putCells enc 0 (zs1 ++ rest).toArray))) ++ os)[k]? = _
     rw [Array.getElem?_append_left (by simpa using hk), Array.getElem?_modify, if_neg (Ne.symm hne)]
   have hsz : w.heap.size ≤ w'.heap.size := by
     rw [hw]
     show _ ≤ ((w.heap.modify b (onCells (putCells enc 0 (zs1 ++ rest).toArray))) ++ os).size
     simp
   have hfb : fp 0 b := (hF b).2 rfl
   have hnS : ¬ S b := (hst.lt 0 (by simp) b hfb).2
   refine ⟨r, _, _, S, fp, he, hR, ⟨(fun p hp => by cases hp), fun i R' hi => ?_, fun i hi k hk => ?_, hst.dj, fun k hk => Nat.lt_of_lt_of_le (hst.slt k hk) hsz⟩, ⟨by rw [hw]; rfl, by rw [hw]; rfl, by rw [hw]; rfl, hsz, by rw [hw]; exact Nat.le_add_right _ _, fun k hk hx => hoth k hk fun e => hx ⟨0, by simp, e ▸ hfb⟩, fun _ h => h, fun _ h => .inl h⟩, fun k hk => .inl hk⟩
   · cases i with
     | succ i => simp at hi
     | zero =>
       simp only [List.getElem?_cons_zero, Option.some.injEq] at hi
       subst hi
       refine .inr ⟨b, cap, by rw [dv], ⟨zs1.map enc, rest.map enc ++ sp, hb', ⟨by simp [cB], fun i r hi => ?_, fun u hu => ?_, fun i j r d h1 h2 => ?_⟩, by simp; omega, by rw [dv]; omega, hc⟩, hF⟩
       · simp only [cB, List.getElem?_map, Option.map_eq_some_iff] at hi
         obtain ⟨x, _, rfl⟩ := hi; rfl
       · obtain ⟨x, _, rfl⟩ := List.mem_map.1 hu; exact henc x
       · simp only [cB, List.getElem?_map, Option.map_eq_some_iff] at h1
         obtain ⟨x, hx, rfl⟩ := h1
         cases j with
         | zero =>
           simp only [List.getElem?_cons_zero, Option.some.injEq] at h2
           subst h2
           exact ⟨enc x, by simp [hx], .v _⟩
         | succ j => simp at h2
   · exact ⟨Nat.lt_of_lt_of_le (hst.lt i hi k hk).1 hsz, (hst.lt i hi k hk).2⟩
end
end Go.Sy

namespace Go.Sy
open Go.RowKit Go.Lp
theorem St.split {w : World} {S : bH} {fp : Nat → bH} {ps : List Per} {hp : List Res} (h : St w S fp ps hp) {i : Nat} {R R' : Res} (hi : hp[i]? = some (fX R R')) :
   ∃ fp', St w S fp' ps (hp.set i R ++ [R']) ∧ ∀ b, tot fp' (hp.set i R ++ [R']).length b → tot fp hp.length b := by
 obtain ⟨G, H, h1, h2, h3, h4⟩ := h.res i _ hi
 have hil := (List.getElem?_eq_some_iff.1 hi).1
 have hG : ∀ b, G b → fp i b := fun b hb => (h4 b).2 (.inl hb)
 have hH : ∀ b, H b → fp i b := fun b hb => (h4 b).2 (.inr hb)
 have hlen : (hp.set i R ++ [R']).length = hp.length + 1 := by simp
 refine ⟨fun k => if k = i then G else if k = hp.length then H else fp k, ⟨h.per, fun k T hk => ?_, fun k hk b hb => ?_, fun k l hk hl hkl b hb hb' => ?_, h.slt⟩, fun b ⟨k, hk, hb⟩ => ?_⟩
 · by_cases hkl : k = hp.length
   · subst hkl
     rw [List.getElem?_append_right (by simp)] at hk
     simp at hk
     subst hk
     rw [if_neg (by omega), if_pos rfl]; exact h2
   · have hkl' : k < hp.length := by have := (List.getElem?_eq_some_iff.1 hk).1; rw [hlen] at this; omega
     rw [List.getElem?_append_left (by simpa using hkl')] at hk
     by_cases hki : k = i
     · subst hki
       rw [List.getElem?_set_self hil] at hk
       simp only [Option.some.injEq] at hk
       subst hk
       rw [if_pos rfl]; exact h1
     · rw [List.getElem?_set_ne (Ne.symm hki)] at hk
       rw [if_neg hki, if_neg hkl]; exact h.res k T hk
 · rw [hlen] at hk
   try dsimp only at hb
   split at hb
   · exact h.lt i hil b (hG b hb)
   · split at hb
     · exact h.lt i hil b (hH b hb)
     · exact h.lt k (by omega) b hb
 · rw [hlen] at hk hl
   try dsimp only at hb hb'
   split at hb
   · subst k
     rw [if_neg (Ne.symm hkl)] at hb'
     split at hb'
     · exact h3 b hb hb'
     · exact h.dj i l hil (by omega) hkl b (hG b hb) hb'
   · rename_i hki
     split at hb
     · subst k
       split at hb'
       · exact h3 b hb' hb
       · rw [if_neg (Ne.symm hkl)] at hb'
         exact h.dj i l hil (by omega) (by omega) b (hH b hb) hb'
     · rename_i hkn
       split at hb'
       · exact h.dj k i (by omega) hil hki b hb (hG b hb')
       · split at hb'
         · exact h.dj k i (by omega) hil hki b hb (hH b hb')
         · exact h.dj k l (by omega) (by omega) hkl b hb hb'
 · rw [hlen] at hk
   try dsimp only at hb
   split at hb
   · exact ⟨i, hil, hG b hb⟩
   · split at hb
     · exact ⟨i, hil, hH b hb⟩
     · exact ⟨k, by omega, hb⟩
section
variable {P : Program} {n : Fr} {env : Env} {ps : List Per} {hp : List Res} {c : Code} {Q : Exit → Sta → Prop}
theorem rG (i : Nat) {R R' : Res} (hi : hp[i]? = some (fX R R')) (h : awp P n c Q ⟨env, ps, hp.set i R ++ [R']⟩) : awp P n c Q ⟨env, ps, hp⟩ := sF (fun _ _ _ hst => hst.split hi) h
end
section
variable {P : Program} {n : Fr} {env : Env} {ps : List Per} {hp : List Res} {c : Code} {Q : Exit → Sta → Prop}
theorem iG (i : Nat) {R : Res} (R' : Res) (hi : hp[i]? = some R) (hc : ∀ w S F, R.holds w S F → R'.holds w S F) (h : awp P n c Q ⟨env, ps, hp.set i R'⟩) : awp P n c Q ⟨env, ps, hp⟩ := fun w S fp a hst he hn hd => by
 have hil := (List.getElem?_eq_some_iff.1 hi).1
 have := h w S fp a (hst.change hil (Nat.le_refl _) (fun _ _ _ => rfl) R' (hc _ _ _ (hst.res i R hi))) he hn hd
 rwa [show ({ env := env, ps := ps, hp := hp.set i R' } : Sta).hp.length = hp.length by simp] at this
theorem lB {β : Type} (i : Nat) {R : Res} (R' : β → Res) (hi : hp[i]? = some R) (hc : ∀ w S F, R.holds w S F → ∃ x, (R' x).holds w S F) (h : ∀ x, awp P n c Q ⟨env, ps, hp.set i (R' x)⟩) : awp P n c Q ⟨env, ps, hp⟩ := fun w S fp a hst he hn hd => by
 have hil := (List.getElem?_eq_some_iff.1 hi).1
 obtain ⟨x, hx⟩ := hc _ _ _ (hst.res i R hi)
 have := h x w S fp a (hst.change hil (Nat.le_refl _) (fun _ _ _ => rfl) (R' x) hx) he hn hd
 rwa [show ({ env := env, ps := ps, hp := hp.set i (R' x) } : Sta).hp.length = hp.length by simp] at this
end
section
variable {w : World} {S F : bH} {A B C R : Res}
theorem rY (h : (fX A (fX B C)).holds w S F) : (fX B (fX A C)).holds w S F := by
 obtain ⟨G, H, a, ⟨G2, H2, b, c, d2, e2⟩, d, e⟩ := h
 refine ⟨G2, fun x => G x ∨ H2 x, b, ⟨G, H2, a, c, fun x g h2 => d x g ((e2 x).2 (.inr h2)), fun x => Iff.rfl⟩, fun x g2 h => h.elim (fun g => d x g ((e2 x).2 (.inl g2))) (fun h2 => d2 x g2 h2), fun x => ?_⟩
 rw [e x, e2 x]
 constructor
 · rintro (h | h | h)
   · exact .inr (.inl h)
   · exact .inl h
   · exact .inr (.inr h)
 · rintro (h | h | h)
   · exact .inr (.inl h)
   · exact .inl h
   · exact .inr (.inr h)
theorem gC (h : (fX A B).holds w S F) (hB : ∀ F, B.holds w S F → C.holds w S F) : (fX A C).holds w S F := by
 obtain ⟨G, H, a, b, d, e⟩ := h
 exact ⟨G, H, a, hB H b, d, e⟩
theorem aaW (h : A.holds w S F) : (fX emp A).holds w S F := ⟨fun _ => False, F, fun b h => h, h, fun b h => h.elim, fun b => ⟨.inr, fun h => h.elim False.elim id⟩⟩
theorem aaU (h : (fX emp A).holds w S F) : A.holds w S F := by
 obtain ⟨G, H, a, b, d, e⟩ := h
 have : F = H := funext fun x => propext ((e x).trans ⟨fun h => h.elim (fun g => absurd g (a x)) id, .inr⟩)
 rw [this]; exact b
def fg : List Res → Res
 | [] => emp
 | A :: L => fX A (fg L)
theorem lK : ∀ (L : List Res) (k : Nat) (F : bH), L[k]? = some R → (fg L).holds w S F → (fX R (fg (L.set k emp))).holds w S F
 | [], _, _, h, _ => by simp at h
 | A :: L, 0, F, h, hs => by
   simp only [List.getElem?_cons_zero, Option.some.injEq] at h
   subst h
   exact gC hs fun F h => aaW h
 | A :: L, k + 1, F, h, hs => rY (gC hs fun F h' => lK L k F (by simpa using h) h')
theorem sq : ∀ (L : List Res) (k : Nat) (F : bH), k < L.length → (fX R (fg (L.set k emp))).holds w S F → (fg (L.set k R)).holds w S F
 | [], _, _, h, _ => by simp at h
 | A :: L, 0, F, _, hs => gC hs fun F h => aaU h
 | A :: L, k + 1, F, h, hs => gC (rY hs) fun F h' => sq L k F (by simpa using h) h'
theorem qM : ∀ (L : List Res), (∀ A ∈ L, A.holds w S fun _ => False) → (fg L).holds w S fun _ => False
 | [], _ => fun _ h => h
 | A :: L, h => ⟨fun _ => False, fun _ => False, h A (List.mem_cons_self ..), qM L fun B hB => h B (List.mem_cons_of_mem _ hB), fun _ h => h.elim, fun _ => ⟨.inl, fun h => h.elim id id⟩⟩
theorem rB : ∀ (L : List Res) (F : bH), (fg L).holds w S F → ∀ (k : Nat) (A : Res), L[k]? = some A → ∃ G : bH, (∀ b, G b → F b) ∧ A.holds w S G := fun L F h k A hk => by
 obtain ⟨G, H, a, _, _, e⟩ := lK L k F hk h
 exact ⟨G, fun b hb => (e b).2 (.inl hb), a⟩
theorem my {v : Value} {T : TypeId} {sz : Nat} {rows : List (List D)} (hr : (aN v T sz rows).holds w S F) : fe w (fun b => S b ∨ F b) v (.sl rows) := by
 have hS : ∀ b, S b → (S b ∨ F b) := fun _ h => .inl h
 rcases hr with ⟨rfl, rfl, _⟩ | ⟨b, cap, rfl, ⟨cs, sp, hb, hrows, hl, hle, hcap⟩, hF⟩
 · exact .e none 0 (by unfold maxLen; omega)
 · refine .sl b 0 cap sz rows (fun i j => cs.getD (i * sz + j) undef) (.inr ((hF b).2 rfl)) hle hcap hrows.row (fun i j r d h1 h2 => ?_) (fun i j r d h1 h2 => ?_)
   · obtain ⟨u, hu, _⟩ := hrows.rep i j r d h1 h2
     have e : cs.getD (i * sz + j) undef = u := by simp [List.getD, hu]
     rw [e]
     refine ⟨?_, hrows.one u (List.mem_of_getElem? hu)⟩
     rw [Nat.zero_add, dQ hb, List.getElem?_append_left (List.getElem?_eq_some_iff.1 hu).1]; exact hu
   · obtain ⟨u, hu, hr⟩ := hrows.rep i j r d h1 h2
     have e : cs.getD (i * sz + j) undef = u := by simp [List.getD, hu]
     rw [e]
     exact hr.mono (fun _ _ => rfl) hS
end
theorem zN {w : World} {S : bH} {fp : Nat → bH} {ps : List Per} {hp : List Res} (hst : St w S fp ps hp) (i : Nat) {R : Res} (hi : hp[i]? = some R) {p : Per} (h : ∀ w S F, R.holds w S F → p.holds w (fun b => S b ∨ F b)) :
   St w (fun b => S b ∨ fp i b) (fun k => if k = i then (fun _ => False) else fp k) (p :: ps) (hp.set i emp) := by
 have hil := (List.getElem?_eq_some_iff.1 hi).1
 have hr := hst.res i _ hi
 have hst0 := hst.drop i
 have hS : ∀ b, S b → (S b ∨ fp i b) := fun _ h => .inl h
 refine ⟨fun p' hp' => ?_, fun j R hj => R.mono (hst0.res j R hj) (fun _ _ => rfl) (fun _ _ => rfl) hS, fun j hj b hb => ?_, hst0.dj, fun b hb => hb.elim (hst.slt b) (fun h => (hst.lt i hil b h).1)⟩
 · rcases List.mem_cons.1 hp' with rfl | h2
   · exact h w S (fp i) hr
   · exact p'.mono (hst.per p' h2) (fun _ _ => rfl) hS
 · have hj' : j < hp.length := by simpa using hj
   by_cases hji : j = i
   · rw [if_pos hji] at hb; exact hb.elim
   · rw [if_neg hji] at hb
     exact ⟨(hst.lt j hj' b hb).1, fun h => h.elim (hst.lt j hj' b hb).2 (hst.dj j i hj' hil hji b hb)⟩
section
variable {P : Program} {n : Fr} {env : Env} {ps : List Per} {hp : List Res} {c : Code} {Q : Exit → Sta → Prop}
theorem jG (i : Nat) {R : Res} (p : Per) (hi : hp[i]? = some R) (h0 : ∀ w S F, R.holds w S F → p.holds w (fun b => S b ∨ F b)) (h : awp P n c Q ⟨env, p :: ps, hp.set i emp⟩) : awp P n c Q ⟨env, ps, hp⟩ := fun w S fp a hst he hn hd => by
 have hil := (List.getElem?_eq_some_iff.1 hi).1
 have h1 := zN hst i hi h0
 have htot : ∀ b, tot (fun k => if k = i then (fun _ => False) else fp k) (hp.set i emp).length b → tot fp hp.length b := fun b ⟨j, hj, hb⟩ => by
   dsimp only at hb
   by_cases hji : j = i
   · rw [if_pos hji] at hb; exact hb.elim
   · rw [if_neg hji] at hb; exact ⟨j, by simpa using hj, hb⟩
 have hE : Evo w S (tot fp hp.length) w (fun b => S b ∨ fp i b) := ⟨rfl, rfl, rfl, Nat.le_refl _, Nat.le_refl _, fun _ _ _ => rfl, fun _ h => .inl h, fun b hb => hb.elim .inl fun h => .inr (.inl ⟨i, hil, h⟩)⟩
 exact fi (fun e a2 w2 hp2 => hp2.trans hE (fun b hb => .inl (htot b hb))) (h w _ _ a h1 he hn hd)
theorem bR (i : Nat) {b : Nat} {T : TypeId} {cs : List Value} (hi : hp[i]? = some (Box b T cs)) (h1 : cs.all (·.oneCell') = true) (h : awp P n c Q ⟨env, At b 0 (cs.map D.v) :: ps, hp.set i emp⟩) : awp P n c Q ⟨env, ps, hp⟩ :=
 jG i (At b 0 (cs.map D.v)) hi (fun w S F ⟨hb, hF⟩ => ⟨.inr ((hF b).2 rfl), fun j d hj => by
   rw [List.getElem?_map] at hj
   cases hc : cs[j]? with
   | none => rw [hc] at hj; cases hj
   | some u =>
     rw [hc] at hj
     simp only [Option.map_some, Option.some.injEq] at hj
     exact ⟨u, by rw [Nat.zero_add, dQ hb]; exact hc, List.all_eq_true.1 h1 u (List.mem_of_getElem? hc), by rw [← hj]; exact .v u⟩⟩) h
end
section
variable {α : Type} [Inhabited α] {enc : α → Value}
def dm (vs : List Value) : List (List D) := vs.map fun v => [.v v]
@[simp] theorem kW (vs : List Value) : (dm vs).length = vs.length := by simp [dm]
def inner (E : TypeId) (enc : α → Value) (vs : List Value) (l : List (List α)) : List Res := List.zipWith (fun v x => aN v E 1 (cB enc x)) vs l
def ke (vo : Value) (T E : TypeId) (enc : α → Value) (l : List (List α)) : Res :=
 ⟨fun w S F => ∃ vs : List Value, vs.length = l.length ∧ (fX (aN vo T 1 (dm vs)) (fg (inner E enc vs l))).holds w S F,
  fun ⟨vs, h0, h⟩ h1 h2 h3 => ⟨vs, h0, (fX (aN vo T 1 (dm vs)) (fg (inner E enc vs l))).mono h h1 h2 h3⟩⟩
omit [Inhabited α] in
theorem mU {E : TypeId} {vs : List Value} {l : List (List α)} {k : Nat} {v : Value} {x : List α} (hv : vs[k]? = some v) (hx : l[k]? = some x) : (inner E enc vs l)[k]? = some (aN v E 1 (cB enc x)) := by
 unfold inner; rw [List.getElem?_zipWith, hv, hx]
omit [Inhabited α] in
theorem rp {E : TypeId} {v : Value} {x : List α} : ∀ (vs : List Value) (l : List (List α)) (k : Nat), inner E enc (vs.set k v) (l.set k x) = (inner E enc vs l).set k (aN v E 1 (cB enc x))
 | [], _, _ => by simp [inner]
 | _ :: _, [], _ => by simp [inner]
 | a :: vs, b :: l, 0 => rfl
 | a :: vs, b :: l, k + 1 => by
   have := rp (E := E) (v := v) (x := x) vs l k
   unfold inner at this ⊢
   simp only [List.set_cons_succ, List.zipWith_cons_cons, this]
variable {P : Program} {n : Fr} {env : Env} {ps : List Per} {hp : List Res} {c : Code} {Q : Exit → Sta → Prop} {vo : Value} {T E : TypeId} {l : List (List α)}
omit [Inhabited α] in
theorem jB (i k : Nat) {x : List α} (hi : hp[i]? = some (ke vo T E enc l)) (hk : l[k]? = some x)
   (h : ∀ vs v, vs.length = l.length → vs[k]? = some v → awp P n c Q ⟨env, ps, (hp.set i (aN vo T 1 (dm vs)) ++ [aN v E 1 (cB enc x)]) ++ [fg ((inner E enc vs l).set k emp)]⟩) : awp P n c Q ⟨env, ps, hp⟩ := by
 have hil := (List.getElem?_eq_some_iff.1 hi).1
 refine lB (β := {p : List Value × Value // p.1.length = l.length ∧ p.1[k]? = some p.2}) i (fun p => fX (aN vo T 1 (dm p.1.1)) (fX (aN p.1.2 E 1 (cB enc x)) (fg ((inner E enc p.1.1 l).set k emp)))) hi (fun w S F hh => ?_) fun ⟨⟨vs, v⟩, h1, h2⟩ => ?_
 · obtain ⟨vs, h0, hs⟩ := hh
   have hkl := (List.getElem?_eq_some_iff.1 hk).1
   obtain ⟨v, hv⟩ : ∃ v, vs[k]? = some v := ⟨vs[k]'(by omega), by simp⟩
   exact ⟨⟨(vs, v), h0, hv⟩, gC hs fun F h => lK _ k F (mU hv hk) h⟩
 · refine rG i (by rw [List.getElem?_set_self hil]) ?_
   rw [List.set_set]
   refine rG (hp.set i (aN vo T 1 (dm vs))).length (by rw [List.getElem?_append_right (Nat.le_refl _), Nat.sub_self]; rfl) ?_
   rw [List.set_append_right _ _ (Nat.le_refl _), Nat.sub_self]
   exact h vs v h1 h2
omit [Inhabited α] in
theorem gE (i j m k : Nat) {vs : List Value} {v : Value} {x : List α} (hi : hp[i]? = some (aN vo T 1 (dm (vs.set k v)))) (hj : hp[j]? = some (aN v E 1 (cB enc x))) (hm : hp[m]? = some (fg ((inner E enc vs l).set k emp)))
   (hij : (i == j) = false) (him : (i == m) = false) (hjm : (j == m) = false) (hl : vs.length = l.length) (hk : k < l.length) (h : awp P n c Q ⟨env, ps, ((hp.set j emp).set m emp).set i (ke vo T E enc (l.set k x))⟩) : awp P n c Q ⟨env, ps, hp⟩ := by
 have hij' : i ≠ j := by simpa using hij
 have him' : i ≠ m := by simpa using him
 have hjm' : j ≠ m := by simpa using hjm
 have hil := (List.getElem?_eq_some_iff.1 hi).1
 have hjl := (List.getElem?_eq_some_iff.1 hj).1
 refine tM j m hj hm hjm ?_
 refine tM i j (R := aN vo T 1 (dm (vs.set k v))) (R' := fX (aN v E 1 (cB enc x)) (fg ((inner E enc vs l).set k emp))) ?_ ?_ hij ?_
 · rw [List.getElem?_set_ne (Ne.symm him'), List.getElem?_set_ne (Ne.symm hij')]; exact hi
 · rw [List.getElem?_set_ne (Ne.symm hjm'), List.getElem?_set_self hjl]
 refine iG i (ke vo T E enc (l.set k x)) (R := fX (aN vo T 1 (dm (vs.set k v))) (fX (aN v E 1 (cB enc x)) (fg ((inner E enc vs l).set k emp)))) ?_ (fun w S F hh => ?_) ?_
 · rw [List.getElem?_set_ne (Ne.symm hij'), List.getElem?_set_self (by simpa using hil)]
 · refine ⟨vs.set k v, by simp [hl], gC hh fun F h => ?_⟩
   rw [rp]
   exact sq _ k F (by unfold inner; simp; omega) h
 · have e : ((((hp.set j (fX (aN v E 1 (cB enc x)) (fg ((inner E enc vs l).set k emp)))).set m emp).set i (fX (aN vo T 1 (dm (vs.set k v))) (fX (aN v E 1 (cB enc x)) (fg ((inner E enc vs l).set k emp))))).set j emp).set i (ke vo T E enc (l.set k x)) = ((hp.set j emp).set m emp).set i (ke vo T E enc (l.set k x)) := by
     apply List.ext_getElem?
     intro q
     simp only [List.getElem?_set, List.length_set]
     by_cases h1 : i = q
     · simp [h1]
     · by_cases h2 : j = q
       · subst h2; simp [h1, Ne.symm hjm', hjm']
       · by_cases h3 : m = q
         · simp [h1, h2, h3]
         · simp [h1, h2, h3]
   rw [e]; exact h
omit [Inhabited α] in
theorem nV (i m : Nat) (hi : hp[i]? = some (aN vo T 1 (List.replicate m [.v (.slice none 0 0)]))) (h : awp P n c Q ⟨env, ps, hp.set i (ke vo T E enc (List.replicate m ([] : List α)))⟩) : awp P n c Q ⟨env, ps, hp⟩ := by
 refine iG i (ke vo T E enc (List.replicate m ([] : List α))) hi (fun w S F hh => ⟨List.replicate m (.slice none 0 0), by simp, ?_⟩) h
 have e : dm (List.replicate m (.slice none 0 0)) = List.replicate m [.v (.slice none 0 0)] := by simp [dm]
 rw [e]
 refine ⟨F, fun _ => False, hh, qM _ fun A hA => ?_, fun _ _ h => h, fun b => ⟨.inl, fun h => h.elim id False.elim⟩⟩
 unfold inner at hA
 rw [List.zipWith_replicate] at hA
 obtain ⟨_, rfl⟩ := List.mem_replicate.1 hA
 exact .inl ⟨rfl, rfl, fun _ h => h⟩
end
def aek (D : Nat) : Deferred := { target := .collected D, args := #[] }
theorem Evo.putObj {w : World} {S X : bH} {l : Nat} {o : Obj} (hl : X l) : Evo w S X (w.putObj l o) S where
 os := rfl
 tape := rfl
 output := rfl
 size := by rw [World.putObj_size]; exact Nat.le_refl _
 drawn := Nat.le_refl _
 block b _ hx := World.putObj_heap_other (fun e => hx (by rw [e]; exact hl))
 more _ h := h
 new _ h := .inl h
theorem St.putObj {w : World} {S : bH} {fp : Nat → bH} {ps : List Per} {hp : List Res} (h : St w S fp ps hp) {i l : Nat} (hi : i < hp.length) (hl : fp i l) (o : Obj) (R : Res) (hR : R.holds (w.putObj l o) S (fp i)) : St (w.putObj l o) S fp ps (hp.set i R) :=
 h.change hi (by rw [World.putObj_size]; exact Nat.le_refl _) (fun b _ hb => World.putObj_heap_other (fun e => hb (by rw [e]; exact hl))) R hR

def afh (P : Program) (l : Nat) (args : List Value) (ps : List Per) (hp : List Res) (R : Value → List Per → List Res → Prop) : Prop :=
 ∀ (w : World) (S : bH) (fp : Nat → bH), St w S fp ps hp → gm P (fun v w' => ∃ ps' hp' S' fp', R v ps' hp' ∧ St w' S' fp' ps' hp' ∧ Evo w S (tot fp hp.length) w' S' ∧ ∀ b, tot fp' hp'.length b → tot fp hp.length b ∨ w.heap.size ≤ b) ((Instr.yield l args.toArray).run P w)
section
variable {P : Program} {n : Fr} {env : Env} {ps : List Per} {hp : List Res} {ty : TypeId} {pos : String} {af : Array Edge} {gd : Option (Nat × Bool)} {K : Sta → Prop} {d : Option Tmp}
end
def xt (P : Program) (fn : Func) (R : Value → List Per → List Res → Prop) (w : World) (S X : bH) (e : Exit) (a' : Act) (w' : World) : Prop :=
 (e = .normal ∨ e = .ret) ∧ ∃ (v : Value) (ds : List Nat) (ps' : List Per) (hp' : List Res) (S' : bH) (fp' : Nat → bH), (∀ w2, (results fn a'.tmps).run P w2 = .ok v w2) ∧ a'.defers = ds.map aek ∧ ds.Nodup ∧ R v ps' hp' ∧ St w' S' fp' ps' hp' ∧ Evo w S X w' S' ∧ (∀ b, tot fp' hp'.length b → X b ∨ w.heap.size ≤ b) ∧
   ∀ D ∈ ds, w'.heap[D]? = some (.deferred (some [])) ∧ ¬ S' D ∧ ¬ tot fp' hp'.length D ∧ (X D ∨ w.heap.size ≤ D)
def fwp (P : Program) (fn : Func) (n : Fr) (c : Code) (R : Value → List Per → List Res → Prop) (s : Sta) : Prop :=
 ∀ (w : World) (S : bH) (fp : Nat → bH) (a : Act), St w S fp s.ps s.hp → dt a s.env → a.tmps.size = n.size → a.defers = n.dfr → c.wpIn (fnc n.ro) 0 P (xt P fn R w S (tot fp s.hp.length)) a w
section
variable {P : Program} {fn : Func} {n : Fr} {R : Value → List Per → List Res → Prop} {s : Sta}
theorem xt.trans {w w1 : World} {S X S1 X1 : bH} (hE : Evo w S X w1 S1) (hX : ∀ b, X1 b → X b ∨ w.heap.size ≤ b) {e : Exit} {a : Act} {w2 : World} (h : xt P fn R w1 S1 X1 e a w2) : xt P fn R w S X e a w2 := by
 obtain ⟨he, v, ds, ps', hp', S', fp', h1, h2, h3, h4, h5, h6, h7, h8⟩ := h
 have hX' : ∀ b, X1 b ∨ w1.heap.size ≤ b → X b ∨ w.heap.size ≤ b := fun b hb => hb.elim (hX b) (fun h => .inr (Nat.le_trans hE.size h))
 exact ⟨he, v, ds, ps', hp', S', fp', h1, h2, h3, h4, h5, hE.trans h6 hX, fun b hb => hX' b (h7 b hb), fun D hD => let ⟨a1, a2, a3, a4⟩ := h8 D hD; ⟨a1, a2, a3, hX' D a4⟩⟩
end
structure Sl (α : Type) where
 ad : Option Addr
 cap : Nat
 l : List α
instance {α : Type} : Inhabited (Sl α) := ⟨⟨none, 0, []⟩⟩
abbrev Sl.val {α : Type} (s : Sl α) : Value := .slice s.ad s.l.length s.cap
abbrev ShF {α : Type} (row : α → List D) (s : Sl α) : Per := Sh (.slice s.ad s.l.length s.cap) (.sl (s.l.map row))
def b7 {α : Type} (p : α → Per) (l : List α) : Per := ⟨fun w S => ∀ x ∈ l, (p x).holds w S, fun h h1 h2 x hx => (p x).mono (h x hx) h1 h2⟩
def cD (p q : Per) : Per := ⟨fun w S => p.holds w S ∧ q.holds w S, fun h h1 h2 => ⟨p.mono h.1 h1 h2, q.mono h.2 h1 h2⟩⟩
section
variable {α : Type} {ps : List Per} {p q : Per}
theorem Ent.all {f : α → Per} {l : List α} {i : Nat} {x : α} (h : Ent ps (b7 f l)) (hx : l[i]? = some x) : Ent ps (f x) := fun w S hp => h w S hp x (List.mem_of_getElem? hx)
theorem Ent.allm {f : α → Per} {l : List α} {x : α} (h : Ent ps (b7 f l)) (hx : x ∈ l) : Ent ps (f x) := fun w S hp => h w S hp x hx
theorem Ent.left (h : Ent ps (cD p q)) : Ent ps p := fun w S hp => (h w S hp).1
theorem Ent.right (h : Ent ps (cD p q)) : Ent ps q := fun w S hp => (h w S hp).2
theorem aI {row : α → List D} {l : List α} {i : Nat} {x : α} (h : l[i]? = some x) : (l.map row)[i]? = some (row x) := by rw [List.getElem?_map, h]; rfl
end
theorem Con.quiet2 {P : Program} {v : Value} {f : FuncId} {args : List Value} {p q : Per} (h : Con P f args [p, q] [] fun u _ _ => u = v) {w : World} {S : bH} {fp : Nat → bH} {ps' : List Per} {hp : List Res} (hp1 : p ∈ ps') (hq1 : q ∈ ps') (hst : St w S fp ps' hp) :
   Calls P f args.toArray w fun e w' => e = .returned v ∧ Below w.heap.size w w' := h.quiet (fun _ h => by
     rcases List.mem_cons.1 h with rfl | h
     · exact hp1
     · rw [List.mem_singleton.1 h]; exact hq1) hst
theorem bQ {P : Program} {n : Fr} {Q : Exit → Sta → Prop} {s : Sta} {c : Code} {ad : Option Addr} {m cp : Nat} {rows : List (List D)} (hs : Ent s.ps (Sh (.slice ad m cp) (.sl rows))) (h : m ≤ 9223372036854775807 → awp P n c Q s) : awp P n c Q s :=
 ki (fun w S fp hst => by
   have h : fe w S (.slice ad m cp) (.sl rows) := hs w S hst.per
   cases h with
   | e a c hc => simp
   | sl b o c sz rows us hb hn hc _ _ _ => unfold maxLen at hc; omega) h
theorem vt {P : Program} {n : Fr} {Q : Exit → Sta → Prop} {s : Sta} {c : Code} {v : Value} {rows : List (List D)} (hs : Ent s.ps (Sh v (.sl rows))) (h : ∀ ad k, v = .slice ad rows.length k → awp P n c Q s) : awp P n c Q s :=
 ki (φ := ∃ ad k, v = .slice ad rows.length k) (fun w S fp hst => by
   have h : fe w S v (.sl rows) := hs w S hst.per
   cases h with
   | e a c hc => exact ⟨_, _, rfl⟩
   | sl b o c sz rows us hb hn hc _ _ _ => exact ⟨_, _, rfl⟩) (fun ⟨ad, k, e⟩ => h ad k e)
theorem rV {P : Program} {n : Fr} {Q : Exit → Sta → Prop} {env : Env} {ps : List Per} {hp hp' : List Res} {c : Code} (h : hp = hp') (k : awp P n c Q ⟨env, ps, hp'⟩) : awp P n c Q ⟨env, ps, hp⟩ := h ▸ k
def elt {α : Type} [Inhabited α] (l : List α) (i : Int) : α := l.getD i.toNat default
theorem j6 {α : Type} [Inhabited α] {l : List α} {i : Int} (h : i < l.length) (h0 : 0 ≤ i) : l[i.toNat]? = some (elt l i) := by
 have : i.toNat < l.length := by omega
 simp [elt, List.getD, this]
theorem eo {α : Type} [Inhabited α] {l : List α} {i : Nat} (h : i < l.length) : l[i]? = some (elt l (i : Int)) := by simp [elt, List.getD, h]
theorem fq {α : Type} [Inhabited α] {row : α → List D} {l : List α} {i : Int} (h : i < l.length) (h0 : 0 ≤ i) : (l.map row)[i.toNat]? = some (row (elt l i)) := aI (j6 h h0)
def dY (s : ByteArray) : Per := Fa (s.size ≤ maxLen)
theorem dY.of {w : World} {S : bH} {s : ByteArray} (h : s.size ≤ maxLen) : (dY s).holds w S := h
section
variable {P : Program} {n : Fr} {env : Env} {ps : List Per} {hp : List Res} {c : Code} {Q : Exit → Sta → Prop}
theorem adS {φ : Prop} (h : Ent ps (Fa φ)) (k : φ → awp P n c Q ⟨env, ps, hp⟩) : awp P n c Q ⟨env, ps, hp⟩ := fun w S fp a hst he hn hd => k (h w S hst.per) w S fp a hst he hn hd
theorem fl {s : ByteArray} (h : Ent ps (dY s)) (k : s.size ≤ maxLen → awp P n c Q ⟨env, ps, hp⟩) : awp P n c Q ⟨env, ps, hp⟩ := adS h k
end
def mR (w : World) (S : bH) (us : List Value) (ds : List D) : Prop := us.length = ds.length ∧ ∀ (j : Nat) (d : D), ds[j]? = some d → ∃ u, us[j]? = some u ∧ fe w S u d
theorem mR.nil {w : World} {S : bH} {us : List Value} (h : mR w S us []) : us = [] := List.eq_nil_of_length_eq_zero h.1
theorem mR.cons {w : World} {S : bH} {us : List Value} {d : D} {ds : List D} (h : mR w S us (d :: ds)) : ∃ u us', us = u :: us' ∧ fe w S u d ∧ mR w S us' ds := by
 cases us with
 | nil => have := h.1; simp at this
 | cons u us =>
   obtain ⟨u', h1, h2⟩ := h.2 0 d rfl
   simp only [List.getElem?_cons_zero, Option.some.injEq] at h1
   subst h1
   exact ⟨u, us, rfl, h2, by simpa using h.1, fun j e hj => by have := h.2 (j + 1) e (by simpa using hj); simpa using this⟩
theorem ach {w : World} {cs : List Value} {ds : List D} (hl : ds.length = cs.length) (h : Rds w cs 0 ds) : mR w (fun b => b < w.heap.size) cs ds := ⟨hl.symm, fun j d hj => by
 obtain ⟨u, h1, _, h2⟩ := h j d hj
 rw [Nat.zero_add] at h1
 exact ⟨u, h1, h2⟩⟩
section
variable {P : Program} {k : Nat} {t e : TypeId} {w : World} {S : bH} {us : List Value} {ds : List D}
end
end Go.Sy

namespace Go.Lv
open Go.Sy
abbrev BS := List Int × List Int
def dR (N : Nat) (s : BS) (v : Int) : BS := if 0 ≤ v ∧ v < N then (s.1.set v.toNat v, s.2 ++ [v]) else s
def dE (N : Nat) (rs : List Int) : BS := rs.foldl (dR N) (List.replicate N (-1), [])
def visit (u : Int) (s : BS) (x : Int) : BS := if elt s.1 x < 0 then (s.1.set x.toNat u, s.2 ++ [x]) else s
def qR (out : List (List Int)) (s : BS) (k : Nat) : BS := match s.2[k]? with
 | none => s
 | some u => (elt out u).foldl (visit u) s
def bfs (out : List (List Int)) (s : BS) : Nat → BS
 | 0 => s
 | k + 1 => qR out (bfs out s k) k
def aaP (b : List Int) : Nat := b.countP (fun z => decide (z < 0))
theorem gk {b : List Int} {x y u : Int} (h0 : 0 ≤ x) (h1 : x < b.length) (hy : 0 ≤ y) : elt (b.set x.toNat u) y = if x = y then u else elt b y := by
 unfold elt
 rw [List.getD_eq_getElem?_getD, List.getD_eq_getElem?_getD, List.getElem?_set]
 have hx : x.toNat < b.length := by omega
 by_cases h : x = y
 · subst h; rw [if_pos rfl, if_pos hx, if_pos rfl]; rfl
 · rw [if_neg (by omega), if_neg h]
theorem abm {b : List Int} {x u : Int} (h0 : 0 ≤ x) (h1 : x < b.length) (hx : elt b x < 0) (hu : 0 ≤ u) : aaP (b.set x.toNat u) + 1 = aaP b := by
 have hlt : x.toNat < b.length := by omega
 have e : b[x.toNat] < 0 := by unfold elt at hx; rw [List.getD_eq_getElem?_getD, List.getElem?_eq_getElem hlt] at hx; exact hx
 unfold aaP
 have hm : b[x.toNat] ∈ b := List.getElem_mem hlt
 have hpos : 0 < b.countP (fun z => decide (z < 0)) := List.countP_pos_iff.2 ⟨_, hm, by simpa using e⟩
 rw [List.countP_set hlt]
 rw [if_pos (by simpa using e), if_neg (by simpa using hu)]
 omega
structure BI (N M : Nat) (s : BS) : Prop where
 len : s.1.length = N
 mem : ∀ x ∈ s.2, 0 ≤ x ∧ x < N
 cnt : s.2.length + aaP s.1 ≤ M
theorem BI.le {N M : Nat} {s : BS} (h : BI N M s) : s.2.length ≤ M := by have := h.cnt; omega
theorem tw {N : Nat} {s : BS} {v : Int} : (dR N s v).1.length = s.1.length ∧ (dR N s v).2.length ≤ s.2.length + 1 := by
 unfold dR; split <;> simp
theorem jJ (N : Nat) (rs : List Int) : (dE N rs).1.length = N ∧ (dE N rs).2.length ≤ rs.length := by
 have : ∀ (rs : List Int) (s : BS), (rs.foldl (dR N) s).1.length = s.1.length ∧ (rs.foldl (dR N) s).2.length ≤ s.2.length + rs.length := by
   intro rs
   induction rs with
   | nil => intro s; exact ⟨rfl, Nat.le_refl _⟩
   | cons v rs ih => intro s; obtain ⟨h1, h2⟩ := ih (dR N s v); obtain ⟨h3, h4⟩ := tw (N := N) (s := s) (v := v); rw [List.foldl_cons, List.length_cons]; exact ⟨by rw [h1, h3], by omega⟩
 have := this rs (List.replicate N (-1), [])
 unfold dE; simpa using this
theorem wY (N : Nat) (rs : List Int) : ∀ x ∈ (dE N rs).2, (0 ≤ x ∧ x < N) ∧ x ∈ rs := by
 have : ∀ (rs rs0 : List Int) (s : BS), (∀ x ∈ s.2, (0 ≤ x ∧ x < (N : Int)) ∧ x ∈ rs0) → ∀ x ∈ (rs.foldl (dR N) s).2, (0 ≤ x ∧ x < (N : Int)) ∧ (x ∈ rs0 ∨ x ∈ rs) := by
   intro rs
   induction rs with
   | nil => intro rs0 s h x hx; exact ⟨(h x hx).1, .inl (h x hx).2⟩
   | cons v rs ih =>
     intro rs0 s h x hx
     rw [List.foldl_cons] at hx
     have := ih (rs0 ++ [v]) (dR N s v) (fun y hy => by
       unfold dR at hy
       split at hy
       · rename_i hv
         rcases List.mem_append.1 hy with h1 | h1
         · exact ⟨(h y h1).1, List.mem_append_left _ (h y h1).2⟩
         · rw [List.mem_singleton.1 h1]; exact ⟨hv, by simp⟩
       · exact ⟨(h y hy).1, List.mem_append_left _ (h y hy).2⟩) x hx
     refine ⟨this.1, ?_⟩
     rcases this.2 with h1 | h1
     · rcases List.mem_append.1 h1 with h2 | h2
       · exact .inl h2
       · rw [List.mem_singleton.1 h2]; exact .inr List.mem_cons_self
     · exact .inr (List.mem_cons_of_mem _ h1)
 intro x hx
 have := this rs [] _ (fun _ h => by cases h) x hx
 exact ⟨this.1, this.2.elim (fun h => by cases h) id⟩
theorem vH (N : Nat) (rs : List Int) {k : Nat} {v : Int} (h : rs[k]? = some v) : dE N (rs.take (k + 1)) = dR N (dE N (rs.take k)) v := by
 unfold dE; rw [List.take_add_one, h, List.foldl_append]; rfl
theorem kH (N : Nat) (rs : List Int) : BI N (rs.length + N) (dE N rs) where
 len := (jJ N rs).1
 mem x hx := (wY N rs x hx).1
 cnt := by
   have h1 := jJ N rs
   have h2 : aaP (dE N rs).1 ≤ (dE N rs).1.length := List.countP_le_length
   omega
theorem ab3 {N M : Nat} {s : BS} {u x : Int} (h : BI N M s) (hu : 0 ≤ u) (hx : 0 ≤ x ∧ x < N) : BI N M (visit u s x) := by
 unfold visit
 split
 · rename_i h0
   have hn := abm hx.1 (by rw [h.len]; exact hx.2) h0 hu
   refine ⟨by simpa using h.len, fun y hy => ?_, ?_⟩
   · rcases List.mem_append.1 hy with h1 | h1
     · exact h.mem y h1
     · rw [List.mem_singleton.1 h1]; exact hx
   · have := h.cnt
     rw [List.length_append, List.length_singleton]; dsimp only; omega
 · exact h
theorem rL {s : BS} {u x : Int} : s.2 <+: (visit u s x).2 := by
 unfold visit; split
 · exact List.prefix_append _ _
 · exact List.prefix_refl _
theorem nu {N M : Nat} {u : Int} (hu : 0 ≤ u) : ∀ (l : List Int) (s : BS), BI N M s → (∀ x ∈ l, 0 ≤ x ∧ x < N) → BI N M (l.foldl (visit u) s)
 | [], _, h, _ => h
 | x :: l, s, h, hl => nu hu l _ (ab3 h hu (hl x List.mem_cons_self)) fun y hy => hl y (List.mem_cons_of_mem _ hy)
theorem jR {u : Int} : ∀ (l : List Int) (s : BS), s.2 <+: (l.foldl (visit u) s).2
 | [], _ => List.prefix_refl _
 | x :: l, s => List.IsPrefix.trans rL (jR l (visit u s x))
theorem tT {u : Int} (l : List Int) (s : BS) {k : Nat} {v : Int} (h : l[k]? = some v) : (l.take (k + 1)).foldl (visit u) s = visit u ((l.take k).foldl (visit u) s) v := by
 rw [List.take_add_one, h, List.foldl_append]; rfl
theorem sw {l l' : List Int} (h : l <+: l') {k : Nat} {u : Int} (hk : l[k]? = some u) : l'[k]? = some u := by
 obtain ⟨t, rfl⟩ := h
 rw [List.getElem?_append_left (List.getElem?_eq_some_iff.1 hk).1]; exact hk
def qB (N : Nat) (out : List (List Int)) : Prop := ∀ u : Int, ∀ x ∈ elt out u, 0 ≤ x ∧ x < N
theorem qC {N M : Nat} {out : List (List Int)} {s : BS} (ho : qB N out) (h : BI N M s) : ∀ k, BI N M (bfs out s k)
 | 0 => h
 | k + 1 => by
   have ih := qC ho h k
   unfold bfs qR
   split
   · exact ih
   · rename_i u hu
     exact nu (ih.mem u (List.mem_of_getElem? hu)).1 _ _ ih (ho u)
theorem pc {out : List (List Int)} {s : BS} {k : Nat} (h : (bfs out s k).2.length ≤ k) : ∀ j, bfs out s (k + j) = bfs out s k
 | 0 => rfl
 | j + 1 => by
   have ih := pc h j
   show qR out (bfs out s (k + j)) (k + j) = _
   rw [ih]
   unfold qR
   rw [List.getElem?_eq_none (by omega)]
def kJ (N : Nat) (out : List (List Int)) (rs : List Int) : List Int := (bfs out (dE N rs) (rs.length + N)).1
theorem wX {N : Nat} {out : List (List Int)} {rs : List Int} {k : Nat} (ho : qB N out) (hk : k = (bfs out (dE N rs) k).2.length) : (bfs out (dE N rs) k).1 = kJ N out rs := by
 have hle := (qC ho (kH N rs) k).le
 obtain ⟨j, hj⟩ : ∃ j, rs.length + N = k + j := ⟨rs.length + N - k, by omega⟩
 unfold kJ
 rw [hj, pc (by omega)]
structure TS where
 idx : List Int
 low : List Int
 stk : List Int
 part : List Int
 np : Nat
 calls : List (Int × Int)
 cnt : Int
structure TI (N : Nat) (nx : List (List Int)) (r : Int) (s : TS) : Prop where
 li : s.idx.length = N
 ll : s.low.length = N
 lp : s.part.length = N
 cn : s.cnt = (s.idx.countP (fun z => decide (z ≠ 0)) : Nat)
 ile : ∀ v : Int, 0 ≤ v → v < N → 0 ≤ elt s.idx v ∧ elt s.idx v ≤ s.cnt
 stk : ∀ v : Int, v ∈ s.stk ↔ (0 ≤ v ∧ v < N) ∧ elt s.idx v ≠ 0 ∧ elt s.part v = 0
 nd : s.stk.Nodup
 pr : ∀ v : Int, 0 ≤ v → v < N → 0 ≤ elt s.part v ∧ elt s.part v ≤ s.np ∧ (elt s.idx v = 0 → elt s.part v = 0)
 sub : (s.calls.map (·.1)).Sublist s.stk
 ci : ∀ c ∈ s.calls, 0 ≤ c.2 ∧ c.2 ≤ (elt nx c.1).length
 top : s.calls ≠ [] → (s.calls.map (·.1)).head? = some r ∧ s.stk.head? = some r
 low' : ∀ v ∈ s.stk, elt s.idx r ≤ elt s.low v ∧ elt s.idx r ≤ elt s.idx v
 lr : s.calls ≠ [] → elt s.low r = elt s.idx r
def eV (s : TS) (w : Int) : TS := { s with idx := s.idx.set w.toNat (s.cnt + 1), low := s.low.set w.toNat (s.cnt + 1), stk := s.stk ++ [w], calls := s.calls ++ [(w, 0)], cnt := s.cnt + 1 }
section
variable {N : Nat} {nx : List (List Int)} {r : Int} {s : TS}
theorem TI.any (h : TI N nx r s) (h1 : s.calls = []) (h2 : s.stk = []) (q : Int) : TI N nx q s :=
 ⟨h.li, h.ll, h.lp, h.cn, h.ile, h.stk, h.nd, h.pr, h.sub, h.ci, fun h => absurd h1 h, fun v hv => (by rw [h2] at hv; cases hv), fun h => absurd h1 h⟩
theorem wo {l : List Int} {i : Nat} {u : Int} (hi : i < l.length) (h0 : l[i] = 0) (hu : u ≠ 0) : (l.set i u).countP (fun z => decide (z ≠ 0)) = l.countP (fun z => decide (z ≠ 0)) + 1 := by
 rw [List.countP_set hi, h0]; simp [hu]
theorem ac2 {l : List Int} {v : Int} (h0 : 0 ≤ v) (h1 : v < l.length) : l[v.toNat]'(by omega) = elt l v := by
 unfold elt; rw [List.getD_eq_getElem?_getD, List.getElem?_eq_getElem (by omega)]; rfl
theorem TI.cnt0 (h : TI N nx r s) : 0 ≤ s.cnt ∧ s.cnt ≤ N := by
 have h1 := h.cn
 have h2 : s.idx.countP (fun z => decide (z ≠ 0)) ≤ s.idx.length := List.countP_le_length
 have := h.li
 omega
theorem TI.enter (h : TI N nx r s) {w : Int} (hw : 0 ≤ w ∧ w < N) (h0 : elt s.idx w = 0) (hc : s.calls ≠ [] ∨ (s.stk = [] ∧ w = r)) : TI N nx r (eV s w) := by
 have hli := h.li
 have hll := h.ll
 have hc0 := h.cnt0
 have eI : ∀ v, 0 ≤ v → elt (eV s w).idx v = if w = v then s.cnt + 1 else elt s.idx v := fun v hv => gk hw.1 (by omega) hv
 have eL : ∀ v, 0 ≤ v → elt (eV s w).low v = if w = v then s.cnt + 1 else elt s.low v := fun v hv => gk hw.1 (by omega) hv
 have hws : w ∉ s.stk := fun hm => ((h.stk w).1 hm).2.1 h0
 have hr0 : s.calls ≠ [] → 0 ≤ r ∧ r ∈ s.stk ∧ w ≠ r := fun hne => by
   have hm : r ∈ s.stk := List.mem_of_mem_head? (by rw [(h.top hne).2]; rfl)
   exact ⟨((h.stk r).1 hm).1.1, hm, fun e => hws (e ▸ hm)⟩
 refine ⟨?_, ?_, h.lp, ?_, ?_, ?_, ?_, ?_, ?_, ?_, ?_, ?_, ?_⟩
 · show (s.idx.set _ _).length = N; rw [List.length_set]; exact hli
 · show (s.low.set _ _).length = N; rw [List.length_set]; exact hll
 · show s.cnt + 1 = ((s.idx.set _ _).countP _ : Nat)
   rw [wo (by omega) ((ac2 hw.1 (by omega)).trans h0) (by omega), h.cn]; rfl
 · intro v hv hvN
   rw [eI v hv]
   have := h.ile v hv hvN
   show _ ∧ _ ≤ s.cnt + 1
   split <;> omega
 · intro v
   show v ∈ s.stk ++ [w] ↔ _ ∧ _ ∧ elt s.part v = 0
   rw [List.mem_append, List.mem_singleton, h.stk v]
   by_cases hwv : w = v
   · subst hwv
     rw [eI _ hw.1, if_pos rfl]
     have := (h.pr w hw.1 hw.2).2.2 h0
     exact ⟨fun _ => ⟨hw, by omega, this⟩, fun _ => .inr rfl⟩
   · constructor
     · rintro (⟨h1, h2, h3⟩ | h1)
       · exact ⟨h1, by rw [eI _ h1.1, if_neg hwv]; exact h2, h3⟩
       · exact absurd h1.symm hwv
     · rintro ⟨h1, h2, h3⟩
       rw [eI _ h1.1, if_neg hwv] at h2
       exact .inl ⟨h1, h2, h3⟩
 · show (s.stk ++ [w]).Nodup
   rw [List.nodup_append]
   exact ⟨h.nd, by simp, fun a ha b hb => by rw [List.mem_singleton.1 hb]; exact fun e => hws (e ▸ ha)⟩
 · intro v hv hvN
   have := h.pr v hv hvN
   refine ⟨this.1, this.2.1, fun he => this.2.2 ?_⟩
   rw [eI v hv] at he
   split at he
   · omega
   · exact he
 · show (List.map (fun c : Int × Int => c.1) (s.calls ++ [(w, (0 : Int))])).Sublist (s.stk ++ [w])
   rw [List.map_append]
   exact h.sub.append (List.Sublist.refl _)
 · intro c hc2
   rcases List.mem_append.1 hc2 with h1 | h1
   · exact h.ci c h1
   · rw [List.mem_singleton.1 h1]; exact ⟨Int.le_refl _, Int.natCast_nonneg _⟩
 · intro _
   show (List.map (fun c : Int × Int => c.1) (s.calls ++ [(w, (0 : Int))])).head? = some r ∧ (s.stk ++ [w]).head? = some r
   rcases hc with hne | ⟨h1, h2⟩
   · obtain ⟨t1, t2⟩ := h.top hne
     rw [List.map_append, List.head?_append, List.head?_append, t1, t2]; exact ⟨rfl, rfl⟩
   · have hce : s.calls = [] := by
       have := h.sub
       rw [h1] at this
       exact List.map_eq_nil_iff.1 (List.eq_nil_of_sublist_nil this)
     rw [hce, h1, h2]; exact ⟨rfl, rfl⟩
 · intro v hv
   have hv2 : v ∈ s.stk ++ [w] := hv
   rcases hc with hne | ⟨h1, h2⟩
   · obtain ⟨hr, hrm, hwr⟩ := hr0 hne
     rw [eI r hr, if_neg hwr]
     have hrc := h.ile r hr ((h.stk r).1 hrm).1.2
     rcases List.mem_append.1 hv2 with h1 | h1
     · have hv0 := ((h.stk v).1 h1).1.1
       have hvw : w ≠ v := fun e => hws (e ▸ h1)
       rw [eL v hv0, eI v hv0, if_neg hvw, if_neg hvw]
       exact h.low' v h1
     · rw [List.mem_singleton.1 h1, eL w hw.1, eI w hw.1, if_pos rfl, if_pos rfl]
       exact ⟨by omega, by omega⟩
   · rw [h1, List.nil_append] at hv2
     rw [List.mem_singleton.1 hv2, ← h2, eI w hw.1, eL w hw.1, if_pos rfl, if_pos rfl]
     exact ⟨Int.le_refl _, Int.le_refl _⟩
 · intro _
   rcases hc with hne | ⟨_, h2⟩
   · obtain ⟨hr, _, hwr⟩ := hr0 hne
     rw [eL r hr, eI r hr, if_neg hwr, if_neg hwr]
     exact h.lr hne
   · rw [← h2, eL w hw.1, eI w hw.1, if_pos rfl, if_pos rfl]
theorem TI.adv (h : TI N nx r s) {cs : List (Int × Int)} {v i : Int} (hc : s.calls = cs ++ [(v, i)]) (hi : i < (elt nx v).length) : TI N nx r { s with calls := cs ++ [(v, i + 1)] } := by
 have e : (cs ++ [(v, i + 1)]).map (·.1) = s.calls.map (·.1) := by rw [hc]; simp
 have hne : s.calls ≠ [] := by rw [hc]; simp
 refine ⟨h.li, h.ll, h.lp, h.cn, h.ile, h.stk, h.nd, h.pr, ?_, ?_, ?_, h.low', fun _ => h.lr hne⟩
 · show ((cs ++ [(v, i + 1)]).map (·.1)).Sublist s.stk; rw [e]; exact h.sub
 · intro c hc2
   rcases List.mem_append.1 hc2 with h1 | h1
   · exact h.ci c (by rw [hc]; exact List.mem_append_left _ h1)
   · rw [List.mem_singleton.1 h1]
     have := h.ci (v, i) (by rw [hc]; simp)
     dsimp only at this ⊢; omega
 · intro _
   show ((cs ++ [(v, i + 1)]).map (·.1)).head? = some r ∧ _
   rw [e]; exact h.top hne
theorem TI.lower (h : TI N nx r s) {v u : Int} (hv : v ∈ s.stk) (hu : elt s.idx r ≤ u) : TI N nx r { s with low := s.low.set v.toNat (min (elt s.low v) u) } := by
 have hvr := ((h.stk v).1 hv).1
 have hll := h.ll
 have eL : ∀ x, 0 ≤ x → elt (s.low.set v.toNat (min (elt s.low v) u)) x = if v = x then min (elt s.low v) u else elt s.low x := fun x hx => gk hvr.1 (by omega) hx
 have hlv := (h.low' v hv).1
 refine ⟨h.li, by show (s.low.set _ _).length = N; rw [List.length_set]; exact hll, h.lp, h.cn, h.ile, h.stk, h.nd, h.pr, h.sub, h.ci, h.top, ?_, ?_⟩
 · intro x hx
   have hx0 := ((h.stk x).1 hx).1.1
   show elt s.idx r ≤ elt (s.low.set _ _) x ∧ _
   rw [eL x hx0]
   refine ⟨?_, (h.low' x hx).2⟩
   split
   · omega
   · exact (h.low' x hx).1
 · intro hne
   have hrm : r ∈ s.stk := List.mem_of_mem_head? (by rw [(h.top hne).2]; rfl)
   show elt (s.low.set _ _) r = elt s.idx r
   rw [eL r ((h.stk r).1 hrm).1.1]
   have := h.lr hne
   split
   · rename_i e; subst e; omega
   · exact this
theorem TI.pop (h : TI N nx r s) {cs : List (Int × Int)} {v i : Int} (hc : s.calls = cs ++ [(v, i)]) : TI N nx r { s with calls := cs } ∧ v ∈ s.stk ∧ (cs = [] → v = r ∧ elt s.low v = elt s.idx v) := by
 have hne : s.calls ≠ [] := by rw [hc]; simp
 have hsub : (cs.map (·.1) ++ [v]).Sublist s.stk := by have := h.sub; rw [hc, List.map_append] at this; exact this
 refine ⟨⟨h.li, h.ll, h.lp, h.cn, h.ile, h.stk, h.nd, h.pr, (List.sublist_append_left _ _).trans hsub, fun c hc2 => h.ci c (by rw [hc]; exact List.mem_append_left _ hc2), fun hcs => ?_, h.low', fun _ => h.lr hne⟩, hsub.subset (by simp), fun he => ?_⟩
 · have ht := h.top hne
   rw [hc, List.map_append] at ht
   show (cs.map (·.1)).head? = some r ∧ _
   cases cs with
   | nil => exact absurd rfl hcs
   | cons c cs => exact ⟨ht.1, ht.2⟩
 · have ht := (h.top hne).1
   rw [hc, he] at ht
   have hv : v = r := by simpa using ht
   refine ⟨hv, ?_⟩
   rw [hv]; exact h.lr hne
theorem zH {cs A B : List Int} {v : Int} (hs : (cs ++ [v]).Sublist (A ++ v :: B)) (hn : (A ++ v :: B).Nodup) : cs.Sublist A := by
 obtain ⟨l1, l2, e, h1, h2⟩ := List.append_sublist_iff.1 hs
 have hv2 : v ∈ l2 := h2.subset (by simp)
 -- v is not in A, so l1 is a beginning of A
 have hvA : v ∉ A := fun h => by
   rw [List.nodup_append] at hn
   exact hn.2.2 v h v (by simp) rfl
 by_cases hl : l1.length ≤ A.length
 · have : l1 = A.take l1.length := by
     have h3 := congrArg (List.take l1.length) e
     rw [List.take_append_of_le_length hl, List.take_append_of_le_length (Nat.le_refl _), List.take_length] at h3
     exact h3.symm
   rw [this] at h1
   exact h1.trans (List.take_sublist _ _)
 · exfalso
   have hv1 : v ∈ l1 := by
     have h3 : l1[A.length]? = some v := by
       have h4 : (l1 ++ l2)[A.length]? = some v := by rw [← e]; simp
       rw [List.getElem?_append_left (by omega)] at h4; exact h4
     exact List.mem_of_getElem? h3
   rw [e, List.nodup_append] at hn
   exact hn.2.2 v hv1 v hv2 rfl
def dZ (l : List Int) (u : Int) (p : List Int) : List Int := p.foldl (fun b w => b.set w.toNat u) l
theorem qz (u : Int) (p : List Int) : ∀ l : List Int, (dZ l u p).length = l.length := by
 induction p with
 | nil => intro l; rfl
 | cons w p ih => intro l; show (dZ _ u p).length = _; rw [ih, List.length_set]
theorem qu {u : Int} (p : List Int) : ∀ (l : List Int), (∀ w ∈ p, 0 ≤ w ∧ w < l.length) → ∀ x, 0 ≤ x → elt (dZ l u p) x = if x ∈ p then u else elt l x := by
 induction p with
 | nil => intro l _ x _; simp [dZ]
 | cons w p ih =>
   intro l hl x hx
   have hw := hl w List.mem_cons_self
   show elt (dZ (l.set w.toNat u) u p) x = _
   rw [ih _ (fun y hy => by rw [List.length_set]; exact hl y (List.mem_cons_of_mem _ hy)) x hx]
   by_cases hxp : x ∈ p
   · rw [if_pos hxp, if_pos (List.mem_cons_of_mem _ hxp)]
   · rw [if_neg hxp, gk hw.1 hw.2 hx]
     by_cases e : w = x
     · rw [if_pos e, if_pos (by rw [e]; exact List.mem_cons_self)]
     · rw [if_neg e, if_neg (fun h => (List.mem_cons.1 h).elim (fun h => e h.symm) hxp)]
theorem TI.close (h : TI N nx r s) {A B p : List Int} {v : Int} (hs : s.stk = A ++ v :: B) (hsub : (s.calls.map (·.1) ++ [v]).Sublist s.stk) (hp : ∀ x, x ∈ p ↔ x ∈ v :: B) :
   TI N nx r { s with stk := A, part := dZ s.part ((s.np : Int) + 1) p, np := s.np + 1 } ∧ (v = r → s.calls = [] → s.stk.head? = some r → A = []) := by
 have hnd := h.nd
 rw [hs] at hnd
 have hlp := h.lp
 have hpr : ∀ w ∈ p, 0 ≤ w ∧ w < s.part.length := fun w hw => by
   have := ((h.stk w).1 (by rw [hs]; exact List.mem_append_right _ ((hp w).1 hw))).1
   rw [hlp]; exact this
 have eP : ∀ x, 0 ≤ x → elt (dZ s.part ((s.np : Int) + 1) p) x = if x ∈ p then (s.np : Int) + 1 else elt s.part x := qu p s.part hpr
 have hA : ∀ x, x ∈ A ↔ x ∈ s.stk ∧ x ∉ p := fun x => by
   rw [hs, hp, List.mem_append]
   rw [List.nodup_append] at hnd
   exact ⟨fun hx => ⟨.inl hx, fun h2 => hnd.2.2 x hx x h2 rfl⟩, fun ⟨h1, h2⟩ => h1.resolve_right h2⟩
 have hsubA : (s.calls.map (·.1)).Sublist A := zH (by rw [← hs]; exact hsub) hnd
 refine ⟨⟨h.li, h.ll, by show (dZ _ _ _).length = N; rw [qz]; exact hlp, h.cn, h.ile, ?_, ?_, ?_, hsubA, h.ci, ?_, ?_, h.lr⟩, ?_⟩
 · intro x
   show x ∈ A ↔ _ ∧ _ ∧ elt (dZ _ _ _) x = 0
   rw [hA, h.stk x]
   constructor
   · rintro ⟨⟨h1, h2, h3⟩, h4⟩; exact ⟨h1, h2, by rw [eP x h1.1, if_neg h4]; exact h3⟩
   · rintro ⟨h1, h2, h3⟩
     rw [eP x h1.1] at h3
     split at h3
     · omega
     · rename_i h4; exact ⟨⟨h1, h2, h3⟩, h4⟩
 · rw [List.nodup_append] at hnd; exact hnd.1
 · intro x hx hxN
   show 0 ≤ elt (dZ _ _ _) x ∧ elt (dZ _ _ _) x ≤ ((s.np + 1 : Nat) : Int) ∧ (_ → elt (dZ _ _ _) x = 0)
   rw [eP x hx]
   have := h.pr x hx hxN
   split
   · rename_i h4
     refine ⟨by omega, by omega, fun h0 => ?_⟩
     have := ((h.stk x).1 (by rw [hs]; exact List.mem_append_right _ ((hp x).1 h4))).2.1
     exact absurd h0 this
   · exact ⟨this.1, by omega, this.2.2⟩
 · intro hne
   have ht := h.top hne
   refine ⟨ht.1, ?_⟩
   show A.head? = some r
   have h2 := ht.2
   rw [hs] at h2
   cases A with
   | nil =>
     have := List.eq_nil_of_sublist_nil hsubA
     exact absurd (List.map_eq_nil_iff.1 this) hne
   | cons a A => exact h2
 · intro x hx; exact h.low' x ((hA x).1 hx).1
 · intro hv _ hhd
   rw [hs] at hhd
   cases A with
   | nil => rfl
   | cons a A =>
     exfalso
     have : a = r := by simpa using hhd
     rw [List.nodup_append] at hnd
     exact hnd.2.2 a List.mem_cons_self v List.mem_cons_self (this.trans hv.symm)
def tmu (N : Nat) (nx : List (List Int)) (s : TS) : Nat := ((List.range N).map fun v : Nat => if elt s.idx (v : Int) = 0 then (elt nx (v : Int)).length + 2 else 0).sum + (s.calls.map fun c => (elt nx c.1).length - c.2.toNat + 1).sum
theorem ye {f g : Nat → Nat} {w : Nat} : ∀ l : List Nat, l.Nodup → w ∈ l → (∀ x ∈ l, x ≠ w → f x = g x) → g w = 0 → (l.map g).sum + f w = (l.map f).sum
 | [], _, h, _, _ => by cases h
 | a :: l, hn, hw, hf, h0 => by
   rw [List.nodup_cons] at hn
   rw [List.map_cons, List.map_cons, List.sum_cons, List.sum_cons]
   by_cases ha : a = w
   · subst ha
     have : l.map g = l.map f := List.map_congr_left fun x hx => (hf x (List.mem_cons_of_mem _ hx) fun e => hn.1 (e ▸ hx)).symm
     rw [this, h0]; omega
   · have h1 := ye l hn.2 ((List.mem_cons.1 hw).resolve_left fun e => ha e.symm) (fun x hx => hf x (List.mem_cons_of_mem _ hx)) h0
     rw [hf a List.mem_cons_self ha]; omega
theorem zI (h : TI N nx r s) {w : Int} (hw : 0 ≤ w ∧ w < N) (h0 : elt s.idx w = 0) : tmu N nx (eV s w) + 1 = tmu N nx s := by
 have hli := h.li
 have hc0 := h.cnt0
 have eI : ∀ v, 0 ≤ v → elt (eV s w).idx v = if w = v then s.cnt + 1 else elt s.idx v := fun v hv => gk hw.1 (by omega) hv
 unfold tmu
 have h1 := ye (f := fun v : Nat => if elt s.idx (v : Int) = 0 then (elt nx (v : Int)).length + 2 else 0) (g := fun v : Nat => if elt (eV s w).idx (v : Int) = 0 then (elt nx (v : Int)).length + 2 else 0) (w := w.toNat) (List.range N) List.nodup_range (List.mem_range.2 (by omega)) (fun x _ hx => by
   have e : elt (eV s w).idx (x : Int) = elt s.idx (x : Int) := by rw [eI _ (Int.natCast_nonneg x), if_neg (by omega)]
   rw [e]) (by
   have e : elt (eV s w).idx (w.toNat : Int) = s.cnt + 1 := by rw [eI _ (Int.natCast_nonneg _), if_pos (by omega)]
   rw [e, if_neg (by omega)])
 rw [Int.toNat_of_nonneg hw.1, if_pos h0] at h1
 rw [show (eV s w).calls = s.calls ++ [(w, 0)] from rfl, List.map_append, List.sum_append]
 simp only [List.map_cons, List.map_nil, List.sum_cons, List.sum_nil]
 simp
 omega
theorem acm {cs : List (Int × Int)} {v i : Int} (hc : s.calls = cs ++ [(v, i)]) (h0 : 0 ≤ i) (hi : i < (elt nx v).length) : tmu N nx { s with calls := cs ++ [(v, i + 1)] } + 1 = tmu N nx s := by
 unfold tmu
 rw [hc, List.map_append, List.map_append, List.sum_append, List.sum_append]
 simp only [List.map_cons, List.map_nil, List.sum_cons, List.sum_nil]
 omega
theorem acL {cs : List (Int × Int)} {v i : Int} (hc : s.calls = cs ++ [(v, i)]) : tmu N nx { s with calls := cs } + 1 ≤ tmu N nx s := by
 unfold tmu
 rw [hc, List.map_append, List.sum_append]
 simp only [List.map_cons, List.map_nil, List.sum_cons, List.sum_nil]
 omega
end
end Go.Lv

