/- Parts of the proof, in build order. No condition. -/
import Derived.Test.YtahgkiicjohonaaGreatXa06
import Derived.Test.YtahgkiicjohonaaGreatRows
set_option linter.unusedSimpArgs false
set_option linter.unusedVariables false
set_option maxHeartbeats 1000000
set_option maxRecDepth 20000
namespace Go.Lv
open Go.Sy
def tc (us : List (List Int)) (p : Int) : Nat := ((List.range us.length).map fun q : Nat => (elt us (q : Int)).count p).sum
def dnU (us : List (List Int)) (D : List Int) (p : Int) : Nat := (D.map fun q => (elt us q).count p).sum
theorem dV (f : Nat → Nat) : ∀ (D R : List Nat), D.Nodup → (∀ q ∈ D, q ∈ R) → (D.map f).sum ≤ (R.map f).sum
 | [], _, _, _ => Nat.zero_le _
 | q :: D, R, hn, hs => by
   rw [List.nodup_cons] at hn
   have hq := hs q List.mem_cons_self
   have h1 := dV f D (R.erase q) hn.2 (fun x hx => (List.mem_erase_of_ne (a := x) (b := q) (fun e => hn.1 (by rw [← e]; exact hx))).2 (hs x (List.mem_cons_of_mem _ hx)))
   have h2 : (R.map f).sum = f q + ((R.erase q).map f).sum := by
     have := (List.perm_cons_erase hq).map f
     rw [this.sum_nat]; simp
   rw [List.map_cons, List.sum_cons, h2]; omega
theorem ei {D : List Int} (hn : D.Nodup) (h0 : ∀ q ∈ D, 0 ≤ q) : (D.map Int.toNat).Nodup := by
 induction D with
 | nil => simp
 | cons q D ih =>
   rw [List.nodup_cons] at hn
   rw [List.map_cons, List.nodup_cons]
   refine ⟨fun hm => ?_, ih hn.2 fun x hx => h0 x (List.mem_cons_of_mem _ hx)⟩
   obtain ⟨x, hx, e⟩ := List.mem_map.1 hm
   have h1 := h0 x (List.mem_cons_of_mem _ hx)
   have h2 := h0 q List.mem_cons_self
   have : x = q := by omega
   exact hn.1 (this ▸ hx)
theorem zY {us : List (List Int)} {D : List Int} {p : Int} (hn : D.Nodup) (hr : ∀ q ∈ D, 0 ≤ q ∧ q < us.length) : dnU us D p ≤ tc us p := by
 have h := dV (fun q : Nat => (elt us (q : Int)).count p) (D.map Int.toNat) (List.range us.length) (ei hn fun q hq => (hr q hq).1) (fun q hq => by
   obtain ⟨x, hx, e⟩ := List.mem_map.1 hq
   have := hr x hx
   exact List.mem_range.2 (by omega))
 have e : dnU us D p = ((D.map Int.toNat).map fun q : Nat => (elt us (q : Int)).count p).sum := by
   unfold dnU
   rw [List.map_map]
   refine congrArg List.sum (List.map_congr_left fun q hq => ?_)
   show _ = (elt us ((q.toNat : Nat) : Int)).count p
   rw [Int.toNat_of_nonneg (hr q hq).1]
 unfold tc; rw [e]; exact h
structure KI (M : Nat) (us : List (List Int)) (w : List Int) (D H : List Int) (seen : List Int) : Prop where
 lw : w.length = M + 1
 lu : us.length = M + 1
 ur : ∀ q : Nat, ∀ p ∈ elt us (q : Int), 1 ≤ p ∧ p ≤ M
 nd : (D ++ H).Nodup
 rg : ∀ p ∈ D ++ H, 1 ≤ p ∧ p ≤ M
 wt : ∀ p : Int, 1 ≤ p → p ≤ M → elt w p = tc us p - dnU us D p - seen.count p
 zr : ∀ p : Int, 1 ≤ p → p ≤ M → (p ∈ D ++ H ↔ elt w p = 0)
section
variable {M : Nat} {us : List (List Int)} {w D H : List Int}
theorem KI.len (h : KI M us w D H []) : D.length ≤ M := by
 have hn : D.Nodup := by have := h.nd; rw [List.nodup_append] at this; exact this.1
 have hr : ∀ q ∈ D, 1 ≤ q ∧ q ≤ M := fun q hq => h.rg q (List.mem_append_left _ hq)
 have h1 := dV (fun _ => 1) (D.map Int.toNat) (List.range' 1 M) (ei hn fun q hq => by have := hr q hq; omega) (fun q hq => by
   obtain ⟨x, hx, e⟩ := List.mem_map.1 hq
   have := hr x hx
   exact List.mem_range'_1.2 (by omega))
 have e : ∀ l : List Nat, (l.map fun _ => 1).sum = l.length := fun l => by induction l with
   | nil => rfl
   | cons a l ih => rw [List.map_cons, List.sum_cons, ih, List.length_cons]; omega
 rw [e, e, List.length_map, List.length_range'] at h1
 exact h1
theorem KI.perm (h : KI M us w D H []) {H' : List Int} (hp : H'.Perm H) : KI M us w D H' [] :=
 ⟨h.lw, h.lu, h.ur, (hp.append_left D).nodup_iff.2 h.nd, fun p hm => h.rg p ((hp.append_left D).mem_iff.1 hm), h.wt, fun p h1 h2 => ((hp.append_left D).mem_iff).trans (h.zr p h1 h2)⟩
theorem KI.pos {q p : Int} {j : Nat} (h : KI M us w D (q :: H) ((elt us q).take j)) (hp : (elt us q)[j]? = some p) : (1 ≤ p ∧ p ≤ M) ∧ 1 ≤ elt w p ∧ p ∉ D ++ q :: H := by
 have hq : 1 ≤ q ∧ q ≤ M := h.rg q (by simp)
 have hpr : 1 ≤ p ∧ p ≤ M := by
   have := h.ur q.toNat p (by rw [Int.toNat_of_nonneg (by omega)]; exact List.mem_of_getElem? hp)
   exact this
 have hn2 : (D ++ [q]).Nodup := by
   have h1 : (D ++ [q]).Sublist (D ++ q :: H) := List.Sublist.append (List.Sublist.refl _) (by simp)
   exact h1.nodup h.nd
 have hle := zY (us := us) (D := D ++ [q]) (p := p) hn2 (fun x hx => by
   have hlu := h.lu
   rcases List.mem_append.1 hx with h1 | h1
   · have := h.rg x (List.mem_append_left _ h1); omega
   · rw [List.mem_singleton.1 h1]; omega)
 have e : dnU us (D ++ [q]) p = dnU us D p + (elt us q).count p := by unfold dnU; simp
 have hc : ((elt us q).take j).count p + 1 ≤ (elt us q).count p := by
   have h1 : ((elt us q).take (j + 1)).count p ≤ (elt us q).count p := (List.take_sublist _ _).count_le _
   rw [List.take_add_one, hp, List.count_append] at h1
   simpa using h1
 have hw := h.wt p hpr.1 hpr.2
 have h1 : 1 ≤ elt w p := by omega
 exact ⟨hpr, h1, fun hm => by have := (h.zr p hpr.1 hpr.2).1 hm; omega⟩
theorem KI.step {q p : Int} {j : Nat} (h : KI M us w D (q :: H) ((elt us q).take j)) (hp : (elt us q)[j]? = some p) :
   KI M us (w.set p.toNat (elt w p - 1)) D (if elt w p - 1 = 0 then q :: p :: H else q :: H) ((elt us q).take (j + 1)) := by
 obtain ⟨hpr, hge, hno⟩ := h.pos hp
 have hlw := h.lw
 have eW : ∀ x, 0 ≤ x → elt (w.set p.toNat (elt w p - 1)) x = if p = x then elt w p - 1 else elt w x := fun x hx => gk (by omega) (by omega) hx
 have hmem : ∀ x, x ∈ (if elt w p - 1 = 0 then q :: p :: H else q :: H) ↔ x ∈ q :: H ∨ (elt w p - 1 = 0 ∧ x = p) := fun x => by
   split
   · rename_i h0
     simp only [List.mem_cons, h0, true_and]
     constructor
     · rintro (a | a | a)
       · exact .inl (.inl a)
       · exact .inr a
       · exact .inl (.inr a)
     · rintro ((a | a) | a)
       · exact .inl a
       · exact .inr (.inr a)
       · exact .inr (.inl a)
   · rename_i h0; simp [h0]
 refine ⟨by rw [List.length_set]; exact hlw, h.lu, h.ur, ?_, ?_, ?_, ?_⟩
 · split
   · have h1 : (p :: (D ++ q :: H)).Nodup := List.nodup_cons.2 ⟨hno, h.nd⟩
     have h2 : (D ++ q :: p :: H).Perm (p :: (D ++ q :: H)) := by
       have h3 : (D ++ q :: p :: H).Perm (D ++ p :: q :: H) := (List.Perm.swap p q H).append_left D
       exact h3.trans List.perm_middle
     exact h2.nodup_iff.2 h1
   · exact h.nd
 · intro x hx
   rcases List.mem_append.1 hx with h1 | h1
   · exact h.rg x (List.mem_append_left _ h1)
   · rcases (hmem x).1 h1 with h2 | ⟨_, h2⟩
     · exact h.rg x (List.mem_append_right _ h2)
     · rw [h2]; exact hpr
 · intro x h1 h2
   have hx := h.wt x h1 h2
   rw [eW x (by omega), List.take_add_one, hp, List.count_append]
   simp only [Option.toList_some, List.count_singleton, beq_iff_eq]
   split
   · rename_i e; subst e; omega
   · omega
 · intro x h1 h2
   rw [eW x (by omega), List.mem_append, hmem]
   have hz := h.zr x h1 h2
   rw [List.mem_append] at hz
   split
   · rename_i e; subst e
     constructor
     · rintro (a | a | a)
       · exact absurd (List.mem_append_left _ a) hno
       · exact absurd (List.mem_append_right _ a) hno
       · exact a.1
     · intro a; exact .inr (.inr ⟨a, rfl⟩)
   · rename_i e
     rw [← hz]
     constructor
     · rintro (a | a | a)
       · exact .inl a
       · exact .inr a
       · exact absurd a.2.symm e
     · rintro (a | a)
       · exact .inl a
       · exact .inr (.inl a)
theorem KI.done {q : Int} {j : Nat} (h : KI M us w D (q :: H) ((elt us q).take j)) (hj : (elt us q).length ≤ j) : KI M us w (D ++ [q]) H [] := by
 have hp : (D ++ [q] ++ H).Perm (D ++ q :: H) := by simp
 refine ⟨h.lw, h.lu, h.ur, hp.nodup_iff.2 h.nd, fun p hm => h.rg p (hp.mem_iff.1 hm), fun p h1 h2 => ?_, fun p h1 h2 => hp.mem_iff.trans (h.zr p h1 h2)⟩
 have := h.wt p h1 h2
 rw [List.take_of_length_le hj] at this
 have e : dnU us (D ++ [q]) p = dnU us D p + (elt us q).count p := by unfold dnU; simp
 rw [this, e]; simp; omega
end
structure PL (N : Nat) (part : List Int) (ps : List (List Int)) : Prop where
 ne : ∀ (k : Nat) (p : List Int), ps[k]? = some p → p ≠ [] ∧ p.Nodup
 of : ∀ (k : Nat) (p : List Int), ps[k]? = some p → ∀ x ∈ p, (0 ≤ x ∧ x < N) ∧ elt part x = (k : Int) + 1
section
variable {N : Nat} {nx : List (List Int)} {r : Int} {s : TS}
theorem PL.close {ps : List (List Int)} (hP : PL N s.part ps) (h : TI N nx r s) (hn : s.np = ps.length) {A B p : List Int} {v : Int} (hs : s.stk = A ++ v :: B) (hp : p.Perm (v :: B)) : PL N (dZ s.part ((s.np : Int) + 1) p) (ps ++ [p]) := by
 have hnd := h.nd
 rw [hs, List.nodup_append] at hnd
 have hst : ∀ x ∈ p, (0 ≤ x ∧ x < (N : Int)) ∧ elt s.part x = 0 := fun x hx => by
   have := (h.stk x).1 (by rw [hs]; exact List.mem_append_right _ (hp.mem_iff.1 hx))
   exact ⟨this.1, this.2.2⟩
 have hlp := h.lp
 have eP : ∀ x, 0 ≤ x → elt (dZ s.part ((s.np : Int) + 1) p) x = if x ∈ p then (s.np : Int) + 1 else elt s.part x := qu p s.part fun w hw => by rw [hlp]; exact (hst w hw).1
 constructor
 · intro k q hq
   rcases Nat.lt_or_ge k ps.length with hk | hk
   · rw [List.getElem?_append_left hk] at hq; exact hP.ne k q hq
   · have hk2 : k = ps.length := by have := (List.getElem?_eq_some_iff.1 hq).1; simp at this; omega
     subst hk2
     rw [List.getElem?_append_right (Nat.le_refl _), Nat.sub_self] at hq
     obtain rfl := Option.some.inj hq
     exact ⟨fun e => by have := hp.length_eq; rw [e] at this; simp at this, hp.nodup_iff.2 hnd.2.1⟩
 · intro k q hq x hx
   rcases Nat.lt_or_ge k ps.length with hk | hk
   · rw [List.getElem?_append_left hk] at hq
     have h1 := hP.of k q hq x hx
     rw [eP x h1.1.1, if_neg (fun hm => by have := (hst x hm).2; omega)]
     exact h1
   · have hk2 : k = ps.length := by have := (List.getElem?_eq_some_iff.1 hq).1; simp at this; omega
     subst hk2
     rw [List.getElem?_append_right (Nat.le_refl _), Nat.sub_self] at hq
     obtain rfl := Option.some.inj hq
     rw [eP x (hst x hx).1.1, if_pos hx, hn]
     exact ⟨(hst x hx).1, rfl⟩
theorem PL.short {part : List Int} {ps : List (List Int)} (hP : PL N part ps) {p : List Int} (hp : p ∈ ps) : p.length ≤ N := by
 obtain ⟨k, hk⟩ := List.getElem?_of_mem hp
 have h1 := (hP.ne k p hk).2
 have h2 := hP.of k p hk
 have h3 := dV (fun _ => 1) (p.map Int.toNat) (List.range N) (ei h1 fun q hq => (h2 q hq).1.1) (fun q hq => by
   obtain ⟨x, hx, e⟩ := List.mem_map.1 hq
   have := h2 x hx
   exact List.mem_range.2 (by omega))
 have e : ∀ l : List Nat, (l.map fun _ => 1).sum = l.length := fun l => by induction l with
   | nil => rfl
   | cons a l ih => rw [List.map_cons, List.sum_cons, ih, List.length_cons]; omega
 rw [e, e, List.length_map, List.length_range] at h3
 exact h3
end
structure WB (M : Nat) (w : List Int) (us : List (List Int)) : Prop where
 lw : w.length = M + 1
 lu : us.length = M + 1
 ur : ∀ q : Nat, ∀ p ∈ elt us (q : Int), 1 ≤ p ∧ p ≤ M
 wt : ∀ p : Int, 1 ≤ p → p ≤ M → elt w p = tc us p
theorem abQ {f g : Nat → Nat} {w d : Nat} : ∀ l : List Nat, l.Nodup → w ∈ l → (∀ x ∈ l, x ≠ w → g x = f x) → g w = f w + d → (l.map g).sum = (l.map f).sum + d
 | [], _, h, _, _ => by cases h
 | a :: l, hn, hw, hf, h0 => by
   rw [List.nodup_cons] at hn
   rw [List.map_cons, List.map_cons, List.sum_cons, List.sum_cons]
   by_cases ha : a = w
   · subst ha
     have : l.map g = l.map f := List.map_congr_left fun x hx => hf x (List.mem_cons_of_mem _ hx) fun e => hn.1 (e ▸ hx)
     rw [this, h0]; omega
   · have h1 := abQ l hn.2 ((List.mem_cons.1 hw).resolve_left fun e => ha e.symm) (fun x hx => hf x (List.mem_cons_of_mem _ hx)) h0
     rw [hf a List.mem_cons_self ha]; omega
theorem aaB {l : List (List Int)} {q : Int} {y : List Int} (h0 : 0 ≤ q) (h1 : q < l.length) {x : Int} (hx : 0 ≤ x) : elt (l.set q.toNat y) x = if q = x then y else elt l x := by
 unfold elt
 rw [List.getD_eq_getElem?_getD, List.getD_eq_getElem?_getD, List.getElem?_set]
 by_cases h : q = x
 · subst h; rw [if_pos rfl, if_pos (by omega), if_pos rfl]; rfl
 · rw [if_neg (by omega), if_neg h]
theorem WB.step {M : Nat} {w : List Int} {us : List (List Int)} (h : WB M w us) {p q : Int} (hp : 1 ≤ p ∧ p ≤ M) (hq : 1 ≤ q ∧ q ≤ M) : WB M (w.set p.toNat (elt w p + 1)) (us.set q.toNat (elt us q ++ [p])) := by
 have hlw := h.lw
 have hlu := h.lu
 have eU : ∀ x : Int, 0 ≤ x → elt (us.set q.toNat (elt us q ++ [p])) x = if q = x then elt us q ++ [p] else elt us x := fun x hx => aaB (by omega) (by omega) hx
 refine ⟨by rw [List.length_set]; exact hlw, by rw [List.length_set]; exact hlu, fun k x hx => ?_, fun x h1 h2 => ?_⟩
 · rw [eU _ (Int.natCast_nonneg k)] at hx
   split at hx
   · rcases List.mem_append.1 hx with h1 | h1
     · have := h.ur q.toNat x (by rw [Int.toNat_of_nonneg (by omega)]; exact h1)
       exact this
     · rw [List.mem_singleton.1 h1]; exact hp
   · exact h.ur k x hx
 · rw [gk (by omega) (by omega) (by omega)]
   have hw := h.wt x h1 h2
   have ht : tc (us.set q.toNat (elt us q ++ [p])) x = tc us x + if p = x then 1 else 0 := by
     unfold tc
     rw [List.length_set]
     refine abQ (w := q.toNat) (List.range us.length) List.nodup_range (List.mem_range.2 (by omega)) (fun y _ hy => ?_) ?_
     · rw [eU _ (Int.natCast_nonneg y), if_neg (by omega)]
     · rw [eU _ (Int.natCast_nonneg _), if_pos (by omega), Int.toNat_of_nonneg (by omega), List.count_append, List.count_singleton]
       simp only [beq_iff_eq]
   rw [ht]
   split
   · rename_i e; subst e; rw [hw]; omega
   · rw [hw]; omega
theorem WB.start (M : Nat) : WB M (List.replicate (M + 1) 0) (List.replicate (M + 1) []) := by
 have e : ∀ q : Int, elt (List.replicate (M + 1) ([] : List Int)) q = [] := fun q => by
   unfold elt
   rw [List.getD_eq_getElem?_getD, List.getElem?_replicate]
   split <;> rfl
 refine ⟨by simp, by simp, fun q p hp => (by rw [e] at hp; cases hp), fun p _ _ => ?_⟩
 have h1 : tc (List.replicate (M + 1) []) p = 0 := by
   unfold tc
   have : ∀ l : List Nat, (l.map fun q : Nat => (elt (List.replicate (M + 1) ([] : List Int)) (q : Int)).count p).sum = 0 := fun l => by
     induction l with
     | nil => rfl
     | cons a l ih => rw [List.map_cons, List.sum_cons, ih, e]; rfl
   exact this _
 rw [h1]
 unfold elt
 rw [List.getD_eq_getElem?_getD, List.getElem?_replicate]
 split <;> rfl
theorem KI.start {M : Nat} {w : List Int} {us : List (List Int)} (h : WB M w us) {H : List Int} (hn : H.Nodup) (hr : ∀ p ∈ H, 1 ≤ p ∧ p ≤ M) (hz : ∀ p : Int, 1 ≤ p → p ≤ M → (p ∈ H ↔ elt w p = 0)) : KI M us w [] H [] :=
 ⟨h.lw, h.lu, h.ur, hn, hr, fun p h1 h2 => by rw [h.wt p h1 h2]; simp [dnU], hz⟩
end Go.Lv

namespace Go.Lv
def lF : Nat → Nat → List UInt8
 | 0, _ => []
 | k + 1, m => if m < 128 then [UInt8.ofNat m] else UInt8.ofNat (m % 128 + 128) :: lF k (m / 128)
abbrev aO (m : Nat) : List UInt8 := lF 10 m
def fK : Nat → List UInt8 → Option (Nat × List UInt8)
 | 0, _ => none
 | _ + 1, [] => none
 | k + 1, c :: l => if k = 0 ∧ 1 < c.toNat then none else if c.toNat < 128 then (if c.toNat = 0 ∧ k < 9 then none else some (c.toNat, l)) else (fK k l).map fun p => (c.toNat % 128 + 128 * p.1, p.2)
theorem zu {m : Nat} (h : m < 256) : (UInt8.ofNat m).toNat = m := by rw [UInt8.toNat_ofNat']; omega
theorem ey : ∀ (k m : Nat), (lF k m).length ≤ k
 | 0, _ => Nat.le_refl _
 | k + 1, m => by
   unfold lF; split
   · simp
   · rw [List.length_cons]; have := ey k (m / 128); omega
theorem qw (k m : Nat) : 1 ≤ (lF (k + 1) m).length := by
 unfold lF; split
 · simp
 · rw [List.length_cons]; omega
theorem pA (m : Nat) : 1 ≤ (aO m).length := qw 9 m
theorem ru : ∀ (k m : Nat) (t : List UInt8), m < 2 * 128 ^ k → (k < 9 → m ≠ 0) → fK (k + 1) (lF (k + 1) m ++ t) = some (m, t)
 | k, m, t, h, h0 => by
   unfold lF
   split
   · rename_i hm
     rw [List.singleton_append]
     unfold fK
     rw [zu (by omega), if_neg (fun ⟨e, h1⟩ => by subst e; omega), if_pos hm, if_neg fun ⟨e, h1⟩ => h0 h1 e]
   · rename_i hm
     rw [List.cons_append]
     cases k with
     | zero => omega
     | succ k =>
       unfold fK
       have hd : m / 128 < 2 * 128 ^ k := by
         rw [Nat.pow_succ] at h
         exact Nat.div_lt_of_lt_mul (by omega)
       rw [zu (by omega), if_neg (fun ⟨e, _⟩ => by omega), if_neg (by omega), ru k (m / 128) t hd (fun _ => by omega)]
       simp only [Option.map_some, Option.some.injEq, Prod.mk.injEq, and_true]
       omega
theorem xG {m : Nat} (h : m < 18446744073709551616) (t : List UInt8) : fK 10 (aO m ++ t) = some (m, t) := ru 9 m t (Nat.lt_of_lt_of_le h (by decide)) (fun h => by omega)
theorem rA : ∀ (k : Nat) (l : List UInt8) (m : Nat) (t : List UInt8), fK (k + 1) l = some (m, t) → m < 2 * 128 ^ k ∧ t.length < l.length
 | k, [], m, t, h => by simp [fK] at h
 | k, c :: l, m, t, h => by
   unfold fK at h
   split at h
   · cases h
   · rename_i h1
     split at h
     · rename_i h2
       split at h
       · cases h
       · simp only [Option.some.injEq, Prod.mk.injEq] at h
         obtain ⟨rfl, rfl⟩ := h
         refine ⟨?_, by simp⟩
         cases k with
         | zero => simp at h1; omega
         | succ k => have : 0 < 128 ^ k := Nat.pow_pos (by decide); rw [Nat.pow_succ]; omega
     · cases k with
       | zero => simp at h1; omega
       | succ k =>
         obtain ⟨⟨m1, t1⟩, h3, h4⟩ := Option.map_eq_some_iff.1 h
         simp only [Prod.mk.injEq] at h4
         obtain ⟨rfl, rfl⟩ := h4
         have := rA k l m1 t1 h3
         refine ⟨by rw [Nat.pow_succ]; omega, by rw [List.length_cons]; omega⟩
theorem mB {l : List UInt8} {m : Nat} {t : List UInt8} (h : fK 10 l = some (m, t)) : m < 18446744073709551616 ∧ t.length < l.length := by
 have := rA 9 l m t h
 exact ⟨Nat.lt_of_lt_of_le this.1 (by decide), this.2⟩
def zz (z : Int) : Nat := if z < 0 then (2 * (-z - 1) + 1).toNat else (2 * z).toNat
def s6 (m : Nat) : Int := if m % 2 = 1 then -(m / 2 : Nat) - 1 else (m / 2 : Nat)
abbrev I64 (z : Int) : Prop := -9223372036854775808 ≤ z ∧ z ≤ 9223372036854775807
theorem xR {z : Int} (h : I64 z) : zz z < 18446744073709551616 := by unfold zz; unfold I64 at h; split <;> omega
theorem acC (z : Int) : s6 (zz z) = z := by unfold s6 zz; split <;> split <;> omega
theorem ab9 {m : Nat} (h : m < 18446744073709551616) : I64 (s6 m) := by unfold s6 I64; split <;> omega
inductive CS
 | W (out : List UInt8)
 | R (rest : List UInt8) (bad : Bool)
def CS.len : CS → Nat
 | .W _ => 0
 | .R r _ => r.length
def CS.fails : CS → Bool
 | .W _ => false
 | .R r b => r.isEmpty && b
structure Cod (α : Type) where
 one : CS → α → CS × α
 enc : α → List UInt8
 zero : α
 ok : α → Prop
 K : Nat
 w : ∀ a x, one (.W a) x = (.W (a ++ enc x), x)
 r : ∀ x t, ok x → one (.R (enc x ++ t) false) zero = (.R t false, x)
 rd : ∀ r b, r.length ≤ 4611686018427387904 → ∃ r' b', (one (.R r b) zero).1 = .R r' b' ∧ r'.length ≤ r.length ∧ ok (one (.R r b) zero).2 ∧ (enc (one (.R r b) zero).2).length ≤ 10 * (r.length - r'.length) + (if (CS.R r' b').fails then K else 0)
 /-- each is read, or nothing more can be -/
 less : ∀ r b, r.length ≤ 4611686018427387904 → (one (.R r b) zero).1.len < r.length ∨ (one (.R r b) zero).1 = .R [] true
 pos : ∀ x, 1 ≤ (enc x).length
def iK (r : List UInt8) (b : Bool) : CS × Nat :=
 match fK 10 r with
 | some (m, t) => if m > 9223372036854775807 then (.R [] true, 0) else (.R t b, m)
 | none => (.R [] true, 0)
def l5 : CS → Int → CS × Int
 | .W a, z => (.W (a ++ aO (zz z)), z)
 | .R r b, _ => match fK 10 r with
   | some (m, t) => (.R t b, s6 m)
   | none => (.R [] true, 0)
def mf (r : List UInt8) (b : Bool) : CS × List UInt8 :=
 match iK r b with
 | (.R t b', n) => if n > t.length then (.R [] true, []) else (.R (t.drop n) b', t.take n)
 | s => (s.1, [])
def bytesOf (l : List UInt8) : ByteArray := ⟨l.toArray⟩
def gq (b : ByteArray) : List UInt8 := b.data.toList
theorem lX (b : ByteArray) : (gq b).length = b.size := rfl
def q3 (b : ByteArray) : List UInt8 := aO b.size ++ gq b
def rJ : CS → ByteArray → CS × ByteArray
 | .W a, z => (.W (a ++ q3 z), z)
 | .R r b, _ => ((mf r b).1, bytesOf (mf r b).2)
theorem yu {r t : List UInt8} {b : Bool} {m : Nat} (h : fK 10 r = some (m, t)) (hm : m ≤ 9223372036854775807) : iK r b = (.R t b, m) := by unfold iK; rw [h]; dsimp only; rw [if_neg (by omega)]
theorem uK {m : Nat} (h : m ≤ 9223372036854775807) (t : List UInt8) (b : Bool) : iK (aO m ++ t) b = (.R t b, m) := yu (xG (by omega) t) h
theorem iJ (r : List UInt8) (b : Bool) : (∃ t m, iK r b = (.R t b, m) ∧ fK 10 r = some (m, t) ∧ m ≤ 9223372036854775807 ∧ t.length < r.length) ∨ iK r b = (.R [] true, 0) := by
 unfold iK
 cases h : fK 10 r with
 | none => exact .inr rfl
 | some p =>
   obtain ⟨m, t⟩ := p
   dsimp only
   by_cases hm : m > 9223372036854775807
   · rw [if_pos hm]; exact .inr rfl
   · rw [if_neg hm]; exact .inl ⟨t, m, rfl, rfl, by omega, (mB h).2⟩
theorem nY (r : List UInt8) (b : Bool) : (∃ t n, iK r b = (.R t b, n) ∧ n ≤ t.length ∧ t.length < r.length ∧ mf r b = (.R (t.drop n) b, t.take n)) ∨ mf r b = (.R [] true, []) := by
 unfold mf
 rcases iJ r b with ⟨t, m, h, _, _, hl⟩ | h
 · rw [h]; dsimp only
   by_cases hm : m > t.length
   · rw [if_pos hm]; exact .inr rfl
   · rw [if_neg hm]; exact .inl ⟨t, m, rfl, by omega, hl, rfl⟩
 · rw [h]; dsimp only
   rw [if_neg (by simp)]
   exact .inr (by simp)
def ai : Cod Int where
 one := l5
 enc z := aO (zz z)
 zero := 0
 ok := I64
 K := 10
 w _ _ := rfl
 r z t h := by unfold l5; dsimp only; rw [xG (xR h)]; dsimp only; rw [acC]
 rd r b hr := by
   unfold l5; dsimp only
   cases h : fK 10 r with
   | none => exact ⟨[], true, rfl, Nat.zero_le _, by dsimp only; unfold I64; omega, Nat.le_trans (ey 10 _) (Nat.le_add_left 10 _)⟩
   | some p => have := mB h; exact ⟨p.2, b, rfl, by omega, ab9 this.1, Nat.le_trans (ey 10 _) (by omega)⟩
 less r b hr := by
   unfold l5; dsimp only
   cases h : fK 10 r with
   | none => exact .inr rfl
   | some p => exact .inl (mB h).2
 pos z := qw 9 _
theorem mo (b : ByteArray) : (q3 b).length = (aO b.size).length + b.size := by unfold q3; rw [List.length_append, lX]
def ak : Cod ByteArray where
 one := rJ
 enc := q3
 zero := .empty
 ok b := b.size ≤ 4611686018427387904
 K := 10
 w _ _ := rfl
 r b t h := by
   unfold rJ; dsimp only
   have e : mf (q3 b ++ t) false = (.R t false, gq b) := by
     unfold mf q3
     rw [List.append_assoc, uK (by omega)]
     dsimp only
     rw [if_neg (by rw [List.length_append, lX]; omega), ← lX, List.drop_left, List.take_left]
   rw [e]; rfl
 rd r b hr := by
   unfold rJ; dsimp only
   rcases nY r b with ⟨t, n, h1, h2, h3, h4⟩ | h4
   · rw [h4]
     refine ⟨t.drop n, b, rfl, by rw [List.length_drop]; omega, ?_, ?_⟩
     · show (t.take n).length ≤ _
       rw [List.length_take]; omega
     · rw [mo]
       have hn : n = (t.take n).length := by rw [List.length_take]; omega
       show (lF 10 (t.take n).length).length + (t.take n).length ≤ _
       rw [← hn, List.length_drop]
       have := ey 10 n
       omega
   · rw [h4]
     exact ⟨[], true, rfl, Nat.zero_le _, by decide, Nat.le_trans (by decide) (Nat.le_add_left 10 _)⟩
 less r b hr := by
   unfold rJ; dsimp only
   rcases nY r b with ⟨t, n, h1, h2, h3, h4⟩ | h4
   · rw [h4]; exact .inl (by show (t.drop n).length < _; rw [List.length_drop]; omega)
   · rw [h4]; exact .inr rfl
 pos b := by rw [mo]; have := pA b.size; omega
theorem acr {r : List UInt8} {b : Bool} : (CS.R r b).fails = true ↔ r = [] ∧ b = true := by unfold CS.fails; simp
theorem Cod.stays {α : Type} (A : Cod α) : (A.one (.R [] true) A.zero).1 = .R [] true := (A.less [] true (Nat.zero_le _)).resolve_left fun h => absurd h (Nat.not_lt_zero _)
def Cod.prod {α β : Type} (A : Cod α) (B : Cod β) : Cod (α × β) where
 one s x := ((B.one (A.one s x.1).1 x.2).1, ((A.one s x.1).2, (B.one (A.one s x.1).1 x.2).2))
 enc x := A.enc x.1 ++ B.enc x.2
 zero := (A.zero, B.zero)
 ok x := A.ok x.1 ∧ B.ok x.2
 K := A.K + B.K
 w a x := by rw [A.w, B.w, List.append_assoc]
 r x t h := by rw [List.append_assoc, A.r _ _ h.1, B.r _ _ h.2]
 rd r b hr := by
   obtain ⟨r1, b1, h1, h2, h3, h4⟩ := A.rd r b hr
   obtain ⟨r2, b2, k1, k2, k3, k4⟩ := B.rd r1 b1 (by omega)
   dsimp only
   rw [h1]
   refine ⟨r2, b2, k1, by omega, ⟨h3, k3⟩, ?_⟩
   rw [List.length_append]
   by_cases hf : (CS.R r1 b1).fails = true
   · obtain ⟨rfl, rfl⟩ := acr.1 hf
     rw [B.stays] at k1
     obtain ⟨rfl, rfl⟩ := CS.R.inj k1
     rw [if_pos hf] at h4 k4 ⊢
     omega
   · rw [if_neg hf] at h4
     split at k4 <;> rename_i h5
     · rw [if_pos h5]; omega
     · rw [if_neg h5]; omega
 less r b hr := by
   obtain ⟨r1, b1, h1, h2, h3, h4⟩ := A.rd r b hr
   have hl := A.less r b hr
   dsimp only
   rw [h1] at hl ⊢
   obtain ⟨r2, b2, k1, k2, k3, k4⟩ := B.rd r1 b1 (by omega)
   have kl := B.less r1 b1 (by omega)
   rw [k1] at kl ⊢
   rcases kl with kl | kl
   · exact .inl (Nat.lt_of_lt_of_le kl h2)
   · exact .inr kl
 pos x := by rw [List.length_append]; have := A.pos x.1; omega
def bK : Cod Bool where
 one s x := ((l5 s (if x then 1 else 0)).1, decide ((l5 s (if x then 1 else 0)).2 ≠ 0))
 enc x := aO (zz (if x then 1 else 0))
 zero := false
 ok _ := True
 K := 10
 w a x := by cases x <;> rfl
 r x t _ := by
   have := ai.r (if x then 1 else 0) t (by unfold ai; dsimp only; unfold I64; split <;> omega)
   unfold ai at this; dsimp only at this
   have e : (if false = true then (1 : Int) else 0) = 0 := rfl
   rw [e, this]; cases x <;> rfl
 rd r b hr := by
   obtain ⟨r', b', h1, h2, _⟩ := ai.rd r b hr
   have hl := ai.less r b hr
   have h1' : (l5 (.R r b) (if false = true then 1 else 0)).1 = .R r' b' := h1
   rw [h1] at hl
   refine ⟨r', b', h1', h2, trivial, ?_⟩
   have e : ∀ x : Bool, (aO (zz (if x = true then 1 else 0))).length = 1 := fun x => by cases x <;> rfl
   rw [e]
   rcases hl with hl | hl
   · have : r'.length < r.length := hl
     omega
   · rw [hl]; show 1 ≤ _ + 10; omega
 less r b hr := ai.less r b hr
 pos x := qw 9 _
def fH {α : Type} (A : Cod α) : Nat → CS → List α → CS × List α
 | 0, s, l => (s, l)
 | n + 1, s, l => if s.fails then (s, l) else fH A n (A.one s A.zero).1 (l ++ [(A.one s A.zero).2])
def gK {α : Type} (A : Cod α) (l : List α) : List UInt8 := (l.map A.enc).flatten
theorem nq {α : Type} (A : Cod α) (x : α) (l : List α) : gK A (x :: l) = A.enc x ++ gK A l := rfl
theorem j5 {α : Type} (A : Cod α) (l m : List α) : gK A (l ++ m) = gK A l ++ gK A m := by unfold gK; rw [List.map_append, List.flatten_append]
theorem aci {α : Type} (A : Cod α) (l : List α) : l.length ≤ (gK A l).length := by
 induction l with
 | nil => exact Nat.zero_le _
 | cons x l ih => rw [nq, List.length_append, List.length_cons]; have := A.pos x; omega
theorem xM {α : Type} (A : Cod α) : ∀ (l m : List α) (t : List UInt8), (∀ x ∈ l, A.ok x) → fH A l.length (.R (gK A l ++ t) false) m = (.R t false, m ++ l)
 | [], m, t, _ => by simp [fH, gK]
 | x :: l, m, t, h => by
   rw [List.length_cons]
   unfold fH
   rw [if_neg (by unfold CS.fails; simp), nq, List.append_assoc, A.r _ _ (h x (by simp)), xM A l _ t fun y hy => h y (by simp [hy]), List.append_assoc]; rfl
theorem kA {α : Type} (A : Cod α) (n : Nat) {s : CS} (h : s.fails = true) (l : List α) : fH A n s l = (s, l) := by
 cases n with
 | zero => rfl
 | succ n => unfold fH; rw [if_pos h]
theorem pb {α : Type} (A : Cod α) : ∀ (n : Nat) (r : List UInt8) (b : Bool) (l : List α), r.length ≤ 4611686018427387904 → (∀ x ∈ l, A.ok x) →
   ∃ r' b', (fH A n (.R r b) l).1 = .R r' b' ∧ r'.length ≤ r.length ∧ (∀ x ∈ (fH A n (.R r b) l).2, A.ok x) ∧ (gK A (fH A n (.R r b) l).2).length ≤ (gK A l).length + 10 * (r.length - r'.length) + (if (CS.R r' b').fails then A.K else 0) ∧
     (fH A n (.R r b) l).2.length ≤ l.length + (r.length - r'.length) + 1
 | 0, r, b, l, hr, hl => ⟨r, b, rfl, Nat.le_refl _, hl, by show (gK A l).length ≤ _; omega, by show l.length ≤ _; omega⟩
 | n + 1, r, b, l, hr, hl => by
   by_cases hf : (CS.R r b).fails = true
   · rw [kA A _ hf]; exact ⟨r, b, rfl, Nat.le_refl _, hl, by show (gK A l).length ≤ _; omega, by show l.length ≤ _; omega⟩
   · unfold fH
     rw [if_neg hf]
     obtain ⟨r1, b1, h1, h2, h3, h4⟩ := A.rd r b hr
     have hless := A.less r b hr
     have e : gK A [(A.one (.R r b) A.zero).2] = A.enc (A.one (.R r b) A.zero).2 := by simp [gK]
     rw [h1] at hless ⊢
     have hl1 : ∀ x ∈ l ++ [(A.one (.R r b) A.zero).2], A.ok x := fun x hx => (List.mem_append.1 hx).elim (hl x) fun h => by rw [List.mem_singleton.1 h]; exact h3
     by_cases hf1 : (CS.R r1 b1).fails = true
     · rw [kA A _ hf1]
       rw [if_pos hf1] at h4
       refine ⟨r1, b1, rfl, h2, hl1, ?_, ?_⟩
       · rw [j5, List.length_append, e, if_pos hf1]; omega
       · rw [List.length_append, List.length_singleton]; omega
     · rw [if_neg hf1] at h4
       have hlt : r1.length < r.length := hless.resolve_right fun h => hf1 (by rw [h]; rfl)
       obtain ⟨r2, b2, k1, k2, k3, k4, k5⟩ := pb A n r1 b1 (l ++ [(A.one (.R r b) A.zero).2]) (by omega) hl1
       refine ⟨r2, b2, k1, by omega, k3, ?_, ?_⟩
       · rw [j5, List.length_append, e] at k4
         omega
       · rw [List.length_append, List.length_singleton] at k5
         omega
def dw {α : Type} (A : Cod α) : Cod (List α) where
 one
   | .W a, l => (.W (a ++ (aO l.length ++ gK A l)), l)
   | .R r b, l => fH A (iK r b).2 (iK r b).1 l
 enc l := aO l.length ++ gK A l
 zero := []
 ok l := l.length ≤ 9223372036854775807 ∧ ∀ x ∈ l, A.ok x
 K := 10 + A.K
 w _ _ := rfl
 r l t h := by
   dsimp only
   rw [List.append_assoc, uK h.1]
   dsimp only
   rw [xM A l [] t h.2]; rfl
 rd r b hr := by
   dsimp only
   rcases iJ r b with ⟨t, m, h1, h2, h3, h4⟩ | h1
   · rw [h1]; dsimp only
     obtain ⟨r2, b2, k1, k2, k3, k4, k5⟩ := pb A m t b [] (by omega) fun x hx => by cases hx
     refine ⟨r2, b2, k1, by omega, ⟨by rw [List.length_nil] at k5; omega, k3⟩, ?_⟩
     rw [List.length_append]
     have := ey 10 (fH A m (.R t b) []).2.length
     have e : (gK A ([] : List α)).length = 0 := rfl
     rw [e] at k4
     show (lF 10 _).length + _ ≤ _
     split at k4 <;> rename_i h5
     · rw [if_pos h5]; omega
     · rw [if_neg h5]; omega
   · rw [h1]; dsimp only
     refine ⟨[], true, rfl, Nat.zero_le _, ⟨Nat.zero_le _, fun x hx => by cases hx⟩, ?_⟩
     show (aO 0 ++ gK A []).length ≤ _
     have e : (aO 0 ++ gK A []).length = 1 := rfl
     rw [e]
     show 1 ≤ _ + (10 + A.K)
     omega
 less r b hr := by
   dsimp only
   rcases iJ r b with ⟨t, m, h1, h2, h3, h4⟩ | h1
   · rw [h1]; dsimp only
     obtain ⟨r2, b2, k1, k2, _⟩ := pb A m t b [] (by omega) fun x hx => by cases hx
     rw [k1]
     exact .inl (Nat.lt_of_le_of_lt k2 h4)
   · rw [h1]; exact .inr rfl
 pos l := by rw [List.length_append]; have := pA l.length; omega
theorem Cod.inj {α : Type} (A : Cod α) {x y : α} {t u : List UInt8} (hx : A.ok x) (hy : A.ok y) (h : A.enc x ++ t = A.enc y ++ u) : x = y ∧ t = u := by
 have h1 := A.r x t hx
 rw [h, A.r y u hy] at h1
 simp only [Prod.mk.injEq, CS.R.injEq, and_true] at h1
 exact ⟨h1.2.symm, h1.1.symm⟩
end Go.Lv

namespace Go.Sy
open Go.RowKit Go.Lp Go.Lv
mutual
/-- ten times the size of data: each value counts one, and each letter -/
def zD : D → Nat
 | .v (.string s) => 10 * (s.size + 1)
 | .v _ => 10
 | .sl rows => zR rows + 10
def zR : List (List D) → Nat
 | [] => 0
 | r :: rows => zL r + zR rows
def zL : List D → Nat
 | [] => 0
 | d :: ds => zD d + zL ds
end
theorem wJ : ∀ a b : List D, zL (a ++ b) = zL a + zL b
 | [], b => by simp [zL]
 | d :: a, b => by simp only [List.cons_append, zL, wJ a b]; omega
theorem wK : ∀ rows : List (List D), zR rows = (rows.map zL).sum
 | [] => rfl
 | r :: rows => by simp only [zR, List.map_cons, List.sum_cons, wK rows]
theorem sS {α : Type} {f g : α → Nat} : ∀ (l : List α), (∀ x ∈ l, f x ≤ g x) → (l.map f).sum ≤ (l.map g).sum
 | [], _ => Nat.le_refl _
 | x :: l, h => by
   simp only [List.map_cons, List.sum_cons]
   have h1 := h x List.mem_cons_self
   have h2 := sS l fun y hy => h y (List.mem_cons_of_mem _ hy)
   omega
theorem aa2 {α : Type} [Inhabited α] {row : α → List D} {ok : α → Per} {C : α → Prop} (zf : α → Nat) {w : World} {S : bH} {v : Value} {rows : List (List D)} (h : fe w S v (.sl rows))
   (hf : ∀ r ∈ rows, ∀ us : List Value, mR w S us r → ∃ y : α, row y = us.map D.v ∧ (ok y).holds w S ∧ C y ∧ zf y ≤ zL r) : ∃ s : Sl α, v = s.val ∧ (ShF row s).holds w S ∧ (b7 ok s.l).holds w S ∧ (∀ y ∈ s.l, C y) ∧ (s.l.map zf).sum ≤ zR rows := by
 cases h with
 | e a c hc => exact ⟨⟨a, c, []⟩, rfl, .e a c hc, fun y hy => (by cases hy), fun y hy => (by cases hy), Nat.zero_le _⟩
 | sl b o c sz _ us hb hn hc hrl hcell hd =>
   have each : ∀ i : Nat, ∃ y : α, i < rows.length → row y = ((List.range sz).map fun j => us i j).map D.v ∧ (ok y).holds w S ∧ C y ∧ zf y ≤ zL (rows.getD i []) := fun i => by
     by_cases hi : i < rows.length
     · obtain ⟨r, hr⟩ : ∃ r, rows[i]? = some r := ⟨_, List.getElem?_eq_getElem hi⟩
       obtain ⟨y, h1, h2, h4, h3⟩ := hf r (List.mem_of_getElem? hr) ((List.range sz).map fun j => us i j) ⟨by simp [hrl i r hr], fun j d hj => by
         have hjl := (List.getElem?_eq_some_iff.1 hj).1
         rw [hrl i r hr] at hjl
         exact ⟨us i j, by rw [List.getElem?_map, List.getElem?_range hjl]; rfl, hd i j r d hr hj⟩⟩
       exact ⟨y, fun _ => ⟨h1, h2, h4, by rw [List.getD_eq_getElem?_getD, hr]; exact h3⟩⟩
     · exact ⟨default, fun h => absurd h hi⟩
   obtain ⟨Y, hY⟩ := Classical.skolem.1 each
   have hget : ∀ (i : Nat) (r : List D), (((List.range rows.length).map Y).map row)[i]? = some r → i < rows.length ∧ r = ((List.range sz).map fun j => us i j).map D.v := fun i r hi => by
     rw [List.getElem?_map, List.getElem?_map] at hi
     by_cases hil : i < rows.length
     · rw [List.getElem?_range hil] at hi
       simp only [Option.map_some, Option.some.injEq] at hi
       exact ⟨hil, by rw [← hi]; exact (hY i hil).1⟩
     · rw [List.getElem?_eq_none (by simpa using hil)] at hi; cases hi
   have hcl : ∀ (i j : Nat) (r : List D) (d : D), (((List.range rows.length).map Y).map row)[i]? = some r → r[j]? = some d → ∃ r0 d0, rows[i]? = some r0 ∧ r0[j]? = some d0 ∧ d = .v (us i j) := fun i j r d hi hj => by
     obtain ⟨hil, rfl⟩ := hget i r hi
     obtain ⟨r0, hr0⟩ : ∃ r, rows[i]? = some r := ⟨_, List.getElem?_eq_getElem hil⟩
     have hjl := (List.getElem?_eq_some_iff.1 hj).1
     rw [List.length_map, List.length_map, List.length_range] at hjl
     rw [List.getElem?_map, List.getElem?_map, List.getElem?_range hjl] at hj
     simp only [Option.map_some, Option.some.injEq] at hj
     exact ⟨r0, _, hr0, List.getElem?_eq_getElem (by rw [hrl i r0 hr0]; exact hjl), hj.symm⟩
   refine ⟨⟨some ⟨b, o, none⟩, c, (List.range rows.length).map Y⟩, by simp [Sl.val], ?_, fun y hy => ?_, fun y hy => ?_, ?_⟩
   · have h := fe.sl (w := w) (S := S) b o c sz (((List.range rows.length).map Y).map row) us hb (by simpa using hn) hc (fun i r hi => by obtain ⟨_, rfl⟩ := hget i r hi; simp)
       (fun i j r d hi hj => by obtain ⟨r0, d0, h1, h2, _⟩ := hcl i j r d hi hj; exact hcell i j r0 d0 h1 h2) (fun i j r d hi hj => by obtain ⟨_, _, _, _, rfl⟩ := hcl i j r d hi hj; exact .v _)
     rw [List.length_map, List.length_map, List.length_range] at h
     show fe w S (.slice (some ⟨b, o, none⟩) ((List.range rows.length).map Y).length c) (.sl (((List.range rows.length).map Y).map row))
     rw [List.length_map, List.length_range]; exact h
   · obtain ⟨i, hi, rfl⟩ := List.mem_map.1 hy
     exact (hY i (List.mem_range.1 hi)).2.1
   · obtain ⟨i, hi, rfl⟩ := List.mem_map.1 hy
     exact (hY i (List.mem_range.1 hi)).2.2.1
   · rw [wK, List.map_map]
     have e : rows.map zL = (List.range rows.length).map fun i => zL (rows.getD i []) := by
       apply List.ext_getElem?
       intro i
       rw [List.getElem?_map, List.getElem?_map]
       by_cases hi : i < rows.length
       · rw [List.getElem?_range hi, List.getElem?_eq_getElem hi]
         simp [List.getD_eq_getElem?_getD, hi]
       · rw [List.getElem?_eq_none (by omega), List.getElem?_eq_none (by simpa using hi)]; rfl
     rw [e]
     exact sS _ fun i hi => (hY i (List.mem_range.1 hi)).2.2.2
section
variable {P : Program} {k : Nat} {t e : TypeId}
abbrev RdW : Type := World → bH → (List Value → Nat → Prop) → Prop
def Rd (P : Program) (k : Nat) (t : TypeId) (W : RdW) : Prop := ∀ (w : World) (S : bH) (ds : List D) (us : List Value) (R : List Value → Nat → Prop), okD P k t ds → mR w S us ds → W w S R → R us (zL ds)
def RdF (P : Program) (k : Nat) (fs : List Field) (W : RdW) : Prop := ∀ (w : World) (S : bH) (ds : List D) (us : List Value) (R : List Value → Nat → Prop), okF (okD P k) fs ds → mR w S us ds → W w S R → R us (zL ds)
theorem rdn : RdF P k [] fun _ _ R => R [] 0 := fun _ _ ds us R h hr hR => by
 obtain rfl : ds = [] := h
 rw [hr.nil]; exact hR
theorem mR.app {w : World} {S : bH} {us : List Value} {a b : List D} (h : mR w S us (a ++ b)) : ∃ u1 u2, us = u1 ++ u2 ∧ mR w S u1 a ∧ mR w S u2 b := by
 induction a generalizing us with
 | nil => exact ⟨[], us, rfl, ⟨rfl, fun j d hj => by cases hj⟩, h⟩
 | cons d a ih =>
   obtain ⟨u, us', rfl, hu, hr⟩ := h.cons
   obtain ⟨u1, u2, rfl, h1, h2⟩ := ih hr
   exact ⟨u :: u1, u2, rfl, ⟨by have := h1.1; simp [this], fun j e hj => by
     cases j with
     | zero => simp at hj; subst hj; exact ⟨u, rfl, hu⟩
     | succ j => exact h1.2 j e (by simpa using hj)⟩, h2⟩
theorem rdc {f : Field} {fs : List Field} {W1 W2 : RdW} (h1 : Rd P k f.type W1) (h2 : RdF P k fs W2) : RdF P k (f :: fs) fun w S R => W1 w S fun u1 n1 => W2 w S fun u2 n2 => R (u1 ++ u2) (n1 + n2) := fun w S ds us R h hr hR => by
 obtain ⟨d1, d2, rfl, o1, o2⟩ := h
 obtain ⟨u1, u2, rfl, r1, r2⟩ := hr.app
 rw [wJ]
 exact h2 w S d2 u2 _ o2 r2 (h1 w S d1 u1 _ o1 r1 hR)
theorem rds {fs : Array Field} {W W' : RdW} (hu : P.underlying t = some (.struct fs)) (h : RdF P k fs.toList W) (hW : ∀ w S R, W' w S R → W w S R) : Rd P (k + 1) t W' := fun w S ds us R ho hr hR => h w S ds us R (vZ hu ho) hr (hW w S R hR)
theorem rdi (hu : P.underlying t = some (.int .i64)) : Rd P (k + 1) t fun _ _ R => ∀ z n, I64 z → (ai.enc z).length ≤ n → R [.int .i64 z] n := fun w S ds us R h hr hR => by
 obtain ⟨z, rfl, hw⟩ := acJ hu h
 obtain ⟨u, _, rfl, r, hr⟩ := hr.cons
 obtain rfl := hr.nil; obtain rfl := jY r
 exact hR z _ (aep hw) (by simp only [zL, zD]; exact ey 10 _)
theorem rdb (hu : P.underlying t = some .bool) : Rd P (k + 1) t fun _ _ R => ∀ b n, (bK.enc b).length ≤ n → R [.bool b] n := fun w S ds us R h hr hR => by
 obtain ⟨z, rfl⟩ := aav hu h
 obtain ⟨u, _, rfl, r, hr⟩ := hr.cons
 obtain rfl := hr.nil; obtain rfl := jY r
 exact hR z _ (by simp only [zL, zD]; exact ey 10 _)
theorem rdt (hu : P.underlying t = some .string) : Rd P (k + 1) t fun w S R => ∀ s n, (dY s).holds w S → (ak.enc s).length ≤ n → R [.string s] n := fun w S ds us R h hr hR => by
 obtain ⟨z, rfl, hz⟩ := xk hu h
 obtain ⟨u, _, rfl, r, hr⟩ := hr.cons
 obtain rfl := hr.nil; obtain rfl := jY r
 exact hR z _ hz (by simp only [zL, zD]; show (q3 z).length ≤ _; rw [mo]; have : (aO z.size).length ≤ 10 := ey 10 _; omega)
theorem abO {α : Type} (A : Cod α) (l : List α) : (gK A l).length = (l.map fun x => (A.enc x).length).sum := by
 unfold gK; rw [List.length_flatten, List.map_map]; rfl
theorem rdl {α τ : Type} [Inhabited α] {A : Cod τ} {pu : α → τ} {vs : α → List Value} {row : α → List D} {ok : α → Per} {C : α → Prop} (hu : P.underlying t = some (.slice e)) (hrow : ∀ y, row y = (vs y).map D.v)
   (hf : Rd P k e fun w S R => ∀ y n, (ok y).holds w S → C y → (A.enc (pu y)).length ≤ n → R (vs y) n) :
   Rd P (k + 1) t fun w S R => ∀ (s : Sl α) n, (ShF row s).holds w S → (b7 ok s.l).holds w S → (∀ y ∈ s.l, C y) → ((dw A).enc (s.l.map pu)).length ≤ n → R [.slice s.ad s.l.length s.cap] n := fun w S ds us R h hr hR => by
 obtain ⟨rows, rfl, _, hrows⟩ := yx hu h
 obtain ⟨u, _, rfl, r, hr⟩ := hr.cons
 obtain rfl := hr.nil
 obtain ⟨s, rfl, h1, h2, h3, h4⟩ := aa2 (row := row) (ok := ok) (C := C) (fun y => (A.enc (pu y)).length) r fun r hr us hu =>
   hf w S r us (fun us n => ∃ y, row y = us.map D.v ∧ (ok y).holds w S ∧ C y ∧ (A.enc (pu y)).length ≤ n) (hrows r hr) hu fun y n a b c => ⟨y, hrow y, a, b, c⟩
 refine hR s _ h1 h2 h3 ?_
 show (aO (s.l.map pu).length ++ gK A (s.l.map pu)).length ≤ _
 rw [List.length_append, abO, List.map_map]
 have h5 : (aO (s.l.map pu).length).length ≤ 10 := ey 10 _
 have h6 : (s.l.map ((fun x => (A.enc x).length) ∘ pu)).sum ≤ zR rows := h4
 simp only [zL, zD]; omega
theorem Rd.mono {W W' : RdW} (h : Rd P k t W) (hW : ∀ w S R, W' w S R → W w S R) : Rd P k t W' := fun w S ds us R h1 h2 hR => h w S ds us R h1 h2 (hW w S R hR)
theorem rli (hu : P.underlying t = some (.slice e)) (he : P.underlying e = some (.int .i64)) : Rd P (k + 2) t fun w S R => ∀ (s : Sl Int) n, (ShF (fun z => [.v (.int .i64 z)]) s).holds w S → (∀ y ∈ s.l, I64 y) → ((dw ai).enc s.l).length ≤ n → R [.slice s.ad s.l.length s.cap] n :=
 (rdl (A := ai) (pu := fun y => y) (vs := fun z => [.int .i64 z]) (row := fun z => [.v (.int .i64 z)]) (ok := fun _ => Fa True) (C := I64) hu (fun _ => rfl) ((rdi he).mono fun w S R h z n a b => h z n trivial a b)).mono fun w S R h s n a _ b c => h s n a b (by rw [List.map_id'] at c; exact c)
theorem rlt (hu : P.underlying t = some (.slice e)) (he : P.underlying e = some .string) : Rd P (k + 2) t fun w S R => ∀ (s : Sl ByteArray) n, (ShF (fun s => [.v (.string s)]) s).holds w S → (b7 (fun y => dY y) s.l).holds w S → ((dw ak).enc s.l).length ≤ n → R [.slice s.ad s.l.length s.cap] n :=
 (rdl (A := ak) (pu := fun y => y) (vs := fun z => [.string z]) (row := fun z => [.v (.string z)]) (ok := fun y => dY y) (C := fun _ => True) hu (fun _ => rfl) ((rdt he).mono fun w S R h z n a b => h z n a trivial b)).mono fun w S R h s n a b _ c => h s n a b (by rw [List.map_id'] at c; exact c)
theorem pl {α β : Type} {A : Cod α} {B : Cod β} {a : α} {b : β} {n m : Nat} (h1 : (A.enc a).length ≤ n) (h2 : (B.enc b).length ≤ m) : ((A.prod B).enc (a, b)).length ≤ n + m := by
 show (A.enc a ++ B.enc b).length ≤ _
 rw [List.length_append]; omega
end
end Go.Sy

namespace Go.Proofs.YtahgkiicjohonaaGreat
open Go.RowKit Go.Lp Go.Sy Go.Deep
theorem aex {α : Type} {f : α → Nat} : ∀ l : List α, (l.map fun x => 10 * f x).sum = 10 * (l.map f).sum
 | [] => rfl
 | x :: l => by simp only [List.map_cons, List.sum_cons, aex l]; omega
section
variable {P : Program} {H : Type} {enc : TypeId × Value → H} {w : World} {base : Nat} {spare : Nat → Bool} {held : Bool}
theorem kE {d : DataW H} : ∀ {l : List (DataW H)}, d ∈ l → Rows.uptoBulk d ≤ Rows.uptoBulkAll l
 | x :: r, h => by
   simp only [Rows.uptoBulkAll]
   rcases List.mem_cons.1 h with rfl | h
   · omega
   · have := kE h; omega
theorem oc : ∀ l : List (DataW H), Rows.uptoBulkAll l = (l.map Rows.uptoBulk).sum
 | [] => rfl
 | x :: l => by simp only [Rows.uptoBulkAll, List.map_cons, List.sum_cons, oc l]
theorem oa {k fuel : Nat} {cs : List Value} {tot : Nat} (hcs : cs.length = tot)
   (ih : ∀ (t : TypeId) (cs : List Value) (x : DataW H × List MemPlace), rdT P k t = true → DataW.trod enc P w base spare held fuel t cs = some x → ∃ ds, ds.length = cs.length ∧ okD P k t ds ∧ Rds w cs 0 ds ∧ zL ds ≤ 10 * Rows.uptoBulk x.1) :
   ∀ (fs : List Field) (off : Nat) (xs : List (DataW H × List MemPlace)), uW P off fs tot = true → fs.all (fun f => rdT P k f.type) = true → xs.length = fs.length →
     (∀ (i : Nat) (f : Field), fs[i]? = some f → DataW.trod enc P w base spare held fuel f.type ((cs.drop f.offset).take (P.cellsOf f.type)) = xs[i]?) → ∃ ds, off + ds.length = tot ∧ okF (okD P k) fs ds ∧ Rds w cs off ds ∧ zL ds ≤ 10 * Rows.uptoBulkAll (xs.map (·.1))
 | [], off, xs, hc, _, _, _ => ⟨[], by simpa [uW] using hc, rfl, fun j d hj => (by cases hj), Nat.zero_le _⟩
 | f :: fs, off, xs, hc, hr, hl, ht => by
   cases xs with
   | nil => simp at hl
   | cons y xs =>
     simp only [uW, Bool.and_eq_true, beq_iff_eq, decide_eq_true_eq] at hc
     obtain ⟨⟨hc1, hc2⟩, hc3⟩ := hc
     simp only [List.all_cons, Bool.and_eq_true] at hr
     have hy := ht 0 f rfl
     obtain ⟨d1, l1, o1, r1, z1⟩ := ih _ _ y hr.1 (by rw [hy]; rfl)
     obtain ⟨d2, l2, o2, r2, z2⟩ := oa hcs ih fs _ xs hc3 hr.2 (by simpa using hl) (fun i g hg => by rw [ht (i + 1) g (by simpa using hg)]; rfl)
     rw [List.length_take, List.length_drop, hc1, hcs] at l1
     have l1 : d1.length = P.cellsOf f.type := by omega
     refine ⟨d1 ++ d2, by rw [List.length_append]; omega, ⟨d1, d2, rfl, o1, o2⟩, fun j d hj => ?_, by rw [wJ]; simp only [List.map_cons, Rows.uptoBulkAll]; omega⟩
     by_cases hjl : j < d1.length
     · rw [List.getElem?_append_left hjl] at hj
       obtain ⟨u, hu, h1, h2⟩ := r1 j d hj
       rw [Nat.zero_add, List.getElem?_take, if_pos (by omega), List.getElem?_drop, hc1] at hu
       exact ⟨u, hu, h1, h2⟩
     · rw [List.getElem?_append_right (by omega)] at hj
       obtain ⟨u, hu, h1, h2⟩ := r2 _ d hj
       rw [show off + P.cellsOf f.type + (j - d1.length) = off + j by omega] at hu
       exact ⟨u, hu, h1, h2⟩
theorem lz : ∀ (k fuel : Nat) (t : TypeId) (cs : List Value) (x : DataW H × List MemPlace), rdT P k t = true → DataW.trod enc P w base spare held fuel t cs = some x → ∃ ds, ds.length = cs.length ∧ okD P k t ds ∧ Rds w cs 0 ds ∧ zL ds ≤ 10 * Rows.uptoBulk x.1
 | 0, _, _, _, _, h, _ => by cases h
 | k + 1, fuel, t, cs, x, hr, h => by
   unfold rdT at hr
   unfold okD
   split at hr
   · rename_i hu
     obtain ⟨b, rfl, rfl⟩ := DataW.trod_bool hu h
     exact ⟨[.v (.bool b)], rfl, ⟨b, rfl⟩, kL rfl (.v _), by simp [zL, zD, Rows.uptoBulk]⟩
   · rename_i i hu
     obtain ⟨n, rfl, rfl, hw⟩ := DataW.trod_int hu h
     exact ⟨[.v (.int i n)], rfl, ⟨n, rfl, hw⟩, kL rfl (.v _), by simp [zL, zD, Rows.uptoBulk]⟩
   · rename_i hu
     obtain ⟨s, rfl, rfl, hs⟩ := DataW.trod_string hu h
     exact ⟨[.v (.string s)], rfl, ⟨s, rfl, hs⟩, kL rfl (.v _), by simp [zL, zD, Rows.uptoBulk]⟩
   · rename_i e hu
     rw [Bool.and_eq_true, decide_eq_true_eq] at hr
     obtain ⟨hp, hr⟩ := hr
     rcases DataW.trod_slice hu h with ⟨rfl, rfl⟩ | ⟨a, len, cap, elems, rest, n, _, rfl, rfl, _, hl, hm, hel, hx, _, _⟩
     · exact ⟨[.sl []], rfl, ⟨[], rfl, by simp, fun r hr => by cases hr⟩, kL rfl (.e none 0 (by simp)), by simp only [zL, zD, zR, Rows.uptoBulk]; omega⟩
     · by_cases hl0 : len = 0
       · subst hl0
         exact ⟨[.sl []], rfl, ⟨[], rfl, by simp, fun r hr => by cases hr⟩, kL rfl (.e (some a) cap hm), by simp only [zL, zD, zR, Rows.uptoBulk]; omega⟩
       · have each : ∀ i, ∃ r : List D, i < len → (r.length = P.cellsOf e ∧ okD P k e r ∧ ∀ (j : Nat) (d : D), r[j]? = some d → ∃ u, w.cell? ((a.add (i * P.cellsOf e)).add j) = some u ∧ u.oneCell' = true ∧ fe w (fun b => b < w.heap.size) u d) ∧ ∃ y, elems[i]? = some y ∧ zL r ≤ 10 * Rows.uptoBulk y.1 := fun i => by
           by_cases hi : i < len
           · obtain ⟨y, hy⟩ : ∃ y, elems[i]? = some y := ⟨_, List.getElem?_eq_getElem (by omega)⟩
             have h1 := hx i hi
             rw [hy] at h1
             cases hcs : w.cells? base (a.add (i * P.cellsOf e)) (P.cellsOf e) with
             | none => rw [hcs] at h1; cases h1
             | some cs' =>
               rw [hcs] at h1
               have h2 : DataW.trod enc P w base spare held n e cs' = some y := h1
               obtain ⟨ds, l1, o1, r1, z1⟩ := lz k _ _ _ _ hr h2
               obtain ⟨_, hcl, hc⟩ := World.cells?_some hcs
               refine ⟨ds, fun _ => ⟨⟨by omega, o1, fun j d hj => ?_⟩, y, hy, z1⟩⟩
               obtain ⟨u, hu, q1, q2⟩ := r1 j d hj
               have := (List.getElem?_eq_some_iff.1 hj).1
               rw [hc j (by omega)]
               exact ⟨u, by rw [← hu, Nat.zero_add], q1, q2⟩
           · exact ⟨[], fun h => absurd h hi⟩
         obtain ⟨R, hR⟩ := Classical.skolem.1 each
         have ha : a = ⟨a.block, a.off, none⟩ ∧ a.block < w.heap.size := by
           obtain ⟨⟨e1, _, e3⟩, _⟩ := hR 0 (by omega)
           obtain ⟨d, hd⟩ : ∃ d, (R 0)[0]? = some d := ⟨(R 0)[0]'(by omega), by simp⟩
           obtain ⟨u, hu, _⟩ := e3 0 d hd
           have : (a.add (0 * P.cellsOf e)).add 0 = a := by simp [Addr.add]
           rw [this] at hu
           exact zi hu
         obtain ⟨ha, hb⟩ := ha
         have hadd : ∀ i j, (a.add (i * P.cellsOf e)).add j = ⟨a.block, a.off + i * P.cellsOf e + j, none⟩ := fun i j => by
           rw [ha]; unfold Addr.add
           by_cases h1 : i * P.cellsOf e = 0 <;> by_cases h2 : j = 0 <;> simp [h1, h2]
         have hrow : ∀ (i : Nat) (r : List D), ((List.range len).map R)[i]? = some r → i < len ∧ r = R i := fun i r hi => by
           have := (List.getElem?_eq_some_iff.1 hi).1
           simp at this
           rw [List.getElem?_map, List.getElem?_range this] at hi
           exact ⟨this, by simpa using hi.symm⟩
         refine ⟨[.sl ((List.range len).map R)], rfl, ⟨_, rfl, by simp; omega, fun r hr => ?_⟩, kL rfl ?_, ?_⟩
         · obtain ⟨i, hi, rfl⟩ := List.mem_map.1 hr
           exact (hR i (List.mem_range.1 hi)).1.2.1
         · have := fe.sl (w := w) (S := fun b => b < w.heap.size) a.block a.off cap (P.cellsOf e) ((List.range len).map R) (fun i j => (w.cell? ⟨a.block, a.off + i * P.cellsOf e + j, none⟩).getD (.bool false)) hb (by simpa using hl) hm
             (fun i r hi => by obtain ⟨h1, rfl⟩ := hrow i r hi; exact (hR i h1).1.1)
             (fun i j r d hi hj => by
               obtain ⟨h1, rfl⟩ := hrow i r hi
               obtain ⟨u, hu, q1, q2⟩ := (hR i h1).1.2.2 j d hj
               rw [hadd] at hu
               rw [hu]; exact ⟨rfl, q1⟩)
             (fun i j r d hi hj => by
               obtain ⟨h1, rfl⟩ := hrow i r hi
               obtain ⟨u, hu, q1, q2⟩ := (hR i h1).1.2.2 j d hj
               rw [hadd] at hu
               rw [hu]; exact q2)
           rw [← ha] at this
           simpa using this
         · simp only [zL, zD, Rows.uptoBulk]
           rw [wK, oc, List.map_map, List.map_map]
           have e1 : elems.map (fun x => 10 * (Rows.uptoBulk ∘ fun x => x.1) x) = (List.range len).map fun i => (elems[i]?.map fun y => 10 * Rows.uptoBulk y.1).getD 0 := by
             apply List.ext_getElem?
             intro i
             rw [List.getElem?_map, List.getElem?_map]
             by_cases hi : i < len
             · obtain ⟨y, hy⟩ : ∃ y, elems[i]? = some y := ⟨_, List.getElem?_eq_getElem (by omega)⟩
               rw [List.getElem?_range hi, hy]; simp [hy]
             · rw [List.getElem?_eq_none (by omega), List.getElem?_eq_none (by simpa using hi)]; rfl
           have e0 := aex (f := Rows.uptoBulk ∘ fun x : DataW H × List MemPlace => x.1) elems
           rw [e1] at e0
           have := sS (f := zL ∘ R) (g := fun i => (elems[i]?.map fun y => 10 * Rows.uptoBulk y.1).getD 0) (List.range len) fun i hi => by
             obtain ⟨_, y, hy, hz⟩ := hR i (List.mem_range.1 hi)
             rw [hy]; exact hz
           omega
   · rename_i fs hu
     rw [Bool.and_eq_true] at hr
     obtain ⟨xs, n, _, rfl, hcl, hxl, hf⟩ := DataW.trod_struct hu h
     obtain ⟨ds, l1, o1, r1, z1⟩ := oa (tot := P.cellsOf t) hcl (fun t cs x h1 h2 => lz k n t cs x h1 h2) fs.toList 0 xs hr.1 hr.2 (by simpa using hxl) (fun i f hff => hf i f (by simpa using hff))
     exact ⟨ds, by omega, o1, r1, by simp only [Rows.uptoBulk]; omega⟩
   · cases hr
end
end Go.Proofs.YtahgkiicjohonaaGreat

namespace Go.Proofs.YtahgkiicjohonaaGreat
open Go.RowKit Go.Lp Go.Sy
structure aF where
 name : ByteArray
 parents : Sl ByteArray
 deriving Inhabited
abbrev aF.row (x : aF) : List D := [.v (.string x.name), .v (.slice x.parents.ad x.parents.l.length x.parents.cap)]
abbrev aF.vs (x : aF) : List Value := [.string x.name, .slice x.parents.ad x.parents.l.length x.parents.cap]
abbrev aF.val (x : aF) : Value := .agg #[.string x.name, .slice x.parents.ad x.parents.l.length x.parents.cap]
def aF.ok (x : aF) : Per := cD (dY x.name) (cD (ShF (fun s => [.v (.string s)]) x.parents) (b7 (fun y => dY y) x.parents.l))
theorem aF.f_name {ps : List Per} {x : aF} (h : Ent ps x.ok) : Ent ps (dY x.name) := (Ent.left h)
theorem aF.f_parents {ps : List Per} {x : aF} (h : Ent ps x.ok) : Ent ps (ShF (fun s => [.v (.string s)]) x.parents) := (Ent.left (Ent.right h))
structure acN where
 name : ByteArray
 lib : Bool
 objs : Sl ByteArray
 needs : Sl ByteArray
 entry : ByteArray
 spare : Int
 versions : Sl aF
 deriving Inhabited
structure abP where
 name : ByteArray
 kind : Int
 align : Int
 size : Int
 bytes : ByteArray
 keep : Bool
 deriving Inhabited
structure ac4 where
 name : ByteArray
 version : ByteArray
 main : Bool
 bind : Int
 vis : Int
 kind : Int
 sec : Int
 at_ : Int
 size : Int
 align : Int
 deriving Inhabited
structure aeB where
 sec : Int
 at_ : Int
 kind : Int
 sym : Int
 add : Int
 deriving Inhabited
structure ad0 where
 name : ByteArray
 secs : Sl Int
 deriving Inhabited
structure aeq where
 sym : Int
 order : Int
 last : Bool
 deriving Inhabited
structure du where
 sec : Int
 at_ : Int
 file : ByteArray
 line : Int
 deriving Inhabited
abbrev du.row (x : du) : List D := [.v (.int .i64 x.sec), .v (.int .i64 x.at_), .v (.string x.file), .v (.int .i64 x.line)]
abbrev du.vs (x : du) : List Value := [.int .i64 x.sec, .int .i64 x.at_, .string x.file, .int .i64 x.line]
abbrev du.val (x : du) : Value := .agg #[.int .i64 x.sec, .int .i64 x.at_, .string x.file, .int .i64 x.line]
def du.ok (x : du) : Per := dY x.file
structure b8 where
 sec : Int
 from_ : Int
 to_ : Int
 name : ByteArray
 file : ByteArray
 line : Int
 deriving Inhabited
abbrev b8.row (x : b8) : List D := [.v (.int .i64 x.sec), .v (.int .i64 x.from_), .v (.int .i64 x.to_), .v (.string x.name), .v (.string x.file), .v (.int .i64 x.line)]
abbrev b8.vs (x : b8) : List Value := [.int .i64 x.sec, .int .i64 x.from_, .int .i64 x.to_, .string x.name, .string x.file, .int .i64 x.line]
abbrev b8.val (x : b8) : Value := .agg #[.int .i64 x.sec, .int .i64 x.from_, .int .i64 x.to_, .string x.name, .string x.file, .int .i64 x.line]
def b8.ok (x : b8) : Per := cD (dY x.name) (dY x.file)
structure eh where
 sec : Int
 from_ : Int
 to_ : Int
 name : ByteArray
 where_ : Int
 n : Int
 deriving Inhabited
abbrev eh.row (x : eh) : List D := [.v (.int .i64 x.sec), .v (.int .i64 x.from_), .v (.int .i64 x.to_), .v (.string x.name), .v (.int .i64 x.where_), .v (.int .i64 x.n)]
abbrev eh.vs (x : eh) : List Value := [.int .i64 x.sec, .int .i64 x.from_, .int .i64 x.to_, .string x.name, .int .i64 x.where_, .int .i64 x.n]
abbrev eh.val (x : eh) : Value := .agg #[.int .i64 x.sec, .int .i64 x.from_, .int .i64 x.to_, .string x.name, .int .i64 x.where_, .int .i64 x.n]
def eh.ok (x : eh) : Per := dY x.name
structure cC where
 sec : Int
 from_ : Int
 to_ : Int
 bytes : Int
 deriving Inhabited
abbrev cC.row (x : cC) : List D := [.v (.int .i64 x.sec), .v (.int .i64 x.from_), .v (.int .i64 x.to_), .v (.int .i64 x.bytes)]
abbrev cC.vs (x : cC) : List Value := [.int .i64 x.sec, .int .i64 x.from_, .int .i64 x.to_, .int .i64 x.bytes]
abbrev cC.val (x : cC) : Value := .agg #[.int .i64 x.sec, .int .i64 x.from_, .int .i64 x.to_, .int .i64 x.bytes]
structure dD where
 from_ : Int
 size : Int
 to_ : Int
 deriving Inhabited
abbrev dD.row (x : dD) : List D := [.v (.int .i64 x.from_), .v (.int .i64 x.size), .v (.int .i64 x.to_)]
abbrev dD.vs (x : dD) : List Value := [.int .i64 x.from_, .int .i64 x.size, .int .i64 x.to_]
abbrev dD.val (x : dD) : Value := .agg #[.int .i64 x.from_, .int .i64 x.size, .int .i64 x.to_]
structure aaG where
 sec : Int
 from_ : ByteArray
 pieces : Sl dD
 code : Int
 deriving Inhabited
structure acu where
 name : ByteArray
 secs : Sl abP
 syms : Sl ac4
 rels : Sl aeB
 groups : Sl ad0
 inits : Sl aeq
 lines : Sl du
 inlines : Sl b8
 vars : Sl eh
 depths : Sl cC
 converts : Sl aaG
 deriving Inhabited
structure acZ where
 kind : Int
 obj : Int
 sym : Int
 lib : Int
 why : Int
 open_ : Bool
 deriving Inhabited
structure aeC where
 obj : Int
 sec : Int
 deriving Inhabited
structure dy where
 from_ : Int
 to_ : Int
 deriving Inhabited
abbrev dy.row (x : dy) : List D := [.v (.int .i64 x.from_), .v (.int .i64 x.to_)]
abbrev dy.val (x : dy) : Value := .agg #[.int .i64 x.from_, .int .i64 x.to_]
structure aeX where
 r : acN
 objs : Sl acu
 keep : Sl (Sl Bool)
 choices : Sl (Sl acZ)
 first : Sl Int
 count : Int
 deriving Inhabited
end Go.Proofs.YtahgkiicjohonaaGreat

