/- Parts of the proof, in build order. No condition. -/
import Derived.Test.YtgmiihmahaahiaaGreatDoorQd06
import Derived.Test.YtgmiihmahaahiaaGreatDoorQd04
import Derived.Test.YtgmiihmahaahiaaGreatDoorQd03
import Derived.Test.YtgmiihmahaahiaaGreatDoorQd05
import Derived.Test.YtgmiihmahaahiaaGreatDoorQd02
set_option linter.unusedSimpArgs false
set_option linter.unusedVariables false
set_option maxHeartbeats 1000000
set_option maxRecDepth 20000
namespace Go.Proofs.YtgmiihmahaahiaaGreatDoor
open Go.RowKit Go.Lp Go.Sy
def ltC (p q : aK) : Prop := p.obj < q.obj ∨ p.obj = q.obj ∧ p.sym < q.sym
instance (p q : aK) : Decidable (ltC p q) := by unfold ltC; infer_instance
theorem eQ (p : aK) : ¬ ltC p p := by unfold ltC; omega
theorem fj {p q r : aK} (h1 : ltC p q) (h2 : ltC q r) : ltC p r := by unfold ltC at *; omega
theorem ry (p q : aK) : ltC p q ∨ p = q ∨ ltC q p := by
 have : p.obj = q.obj → p.sym = q.sym → p = q := fun h1 h2 => by cases p; cases q; simp_all
 unfold ltC
 by_cases h1 : p.obj = q.obj
 · by_cases h2 : p.sym = q.sym
   · exact .inr (.inl (this h1 h2))
   · omega
 · omega
def Asc (L : List Dfn) : Prop := L.Pairwise fun d e => ltC d.p e.p
theorem lz {i : Int} {l : List bE} {d : Dfn} (h : d ∈ dW i l) : ∃ k : Nat, l[k]? = some d.s ∧ d.p = ⟨i, (k : Int)⟩ := by
 unfold dW at h
 obtain ⟨⟨s, k⟩, hx, rfl⟩ := List.mem_map.1 h
 exact ⟨k, List.mem_zipIdx_iff_getElem?.1 hx, rfl⟩
theorem yw {i : Int} {l : List bE} {k : Nat} {s : bE} (h : l[k]? = some s) : (⟨⟨i, (k : Int)⟩, s⟩ : Dfn) ∈ dW i l := by
 unfold dW
 exact List.mem_map.2 ⟨(s, k), List.mem_zipIdx_iff_getElem?.2 h, rfl⟩
theorem yZ (i : Int) (l : List bE) : Asc (dW i l) := by
 induction l using gZ with
 | nil => exact .nil
 | snoc l s ih =>
   rw [qw]
   refine List.pairwise_append.2 ⟨ih, List.pairwise_singleton _ _, fun d hd e he => ?_⟩
   obtain ⟨k, hk, hp⟩ := lz hd
   rw [List.mem_singleton.1 he, hp]
   have := (List.getElem?_eq_some_iff.1 hk).1
   exact .inr ⟨rfl, by dsimp only; omega⟩
theorem gu {os : List ax} {n : Nat} {d : Dfn} : d ∈ cZ os n ↔ ∃ i k : Nat, i < n ∧ (elt os (i : Int)).syms.l[k]? = some d.s ∧ d.p = ⟨(i : Int), (k : Int)⟩ := by
 unfold cZ
 rw [List.mem_flatMap]
 constructor
 · rintro ⟨i, hi, hd⟩
   obtain ⟨k, h1, h2⟩ := lz hd
   exact ⟨i, k, List.mem_range.1 hi, h1, h2⟩
 · rintro ⟨i, k, hi, h1, h2⟩
   obtain ⟨p, s⟩ := d
   dsimp only at h1 h2; subst h2
   exact ⟨i, List.mem_range.2 hi, yw h1⟩
theorem gp (os : List ax) : ∀ n, Asc (cZ os n)
 | 0 => .nil
 | n + 1 => by
   rw [eb]
   refine List.pairwise_append.2 ⟨gp os n, yZ _ _, fun d hd e he => ?_⟩
   obtain ⟨i, k, h1, _, h2⟩ := gu.1 hd
   obtain ⟨k2, _, h3⟩ := lz he
   rw [h2, h3]
   exact .inl (by dsimp only; omega)
theorem mT {L : List Dfn} (h : Asc L) {d e : Dfn} (hd : d ∈ L) (he : e ∈ L) (hp : d.p = e.p) : d = e := by
 unfold Asc at h
 induction L with
 | nil => cases hd
 | cons a L ih =>
   rw [List.pairwise_cons] at h
   rcases List.mem_cons.1 hd with e1 | hd2 <;> rcases List.mem_cons.1 he with e2 | he2
   · rw [e1, e2]
   · have := h.1 e he2; rw [← e1, hp] at this; exact absurd this (eQ _)
   · have := h.1 d hd2; rw [← e2, hp] at this; exact absurd this (eQ _)
   · exact ih h.2 hd2 he2
section
variable (kp : List (Sl Bool)) (L : List Dfn)
def jJ (d : Dfn) : Bool := decide ((cE kp L d.key).map (·.p) = some d.p)
def fW (d : Dfn) : Bool := jJ kp L d && (decide (d.s.version = .empty) || d.s.main)
def cU (n : ByteArray) : List Dfn := L.filter fun d => decide (d.s.name = n) && fW kp L d
def fx : Option aK := (L.find? fun d => fW kp L d && L.any fun e => fW kp L e && (decide (e.s.name = d.s.name) && decide (ltC e.p d.p))).map (·.p)
def fP (sv : ByteArray → ByteArray → Bool) (n v : ByteArray) : Option Dfn :=
 if v = .empty then (cU kp L n).head? else (cE kp L (n, v)).or (L.find? fun d => decide (d.s.name = n) && (jJ kp L d && sv d.s.version v))
def mh (s : bE) (d : Dfn) : Int := if d.s.bind = 3 then 4 else if d.s.version ≠ s.version then 5 else if (dZ kp L d.key).length = 1 then 1 else if d.s.bind = 1 then 2 else 3
def iu (n : ByteArray) : Int := L.foldl (fun v d => if d.s.name = n ∧ d.s.bind ≠ 0 then max v d.s.vis else v) 0
def gX : bq := ⟨0, 0, 0, 0, 0, false⟩
def cC (sv : ByteArray → ByteArray → Bool) (lf : ByteArray → ByteArray → Int) (lib : Bool) (d : Dfn) : Option bq :=
 if d.s.bind = 0 then some (if oH kp d.p.obj d.s.sec = true then ⟨1, d.p.obj, d.p.sym, 0, 0, false⟩ else gX)
 else match fP kp L sv d.s.name d.s.version with
   | some e => some ⟨if e.s.bind = 3 then 3 else 2, e.p.obj, e.p.sym, 0, mh kp L d.s e, lib && decide (iu L d.s.name = 0)⟩
   | none => if lf d.s.name d.s.version ≥ 0 then some ⟨4, 0, 0, lf d.s.name d.s.version, 6, false⟩ else if d.s.sec ≠ -1 then some gX else if d.s.bind = 2 then some ⟨5, 0, 0, 0, 7, false⟩ else none
def oo (sv : ByteArray → ByteArray → Bool) (lf : ByteArray → ByteArray → Int) (lib : Bool) : Option aK := (L.find? fun d => decide (cC kp L sv lf lib d = none)).map (·.p)
end
def eT (kp : List (Sl Bool)) (L : List Dfn) (sv : ByteArray → ByteArray → Bool) (lf : ByteArray → ByteArray → Int) (lib : Bool) : Option (Int × aK) :=
 match gL kp L with
 | some p => some (4, p)
 | none => match fx kp L with
   | some p => some (4, p)
   | none => (oo kp L sv lf lib).map fun p => (3, p)
def xE (kp : List (Sl Bool)) (L : List Dfn) (sv : ByteArray → ByteArray → Bool) (lf : ByteArray → ByteArray → Int) (lib : Bool) (l : List Dfn) : List bq := l.map fun d => (cC kp L sv lf lib d).getD gX
def oD (os : List ax) (kp : List (Sl Bool)) (sv : ByteArray → ByteArray → Bool) (lf : ByteArray → ByteArray → Int) (lib : Bool) : List (List bq) :=
 (List.range os.length).map fun i : Nat => xE kp (bQ os) sv lf lib (dW (i : Int) (elt os (i : Int)).syms.l)
section
variable {kp : List (Sl Bool)} {L : List Dfn} (hA : Asc L)
include hA
theorem gY {d : Dfn} (hd : d ∈ L) : jJ kp L d = true ↔ cE kp L d.key = some d := by
 unfold jJ
 rw [decide_eq_true_eq, Option.map_eq_some_iff]
 constructor
 · rintro ⟨e, he, hp⟩
   obtain ⟨h1, _, _⟩ := dP he
   rw [he, mT hA h1 hd hp]
 · exact fun h => ⟨d, h, rfl⟩
theorem ot {d : Dfn} (hd : d ∈ L) (h : jJ kp L d = true) : fC kp d = true := (dP ((gY hA hd).1 h)).2.1
theorem mb {k : dw} {e : Dfn} (h : cE kp L k = some e) : jJ kp L e = true := by
 obtain ⟨h1, _, h3⟩ := dP h
 rw [gY hA h1, h3]; exact h
theorem w9 (ht : fx kp L = none) {n : ByteArray} {d e : Dfn} (hd : d ∈ cU kp L n) (he : e ∈ cU kp L n) : d = e := by
 unfold cU at hd he
 simp only [List.mem_filter, Bool.and_eq_true, decide_eq_true_eq] at hd he
 have hn := ht
 unfold fx at hn
 rw [Option.map_eq_none_iff, List.find?_eq_none] at hn
 have key : ∀ d e : Dfn, d ∈ L → e ∈ L → fW kp L d = true → fW kp L e = true → e.s.name = d.s.name → ¬ ltC e.p d.p := fun d e h1 h2 h3 h4 h5 h6 => by
   refine hn d h1 ?_
   rw [Bool.and_eq_true, List.any_eq_true]
   exact ⟨h3, e, h2, by simp [h4, h5, h6]⟩
 rcases ry d.p e.p with h | h | h
 · exact (key e d he.1 hd.1 he.2.2 hd.2.2 (by rw [hd.2.1, he.2.1]) h).elim
 · exact mT hA hd.1 he.1 h
 · exact (key d e hd.1 he.1 hd.2.2 he.2.2 (by rw [hd.2.1, he.2.1]) h).elim
theorem oG {sv : ByteArray → ByteArray → Bool} {n v : ByteArray} {e : Dfn} (h : fP kp L sv n v = some e) : e ∈ L ∧ jJ kp L e = true ∧ e.s.name = n ∧ (e.s.version = v ∨ v = .empty ∧ e.s.main = true ∨ v ≠ .empty ∧ sv e.s.version v = true) := by
 unfold fP at h
 split at h
 · rename_i hv
   have hm := List.mem_of_mem_head? (Option.mem_def.2 h)
   unfold cU fW at hm
   simp only [List.mem_filter, Bool.and_eq_true, decide_eq_true_eq, Bool.or_eq_true] at hm
   refine ⟨hm.1, hm.2.2.1, hm.2.1, ?_⟩
   rcases hm.2.2.2 with h | h
   · exact .inl (h.trans hv.symm)
   · exact .inr (.inl ⟨hv, h⟩)
 · rename_i hv
   rw [Option.or_eq_some_iff] at h
   rcases h with h | ⟨h0, h⟩
   · obtain ⟨h1, _, h3⟩ := dP h
     exact ⟨h1, mb hA h, congrArg Prod.fst h3, .inl (congrArg Prod.snd h3)⟩
   · have h1 := List.find?_some h
     have h2 := List.mem_of_find?_eq_some h
     simp only [Bool.and_eq_true, decide_eq_true_eq] at h1
     exact ⟨h2, h1.2.1, h1.1, .inr (.inr ⟨hv, h1.2.2⟩)⟩
theorem np {sv : ByteArray → ByteArray → Bool} (ht : fx kp L = none) {e : Dfn} (he : e ∈ L) (h : jJ kp L e = true) : fP kp L sv e.s.name e.s.version = some e := by
 unfold fP
 split
 · rename_i hv
   have hm : e ∈ cU kp L e.s.name := by unfold cU fW; simp [List.mem_filter, he, h, hv]
   cases hl : cU kp L e.s.name with
   | nil => rw [hl] at hm; cases hm
   | cons a l => rw [w9 hA ht hm (hl ▸ List.mem_cons_self : a ∈ cU kp L e.s.name)]; rfl
 · rw [(gY hA he).1 h]; rfl
end
end Go.Proofs.YtgmiihmahaahiaaGreatDoor

namespace Go.Proofs.YtgmiihmahaahiaaGreatDoor
open Go.RowKit Go.Lp Go.Sy
section
variable {kp : List (Sl Bool)}
theorem fJ {L : List Dfn} {n : ByteArray} {k : dw} : k ∈ eG kp L n ↔ dZ kp L k ≠ [] ∧ k.1 = n := by
 induction L using gZ with
 | nil => simp [eG, dZ]
 | snoc L d ih =>
   rw [gH, jZ]
   by_cases h : fC kp d = true ∧ d.s.name = n ∧ dZ kp L d.key = []
   · rw [if_pos h, List.mem_append, ih, List.mem_singleton]
     constructor
     · rintro (⟨h1, h2⟩ | rfl)
       · exact ⟨by simp [h1], h2⟩
       · exact ⟨by simp [h.1], h.2.1⟩
     · rintro ⟨h1, h2⟩
       by_cases hk : d.key = k
       · exact .inr hk.symm
       · exact .inl ⟨by simpa [hk] using h1, h2⟩
   · rw [if_neg h, ih]
     constructor
     · rintro ⟨h1, h2⟩; exact ⟨by simp [h1], h2⟩
     · rintro ⟨h1, h2⟩
       refine ⟨fun h0 => ?_, h2⟩
       by_cases hk : fC kp d = true ∧ d.key = k
       · exact h ⟨hk.1, by rw [← h2, ← hk.2], by rw [hk.2]; exact h0⟩
       · rw [if_neg hk, List.append_nil] at h1; exact h1 h0
theorem rB (L : List Dfn) (n : ByteArray) : (eG kp L n).Nodup := by
 induction L using gZ with
 | nil => simp [eG]
 | snoc L d ih =>
   rw [gH]
   split
   · rename_i h
     rw [List.nodup_append]
     refine ⟨ih, by simp, fun a ha b hb => ?_⟩
     rw [List.mem_singleton.1 hb]
     rintro rfl
     exact (fJ.1 ha).1 h.2.2
   · exact ih
theorem lX (L : List Dfn) (n : ByteArray) : (eG kp L n).length ≤ L.length := by
 induction L using gZ with
 | nil => simp [eG]
 | snoc L d ih => rw [gH]; split <;> simp <;> omega
theorem aaY (L : List Dfn) (k : dw) : (dZ kp L k).length ≤ L.length := List.length_filter_le _ _
def gk (kp : List (Sl Bool)) (L : List Dfn) (l : List dw) : List aK := l.filterMap fun k => (cE kp L k).bind fun e => if k.2 = .empty ∨ e.s.main = true then some e.p else none
theorem oZ (L : List Dfn) (l : List dw) (k : dw) {e : Dfn} (h : cE kp L k = some e) : gk kp L (l ++ [k]) = gk kp L l ++ if k.2 = .empty ∨ e.s.main = true then [e.p] else [] := by
 unfold gk; rw [List.filterMap_append]
 congr 1
 by_cases hc : k.2 = .empty ∨ e.s.main = true <;> simp [h, hc]
theorem sP (L : List Dfn) (l : List dw) : (gk kp L l).length ≤ l.length := List.length_filterMap_le _ _
theorem gM {α β : Type} {f : α → Option β} (hf : ∀ a b c, f a = some c → f b = some c → a = b) : ∀ {l : List α}, l.Nodup → (l.filterMap f).Nodup
 | [], _ => by simp
 | a :: l, h => by
   rw [List.nodup_cons] at h
   rw [List.filterMap_cons]
   cases ha : f a with
   | none => exact gM hf h.2
   | some c =>
     rw [List.nodup_cons]
     refine ⟨fun hm => ?_, gM hf h.2⟩
     obtain ⟨b, hb, hc⟩ := List.mem_filterMap.1 hm
     exact h.1 (hf a b c ha hc ▸ hb)
end
theorem wA : ∀ {a b : List aK}, a.Pairwise ltC → b.Pairwise ltC → (∀ x, x ∈ a ↔ x ∈ b) → a = b
 | [], [], _, _, _ => rfl
 | [], y :: b, _, _, h => by have := (h y).2 List.mem_cons_self; cases this
 | x :: a, [], _, _, h => by have := (h x).1 List.mem_cons_self; cases this
 | x :: a, y :: b, ha, hb, h => by
   rw [List.pairwise_cons] at ha hb
   have hxy : x = y := by
     rcases List.mem_cons.1 ((h x).1 List.mem_cons_self) with h1 | h1
     · exact h1
     · rcases List.mem_cons.1 ((h y).2 List.mem_cons_self) with h2 | h2
       · exact h2.symm
       · exact (eQ _ (fj (hb.1 x h1) (ha.1 y h2))).elim
   subst hxy
   rw [wA ha.2 hb.2 fun z => ?_]
   constructor
   · intro hz
     rcases List.mem_cons.1 ((h z).1 (List.mem_cons_of_mem _ hz)) with rfl | h1
     · exact (eQ _ (ha.1 z hz)).elim
     · exact h1
   · intro hz
     rcases List.mem_cons.1 ((h z).2 (List.mem_cons_of_mem _ hz)) with rfl | h1
     · exact (eQ _ (hb.1 z hz)).elim
     · exact h1
section
variable {kp : List (Sl Bool)} {L : List Dfn}
theorem gU {n : ByteArray} {d : Dfn} : d ∈ cU kp L n ↔ d ∈ L ∧ d.s.name = n ∧ fW kp L d = true := by unfold cU; simp [List.mem_filter]
variable (hA : Asc L)
include hA
theorem wV (n : ByteArray) : ((cU kp L n).map (·.p)).Pairwise ltC := by
 rw [List.pairwise_map]; exact List.Pairwise.filter _ hA
theorem qz {n : ByteArray} {p : aK} : p ∈ gk kp L (eG kp L n) ↔ p ∈ (cU kp L n).map (·.p) := by
 unfold gk cU fW
 rw [List.mem_filterMap, List.mem_map]
 constructor
 · rintro ⟨k, hk, h⟩
   obtain ⟨e, he, h⟩ := Option.bind_eq_some_iff.1 h
   split at h
   · rename_i hc
     obtain ⟨h1, h2, h3⟩ := dP he
     refine ⟨e, ?_, Option.some.inj h⟩
     simp only [List.mem_filter, Bool.and_eq_true, decide_eq_true_eq, Bool.or_eq_true]
     refine ⟨h1, ?_, mb hA he, ?_⟩
     · rw [← (fJ.1 hk).2, ← h3]
     · rw [← h3] at hc; exact hc
   · cases h
 · rintro ⟨e, he, rfl⟩
   simp only [List.mem_filter, Bool.and_eq_true, decide_eq_true_eq, Bool.or_eq_true] at he
   obtain ⟨h1, h2, h3, h4⟩ := he
   have hc := (gY hA h1).1 h3
   refine ⟨e.key, fJ.2 ⟨fun h0 => ?_, h2⟩, ?_⟩
   · rw [← fg (kp := kp)] at h0; rw [h0] at hc; cases hc
   · rw [hc, Option.bind_some, if_pos h4]
theorem sC (n : ByteArray) : (gk kp L (eG kp L n)).Nodup := by
 refine gM (fun a b c h1 h2 => ?_) (rB L n)
 obtain ⟨e, he, h1⟩ := Option.bind_eq_some_iff.1 h1
 obtain ⟨e2, he2, h2⟩ := Option.bind_eq_some_iff.1 h2
 split at h1
 · split at h2
   · have e3 : e.p = e2.p := (Option.some.inj h1).trans (Option.some.inj h2).symm
     obtain ⟨m1, _, m3⟩ := dP he
     obtain ⟨m4, _, m6⟩ := dP he2
     rw [← m3, ← m6, mT hA m1 m4 e3]
   · cases h2
 · cases h1
theorem rr {n : ByteArray} {q : List aK} (hp : q.Perm (gk kp L (eG kp L n))) (hs : q.Pairwise fun a b => ¬ ltC b a) : q = (cU kp L n).map (·.p) := by
 refine wA ?_ (wV hA n) fun x => by rw [hp.mem_iff, qz hA]
 have hn : q.Nodup := hp.nodup_iff.2 (sC hA n)
 have := List.Pairwise.and hs hn
 refine this.imp fun {a b} h => ?_
 rcases ry a b with h1 | h1 | h1
 · exact h1
 · exact (h.2 h1).elim
 · exact (h.1 h1).elim
theorem yB {n : ByteArray} {d : Dfn} (h : (cU kp L n)[1]? = some d) : ∃ e, (cU kp L n)[0]? = some e ∧ ltC e.p d.p := by
 have hl := (List.getElem?_eq_some_iff.1 h).1
 have := List.Pairwise.filter (fun d : Dfn => decide (d.s.name = n) && fW kp L d) hA
 refine ⟨_, List.getElem?_eq_getElem (by omega), ?_⟩
 have h2 := List.pairwise_iff_getElem.1 this 0 1 (show 0 < (cU kp L n).length by omega) hl (by omega)
 rw [List.getElem?_eq_getElem hl] at h
 rw [← Option.some.inj h]; exact h2
theorem wL {n : ByteArray} {d e : Dfn} (hd : d ∈ cU kp L n) (he : e ∈ cU kp L n) (h : ltC e.p d.p) : ∃ d2, (cU kp L n)[1]? = some d2 ∧ ¬ ltC d.p d2.p := by
 have hp : (cU kp L n).Pairwise fun d e => ltC d.p e.p := List.Pairwise.filter _ hA
 cases hl : cU kp L n with
 | nil => rw [hl] at hd; cases hd
 | cons a l =>
   rw [hl] at hd he hp
   rw [List.pairwise_cons] at hp
   have hda : d ∈ l := by
     rcases List.mem_cons.1 hd with rfl | hd
     · rcases List.mem_cons.1 he with rfl | he
       · exact (eQ _ h).elim
       · exact (eQ _ (fj h (hp.1 e he))).elim
     · exact hd
   cases l with
   | nil => cases hda
   | cons b l =>
     refine ⟨b, rfl, fun hlt => ?_⟩
     rcases List.mem_cons.1 hda with rfl | hda
     · exact eQ _ hlt
     · exact eQ _ (fj hlt ((List.pairwise_cons.1 hp.2).1 d hda))
theorem sE (h : ∀ n, (cU kp L n)[1]? = none) : fx kp L = none := by
 unfold fx
 rw [Option.map_eq_none_iff, List.find?_eq_none]
 intro d hd hh
 rw [Bool.and_eq_true, List.any_eq_true] at hh
 obtain ⟨h1, e, he, h2⟩ := hh
 simp only [Bool.and_eq_true, decide_eq_true_eq] at h2
 obtain ⟨d2, h3, _⟩ := wL hA ((gU).2 ⟨hd, rfl, h1⟩) ((gU).2 ⟨he, h2.2.1, h2.1⟩) h2.2.2
 rw [h d.s.name] at h3; cases h3
theorem find?_asc {f : Dfn → Bool} {d d1 : Dfn} (hd : d ∈ L) (hf : f d = true) (h : L.find? f = some d1) : d1 = d ∨ ltC d1.p d.p := by
 unfold Asc at hA
 induction L with
 | nil => cases h
 | cons a L ih =>
   rw [List.pairwise_cons] at hA
   by_cases ha : f a = true
   · rw [List.find?_cons_of_pos ha] at h
     obtain rfl := Option.some.inj h
     rcases List.mem_cons.1 hd with rfl | hd
     · exact .inl rfl
     · exact .inr (hA.1 d hd)
   · rw [List.find?_cons_of_neg ha] at h
     rcases List.mem_cons.1 hd with rfl | hd
     · exact (ha hf).elim
     · exact ih hA.2 hd h
theorem sJ {n : ByteArray} {d : Dfn} (h1 : (cU kp L n)[1]? = some d) (h2 : ∀ n d2, (cU kp L n)[1]? = some d2 → ¬ ltC d2.p d.p) : fx kp L = some d.p := by
 obtain ⟨e, he, hlt⟩ := yB hA h1
 obtain ⟨m1, m2, m3⟩ := (gU).1 (List.mem_of_getElem? h1)
 obtain ⟨k1, k2, k3⟩ := (gU).1 (List.mem_of_getElem? he)
 have hf : (fun d : Dfn => fW kp L d && L.any fun e => fW kp L e && (decide (e.s.name = d.s.name) && decide (ltC e.p d.p))) d = true := by
   simp only [Bool.and_eq_true, List.any_eq_true, decide_eq_true_eq]
   exact ⟨m3, e, k1, k3, by rw [k2, m2], hlt⟩
 unfold fx
 cases hx : L.find? fun d : Dfn => fW kp L d && L.any fun e => fW kp L e && (decide (e.s.name = d.s.name) && decide (ltC e.p d.p)) with
 | none => rw [List.find?_eq_none] at hx; exact (hx d m1 hf).elim
 | some d1 =>
   have hd1 := List.find?_some hx
   have hm1 := List.mem_of_find?_eq_some hx
   simp only [Bool.and_eq_true, List.any_eq_true, decide_eq_true_eq] at hd1
   obtain ⟨g1, e1, g2, g3, g4, g5⟩ := hd1
   obtain ⟨d2, g6, g7⟩ := wL hA ((gU).2 ⟨hm1, rfl, g1⟩) ((gU).2 ⟨g2, g4, g3⟩) g5
   rcases find?_asc hA m1 hf hx with h | h
   · rw [h]; rfl
   · exfalso
     have q1 := h2 _ _ g6
     rcases ry d2.p d1.p with r | r | r
     · exact q1 (fj r h)
     · exact q1 (r ▸ h)
     · exact g7 r
end
end Go.Proofs.YtgmiihmahaahiaaGreatDoor

namespace Go.Proofs.YtgmiihmahaahiaaGreatDoor
open Go.RowKit Go.Lp Go.Sy
def sLt (a b : ByteArray) : Prop := a.toList < b.toList
instance (a b : ByteArray) : Decidable (sLt a b) := by unfold sLt; infer_instance
theorem abB {a b : ByteArray} (h : a.toList = b.toList) : a = b := by
 have key : ∀ (x : ByteArray), x.toList = x.data.toList := fun x => by
   have loop : ∀ (n i : Nat) (acc : List UInt8), x.size - i = n → ByteArray.toList.loop x i acc = acc.reverse ++ x.data.toList.drop i := by
     intro n
     induction n with
     | zero =>
       intro i acc h
       unfold ByteArray.toList.loop
       have hle : x.data.size ≤ i := by have : x.size = x.data.size := rfl; omega
       rw [if_neg (by omega), List.drop_eq_nil_of_le (by simpa using hle), List.append_nil]
     | succ n ih =>
       intro i acc h
       unfold ByteArray.toList.loop
       have hlt : i < x.size := by omega
       have hlt' : i < x.data.toList.length := by simpa using hlt
       rw [if_pos hlt, ih (i + 1) _ (by omega), List.drop_eq_getElem_cons hlt']
       have : x.get! i = x.data.toList[i] := by
         show x.data[i]! = _
         rw [getElem!_pos x.data i (by simpa using hlt)]; simp
       rw [this]; simp
   unfold ByteArray.toList
   rw [loop _ 0 [] rfl]; simp
 rw [key, key] at h
 cases a; cases b
 simp only [ByteArray.mk.injEq]
 exact Array.toList_inj.1 h
theorem iw (a : ByteArray) : ¬ sLt a a := List.lt_irrefl _
theorem lP {a b c : ByteArray} (h1 : sLt a b) (h2 : sLt b c) : sLt a c := List.lt_trans h1 h2
theorem nf (a b : ByteArray) : sLt a b ∨ a = b ∨ sLt b a := by
 unfold sLt
 by_cases h1 : a.toList < b.toList
 · exact .inl h1
 · by_cases h2 : b.toList < a.toList
   · exact .inr (.inr h2)
   · exact .inr (.inl (abB (List.le_antisymm h2 h1)))
def kLt (a b : dw) : Prop := sLt a.1 b.1 ∨ a.1 = b.1 ∧ sLt a.2 b.2
instance (a b : dw) : Decidable (kLt a b) := by unfold kLt; infer_instance
theorem mW (a : dw) : ¬ kLt a a := fun h => h.elim (iw _) fun h => iw _ h.2
theorem j5 {a b c : dw} (h1 : kLt a b) (h2 : kLt b c) : kLt a c := by
 rcases h1 with h1 | ⟨e1, h1⟩ <;> rcases h2 with h2 | ⟨e2, h2⟩
 · exact .inl (lP h1 h2)
 · exact .inl (e2 ▸ h1)
 · exact .inl (e1 ▸ h2)
 · exact .inr ⟨e1.trans e2, lP h1 h2⟩
theorem rM (a b : dw) : kLt a b ∨ a = b ∨ kLt b a := by
 rcases nf a.1 b.1 with h | h | h
 · exact .inl (.inl h)
 · rcases nf a.2 b.2 with h2 | h2 | h2
   · exact .inl (.inr ⟨h, h2⟩)
   · exact .inr (.inl (Prod.ext h h2))
   · exact .inr (.inr (.inr ⟨h.symm, h2⟩))
 · exact .inr (.inr (.inl h))
deriving instance DecidableEq for bF
abbrev bF.key (x : bF) : dw := (x.name, x.version)
def qT (x : bF) : List bF → List bF
 | [] => [x]
 | y :: l => if kLt y.key x.key then y :: qT x l else x :: y :: l
theorem k8 {x z : bF} : ∀ {l : List bF}, z ∈ qT x l ↔ z = x ∨ z ∈ l
 | [] => by simp [qT]
 | y :: l => by
   unfold qT
   split
   · rw [List.mem_cons, k8, List.mem_cons]
     constructor
     · rintro (h | h | h)
       · exact .inr (.inl h)
       · exact .inl h
       · exact .inr (.inr h)
     · rintro (h | h | h)
       · exact .inr (.inl h)
       · exact .inl h
       · exact .inr (.inr h)
   · rw [List.mem_cons]
def rv (l : List bF) : Prop := l.Pairwise fun a b => kLt a.key b.key
theorem tL {x : bF} : ∀ {l : List bF}, rv l → (∀ y ∈ l, y.key ≠ x.key) → rv (qT x l)
 | [], _, _ => List.pairwise_singleton _ _
 | y :: l, h, hn => by
   unfold rv at *
   rw [List.pairwise_cons] at h
   unfold qT
   split
   · rename_i hlt
     refine List.pairwise_cons.2 ⟨fun z hz => ?_, tL h.2 fun y hy => hn y (List.mem_cons_of_mem _ hy)⟩
     rcases k8.1 hz with rfl | hz
     · exact hlt
     · exact h.1 z hz
   · rename_i hlt
     have hxy : kLt x.key y.key := by
       rcases rM x.key y.key with h | h | h
       · exact h
       · exact (hn y List.mem_cons_self h.symm).elim
       · exact (hlt h).elim
     refine List.pairwise_cons.2 ⟨fun z hz => ?_, List.pairwise_cons.2 h⟩
     rcases List.mem_cons.1 hz with rfl | hz
     · exact hxy
     · exact j5 hxy (h.1 z hz)
theorem sR : ∀ {a b : List bF}, rv a → rv b → (∀ x, x ∈ a ↔ x ∈ b) → a = b
 | [], [], _, _, _ => rfl
 | [], y :: b, _, _, h => by have := (h y).2 List.mem_cons_self; cases this
 | x :: a, [], _, _, h => by have := (h x).1 List.mem_cons_self; cases this
 | x :: a, y :: b, ha, hb, h => by
   unfold rv at ha hb
   rw [List.pairwise_cons] at ha hb
   have hxy : x = y := by
     rcases List.mem_cons.1 ((h x).1 List.mem_cons_self) with h1 | h1
     · exact h1
     · rcases List.mem_cons.1 ((h y).2 List.mem_cons_self) with h2 | h2
       · exact h2.symm
       · exact (mW _ (j5 (hb.1 x h1) (ha.1 y h2))).elim
   subst hxy
   rw [sR ha.2 hb.2 fun z => ?_]
   constructor
   · intro hz
     rcases List.mem_cons.1 ((h z).1 (List.mem_cons_of_mem _ hz)) with rfl | h1
     · exact (mW _ (ha.1 z hz)).elim
     · exact h1
   · intro hz
     rcases List.mem_cons.1 ((h z).2 (List.mem_cons_of_mem _ hz)) with rfl | h1
     · exact (mW _ (hb.1 z hz)).elim
     · exact h1
def lS (d : Dfn) : bF := ⟨d.s.name, d.s.version, decide (d.s.version = .empty) || d.s.main, d.s.kind, d.p.obj, d.p.sym, decide (d.s.bind = 3)⟩
def mQ (kp : List (Sl Bool)) (L : List Dfn) : List Dfn := L.filter fun d => jJ kp L d && decide (iu L d.s.name ≠ 2)
def vM (kp : List (Sl Bool)) (L : List Dfn) : List bF := (mQ kp L).foldl (fun o d => qT (lS d) o) []
theorem vJ (l : List Dfn) : ∀ (o : List bF) (x : bF), x ∈ l.foldl (fun o d => qT (lS d) o) o ↔ x ∈ o ∨ ∃ d ∈ l, x = lS d := by
 induction l with
 | nil => intro o x; simp
 | cons d l ih =>
   intro o x
   rw [List.foldl_cons, ih, k8]
   constructor
   · rintro ((h | h) | ⟨d2, h, h2⟩)
     · exact .inr ⟨d, List.mem_cons_self, h⟩
     · exact .inl h
     · exact .inr ⟨d2, List.mem_cons_of_mem _ h, h2⟩
   · rintro (h | ⟨d2, h, h2⟩)
     · exact .inl (.inr h)
     · rcases List.mem_cons.1 h with rfl | h
       · exact .inl (.inl h2)
       · exact .inr ⟨d2, h, h2⟩
section
variable {kp : List (Sl Bool)} {L : List Dfn}
theorem oW {d : Dfn} : d ∈ mQ kp L ↔ d ∈ L ∧ jJ kp L d = true ∧ iu L d.s.name ≠ 2 := by unfold mQ; simp [List.mem_filter]
theorem sA {x : bF} : x ∈ vM kp L ↔ ∃ d ∈ mQ kp L, x = lS d := by unfold vM; rw [vJ]; simp
variable (hA : Asc L)
include hA
theorem p5 : (mQ kp L).Pairwise fun d e => d.key ≠ e.key := by
 have h1 : (mQ kp L).Pairwise fun d e => ltC d.p e.p := List.Pairwise.filter _ hA
 refine h1.imp_of_mem fun {d e} hd he h hk => ?_
 obtain ⟨d1, d2, _⟩ := oW.1 hd
 obtain ⟨e1, e2, _⟩ := oW.1 he
 have := (gY hA d1).1 d2
 rw [hk, (gY hA e1).1 e2] at this
 rw [Option.some.inj this] at h
 exact eQ _ h
theorem zr : rv (vM kp L) := by
 have key : ∀ (l : List Dfn) (o : List bF), l.Pairwise (fun d e => d.key ≠ e.key) → rv o → (∀ x ∈ o, ∀ d ∈ l, x.key ≠ d.key) → rv (l.foldl (fun o d => qT (lS d) o) o) := by
   intro l
   induction l with
   | nil => intro o _ h _; exact h
   | cons d l ih =>
     intro o hl ho hx
     rw [List.pairwise_cons] at hl
     refine ih _ hl.2 (tL ho fun y hy => hx y hy d List.mem_cons_self) fun x hx2 e he => ?_
     rcases k8.1 hx2 with rfl | hx2
     · exact hl.1 e he
     · exact hx x hx2 e (List.mem_cons_of_mem _ he)
 exact key _ _ (p5 hA) .nil fun x hx => by cases hx
theorem uz {q : List bF} (hp : q.Perm ((mQ kp L).map lS)) (hs : q.Pairwise fun a b => ¬ kLt b.key a.key) : q = vM kp L := by
 refine sR ?_ (zr hA) fun x => ?_
 · have hk : ((mQ kp L).map lS).Pairwise fun a b => a.key ≠ b.key := by rw [List.pairwise_map]; exact p5 hA
   have hk2 : q.Pairwise fun a b => a.key ≠ b.key := (hp.symm.pairwise_iff (R := fun a b : bF => a.key ≠ b.key) (fun h => Ne.symm h)).1 hk
   refine (hs.and hk2).imp fun {a b} h => ?_
   rcases rM a.key b.key with h1 | h1 | h1
   · exact h1
   · exact (h.2 h1).elim
   · exact (h.1 h1).elim
 · rw [hp.mem_iff, sA, List.mem_map]
   constructor
   · rintro ⟨d, h1, h2⟩; exact ⟨d, h1, h2.symm⟩
   · rintro ⟨d, h1, h2⟩; exact ⟨d, h1, h2.symm⟩
end
end Go.Proofs.YtgmiihmahaahiaaGreatDoor

namespace Go.Proofs.YtgmiihmahaahiaaGreatDoor
open Go.RowKit Go.Lp Go.Sy
section
variable {kp : List (Sl Bool)} {L : List Dfn}
variable {sv : ByteArray → ByteArray → Bool} {lf : ByteArray → ByteArray → Int} {lib : Bool}
structure RB (kp : List (Sl Bool)) (L : List Dfn) (sv : ByteArray → ByteArray → Bool) (lf : ByteArray → ByteArray → Int) (lib : Bool) : Prop where
 asc : Asc L
 t1 : gL kp L = none
 t2 : fx kp L = none
 all : ∀ d ∈ L, cC kp L sv lf lib d ≠ none
theorem RB.of (hA : Asc L) (h : eT kp L sv lf lib = none) : RB kp L sv lf lib := by
 unfold eT at h
 cases h1 : gL kp L with
 | some p => rw [h1] at h; cases h
 | none =>
   rw [h1] at h
   cases h2 : fx kp L with
   | some p => rw [h2] at h; cases h
   | none =>
     rw [h2] at h
     refine ⟨hA, h1, h2, fun d hd hn => ?_⟩
     unfold oo at h
     rw [Option.map_eq_none_iff, Option.map_eq_none_iff, List.find?_eq_none] at h
     exact h d hd (decide_eq_true hn)
def chD (kp : List (Sl Bool)) (L : List Dfn) (sv : ByteArray → ByteArray → Bool) (lf : ByteArray → ByteArray → Int) (lib : Bool) (d : Dfn) : bq := (cC kp L sv lf lib d).getD gX
def wS (kp : List (Sl Bool)) (L : List Dfn) (lib : Bool) (s : bE) (e : Dfn) : bq := ⟨if e.s.bind = 3 then 3 else 2, e.p.obj, e.p.sym, 0, mh kp L s e, lib && decide (iu L s.name = 0)⟩
theorem oS {d e : Dfn} (h0 : d.s.bind ≠ 0) (h : fP kp L sv d.s.name d.s.version = Option.some e) : chD kp L sv lf lib d = wS kp L lib d.s e := by
 unfold chD cC; rw [if_neg h0, h]; rfl
theorem aaW {d : Dfn} (h : (chD kp L sv lf lib d).kind = 2 ∨ (chD kp L sv lf lib d).kind = 3) : d.s.bind ≠ 0 ∧ ∃ e, fP kp L sv d.s.name d.s.version = Option.some e ∧ chD kp L sv lf lib d = wS kp L lib d.s e := by
 unfold chD cC at h
 by_cases h0 : d.s.bind = 0
 · rw [if_pos h0] at h
   simp only [Option.getD_some] at h
   split at h
   · simp at h
   · simp [gX] at h
 · refine ⟨h0, ?_⟩
   rw [if_neg h0] at h
   cases hf : fP kp L sv d.s.name d.s.version with
   | some e => exact ⟨e, rfl, oS h0 hf⟩
   | none =>
     rw [hf] at h
     dsimp only at h
     split at h
     · simp at h
     · split at h
       · simp [gX] at h
       · split at h <;> simp [gX] at h
end
end Go.Proofs.YtgmiihmahaahiaaGreatDoor

namespace Go.Proofs.YtgmiihmahaahiaaGreatDoor
open Go.RowKit Go.Lp Go.Sy
section
variable {kp : List (Sl Bool)} {L : List Dfn} {sv : ByteArray → ByteArray → Bool} {lf lf2 : ByteArray → ByteArray → Int} {lib : Bool} {N : Int}
theorem tt : (∃ p, eT kp L sv lf lib = some (4, p) ∧ ∀ lf2 : ByteArray → ByteArray → Int, eT kp L sv lf2 lib = some (4, p)) ∨ (gL kp L = none ∧ fx kp L = none ∧ ((∃ p, eT kp L sv lf lib = some (3, p)) ∨ eT kp L sv lf lib = none)) := by
 unfold eT
 cases h1 : gL kp L with
 | some p => exact .inl ⟨p, rfl, fun _ => rfl⟩
 | none =>
   cases h2 : fx kp L with
   | some p => exact .inl ⟨p, rfl, fun _ => rfl⟩
   | none =>
     refine .inr ⟨rfl, rfl, ?_⟩
     cases h3 : oo kp L sv lf lib with
     | some p => exact .inl ⟨p, rfl⟩
     | none => exact .inr rfl
end
section
variable {kp : List (Sl Bool)} {L : List Dfn} {sv : ByteArray → ByteArray → Bool} {lf : ByteArray → ByteArray → Int} {lib : Bool} {d0 : Dfn} {s0 : bE}
structure Wk (kp : List (Sl Bool)) (L : List Dfn) (d0 : Dfn) (s0 : bE) : Prop where
 mem : d0 ∈ L
 weak : d0.s.bind = 2
 name : s0.name = d0.s.name
 version : s0.version = d0.s.version
 bind : s0.bind = 2
 vis : s0.vis = d0.s.vis
 sec : s0.sec = -1
 no : jJ kp L d0 = false
end
end Go.Proofs.YtgmiihmahaahiaaGreatDoor

namespace Go.Sy
open Go.RowKit Go.Lp
section
variable {α : Type} {enc : α → Value}
def pd (v : Value) (x : List α) : Sl α := match v with
 | .slice ad _ cap => ⟨ad, cap, x⟩
 | _ => ⟨none, 0, x⟩
theorem abM (v : Value) (x : List α) : (pd v x).l = x := by unfold pd; split <;> rfl
theorem v8 : ∀ (vs : List Value) (l : List (List α)), vs.length = l.length → (List.zipWith pd vs l).map (·.l) = l
 | [], [], _ => rfl
 | [], _ :: _, h => by cases h
 | _ :: _, [], h => by cases h
 | v :: vs, x :: l, h => by rw [List.zipWith_cons_cons, List.map_cons, abM, v8 vs l (by simpa using h)]
theorem qa : ∀ (vs : List Value) (l : List (List α)), vs.length = l.length → (∀ (k : Nat) (v : Value) (x : List α), vs[k]? = some v → l[k]? = some x → (pd v x).val = v) → (List.zipWith pd vs l).map Sl.val = vs
 | [], [], _, _ => rfl
 | [], _ :: _, h, _ => by cases h
 | _ :: _, [], h, _ => by cases h
 | v :: vs, x :: l, h, hk => by
   rw [List.zipWith_cons_cons, List.map_cons, hk 0 v x rfl rfl, qa vs l (by simpa using h) (fun k v x h1 h2 => hk (k + 1) v x (by simpa using h1) (by simpa using h2))]
variable {P : Program} {n : Fr} {env : Env} {ps : List Per} {hp : List Res} {c : Code} {Q : Exit → Sta → Prop} {vo : Value} {T E : TypeId} {l : List (List α)}

theorem mZ {w : World} {S F : bz} {v : Value} {sz : Nat} {rows : List (List D)} (h : (bg v E sz rows).holds w S F) : ∃ ad cap, v = .slice ad rows.length cap := by
 rcases h with ⟨h1, h2, _⟩ | ⟨b, cap, h1, _⟩
 · subst h2; exact ⟨none, 0, h1⟩
 · exact ⟨_, cap, h1⟩
theorem pg (i : Nat) (hi : hp[i]? = some (mK vo T E enc l))
   (h : ∀ s : Sl (Sl α), vo = s.val → s.l.map (·.l) = l → awp P n c Q ⟨env, cv (ShF fun x => [.v (enc x)]) s.l :: ShF (fun t : Sl α => [.v t.val]) s :: ps, hp.set i emp⟩) : awp P n c Q ⟨env, ps, hp⟩ := by
 have hil := (List.getElem?_eq_some_iff.1 hi).1
 refine p4 (β := {s : Sl (Sl α) // vo = s.val ∧ s.l.map (·.l) = l}) i (fun p => eZ (bg vo T 1 (dU (p.1.l.map Sl.val))) (fA (inner E enc (p.1.l.map Sl.val) l))) hi (fun w S F hh => ?_) fun ⟨s, h1, h2⟩ => ?_
 · obtain ⟨vs, hl, hs⟩ := hh
   obtain ⟨G, H, hG, hH, hd, he⟩ := hs
   have hval : ∀ (k : Nat) (v : Value) (x : List α), vs[k]? = some v → l[k]? = some x → (pd v x).val = v := fun k v x hv hx => by
     obtain ⟨G2, _, ho⟩ := pW _ _ hH k _ (me (enc := enc) (E := E) hv hx)
     obtain ⟨ad, cap, rfl⟩ := mZ ho
     rw [cT]; rfl
   obtain ⟨ad, cap, hvo⟩ := mZ hG
   have hzl : (List.zipWith pd vs l).length = vs.length := by simp [hl]
   refine ⟨⟨⟨ad, cap, List.zipWith pd vs l⟩, ?_, v8 vs l hl⟩, ?_⟩
   · rw [hvo]
     show _ = Value.slice ad (List.zipWith pd vs l).length cap
     rw [hzl, qH]
   · show (eZ (bg vo T 1 (dU ((List.zipWith pd vs l).map Sl.val))) (fA (inner E enc ((List.zipWith pd vs l).map Sl.val) l))).holds w S F
     rw [qa vs l hl hval]
     exact ⟨G, H, hG, hH, hd, he⟩
 · dsimp only
   have hsh := eC (P := P) (n := n) (env := env) (ps := ps) (hp := hp.set i (eZ (bg vo T 1 (dU (s.l.map Sl.val))) (fA (inner E enc (s.l.map Sl.val) l)))) (c := c) (Q := Q) i
     (cA (ShF (fun t : Sl α => [.v t.val]) s) (cv (ShF fun x => [.v (enc x)]) s.l)) (by rw [List.getElem?_set_self hil]) (fun w S F hh => ?_) ?_
   · exact hsh
   · obtain ⟨G, H, hG, hH, _, e⟩ := hh
     have hS : ∀ b, (S b ∨ G b) → (S b ∨ F b) := fun b h => h.imp id fun g => (e b).2 (.inl g)
     refine ⟨?_, fun t ht => ?_⟩
     · have := (eO hG).mono (fun _ _ => rfl) hS
       rw [h1] at this
       show eU w _ _ (.sl (s.l.map fun t : Sl α => [.v t.val]))
       have e2 : dU (s.l.map Sl.val) = s.l.map fun t : Sl α => [D.v t.val] := by simp [dU]
       rw [e2] at this
       exact this
     · obtain ⟨k, hk⟩ := List.mem_iff_getElem?.1 ht
       have hlk : l[k]? = some t.l := by rw [← h2, List.getElem?_map, hk]; rfl
       obtain ⟨G2, hs, ho⟩ := pW _ _ hH k _ (me (enc := enc) (E := E) (v := t.val) (by rw [List.getElem?_map, hk]; rfl) hlk)
       exact (eO ho).mono (fun _ _ => rfl) fun b h => h.imp id fun g => (e b).2 (.inr (hs b g))
   · rw [List.set_set]
     refine rO (ps' := cv (ShF fun x => [.v (enc x)]) s.l :: ShF (fun t : Sl α => [.v t.val]) s :: ps) (hp' := hp.set i emp) (fun w S fp hst => ⟨fp, ⟨fun q hq => ?_, hst.res, hst.lt, hst.dj, hst.slt⟩, fun _ h => h⟩) (h s h1 h2)
     have h0 := hst.per _ List.mem_cons_self
     rcases List.mem_cons.1 hq with rfl | hq
     · exact h0.2
     · rcases List.mem_cons.1 hq with rfl | hq
       · exact h0.1
       · exact hst.per _ (List.mem_cons_of_mem _ hq)
end
end Go.Sy

namespace Go.Sy
open Go.RowKit Go.Lp
section
variable {P : Program} {n : Fr} {s : Sta} {d : Option Tmp} {ty : TypeId} {pos : String} {af : Array Edge} {gd : Option (Nat × Bool)} {x y1 y2 y3 : Operand}
end
end Go.Sy

namespace Go.Sy
open Go.RowKit Go.Lp
def qk (p : Per) : Res := ⟨fun w _ F => p.holds w F, fun h h1 _ _ => p.mono h h1 (fun _ h => h)⟩
def sK (R : Res) : Prop := ∀ w S S' F, R.holds w S F → R.holds w S' F
theorem vu (p : Per) : sK (qk p) := fun _ _ _ _ h => h
theorem lT {v : Value} {E : TypeId} {sz : Nat} {rows : List (List D)} (hr : ∀ r ∈ rows, ∀ d ∈ r, ∃ u, d = D.v u) : sK (bg v E sz rows) := fun w S S' F h => by
 rcases h with ⟨h1, h2, h3⟩ | ⟨b, cap, h1, ⟨cs, sp, hb, ha, hl, hle, hc⟩, hF⟩
 · exact .inl ⟨h1, h2, h3⟩
 · refine .inr ⟨b, cap, h1, ⟨cs, sp, hb, ⟨ha.len, ha.row, ha.one, fun i j r d h1 h2 => ?_⟩, hl, hle, hc⟩, hF⟩
   obtain ⟨u, hu, hd⟩ := ha.rep i j r d h1 h2
   obtain ⟨u', rfl⟩ := hr r (List.mem_of_getElem? h1) d (List.mem_of_getElem? h2)
   refine ⟨u, hu, ?_⟩
   cases hd; exact .v _
theorem aaM {w : World} {S : bz} {ad : Option Addr} {nn c sz : Nat} {rows : List (List D)} (hrep : eU w S (.slice ad nn c) (.sl rows)) (lo m : Nat) (hk : lo + m ≤ rows.length) (hrl : ∀ r ∈ rows, r.length = sz) :
   eU w S (.slice (if m = 0 then ad else ad.map (·.add (lo * sz))) m m) (.sl ((rows.drop lo).take m)) := by
 by_cases hm : m = 0
 · subst hm; rw [List.take_zero]; exact .e _ _ (by unfold maxLen; omega)
 · cases hrep with
   | e a c hc => simp at hk; omega
   | sl b o c sz' _ us hb hn' hc hrl' hcell hd =>
     have hsz' : sz' = sz := by
       obtain ⟨r, hr⟩ : ∃ r, rows[0]? = some r := ⟨_, List.getElem?_eq_getElem (by omega)⟩
       rw [← hrl' 0 r hr]; exact hrl r (List.mem_of_getElem? hr)
     subst hsz'
     have hlen : ((rows.drop lo).take m).length = m := by rw [List.length_take, List.length_drop]; omega
     have hget : ∀ (i : Nat) (r : List D), ((rows.drop lo).take m)[i]? = some r → rows[lo + i]? = some r := fun i r h => by
       rw [List.getElem?_take] at h
       split at h
       · rwa [List.getElem?_drop] at h
       · cases h
     rw [if_neg hm, Option.map_some, mj]
     have := eU.sl (w := w) (S := S) b (o + lo * sz') m sz' ((rows.drop lo).take m) (fun i j => us (lo + i) j) hb (by rw [hlen]; exact Nat.le_refl _) (by omega) (fun i r h => hrl' (lo + i) r (hget i r h)) (fun i j r d h1 h2 => ?_) (fun i j r d h1 h2 => hd (lo + i) j r d (hget i r h1) h2)
     · rwa [hlen] at this
     · have := hcell (lo + i) j r d (hget i r h1) h2
       rwa [Nat.add_mul, ← Nat.add_assoc] at this
section
variable {P : Program} {n : Fr} {s : Sta} {d : Option Tmp} {ty : TypeId} {pos : String} {af : Array Edge} {gd : Option (Nat × Bool)} {x y1 y2 y3 : Operand}
theorem xK {T E : TypeId} {sz nn c : Nat} {ad : Option Addr} {k1 k2 k3 : IntKind} {z1 z2 z3 : Int} (lo m : Nat) (hel : elB P T E sz = true) (hx : ev s.env x = some (true, .slice ad nn c))
   (hy1 : ev s.env y1 = some (true, .int k1 z1)) (hy2 : ev s.env y2 = some (true, .int k2 z2)) (hy3 : ev s.env y3 = some (true, .int k3 z3)) (e1 : z1 = (lo : Int)) (e2 : z2 = ((lo + m : Nat) : Int)) (e3 : z3 = ((lo + m : Nat) : Int)) (hk : lo + m ≤ c) :
   Quiet P n ⟨d, .slice T x (some y1) (some y2) (some y3), ty, pos, af, gd⟩ s (.slice (if m = 0 then ad else ad.map (·.add (lo * sz))) m m) := fun w S fp a hst he hn => by
 have h1 := he.val hx rfl
 subst e1; subst e2; subst e3
 have h2 := he.val hy1 rfl
 have h3 := he.val hy2 rfl
 have h4 := he.val hy3 rfl
 obtain ⟨hT, it, hi, _, hsz, _⟩ := dL hel
 have hE : P.elem T = E := by unfold Program.elem; rw [hT]
 have hrun : ∀ w1, (execOp a.eval ⟨d, .slice T x (some y1) (some y2) (some y3), ty, pos, af, gd⟩).run P w1 = .ok (.value (sliced ad lo (lo + m) (lo + m) sz)) w1 := fun w1 => by
   unfold execOp; dsimp only; simp only [Option.map_some]; rw [h1, h2, h3, h4]
   show ((Instr.sliceAt T (.slice ad nn c) (some (.int k1 lo)) (some (.int k2 ((lo + m : Nat) : Int))) (some (.int k3 ((lo + m : Nat) : Int)))).bind fun r => Sem.pure (Next.value r)).run P w1 = _
   have hT' : P.underlying T = some (.slice (P.elem T)) := by rw [hT, hE]
   rw [Sem.run_bind', run_sliceAt_slice w1 T _ _ _ _ hT', run_slice_lhm w1 T ad nn c hT' k1 k2 k3 _ _ _ (by omega) (by omega) (by omega) (by omega), hE, dm hi, hsz]
   rfl
 have hval : sliced ad lo (lo + m) (lo + m) sz = .slice (if m = 0 then ad else ad.map (·.add (lo * sz))) m m := by
   unfold sliced
   rw [Nat.add_sub_cancel_left]
   by_cases h : m = 0
   · rw [if_pos (by omega), if_pos h]
   · rw [if_neg (by omega), if_neg h]
 rw [hrun, hval]; exact ck _ _
end
end Go.Sy

namespace Go.Sy
open Go.RowKit Go.Lp
theorem wh {w : World} {S : bz} {fp : Nat → bz} {ps : List Per} {p : Per} {L : List Res} (hst : St w S fp ps L) (hp : p.holds w (fun b => S b ∨ tot fp L.length b)) :
   St w (fun b => S b ∨ tot fp L.length b) (fun _ _ => False) (p :: ps) [] :=
 ⟨fun q hq => by
     rcases List.mem_cons.1 hq with rfl | hq
     · exact hp
     · exact q.mono (hst.per q hq) (fun _ _ => rfl) (fun _ h => .inl h), fun i R hi => by simp at hi, fun i hi => by simp at hi, fun i j hi => by simp at hi, fun b hb => hb.elim (hst.slt b) fun ⟨i, hi, h⟩ => (hst.lt i hi b h).1⟩
theorem Con.borrowL {P : Program} {f : FuncId} {args : List Value} {ps : List Per} {p : Per} {R : Value → List Per → List Res → Prop} (h : Con P f args (p :: ps) [] R) (L : List Res)
   (hB : ∀ (w : World) (S : bz) (fp : Nat → bz), (∀ (i : Nat) (A : Res), L[i]? = some A → A.holds w S (fp i)) → p.holds w (fun b => S b ∨ tot fp L.length b)) (hR : ∀ v ps' hp', R v ps' hp' → ∀ r ∈ hp', sK r) :
   Con P f args ps L (fun v ps' hp' => ps' = [] ∧ ∃ ps2 hp2, R v ps2 hp2 ∧ hp' = L ++ hp2) := fun w S fp hst => by
 have h2 := wh hst (hB w S fp hst.res)
 have h0 : ∀ b, ¬ tot (fun _ _ => False) ([] : List Res).length b := fun b ⟨j, hj, _⟩ => by simp at hj
 refine (h w _ _ h2).mono fun e w' ⟨v, ps', hp', S', fp', he, hR', hst', hE, hb⟩ => ?_
 have hFlt : ∀ b, tot fp L.length b → b < w.heap.size ∧ ¬ S b := fun b ⟨i, hi, h⟩ => hst.lt i hi b h
 have hsame : ∀ b, b < w.heap.size → w'.heap[b]? = w.heap[b]? := fun b hb' => hE.block b hb' (h0 b)
 have hfp : ∀ i, i < L.length → ∀ b, fp i b → tot fp L.length b := fun i hi b hb => ⟨i, hi, hb⟩
 refine ⟨v, [], L ++ hp', fun b => S' b ∧ ¬ tot fp L.length b, fun i => if i < L.length then fp i else fp' (i - L.length), he, ⟨rfl, ps', hp', hR', rfl⟩, ⟨fun q hq => (by cases hq), fun i A hi => ?_, fun i hi b hbi => ?_, fun i j hi hj hne b hbi hbj => ?_, fun b hb' => hst'.slt b hb'.1⟩, ⟨hE.os, hE.tape, hE.output, hE.size, hE.drawn, fun b hb' _ => hsame b hb', fun b hb' => ⟨hE.more b (.inl hb'), fun hf => (hFlt b hf).2 hb'⟩, fun b hb' => ?_⟩, fun b ⟨i, hi, hbi⟩ => ?_⟩
 · by_cases hil : i < L.length
   · rw [if_pos hil]
     rw [List.getElem?_append_left hil] at hi
     exact A.mono (hst.res i A hi) (fun b hb' => hsame b (hFlt b (hfp i hil b hb')).1) (fun b hb' => hsame b (hst.slt b hb')) (fun b hb' => ⟨hE.more b (.inl hb'), fun hf => (hFlt b hf).2 hb'⟩)
   · rw [if_neg hil]
     rw [List.getElem?_append_right (by omega)] at hi
     exact hR v ps' hp' hR' A (List.mem_of_getElem? hi) _ _ _ _ (hst'.res _ A hi)
 · by_cases hil : i < L.length
   · rw [if_pos hil] at hbi
     exact ⟨Nat.lt_of_lt_of_le (hFlt b (hfp i hil b hbi)).1 hE.size, fun h => h.2 (hfp i hil b hbi)⟩
   · rw [if_neg hil] at hbi
     rw [List.length_append] at hi
     have := hst'.lt (i - L.length) (by omega) b hbi
     exact ⟨this.1, fun h => this.2 h.1⟩
 · rw [List.length_append] at hi hj
   by_cases hil : i < L.length
   · rw [if_pos hil] at hbi
     by_cases hjl : j < L.length
     · rw [if_pos hjl] at hbj; exact hst.dj i j hil hjl hne b hbi hbj
     · rw [if_neg hjl] at hbj; exact (hst'.lt (j - L.length) (by omega) b hbj).2 (hE.more b (.inr (hfp i hil b hbi)))
   · rw [if_neg hil] at hbi
     by_cases hjl : j < L.length
     · rw [if_pos hjl] at hbj; exact (hst'.lt (i - L.length) (by omega) b hbi).2 (hE.more b (.inr (hfp j hjl b hbj)))
     · rw [if_neg hjl] at hbj; exact hst'.dj (i - L.length) (j - L.length) (by omega) (by omega) (by omega) b hbi hbj
 · rcases hE.new b hb'.1 with (h | h) | h | h
   · exact .inl h
   · exact (hb'.2 h).elim
   · exact (h0 b h).elim
   · exact .inr (.inr h)
 · dsimp only at hbi
   by_cases hil : i < L.length
   · rw [if_pos hil] at hbi; exact .inl ⟨i, hil, hbi⟩
   · rw [if_neg hil] at hbi
     rw [List.length_append] at hi
     exact (hb b ⟨i - L.length, by omega, hbi⟩).elim (fun h => (h0 b h).elim) .inr
theorem Con.ofRes {P : Program} {f : FuncId} {args : List Value} {ps : List Per} {p : Per} {R : Value → List Per → List Res → Prop} (h : Con P f args (p :: ps) [] R) (L : List Res)
   (hB : ∀ (w : World) (S : bz) (fp : Nat → bz), (∀ (i : Nat) (A : Res), L[i]? = some A → A.holds w S (fp i)) → p.holds w (fun b => S b ∨ tot fp L.length b)) : Con P f args ps L R := fun w S fp hst => by
 have h2 := wh hst (hB w S fp hst.res)
 have h0 : ∀ b, ¬ tot (fun _ _ => False) ([] : List Res).length b := fun b ⟨j, hj, _⟩ => by simp at hj
 have hE : Evo w S (tot fp L.length) w (fun b => S b ∨ tot fp L.length b) := ⟨rfl, rfl, rfl, Nat.le_refl _, Nat.le_refl _, fun _ _ _ => rfl, fun _ h => .inl h, fun b hb => hb.elim .inl fun h => .inr (.inl h)⟩
 exact (h w _ _ h2).mono fun e w' ⟨u, ps', hp', S', fp', he, hR, hst', hE', hb⟩ => ⟨u, ps', hp', S', fp', he, hR, hst', hE.trans hE' (fun b hb => (h0 b hb).elim), fun b hb' => (hb b hb').elim (fun h => (h0 b h).elim) .inr⟩
theorem Con.clean {P : Program} {f : FuncId} {args : List Value} {ps : List Per} {hp : List Res} {R : Value → List Per → List Res → Prop} {φ : Value → Prop} (h : Con P f args ps hp R) (hR : ∀ v ps' hp', R v ps' hp' → φ v) : Con P f args ps hp (fun v ps' hp' => φ v ∧ ps' = [] ∧ hp' = []) := fun w S fp hst =>
 (h w S fp hst).mono fun e w' ⟨v, ps', hp', S', fp', he, hr, hst', hE, hb⟩ => ⟨v, [], [], S', fun _ _ => False, he, ⟨hR _ _ _ hr, rfl, rfl⟩, ⟨fun q hq => (by cases hq), fun i A hi => (by simp at hi), fun i hi => (by simp at hi), fun i j hi => (by simp at hi), hst'.slt⟩, hE, fun b ⟨i, hi, _⟩ => (by simp at hi)⟩
end Go.Sy

namespace Go.Proofs.YtgmiihmahaahiaaGreatDoor
open Go.RowKit Go.Lp Go.Sy
open Go.Proofs.Tryz
attribute [local irreducible] aL aB awp aC fwp
structure cm where
 objs : Sl ax
 kp : Sl (Sl Bool)
 lib : Bool
 ifs : Sl cQ
 vs : Sl aW
 ball : Nat
 bch : Nat
 bnm : Nat
 bmn : Nat
abbrev cm.row (x : cm) : List D := [.v (.slice x.objs.ad x.objs.l.length x.objs.cap), .v (.slice x.kp.ad x.kp.l.length x.kp.cap), .v (.bool x.lib), .v (.slice x.ifs.ad x.ifs.l.length x.ifs.cap), .v (.slice x.vs.ad x.vs.l.length x.vs.cap), .v (.map (some x.ball)), .v (.map (some x.bch)), .v (.map (some x.bnm)), .v (.map (some x.bmn))]
abbrev bR : Bool → List D := fun b => [.v (.bool b)]
abbrev slR {α : Type} : Sl α → List D := fun s => [.v (.slice s.ad s.l.length s.cap)]
def cm.ok (x : cm) : Per := cA (ShF ax.row x.objs) (cA (cv ax.ok x.objs.l) (cA (ShF slR x.kp) (cA (cv (ShF bR) x.kp.l) (cA (ShF cQ.row x.ifs) (cA (cv cQ.ok x.ifs.l) (cA (ShF aW.row x.vs) (cv aW.ok x.vs.l)))))))
section
variable {ps : List Per} {x : cm} (h : Ent ps x.ok)
include h
theorem cm.f_objs : Ent ps (ShF ax.row x.objs) := h.left
theorem cm.f_objsA : Ent ps (cv ax.ok x.objs.l) := h.right.left
theorem cm.f_kp : Ent ps (ShF slR x.kp) := h.right.right.left
theorem cm.f_kpA : Ent ps (cv (ShF bR) x.kp.l) := h.right.right.right.left
theorem cm.f_ifs : Ent ps (ShF cQ.row x.ifs) := h.right.right.right.right.left
theorem cm.f_ifsA : Ent ps (cv cQ.ok x.ifs.l) := h.right.right.right.right.right.left
theorem cm.f_vs : Ent ps (ShF aW.row x.vs) := h.right.right.right.right.right.right.left
theorem cm.f_vsA : Ent ps (cv aW.ok x.vs.l) := h.right.right.right.right.right.right.right
end
structure jv (os : List ax) (kp : List (Sl Bool)) : Prop where
 n : os.length ≤ 5
 sy : ∀ o ∈ os, o.syms.l.length ≤ 14
 kn : kp.length = os.length
 ks : ∀ i : Nat, i < os.length → (elt kp (i : Int)).l.length = (elt os (i : Int)).secs.l.length
 sec : ∀ o ∈ os, ∀ s ∈ o.syms.l, (s.sec = -1 ∧ s.bind ≠ 0) ∨ (0 ≤ s.sec ∧ s.sec < o.secs.l.length)
def InD (os : List ax) (d : Dfn) : Prop := ∃ i k : Nat, i < os.length ∧ (elt os (i : Int)).syms.l[k]? = some d.s ∧ d.p = ⟨(i : Int), (k : Int)⟩
theorem mX {os : List ax} {d : Dfn} : d ∈ bQ os ↔ InD os d := gu
theorem lL (s : bE) : Con Tryz.prog 87 [s.val] [] [] (fun r _ _ => r = .int .i64 (fG ⟨default, s⟩)) := by
 refine Con.enter Tryz.func87 rfl (by simp [Tryz.ntmps87]) ?_
 show awp _ _ _ _ ⟨[(0, true, _)], _, _⟩
 refine aSR ?_
 refine an (q := true) rfl (cx rfl rfl rfl (fun b0_0 => ?_))
 refine aHN ?_
 refine aA rfl (aNs (aSR ?_))
 refine aU rfl (qFA (off := 3) rfl) ?_
 refine aU rfl (ah 0 tk3 rfl rfl rfl) (aNn (aI (aSR (aU rfl (bx rfl rfl) (aA rfl (aNn ?_))))))
 refine al _ rfl (fun h1 => ?_) (fun h1 => ?_)
 ·skip
  refine aSR (aA rfl (aNn (aJ (bu (aO ?_)))))
  refine br [] [] rfl Tryz.results87 rfl ?_ (.inr rfl)
  have : s.bind = 1 := by simpa using h1
  unfold fG; rw [if_pos this]
 ·skip
  refine aSR (aU rfl (bx rfl rfl) (aA rfl (aNn ?_)))
  refine al _ rfl (fun h2 => ?_) (fun h2 => ?_)
  ·skip
   refine aSR (aA rfl (aNn (aJ (bu (aO ?_)))))
   refine br [] [] rfl Tryz.results87 rfl ?_ (.inr rfl)
   have a1 : ¬ s.bind = 1 := by simpa using h1
   have : s.bind = 3 := by simpa using h2
   unfold fG; rw [if_neg a1, if_pos this]
  ·skip
   refine aq (bB (az (aSR (aA rfl (aNn (aJ ?_))))))
   refine br [] [] rfl Tryz.results87 rfl ?_ (.inr rfl)
   have a1 : ¬ s.bind = 1 := by simpa using h1
   have a2 : ¬ s.bind = 3 := by simpa using h2
   unfold fG; rw [if_neg a1, if_neg a2]
theorem tn (z : Int) : Con Tryz.prog 239 [.int .i64 z] [] [] (fun r _ _ => r = .bool false) := by
 refine Con.enter Tryz.func239 rfl (by simp [Tryz.ntmps239]) ?_
 show awp _ _ _ _ ⟨[(0, true, _)], _, _⟩
 refine aSR (aA rfl (aNn (aSR (aM rfl (aM rfl (aU rfl (dB rfl rfl) (aA rfl (aNn (aJ ?_)))))))))
 refine br [] [] rfl Tryz.results239 rfl ?_ (.inr rfl)
 simp
theorem uo (z : ByteArray) : Con Tryz.prog 99 [.string z] [] [] (fun r _ _ => r = .bool false) := by
 refine Con.enter Tryz.func99 rfl (by simp [Tryz.ntmps99]) ?_
 show awp _ _ _ _ ⟨[(0, true, _)], _, _⟩
 refine aSR (aA rfl (aNn (aSR (aM rfl (aM rfl (aU rfl (rf rfl rfl) (aA rfl (aNn (aJ ?_)))))))))
 refine br [] [] rfl Tryz.results99 rfl ?_ (.inr rfl)
 simp
def ov (a b : Int) : Int := if a < b then -1 else if b < a then 1 else 0
theorem se (a b : Int) : Con Tryz.prog 166 [.int .i64 a, .int .i64 b] [] [] (fun r _ _ => r = .int .i64 (ov a b)) := by
 refine Con.enter Tryz.func166 rfl (by simp [Tryz.ntmps166]) ?_
 show awp _ _ _ _ ⟨[(0, true, _), (1, true, _)], _, _⟩
 refine aSR (aA rfl (aNn (aSR (aM rfl ?_))))
 refine aU rfl (bC (by kernel_rfl) rfl (fun w S fp hst => (tn _).quiet0 hst)) ?_
 refine aA rfl (aNn (aSR (aM rfl ?_)))
 refine aU rfl (bC (by kernel_rfl) rfl (fun w S fp hst => (tn _).quiet0 hst)) ?_
 refine aA rfl (aNs (aSR (aM rfl (aNn ?_))))
 refine al _ rfl (fun h1 => ?_) (fun h1 => ?_)
 ·skip
  exact absurd h1 (by decide)
 ·skip
  refine aq (az (aH (aSR (aM rfl (aNn ?_)))))
  refine al _ rfl (fun h2 => ?_) (fun h2 => ?_)
  ·skip
   exact absurd h2 (by decide)
  ·skip
   refine aq (az (aH (aSR (aM rfl (aM rfl (aU rfl (bw rfl rfl) (aNn ?_)))))))
   refine al _ rfl (fun h3 => ?_) (fun h3 => ?_)
   ·skip
    refine aSR (aA rfl (aNn (aJ (aO ?_))))
    refine br [] [] rfl Tryz.results166 rfl ?_ (.inr rfl)
    have : a < b := by simpa using h3
    unfold ov; rw [if_pos this]
   ·skip
    refine aq (az (aH (aSR (aM rfl (aM rfl (aU rfl (cN rfl rfl) (aNn ?_)))))))
    refine al _ rfl (fun h4 => ?_) (fun h4 => ?_)
    ·skip
     refine aSR (aA rfl (aNn (aJ (aO ?_))))
     refine br [] [] rfl Tryz.results166 rfl ?_ (.inr rfl)
     have a1 : ¬ a < b := by simpa using h3
     have : b < a := by simpa using h4
     unfold ov; rw [if_neg a1, if_pos this]
    ·skip
     refine aq (az (aSR (aA rfl (aNn (aJ ?_)))))
     refine br [] [] rfl Tryz.results166 rfl ?_ (.inr rfl)
     have a1 : ¬ a < b := by simpa using h3
     have a2 : ¬ b < a := by simpa using h4
     unfold ov; rw [if_neg a1, if_neg a2]
def ox (a b : ByteArray) : Int := if sLt a b then -1 else if sLt b a then 1 else 0
theorem ql {a b : ByteArray} (h : sLt a b) : ¬ sLt b a := fun k => iw _ (lP h k)
theorem sU (a b : ByteArray) : Con Tryz.prog 45 [.string a, .string b] [] [] (fun r _ _ => r = .int .i64 (ox a b)) := by
 refine Con.enter Tryz.func45 rfl (by simp [Tryz.ntmps45]) ?_
 show awp _ _ _ _ ⟨[(0, true, _), (1, true, _)], _, _⟩
 refine aSR (aA rfl (aNn (aSR (aM rfl ?_))))
 refine aU rfl (bC (by kernel_rfl) rfl (fun w S fp hst => (uo _).quiet0 hst)) ?_
 refine aA rfl (aNn (aSR (aM rfl ?_)))
 refine aU rfl (bC (by kernel_rfl) rfl (fun w S fp hst => (uo _).quiet0 hst)) ?_
 refine aA rfl (aNs (aSR (aM rfl (aNn ?_))))
 refine al _ rfl (fun h1 => ?_) (fun h1 => ?_)
 ·skip
  exact absurd h1 (by decide)
 ·skip
  refine aq (az (aH (aSR (aM rfl (aNn ?_)))))
  refine al _ rfl (fun h2 => ?_) (fun h2 => ?_)
  ·skip
   exact absurd h2 (by decide)
  ·skip
   refine aq (az (aH (aSR (aM rfl (aM rfl (aU rfl (zF rfl rfl) (aNn ?_)))))))
   refine al _ rfl (fun h3 => ?_) (fun h3 => ?_)
   ·skip
    refine aSR (aA rfl (aNn (aJ (aO ?_))))
    refine br [] [] rfl Tryz.results45 rfl ?_ (.inr rfl)
    have : sLt a b := of_decide_eq_true h3
    unfold ox; rw [if_pos this]
   ·skip
    refine aq (az (aH (aSR (aM rfl (aM rfl (aU rfl (abF rfl rfl) (aNn ?_)))))))
    refine al _ rfl (fun h4 => ?_) (fun h4 => ?_)
    ·skip
     refine aSR (aA rfl (aNn (aJ (aO ?_))))
     refine br [] [] rfl Tryz.results45 rfl ?_ (.inr rfl)
     have a1 : ¬ sLt a b := of_decide_eq_false h3
     have h4' : ¬ sLt a b ∧ ¬ a = b := by simp only [Bool.not_eq_true', Bool.or_eq_false_iff, decide_eq_false_iff_not] at h4; exact h4
     have : sLt b a := by
       rcases nf a b with h | h | h
       · exact (a1 h).elim
       · exact (h4'.2 h).elim
       · exact h
     unfold ox; rw [if_neg a1, if_pos this]
    ·skip
     refine aq (az (aSR (aA rfl (aNn (aJ ?_)))))
     refine br [] [] rfl Tryz.results45 rfl ?_ (.inr rfl)
     have a1 : ¬ sLt a b := of_decide_eq_false h3
     have h4' : sLt a b ∨ a = b := by simp only [Bool.not_eq_false', Bool.or_eq_true, decide_eq_true_eq] at h4; exact h4
     have a2 : ¬ sLt b a := by
       rcases h4' with h | h
       · exact ql h
       · rw [h]; exact iw _
     unfold ox; rw [if_neg a1, if_neg a2]
theorem wj (v : Value) (a b : Int) : Con Tryz.prog 44 [v] [] [bg v 3 1 [[.v (.int .i64 a)], [.v (.int .i64 b)]]] (fun r _ _ => r = .int .i64 (if a ≠ 0 then a else b)) := by
 refine Con.ofRes (p := Sh v (.sl [[.v (.int .i64 a)], [.v (.int .i64 b)]])) ?_ _ (fun w S fp hres => (eO (hres 0 _ rfl)).mono (fun _ _ => rfl) fun b hb => hb.imp id fun hf => ⟨0, by simp, hf⟩)
 refine Con.enter Tryz.func44 rfl (by simp [Tryz.ntmps44]) ?_
 show awp _ _ _ _ ⟨[(0, true, _)], _, _⟩
 refine jN (.of (aF 0 rfl)) (fun ad cp hv => ?_)
 obtain rfl : v = .slice ad 2 cp := hv
 refine aSR (aA rfl (aNn (aSR (aA rfl (aNs (aSR (aM rfl (aU rfl (aZ Tryz.underlying90 rfl) (aM rfl (aNn (aI ?_)))))))))))
 refine aT [0, 3, 6, 7, 8] [0] [] (fun (k : Nat) st => (k ≤ 2 ∧ (1 ≤ k → a = 0) ∧ (2 ≤ k → b = 0)) ∧ st = ⟨[(0, true, .slice ad 2 cp), (3, true, .int .i64 0), (6, true, .slice ad 2 cp), (7, true, .int .i64 2), (8, true, .int .i64 k)], [Sh (.slice ad 2 cp) (.sl [[.v (.int .i64 a)], [.v (.int .i64 b)]])], []⟩) (fun k => 2 - k) rfl (⟨0, ⟨by omega, fun h => by omega, fun h => by omega⟩, rfl⟩) ?_
 rintro k st ⟨⟨hk, ha, hb⟩, rfl⟩
 refine aSR (aU rfl (bw rfl rfl) (aNs ?_))
 refine al _ rfl (fun h1 => ?_) (fun h1 => ?_)
 ·skip
  have hk' : k < 2 := by simp at h1; omega
  obtain ⟨c, hc1, hc⟩ : ∃ c, (([[.v (.int .i64 a)], [.v (.int .i64 b)]] : List (List D))[k]? = some [D.v (.int .i64 c)]) ∧ ((k = 0 ∧ c = a) ∨ (k = 1 ∧ c = b)) := by
    rcases (by omega : k = 0 ∨ k = 1) with rfl | rfl
    · exact ⟨a, rfl, .inl ⟨rfl, rfl⟩⟩
    · exact ⟨b, rfl, .inr ⟨rfl, rfl⟩⟩
  refine aq (az (aH (aI (aSR ?_))))
  refine cJ true rfl rfl (fun _ => su Tryz.underlying90 tk3 rfl (aF 0 rfl) rfl hc1 rfl rfl) (fun h => absurd h (by decide)) (fun ⟨b4_0, o4_0⟩ => ?_)
  refine aU rfl (aP (o := 0) tk3 rfl (aF 0 rfl) rfl rfl) (aA rfl (aNn (aSR (aM rfl (aM rfl (aU rfl (dB rfl rfl) (aNn ?_)))))))
  refine al _ rfl (fun h2 => ?_) (fun h2 => ?_)
  ·skip
   refine aSR (aM rfl (aA rfl (aNn (aJ (bu (aO (aO (bu (aO ?_)))))))))
   refine br [] [] rfl Tryz.results44 rfl ?_ (.inr rfl)
   have hc0 : c ≠ 0 := by simpa using h2
   rcases hc with ⟨rfl, rfl⟩ | ⟨rfl, rfl⟩
   · rw [if_pos hc0]
   · rw [if_neg (by have := ha (by omega); omega)]
  ·skip
   refine aq (bB (az (aj ?_)))
   refine aU rfl (bd rfl rfl (by omega)) ?_
   refine aM rfl (aNn ?_)
   refine ⟨[0, 3, 6, 7, 8], [0], [], rfl, ?_⟩
   have hc0 : c = 0 := by simpa using h2
   rcases hc with ⟨rfl, rfl⟩ | ⟨rfl, rfl⟩
   · exact ⟨1, ⟨⟨by omega, fun _ => hc0, fun h => by omega⟩, rfl⟩, by omega⟩
   · exact ⟨2, ⟨⟨by omega, fun _ => ha (by omega), fun _ => hc0⟩, rfl⟩, by omega⟩
 ·skip
  refine aX (aY (aY (bf (az (aSR (aM rfl (aA rfl (aNn (aJ ?_)))))))))
  refine br [] [] rfl Tryz.results44 rfl ?_ (.inr rfl)
  have hk2 : k = 2 := by simp at h1; omega
  subst hk2
  rw [if_neg (by have := ha (by omega); omega), hb (by omega)]
end Go.Proofs.YtgmiihmahaahiaaGreatDoor

namespace Go.Proofs.YtgmiihmahaahiaaGreatDoor
open Go.RowKit Go.Lp Go.Sy
open Go.Proofs.Tryz
attribute [local irreducible] aL aB awp aC fwp
def xm (p q : aK) : Int := if ov p.obj q.obj ≠ 0 then ov p.obj q.obj else ov p.sym q.sym
theorem uh (a b : Int) : ov a b < 0 ↔ a < b := by unfold ov; split <;> (try split) <;> omega
theorem xy (a b : Int) : ov a b = 0 ↔ a = b := by unfold ov; split <;> (try split) <;> omega
theorem lJ (p q : aK) : xm p q < 0 ↔ ltC p q := by
 unfold xm ltC
 have h1 := uh p.obj q.obj
 have h2 := xy p.obj q.obj
 have h3 := uh p.sym q.sym
 split <;> omega
theorem o0 (p q : aK) : Con Tryz.prog 89 [p.val, q.val] [] [] (fun r _ _ => r = .int .i64 (xm p q)) := by
 refine Con.enter Tryz.func89 rfl (by simp [Tryz.ntmps89]) ?_
 show awp _ _ _ _ ⟨[(0, true, _), (1, true, _)], _, _⟩
 refine aSR ?_
 refine an (q := true) rfl (cx rfl rfl rfl (fun b0_0 => ?_))
 refine aHN ?_
 refine an (q := true) rfl (cx rfl rfl rfl (fun b0_1 => ?_))
 refine aHN ?_
 refine aA rfl (aNs ?_)
 refine bp [11] (by kernel_rfl) ?_
 show aB _ _ _ _ _ 13 #[false, false, false, false, false, false, false, false, false, false, false, false, false] _
 refine bV 0 rfl rfl (qFA (off := 0) rfl) ?_
 refine bV 1 rfl rfl (ah 0 tk3 rfl rfl rfl) ?_
 refine bV 2 rfl rfl (qFA (off := 0) rfl) ?_
 refine bV 3 rfl rfl (ah 1 tk3 rfl rfl rfl) ?_
 refine bV 4 rfl rfl (bC (by kernel_rfl) rfl (fun w S fp hst => (se _ _).quiet0 hst)) ?_
 refine bV 5 rfl rfl (qFA (off := 1) rfl) ?_
 refine bV 6 rfl rfl (ah 0 tk3 rfl rfl rfl) ?_
 refine bV 7 rfl rfl (qFA (off := 1) rfl) ?_
 refine bV 8 rfl rfl (ah 1 tk3 rfl rfl rfl) ?_
 refine bV 9 rfl rfl (bC (by kernel_rfl) rfl (fun w S fp hst => (se _ _).quiet0 hst)) ?_
 refine cg (q := true) 10 rfl (by kernel_rfl) rfl rfl (cB (zs := [.int .i64 0]) (l := [(0, .tmp 9), (1, .tmp 14)]) el90 (by kernel_rfl) (by decide) (by decide) (by decide) rfl rfl rfl (.more rfl (.v rfl .nil) (.more rfl (.v rfl .nil) .nil)) rfl rfl (fun v1_10 => ?_))
 refine bST rfl ?_
 refine cg (q := false) 11 rfl (by kernel_rfl) rfl rfl (bH [] [2] (by kernel_rfl) rfl rfl rfl rfl ((wj (.slice v1_10 2 2) _ _).clean (φ := fun r => r = _) (fun _ _ _ h => h)) ?_)
 rintro _ _ _ ⟨rfl, rfl, rfl⟩
 refine bST rfl ?_
 refine bV 12 rfl rfl (cz rfl) ?_
 refine bO (by kernel_rfl) ?_
 refine az (aJ ?_)
 refine br [] [] rfl Tryz.results89 rfl ?_ (.inr rfl)
 rfl
def el (x : aK × Bool) (p : aK) : aK × Bool := if x.2 = false ∨ ltC p x.1 then (p, true) else x
theorem jY (a b : Nat) (x : aK × Bool) (p : aK) : Con Tryz.prog 39 [.pointer (some ⟨a, 0, none⟩), .pointer (some ⟨b, 0, none⟩), p.val] [] [Box a 34 x.1.vs, Box b 4 [.bool x.2]]
   (fun _ ps hp => ps = [] ∧ hp = [Box a 34 (el x p).1.vs, Box b 4 [.bool (el x p).2]]) := by
 refine Con.enter Tryz.func39 rfl (by simp [Tryz.ntmps39]) ?_
 show awp _ _ _ _ ⟨[(0, true, _), (1, true, _), (2, true, _)], _, _⟩
 refine aSR ?_
 refine an (q := true) rfl (cx rfl rfl rfl (fun b0_0 => ?_))
 refine aHN ?_
 refine aNs ?_
 refine bp [] (by kernel_rfl) ?_
 show aB _ _ _ _ _ 12 #[false, false, false, false, false, false, false, false, false, false, false, false] _
 refine bV 0 rfl rfl (aD rfl) ?_
 refine bV 1 rfl rfl (aR rfl) ?_
 refine bV 2 rfl rfl (ah 1 tk4 rfl rfl rfl) ?_
 refine bV 3 rfl rfl (bZ rfl) ?_
 refine bV 4 rfl rfl (aD rfl) ?_
 refine bW 5 rfl rfl rfl (fun hc => ah 2 tk34 rfl rfl rfl) ?_
 refine bW 6 rfl rfl rfl (fun hc => aD rfl) ?_
 refine bW 7 rfl rfl rfl (fun hc => aR (ae rfl hc)) ?_
 refine bW 8 rfl rfl rfl (fun hc => ah 0 tk34 (ae rfl hc) rfl rfl) ?_
 refine bW 9 rfl rfl rfl (fun hc => bC (by kernel_rfl) (aS (ae rfl hc) (aS (ae rfl hc) rfl)) (fun w S fp hst => (o0 _ _).quiet0 hst)) ?_
 refine bW 10 rfl rfl rfl (fun hc => bw (ae rfl hc) rfl) ?_
 refine bV 11 rfl rfl (bY rfl rfl (fun h => gf rfl h)) ?_
 refine bO (by kernel_rfl) ?_
 refine az ?_
 refine al _ rfl (fun h1 => ?_) (fun h1 => ?_)
 ·skip
  refine aj (aM rfl (aM rfl (aU rfl (ah 2 tk34 rfl rfl rfl) (aU rfl (aR rfl) ?_))))
  refine an rfl (aV 0 tk34 rfl rfl rfl rfl ?_)
  refine aHK ?_
  refine aU rfl (aR rfl) ?_
  refine an rfl (aV 1 tk4 rfl rfl rfl rfl ?_)
  refine aHK ?_
  refine cn ?_
  refine ir [] [0, 1] rfl Tryz.results39 ?_ (.inl rfl)
  have hh : x.2 = false ∨ ltC p x.1 := by
    rw [← lJ]; simpa using h1
  exact ⟨rfl, by unfold el; rw [if_pos hh]; rfl⟩
 ·skip
  refine aq ?_
  refine ir [] [0, 1] rfl Tryz.results39 ?_ (.inl rfl)
  have hh : ¬ (x.2 = false ∨ ltC p x.1) := by
    rw [← lJ]; simpa using h1
  exact ⟨rfl, by unfold el; rw [if_neg hh]; rfl⟩
theorem mV (x : cm) (lb : Nat) (d : Dfn) (hd : InD x.objs.l d) : Con Tryz.prog 86 [.pointer (some ⟨lb, 0, none⟩), d.p.val] [At lb 0 x.row, x.ok] [] (fun r _ _ => r = d.s.val) := by
 obtain ⟨i, k, hi, hk, hp⟩ := hd
 obtain ⟨p, s⟩ := d
 dsimp only at hk hp
 subst hp
 have ho := bM hi
 refine Con.enter Tryz.func86 rfl (by simp [Tryz.ntmps86]) ?_
 show awp _ _ _ _ ⟨[(0, true, _), (1, true, _)], _, _⟩
 refine aSR ?_
 refine an (q := true) rfl (cx rfl rfl rfl (fun b0_0 => ?_))
 refine aHN ?_
 refine an (q := true) rfl (bc (zs := [.string .empty, .string .empty, .bool false, .int .i64 0, .int .i64 0, .int .i64 0, .int .i64 0, .int .i64 0, .int .i64 0, .int .i64 0]) (by kernel_rfl) rfl (fun b0_1 => ?_))
 refine aHN ?_
 refine aNs ?_
 refine bp [13] (by kernel_rfl) ?_
 show aB _ _ _ _ _ 14 #[false, false, false, false, false, false, false, false, false, false, false, false, false, false] _
 refine bV 0 rfl rfl (aD rfl) ?_
 refine bV 1 rfl rfl (aR rfl) ?_
 refine bV 2 rfl rfl (qFA (off := 0) rfl) ?_
 refine bV 3 rfl rfl (aN (o := 0) tk22 rfl (.of (aF 0 rfl)) rfl) ?_
 refine bV 4 rfl rfl (qFA (off := 0) rfl) ?_
 refine bV 5 rfl rfl (ah 0 tk3 rfl rfl rfl) ?_
 refine dC 6 rfl (by kernel_rfl) true rfl rfl (fun _ => av Tryz.underlying22 tk61 rfl ((cm.f_objs (.of (aF 1 rfl)))) rfl (aQ ho) rfl rfl) (fun h => absurd h (by decide)) (fun ⟨b1_6, o1_6⟩ => ?_)
 refine bV 7 rfl rfl (qFA (off := 2) rfl) ?_
 refine bV 8 rfl rfl (aP (o := 2) tk51 rfl (aF 0 rfl) rfl rfl) ?_
 refine bV 9 rfl rfl (qFA (off := 1) rfl) ?_
 refine bV 10 rfl rfl (ah 0 tk3 rfl rfl rfl) ?_
 refine dC 11 rfl (by kernel_rfl) true rfl rfl (fun _ => av Tryz.underlying51 tk63 rfl ((ax.f_syms (Ent.all (cm.f_objsA (.of (aF 2 rfl))) ho))) rfl (aQ hk) rfl rfl) (fun h => absurd h (by decide)) (fun ⟨b1_11, o1_11⟩ => ?_)
 refine bV 12 rfl rfl (aP (o := 0) tk63 rfl (aF 0 rfl) rfl rfl) ?_
 refine cg 13 rfl (by kernel_rfl) rfl rfl (aV 1 tk63 rfl rfl rfl rfl ?_)
 refine bST rfl ?_
 refine bO (by kernel_rfl) ?_
 refine az (aJ ?_)
 refine nV [] [] rfl Tryz.results86 (cV 1 tk63 rfl rfl rfl) ?_ (.inr rfl)
 rfl
theorem tS (x : cm) (hok : jv x.objs.l x.kp.l) (lb : Nat) (d : Dfn) (hd : InD x.objs.l d) : Con Tryz.prog 85 [.pointer (some ⟨lb, 0, none⟩), d.p.val, d.s.val] [At lb 0 x.row, x.ok] [] (fun r _ _ => r = .bool (fC x.kp.l d)) := by
 obtain ⟨i, k, hi, hk, hp⟩ := hd
 obtain ⟨p, s⟩ := d
 dsimp only at hk hp
 subst hp
 have ho := bM hi
 have hkn := hok.kn
 have hkp := bM (l := x.kp.l) (i := i) (by omega)
 have hks := hok.ks i hi
 have hsec := hok.sec _ (List.mem_of_getElem? ho) s (List.mem_of_getElem? hk)
 refine Con.enter Tryz.func85 rfl (by simp [Tryz.ntmps85]) ?_
 show awp _ _ _ _ ⟨[(0, true, _), (1, true, _), (2, true, _)], _, _⟩
 refine aSR ?_
 refine an (q := true) rfl (cx rfl rfl rfl (fun b0_0 => ?_))
 refine aHN ?_
 refine an (q := true) rfl (cx rfl rfl rfl (fun b0_1 => ?_))
 refine aHN ?_
 refine aA rfl (aNs ?_)
 refine bp [] (by kernel_rfl) ?_
 show aB _ _ _ _ _ 28 #[false, false, false, false, false, false, false, false, false, false, false, false, false, false, false, false, false, false, false, false, false, false, false, false, false, false, false, false] _
 refine bV 0 rfl rfl (qFA (off := 3) rfl) ?_
 refine bV 1 rfl rfl (ah 1 tk3 rfl rfl rfl) ?_
 refine bV 2 rfl rfl (bx rfl rfl) ?_
 refine bV 3 rfl rfl (aD rfl) ?_
 refine bW 4 rfl rfl rfl (fun hc => qFA (off := 3) rfl) ?_
 refine bW 5 rfl rfl rfl (fun hc => ah 1 tk3 (ae rfl hc) rfl rfl) ?_
 refine bW 6 rfl rfl rfl (fun hc => dB (ae rfl hc) rfl) ?_
 refine bW 7 rfl rfl rfl (fun hc => aD (ae rfl hc)) ?_
 refine bW 8 rfl rfl rfl (fun hc => qFA (off := 6) rfl) ?_
 refine bW 9 rfl rfl rfl (fun hc => ah 1 tk3 (ae rfl hc) rfl rfl) ?_
 refine bW 10 rfl rfl rfl (fun hc => eu (ae rfl hc) rfl) ?_
 refine bW 11 rfl rfl rfl (fun hc => bJ (ae rfl hc) rfl (fun h => gt hc h)) ?_
 refine bW 12 rfl rfl rfl (fun hc => aD (ae rfl hc)) ?_
 refine bW 13 rfl rfl rfl (fun hc => aD rfl) ?_
 refine bW 14 rfl rfl rfl (fun hc => aR (ae rfl hc)) ?_
 refine bW 15 rfl rfl rfl (fun hc => qFA (off := 1) (ae rfl hc)) ?_
 refine bW 16 rfl rfl rfl (fun hc => aN (o := 1) tk27 (ae rfl hc) (.of (aF 0 rfl)) rfl) ?_
 refine bW 17 rfl rfl rfl (fun hc => qFA (off := 0) rfl) ?_
 refine bW 18 rfl rfl rfl (fun hc => ah 0 tk3 (ae rfl hc) rfl rfl) ?_
 refine dC 19 rfl (by kernel_rfl) _ rfl rfl (fun hc => av Tryz.underlying27 tk68 (ae rfl hc) ((cm.f_kp (.of (aF 1 rfl)))) (ae rfl hc) (aQ hkp) rfl rfl) (fun _ => ⟨(0, 0)⟩) (fun ⟨b1_19, o1_19⟩ => ?_)
 refine bW 20 rfl rfl rfl (fun hc => aP (o := 0) tk68 (ae rfl hc) (aF 0 rfl) hc rfl) ?_
 refine bW 21 rfl rfl rfl (fun hc => qFA (off := 6) rfl) ?_
 refine bW 22 rfl rfl rfl (fun hc => ah 1 tk3 (ae rfl hc) rfl rfl) ?_
 refine dC 23 rfl (by kernel_rfl) _ rfl rfl (fun hc => av Tryz.underlying68 tk4 (ae rfl hc) ((Ent.all (f := ShF bR) (cm.f_kpA (.of (aF 2 rfl))) hkp)) (ae rfl hc) (bI (i := s.sec) (by simp at hc; omega) (by simp at hc; omega)) (by simp at hc; omega) rfl) (fun _ => ⟨(0, 0)⟩) (fun ⟨b1_23, o1_23⟩ => ?_)
 refine bW 24 rfl rfl rfl (fun hc => aP (o := 0) tk4 (ae rfl hc) (aF 0 rfl) hc rfl) ?_
 refine bW 25 rfl rfl rfl (fun hc => bJ (ae rfl hc) rfl (fun h => gt hc h)) ?_
 refine bV 26 rfl rfl (bY rfl rfl (fun h => gf rfl h)) ?_
 refine bV 27 rfl rfl (cz rfl) ?_
 refine bO (by kernel_rfl) ?_
 refine az (aJ ?_)
 refine br [] [] rfl Tryz.results85 rfl ?_ (.inr rfl)
 unfold fC oH; simp [Bool.and_assoc]
theorem yu (i : Int) (l : List bE) : ∀ m : List bE, ∃ M, dW i (l ++ m) = dW i l ++ M := fun m => by
 unfold dW; rw [List.zipIdx_append, List.map_append]; exact ⟨_, rfl⟩
theorem tQ (i : Int) (l : List bE) (k : Nat) : ∃ M, dW i l = dW i (l.take k) ++ M := by
 obtain ⟨M, h⟩ := yu i (l.take k) (l.drop k)
 rw [List.take_append_drop] at h; exact ⟨M, h⟩
theorem nS (os : List ax) {i : Nat} : ∀ {n : Nat}, i ≤ n → ∃ M, cZ os n = cZ os i ++ M := fun {n} h => by
 induction n with
 | zero => obtain rfl : i = 0 := by omega
           exact ⟨[], by simp⟩
 | succ n ih =>
   by_cases hi : i = n + 1
   · subst hi; exact ⟨[], by simp⟩
   · obtain ⟨M, hM⟩ := ih (by omega)
     exact ⟨M ++ dW (n : Int) (elt os (n : Int)).syms.l, by rw [eb, hM, List.append_assoc]⟩
theorem tE (x : cm) (hn : x.objs.l.length ≤ 5) (hs : ∀ o ∈ x.objs.l, o.syms.l.length ≤ 14) (lb : Nat) (F : FuncId) (caps : List Value) (q : Per) (J : List Dfn → Res) (hF : e8 Tryz.prog F = true)
   (h : ∀ (L : List Dfn) (d : Dfn), InD x.objs.l d → L.length < 70 → (∃ M, bQ x.objs.l = (L ++ [d]) ++ M) → Con Tryz.prog F (d.p.val :: d.s.val :: caps) [q] [J L] fun _ ps hp => ps = [] ∧ hp = [J (L ++ [d])]) :
   Con Tryz.prog 36 [.pointer (some ⟨lb, 0, none⟩), .func (.func F) #[] caps.toArray] [At lb 0 x.row, x.ok, q] [J []] fun _ ps hp => ps = [] ∧ hp = [J (bQ x.objs.l)] := by
 have hfl : ∀ i, i ≤ x.objs.l.length → (cZ x.objs.l i).length ≤ 14 * i := fun i => by
   induction i with
   | zero => intro _; exact Nat.le_refl _
   | succ i ih =>
     intro hi
     rw [eb, List.length_append]
     have h1 := ih (by omega)
     have h2 := hs _ (List.mem_of_getElem? (bM (l := x.objs.l) (i := i) (by omega)))
     have h3 : (dW (i : Int) (elt x.objs.l (i : Int)).syms.l).length = (elt x.objs.l (i : Int)).syms.l.length := by unfold dW; simp
     omega
 have hlt : ∀ (i k : Nat) (o : ax), i < x.objs.l.length → elt x.objs.l (i : Int) = o → k < o.syms.l.length → (cZ x.objs.l i ++ dW (i : Int) (o.syms.l.take k)).length < 70 := fun i k o hi ho hk => by
   have h1 := hfl i (by omega)
   have h2 := hs _ (List.mem_of_getElem? (bM (l := x.objs.l) (i := i) (by omega)))
   have h3 : (dW (i : Int) (o.syms.l.take k)).length ≤ k := by unfold dW; simp; omega
   rw [ho] at h2
   rw [List.length_append]; omega
 have hpre : ∀ (i k : Nat) (o : ax) (s : bE), i < x.objs.l.length → elt x.objs.l (i : Int) = o → o.syms.l[k]? = some s → ∃ M, bQ x.objs.l = ((cZ x.objs.l i ++ dW (i : Int) (o.syms.l.take k)) ++ [⟨⟨(i : Int), (k : Int)⟩, s⟩]) ++ M := fun i k o s hi ho hk => by
   obtain ⟨M, hM⟩ := nS x.objs.l (i := i + 1) (n := x.objs.l.length) (by omega)
   rw [List.append_assoc _ _ [_], ← jW hk]
   obtain ⟨M2, hM2⟩ := tQ (i : Int) o.syms.l (k + 1)
   refine ⟨M2 ++ M, ?_⟩
   unfold bQ
   rw [hM, eb, ho, hM2]; simp
 refine Con.enter Tryz.func36 rfl (by simp [Tryz.ntmps36]) ?_
 show awp _ _ _ _ ⟨[(0, true, _), (1, true, _)], _, _⟩
 refine bA (cm.f_objs (.of (aF 1 rfl))) (fun hlen => ?_)
 refine aSR (aM rfl (aU rfl (aR rfl) ?_))
 refine aU rfl (qFA (off := 0) rfl) ?_
 refine aU rfl (aN (o := 0) tk22 rfl (.of (aF 0 rfl)) rfl) (aU rfl (aZ Tryz.underlying22 rfl) (aM rfl (aNn (aI (aT [1, 11, 12, 13] [2, 1, 0] [0] (fun (i : Nat) st => i ≤ x.objs.l.length ∧ st = ⟨[(1, true, .func (.func F) #[] caps.toArray), (11, true, x.objs.val), (12, true, .int .i64 x.objs.l.length), (13, true, .int .i64 i)], [At lb 0 x.row, x.ok, q], [J (cZ x.objs.l i)]⟩) (fun i => x.objs.l.length - i) rfl (⟨0, Nat.zero_le _, rfl⟩) ?_)))))
 rintro i st ⟨hi, rfl⟩
 refine aSR (aU rfl (bw rfl rfl) (aNs ?_))
 refine al _ rfl (fun h1 => ?_) (fun h1 => ?_)
 ·skip
  have hi' : i < x.objs.l.length := by simp at h1; omega
  have ho := bM hi'
  generalize hoo : elt x.objs.l (i : Int) = o at ho
  refine aq (az (aH (aI (aSR (aM rfl ?_)))))
  refine cJ true rfl rfl (fun _ => av Tryz.underlying22 tk61 rfl ((cm.f_objs (.of (aF 1 rfl)))) rfl (aQ ho) rfl rfl) (fun h => absurd h (by decide)) (fun ⟨b2_1, o2_1⟩ => ?_)
  refine aU rfl (aP (o := 0) tk61 rfl (aF 0 rfl) rfl rfl) ?_
  refine an (q := true) rfl (bc (zs := [.string .empty, .slice none 0 0, .slice none 0 0, .slice none 0 0, .slice none 0 0, .slice none 0 0, .slice none 0 0, .slice none 0 0, .slice none 0 0, .slice none 0 0, .slice none 0 0]) (by kernel_rfl) rfl (fun b2_3 => ?_))
  refine aHN ?_
  refine aA rfl ?_
  refine an rfl (aV 1 tk61 rfl rfl rfl rfl ?_)
  refine aHK ?_
  refine aNs ?_
  refine bA (ax.f_syms (Ent.all (cm.f_objsA (.of (aF 2 rfl))) ho)) (fun hlen2 => ?_)
  refine aj ?_
  refine aU rfl (qFA (off := 2) rfl) ?_
  refine aU rfl (ah 1 tk51 rfl rfl rfl) (aU rfl (aZ Tryz.underlying51 rfl) (aM rfl (aNn (aI ?_))))
  refine aT [1, 4, 11, 12, 13, 19, 20, 21] [2, 1, 0] [0] (fun (k : Nat) st => k ≤ o.syms.l.length ∧ st = ⟨[(1, true, .func (.func F) #[] caps.toArray), (4, true, .int .i64 i), (11, true, x.objs.val), (12, true, .int .i64 x.objs.l.length), (13, true, .int .i64 i), (19, true, o.syms.val), (20, true, .int .i64 o.syms.l.length), (21, true, .int .i64 k)], [At lb 0 x.row, x.ok, q], [J (cZ x.objs.l i ++ dW (i : Int) (o.syms.l.take k))]⟩) (fun k => o.syms.l.length - k) rfl (⟨0, Nat.zero_le _, by rw [List.take_zero, show dW (i : Int) [] = [] from rfl, List.append_nil]; rfl⟩) ?_
  rintro k st ⟨hk, rfl⟩
  refine aSR (aU rfl (bw rfl rfl) (aNs ?_))
  refine al _ rfl (fun h2 => ?_) (fun h2 => ?_)
  ·skip
   have hk' : k < o.syms.l.length := by simp at h2; omega
   obtain ⟨s, hs'⟩ : ∃ s, o.syms.l[k]? = some s := ⟨_, List.getElem?_eq_getElem hk'⟩
   refine aq (az (aH (aI (aSR (aM rfl ?_)))))
   refine cJ true rfl rfl (fun _ => av Tryz.underlying51 tk63 rfl ((ax.f_syms (Ent.all (cm.f_objsA (.of (aF 1 rfl))) ho))) rfl (aQ hs') rfl rfl) (fun h => absurd h (by decide)) (fun ⟨b5_1, o5_1⟩ => ?_)
   refine aU rfl (aP (o := 0) tk63 rfl (aF 0 rfl) rfl rfl) ?_
   refine an (q := true) rfl (bc (zs := [.string .empty, .string .empty, .bool false, .int .i64 0, .int .i64 0, .int .i64 0, .int .i64 0, .int .i64 0, .int .i64 0, .int .i64 0]) (by kernel_rfl) rfl (fun b5_3 => ?_))
   refine aHN ?_
   refine aA rfl ?_
   refine an rfl (aV 1 tk63 rfl rfl rfl rfl ?_)
   refine aHK ?_
   refine aNn (aj (aM rfl (aM rfl (aM rfl ?_))))
   refine aU rfl (dz (l := [(0, .tmp 27), (1, .tmp 28)]) (zs := [.int .i64 0, .int .i64 0]) (pl := [(0, 1), (1, 1)]) (by kernel_rfl) (by kernel_rfl) (by kernel_rfl) rfl rfl rfl) ?_
   refine aU rfl (ah 1 tk63 rfl rfl rfl) ?_
   refine an (q := false) rfl (gA [0] [0] hF rfl rfl rfl rfl rfl (h _ ⟨⟨(i : Int), (k : Int)⟩, s⟩ ⟨i, k, hi', by rw [hoo]; exact hs', rfl⟩ (hlt i k o hi' hoo hk') (hpre i k o s hi' hoo hs')) ?_)
   rintro _ _ _ ⟨rfl, rfl⟩
   refine aST ?_
   refine cn (bB (az (aj ?_)))
   refine aU rfl (bd rfl rfl (by omega)) ?_
   refine aM rfl (aNn ?_)
   refine ⟨[1, 4, 11, 12, 13, 19, 20, 21], [2, 1, 0], [0], rfl, ?_⟩
   exact ⟨k + 1, ⟨by omega, by rw [jW hs', ← List.append_assoc]; rfl⟩, by omega⟩
  ·skip
   refine aX (aY (aY (bf (bB (az (aj ?_))))))
   refine aU rfl (bd rfl rfl (by omega)) ?_
   refine aM rfl (aNn ?_)
   refine ⟨[1, 11, 12, 13], [2, 1, 0], [0], rfl, ?_⟩
   rw [List.take_of_length_le (by simp at h2; omega)]
   exact ⟨i + 1, ⟨by omega, by rw [eb, hoo]; rfl⟩, by omega⟩
 ·skip
  refine aX (aY (aY (bf ?_)))
  refine ir [] [0] rfl Tryz.results36 ?_ (.inl rfl)
  rw [show i = x.objs.l.length by simp at h1; omega]
  exact ⟨rfl, rfl⟩
end Go.Proofs.YtgmiihmahaahiaaGreatDoor

namespace Go.Proofs.YtgmiihmahaahiaaGreatDoor
open Go.RowKit Go.Lp Go.Sy
open Go.Proofs.Tryz
attribute [local irreducible] aL aB awp aC fwp
end Go.Proofs.YtgmiihmahaahiaaGreatDoor

namespace Go.Proofs.YtgmiihmahaahiaaGreatDoor
open Go.RowKit Go.Lp Go.Sy
open Go.Proofs.Tryz
attribute [local irreducible] aL aB awp aC fwp
end Go.Proofs.YtgmiihmahaahiaaGreatDoor

namespace Go.Proofs.YtgmiihmahaahiaaGreatDoor
open Go.RowKit Go.Lp Go.Sy
open Go.Proofs.Tryz
attribute [local irreducible] aL aB awp aC fwp
end Go.Proofs.YtgmiihmahaahiaaGreatDoor

namespace Go.Sy
open Go.RowKit Go.Lp
section
variable {P : Program} {d : Option Tmp} {ty : TypeId} {pos : String} {af : Array Edge} {gd : Option (Nat × Bool)}
variable {n : Fr} {s : Sta}
variable {ops : Array Oper} {Q : Exit → Sta → Prop} {env : Env} {ps : List Per} {hp : List Res} {rest : List Oper}
end
end Go.Sy

namespace Go.Proofs.YtgmiihmahaahiaaGreatDoor
open Go.RowKit Go.Lp Go.Sy
open Go.Proofs.Tryz
attribute [local irreducible] aL aB awp aC fwp
structure ab1 (o : ax) : Prop where
 secs : ∀ s ∈ o.secs.l, s.bytes.size ≤ 1048576
 syms : ∀ s ∈ o.syms.l, (s.sec = -1 ∧ s.bind ≠ 0) ∨ (0 ≤ s.sec ∧ s.sec < o.secs.l.length)
 groups : ∀ g ∈ o.groups.l, g.secs.l.length ≤ o.secs.l.length ∧ ∀ z ∈ g.secs.l, 0 ≤ z ∧ z < o.secs.l.length
structure ac9 (o : ax) : Prop where
 secs : o.secs.l.length ≤ 1000
 groups : o.groups.l.length ≤ 1000
 inlines : o.inlines.l.length ≤ 1000
end Go.Proofs.YtgmiihmahaahiaaGreatDoor

namespace Go.Sy
open Go.RowKit Go.Lp
theorem abv {P : Program} {n : Fr} {s : Sta} {d : Option Tmp} {ty : TypeId} {pos : String} {af : Array Edge} {gd : Option (Nat × Bool)} {x : Operand} {T t' E : TypeId} {ad : Option Addr} {k c : Nat} (hT : P.underlying T = some (.slice E)) (hx : ev s.env x = some (true, .slice ad k c)) : Quiet P n ⟨d, .binOp .neq T x (.const (.slice none 0 0)) t', ty, pos, af, gd⟩ s (.bool (!ad.isNone)) :=
 .run2 (vy := .slice none 0 0) hx rfl fun ρ w h1 h2 => by
   unfold execOp; dsimp only; rw [h1, h2]
   simp only [eqGuard_at_slice, binOp, Sem.run_bind, Sem.run_pure, run_equal_slice_nil w T E ad k c hT, Result.andThen_ok]
end Go.Sy
namespace Go.Proofs.YtgmiihmahaahiaaGreatDoor
open Go.RowKit Go.Lp Go.Sy
open Go.Proofs.Tryz
attribute [local irreducible] aL aB awp aC fwp
theorem aa4 (o : ax) (sec : Int) : Con Tryz.prog 187 [o.val, .int .i64 sec] [o.ok] [] (YB (0 ≤ sec ∧ sec < o.secs.l.length)) := by
 refine Con.enter Tryz.func187 rfl (by simp [Tryz.ntmps187]) ?_
 show awp _ _ _ _ ⟨[(0, true, _), (1, true, _)], _, _⟩
 refine bA (ax.f_secs (.of (aF 0 rfl))) (fun hlen => ?_)
 refine aSR ?_
 refine an (q := true) rfl (cx rfl rfl rfl (fun b0_0 => ?_))
 refine aHN ?_
 refine aA rfl (aNn (aSR (aM rfl ?_)))
 refine aU rfl (qFA (off := 1) rfl) ?_
 refine aU rfl (ah 0 tk50 rfl rfl rfl) (aU rfl (aZ Tryz.underlying50 rfl) ?_)
 refine aU rfl (bC (by kernel_rfl) rfl (fun w S fp hst => (pb _ _).quiet0 hst)) ?_
 refine aM rfl ?_
 refine aG rfl rfl (fun hc => qFA (off := 1) rfl) ?_
 refine aG rfl rfl (fun hc => ah 0 tk50 (ae rfl hc) rfl rfl) (aG rfl rfl (fun hc => aD rfl) ?_)
 refine cJ _ rfl rfl (fun hc => av Tryz.underlying50 tk85 (ae rfl hc) ((ax.f_secs (.of (aF 0 rfl)))) (ae rfl hc) (bI (i := sec) (by simp at hc; omega) (by simp at hc; omega)) (by simp at hc; omega) rfl) (fun _ => ⟨(0, 0)⟩) (fun ⟨b1_9, o1_9⟩ => ?_)
 refine aG rfl rfl (fun hc => qFA (off := 1) (ae rfl hc)) ?_
 refine aG rfl rfl (fun hc => aP (o := 1) tk3 (ae rfl hc) (aF 0 rfl) hc rfl) (aG rfl rfl (fun hc => eu (ae rfl hc) rfl) (aU rfl (bJ rfl rfl (fun h => gt rfl h)) (aM rfl ?_)))
 refine aG rfl rfl (fun hc => qFA (off := 1) rfl) ?_
 refine aG rfl rfl (fun hc => ah 0 tk50 (ae rfl hc) rfl rfl) (aG rfl rfl (fun hc => aD rfl) ?_)
 refine cJ _ rfl rfl (fun hc => av Tryz.underlying50 tk85 (ae rfl hc) ((ax.f_secs (.of (aF 1 rfl)))) (ae rfl hc) (bI (i := sec) (by simp at hc; omega) (by simp at hc; omega)) (by simp at hc; omega) rfl) (fun _ => ⟨(0, 0)⟩) (fun ⟨b1_18, o1_18⟩ => ?_)
 refine aG rfl rfl (fun hc => qFA (off := 2) (ae rfl hc)) ?_
 refine aG rfl rfl (fun hc => aP (o := 2) tk3 (ae rfl hc) (aF 0 rfl) hc rfl) (aG rfl rfl (fun hc => eu (ae rfl hc) rfl) (aU rfl (bJ rfl rfl (fun h => gt rfl h)) (aM rfl ?_)))
 refine aG rfl rfl (fun hc => qFA (off := 1) rfl) ?_
 refine aG rfl rfl (fun hc => ah 0 tk50 (ae rfl hc) rfl rfl) (aG rfl rfl (fun hc => aD rfl) ?_)
 refine cJ _ rfl rfl (fun hc => av Tryz.underlying50 tk85 (ae rfl hc) ((ax.f_secs (.of (aF 2 rfl)))) (ae rfl hc) (bI (i := sec) (by simp at hc; omega) (by simp at hc; omega)) (by simp at hc; omega) rfl) (fun _ => ⟨(0, 0)⟩) (fun ⟨b1_27, o1_27⟩ => ?_)
 refine aG rfl rfl (fun hc => qFA (off := 3) (ae rfl hc)) ?_
 refine aG rfl rfl (fun hc => aP (o := 3) tk3 (ae rfl hc) (aF 0 rfl) hc rfl) (aG rfl rfl (fun hc => eu (ae rfl hc) rfl) (aU rfl (bJ rfl rfl (fun h => gt rfl h)) (aA rfl (aNn (aJ ?_)))))
 refine br [] [] rfl Tryz.results187 rfl ?_ (.inr rfl)
 refine ⟨⟨rfl, rfl⟩, _, rfl, fun hb => ?_⟩
 simp at hb; omega
theorem zS (k : Int) : Con Tryz.prog 141 [.int .i64 k] [] [] fun r ps hp => ps = [] ∧ hp = [] ∧ ∃ (ad : Option Addr) (m c : Nat), r = .slice ad m c ∧ (ad ≠ none → gK k = 8) := by
 refine Con.enter Tryz.func141 rfl (by simp [Tryz.ntmps141]) ?_
 show awp _ _ _ _ ⟨[(0, true, _)], _, _⟩
 refine aSR (aA rfl (aNs (aSR (aM rfl (aNn (aI (aSR (aU rfl (bx rfl rfl) (aA rfl (aNn ?_))))))))))
 refine al _ rfl (fun h1 => ?_) (fun h1 => ?_)
 ·skip
  refine aSR ?_
  refine an (q := true) rfl (cB (zs := [.int .i64 0]) (l := [(0, .const (.int .i64 14)), (1, .const (.int .i64 19)), (2, .const (.int .i64 20)), (3, .const (.int .i64 21))]) el90 (by kernel_rfl) (by decide) (by decide) (by decide) rfl rfl rfl (.more rfl (.v rfl .nil) (.more rfl (.v rfl .nil) (.more rfl (.v rfl .nil) (.more rfl (.v rfl .nil) .nil)))) rfl rfl (fun v3_0 => ?_))
  refine aHN ?_
  refine aA rfl (aNn (aJ (bu (aO ?_))))
  refine br [] [] rfl Tryz.results141 rfl ?_ (.inr rfl)
  exact ⟨rfl, rfl, v3_0, _, _, rfl, fun _ => by rw [show k = 5 by simpa using h1]; rfl⟩
 ·skip
  refine aSR (aU rfl (bx rfl rfl) (aA rfl (aNn ?_)))
  refine al _ rfl (fun h2 => ?_) (fun h2 => ?_)
  ·skip
   refine aSR ?_
   refine an (q := true) rfl (cB (zs := [.int .i64 0]) (l := [(0, .const (.int .i64 22))]) el90 (by kernel_rfl) (by decide) (by decide) (by decide) rfl rfl rfl (.more rfl (.v rfl .nil) .nil) rfl rfl (fun v5_0 => ?_))
   refine aHN ?_
   refine aA rfl (aNn (aJ (bu (aO ?_))))
   refine br [] [] rfl Tryz.results141 rfl ?_ (.inr rfl)
   exact ⟨rfl, rfl, v5_0, _, _, rfl, fun _ => by rw [show k = 6 by simpa using h2]; rfl⟩
  ·skip
   refine aSR (aU rfl (bx rfl rfl) (aA rfl (aNn ?_)))
   refine al _ rfl (fun h3 => ?_) (fun h3 => ?_)
   ·skip
    refine aSR ?_
    refine an (q := true) rfl (cB (zs := [.int .i64 0]) (l := [(0, .const (.int .i64 24)), (1, .const (.int .i64 25))]) el90 (by kernel_rfl) (by decide) (by decide) (by decide) rfl rfl rfl (.more rfl (.v rfl .nil) (.more rfl (.v rfl .nil) .nil)) rfl rfl (fun v7_0 => ?_))
    refine aHN ?_
    refine aA rfl (aNn (aJ (bu (aO ?_))))
    refine br [] [] rfl Tryz.results141 rfl ?_ (.inr rfl)
    exact ⟨rfl, rfl, v7_0, _, _, rfl, fun _ => by rw [show k = 7 by simpa using h3]; rfl⟩
   ·skip
    refine aSR (aU rfl (bx rfl rfl) (aA rfl (aNn ?_)))
    refine al _ rfl (fun h4 => ?_) (fun h4 => ?_)
    ·skip
     refine aSR ?_
     refine an (q := true) rfl (cB (zs := [.int .i64 0]) (l := [(0, .const (.int .i64 3))]) el90 (by kernel_rfl) (by decide) (by decide) (by decide) rfl rfl rfl (.more rfl (.v rfl .nil) .nil) rfl rfl (fun v9_0 => ?_))
     refine aHN ?_
     refine aA rfl (aNn (aJ (bu (aO ?_))))
     refine br [] [] rfl Tryz.results141 rfl ?_ (.inr rfl)
     exact ⟨rfl, rfl, v9_0, _, _, rfl, fun _ => by rw [show k = 8 by simpa using h4]; rfl⟩
    ·skip
     refine aSR (aU rfl (bx rfl rfl) (aA rfl (aNn ?_)))
     refine al _ rfl (fun h5 => ?_) (fun h5 => ?_)
     ·skip
      refine aSR ?_
      refine an (q := true) rfl (cB (zs := [.int .i64 0]) (l := [(0, .const (.int .i64 4))]) el90 (by kernel_rfl) (by decide) (by decide) (by decide) rfl rfl rfl (.more rfl (.v rfl .nil) .nil) rfl rfl (fun v11_0 => ?_))
      refine aHN ?_
      refine aA rfl (aNn (aJ (bu (aO ?_))))
      refine br [] [] rfl Tryz.results141 rfl ?_ (.inr rfl)
      exact ⟨rfl, rfl, v11_0, _, _, rfl, fun _ => by rw [show k = 9 by simpa using h5]; rfl⟩
     ·skip
      refine aSR (aU rfl (bx rfl rfl) (aA rfl (aNn ?_)))
      refine al _ rfl (fun h6 => ?_) (fun h6 => ?_)
      ·skip
       refine aSR ?_
       refine an (q := true) rfl (cB (zs := [.int .i64 0]) (l := [(0, .const (.int .i64 13)), (1, .const (.int .i64 3))]) el90 (by kernel_rfl) (by decide) (by decide) (by decide) rfl rfl rfl (.more rfl (.v rfl .nil) (.more rfl (.v rfl .nil) .nil)) rfl rfl (fun v13_0 => ?_))
       refine aHN ?_
       refine aA rfl (aNn (aJ (bu (aO ?_))))
       refine br [] [] rfl Tryz.results141 rfl ?_ (.inr rfl)
       exact ⟨rfl, rfl, v13_0, _, _, rfl, fun _ => by rw [show k = 10 by simpa using h6]; rfl⟩
      ·skip
       refine aq (bB (az (aSR (aA rfl (aNn (aJ ?_))))))
       refine br [] [] rfl Tryz.results141 rfl ?_ (.inr rfl)
       exact ⟨rfl, rfl, none, 0, 0, rfl, fun h => absurd rfl h⟩
theorem vm (k : Int) : 2 ≤ gK k ∧ gK k ≤ 8 := by unfold gK; split <;> (try split) <;> decide
theorem zB (o : ax) (hb : ∀ s ∈ o.secs.l, s.bytes.size ≤ 1048576) (sec : Int) : Con Tryz.prog 82 [o.val, .int .i64 sec] [dG, dF, o.ok] [] fun r ps hp => ps = [] ∧ hp = [] ∧ ∃ t : ByteArray, r = .string t := by
 refine Con.enter Tryz.func82 rfl (by simp [Tryz.ntmps82]) ?_
 show awp _ _ _ _ ⟨[(0, true, _), (1, true, _)], _, _⟩
 refine bA (ax.f_secs (.of (aF 2 rfl))) (fun hlen => ?_)
 refine bA (ax.f_rels (.of (aF 2 rfl))) (fun hlen2 => ?_)
 refine aSR ?_
 refine an (q := true) rfl (cx rfl rfl rfl (fun b0_0 => ?_))
 refine aHN ?_
 refine aA rfl (aNs (aSR (aU rfl (ah 0 tk61 rfl rfl rfl) (aM rfl ?_))))
 refine bT (caps := []) [0] (false) (by kernel_rfl) true rfl rfl (fun _ => rfl) (fun hc => rfl) (fun hc => by rw [List.append_nil]; exact aa4 o _) (fun c1 hc1 => ?_)
 refine aU rfl (bZ rfl) (aNn ?_)
 refine al _ rfl (fun h1 => ?_) (fun h1 => ?_)
 ·skip
  refine aSR (aA rfl (aNn (aJ (aO ?_))))
  refine br [] [] rfl Tryz.results82 rfl ?_ (.inr rfl)
  exact ⟨rfl, rfl, _, rfl⟩
 ·skip
  have hsec : 0 ≤ sec ∧ sec < o.secs.l.length := hc1 rfl (by simpa using h1)
  have hsm := iQ (l := o.secs.l) (i := sec) hsec.2 hsec.1
  have hbs := hb _ (List.mem_of_getElem? hsm)
  generalize hss : elt o.secs.l sec = s at hsm hbs
  refine aq (az (aSR ?_))
  refine aU rfl (qFA (off := 1) rfl) ?_
  refine aU rfl (ah 0 tk50 rfl rfl rfl) (aM rfl ?_)
  refine cJ true rfl rfl (fun _ => av Tryz.underlying50 tk85 rfl ((ax.f_secs (.of (aF 2 rfl)))) rfl (row := s.row) (hss ▸ bI (i := sec) hsec.2 hsec.1) (by omega) rfl) (fun h => absurd h (by decide)) (fun ⟨b3_3, o3_3⟩ => ?_)
  refine aU rfl (aP (o := 0) tk85 rfl (aF 0 rfl) rfl rfl) ?_
  refine an (q := true) rfl (bc (zs := [.string .empty, .int .i64 0, .int .i64 0, .int .i64 0, .string .empty, .bool false]) (by kernel_rfl) rfl (fun b3_5 => ?_))
  refine aHN ?_
  refine an rfl (aV 1 tk85 rfl rfl rfl rfl ?_)
  refine aHK ?_
  refine aNn (aSR ?_)
  refine aU rfl (qFA (off := 4) rfl) ?_
  refine aU rfl (ah 1 tk9 rfl rfl rfl) ?_
  refine an (q := true) rfl (tX Tryz.underlying9 Tryz.underlying280 Tryz.underlying5 rfl rfl (fun gb cb hcb => ?_))
  refine aHN ?_
  refine aA rfl (aNs (aSR ?_))
  refine aU rfl (qFA (off := 3) rfl) ?_
  refine aU rfl (ah 0 tk52 rfl rfl rfl) (aU rfl (aZ Tryz.underlying52 rfl) (aM rfl (aNn (aI (aT [1, 2, 5, 6, 24, 25, 26] [2, 1, 0] [0, 1, 2] (fun (k : Nat) st => k ≤ o.rels.l.length ∧ st = ⟨[(1, true, .int .i64 sec), (2, true, .pointer (some ⟨b0_0, 0, none⟩)), (5, true, .pointer (some ⟨b3_5, 0, none⟩)), (6, true, .slice (some ⟨gb, 0, none⟩) s.bytes.size cb), (24, true, o.rels.val), (25, true, .int .i64 o.rels.l.length), (26, true, .int .i64 k)], [dG, dF, o.ok], [Box b0_0 61 o.vs, Box b3_5 85 s.vs, ByB gb cb]⟩) (fun k => o.rels.l.length - k) rfl (⟨0, Nat.zero_le _, rfl⟩) ?_)))))
  rintro k st ⟨hk, rfl⟩
  refine aSR (aU rfl (bw rfl rfl) (aNs ?_))
  refine al _ rfl (fun h2 => ?_) (fun h2 => ?_)
  ·skip
   have hk' : k < o.rels.l.length := by simpa using h2
   obtain ⟨r, hr⟩ : ∃ r, o.rels.l[k]? = some r := ⟨_, List.getElem?_eq_getElem hk'⟩
   have hw := vm r.kind
   refine aq (az (aH (aI (aSR ?_))))
   refine cJ true rfl rfl (fun _ => av Tryz.underlying52 tk182 rfl ((ax.f_rels (.of (aF 2 rfl)))) rfl (aQ hr) rfl rfl) (fun h => absurd h (by decide)) (fun ⟨b7_0, o7_0⟩ => ?_)
   refine aU rfl (aP (o := 0) tk182 rfl (aF 0 rfl) rfl rfl) ?_
   refine an (q := true) rfl (bc (zs := [.int .i64 0, .int .i64 0, .int .i64 0, .int .i64 0, .int .i64 0]) (by kernel_rfl) rfl (fun b7_2 => ?_))
   refine aHN ?_
   refine an rfl (aV 3 tk182 rfl rfl rfl rfl ?_)
   refine aHK ?_
   refine aNn (aSR ?_)
   refine aU rfl (qFA (off := 2) rfl) ?_
   refine aU rfl (ah 3 tk3 rfl rfl rfl) ?_
   refine aU rfl (bC (by kernel_rfl) rfl (fun w S fp hst => (vh _).quiet0 hst)) ?_
   refine aA rfl (aNs (aSR ?_))
   refine aU rfl (qFA (off := 0) rfl) ?_
   refine aU rfl (ah 3 tk3 rfl rfl rfl) (aM rfl (aU rfl (dB rfl rfl) (aM rfl ?_)))
   refine aG rfl rfl (fun hc => qFA (off := 2) rfl) ?_
   refine aG rfl rfl (fun hc => ah 3 tk3 (ae rfl hc) rfl rfl) ?_
   refine aG rfl rfl (fun hc => bC (by kernel_rfl) (aS (ae rfl hc) (aS (ae rfl rfl) rfl)) (fun w S fp hst => (pb _ _).quiet0 hst)) ?_
   refine aG rfl rfl (fun hc => bZ (ae rfl hc)) (aU rfl (bY rfl rfl (fun h => gf rfl h)) (aM rfl ?_))
   refine aG rfl rfl (fun hc => qFA (off := 1) rfl) ?_
   refine aG rfl rfl (fun hc => ah 3 tk3 (ae rfl hc) rfl rfl) (aG rfl rfl (fun hc => bw (ae rfl hc) rfl) (aU rfl (bY rfl rfl (fun h => gf rfl h)) (aM rfl ?_)))
   refine aG rfl rfl (fun hc => qFA (off := 1) rfl) ?_
   refine aG rfl rfl (fun hc => ah 3 tk3 (ae rfl hc) rfl rfl) (aG rfl rfl (fun hc => aD rfl) (aG rfl rfl (fun hc => aZ Tryz.underlying280 (ae rfl hc)) (aG rfl rfl (fun hc => aD rfl) ?_)))
   refine aG rfl rfl (fun hc => ei (ae rfl hc) (ae rfl hc) (by (first | omega | (simp at hc; omega)))) ?_
   refine aG rfl rfl (fun hc => cN (ae rfl hc) (ae rfl hc)) (aU rfl (bY rfl rfl (fun h => gf rfl h)) (aNn ?_))
   refine al _ rfl (fun h3 => ?_) (fun h3 => ?_)
   ·skip
    refine aX (aY (bf (az (aj ?_))))
    refine aU rfl (bd rfl rfl (by omega)) ?_
    refine aM rfl (aNn ?_)
    refine ⟨[1, 2, 5, 6, 24, 25, 26], [2, 1, 0], [0, 1, 2], rfl, ?_⟩
    exact ⟨k + 1, ⟨by omega, rfl⟩, by omega⟩
   ·skip
    have hat : 0 ≤ r.at_ ∧ r.at_ + gK r.kind ≤ s.bytes.size := by simp at h3; omega
    obtain ⟨a0, ha0⟩ := Int.eq_ofNat_of_zero_le hat.1
    obtain ⟨w0, hw0⟩ := Int.eq_ofNat_of_zero_le (show 0 ≤ gK r.kind by omega)
    refine aq (az (aSR (aM rfl ?_)))
    refine aU rfl (qFA (off := 1) rfl) ?_
    refine aU rfl (ah 3 tk3 rfl rfl rfl) ?_
    refine aU rfl (qFA (off := 1) rfl) ?_
    refine aU rfl (ah 3 tk3 rfl rfl rfl) (aM rfl ?_)
    refine aU rfl (bd rfl rfl (by omega)) ?_
    refine aU rfl (vC a0 (a0 + w0) el280 rfl rfl rfl ha0 (by omega) (by omega) (by omega) hcb) ?_
    refine aA rfl (aNs (aSR ?_))
    refine aU rfl (qFA (off := 2) rfl) ?_
    refine aU rfl (ah 3 tk3 rfl rfl rfl) ?_
    refine an (q := true) rfl (bH [] [] (by kernel_rfl) rfl rfl rfl rfl (zS _) ?_)
    rintro _ _ _ ⟨rfl, rfl, oad, om, oc, rfl, how⟩
    refine aST ?_
    refine aU rfl (abv Tryz.underlying90 rfl) (aNn ?_)
    refine al _ rfl (fun h4 => ?_) (fun h4 => ?_)
    ·skip
     have hw8 : w0 = 8 := by
       have := how (by intro e; subst e; simp at h4)
       omega
     refine aj (aM rfl ?_)
     refine aU rfl (lQ 4 (a0 + w0 - a0 - 4) (0 + a0 * 1 + 4 * 1) el280 rfl rfl rfl (by omega) (by omega) rfl rfl) ?_
     refine aA rfl (aNn (aj (aM rfl ?_)))
     refine an (q := false) rfl (tD (cap := cb) 2 Tryz.underlying280 Tryz.zeroValue5 rfl rfl (by omega) (by omega) ?_)
     refine cn (bB (az (aj ?_)))
     refine aU rfl (bd rfl rfl (by omega)) ?_
     refine aM rfl (aNn ?_)
     refine ⟨[1, 2, 5, 6, 24, 25, 26], [2, 1, 0], [0, 1, 2], rfl, ?_⟩
     exact ⟨k + 1, ⟨by omega, rfl⟩, by omega⟩
    ·skip
     refine aq (az (aj (aM rfl ?_)))
     refine an (q := false) rfl (tD (cap := cb) 2 Tryz.underlying280 Tryz.zeroValue5 rfl rfl (by omega) (by omega) ?_)
     refine cn (bB (az (aj ?_)))
     refine aU rfl (bd rfl rfl (by omega)) ?_
     refine aM rfl (aNn ?_)
     refine ⟨[1, 2, 5, 6, 24, 25, 26], [2, 1, 0], [0, 1, 2], rfl, ?_⟩
     exact ⟨k + 1, ⟨by omega, rfl⟩, by omega⟩
  ·skip
   refine aX (aY (aY (bf (az (aH ?_)))))
   refine bp [] (by kernel_rfl) ?_
   show aB _ _ _ _ _ 17 #[false, false, false, false, false, false, false, false, false, false, false, false, false, false, false, false, false] _
   refine bV 0 rfl rfl (qFA (off := 1) rfl) ?_
   refine bV 1 rfl rfl (ah 1 tk3 rfl rfl rfl) ?_
   refine bV 3 rfl rfl (qFA (off := 2) rfl) ?_
   refine bV 4 rfl rfl (ah 1 tk3 rfl rfl rfl) ?_
   refine bV 7 rfl rfl (qFA (off := 3) rfl) ?_
   refine bV 8 rfl rfl (ah 1 tk3 rfl rfl rfl) ?_
   refine bV 11 rfl rfl (aD rfl) ?_
   refine dC 12 rfl (by kernel_rfl) true rfl rfl (fun _ => th 2 Tryz.underlying280 Tryz.underlying5 Tryz.underlying9 rfl rfl hcb) (fun h => absurd h (by decide)) (fun ⟨tb, htb⟩ => ?_)
   refine cg (q := true) 2 rfl (by kernel_rfl) rfl rfl (bH [] [] (by kernel_rfl) rfl rfl rfl rfl (kY _) ?_)
   rintro _ _ _ ⟨rfl, rfl, t1, ht1, rfl⟩
   refine bST rfl ?_
   refine cg (q := true) 5 rfl (by kernel_rfl) rfl rfl (bH [] [] (by kernel_rfl) rfl rfl rfl rfl (kY _) ?_)
   rintro _ _ _ ⟨rfl, rfl, t2, ht2, rfl⟩
   refine bST rfl ?_
   refine bV 6 rfl rfl (qO rfl rfl (by omega)) ?_
   refine cg (q := true) 9 rfl (by kernel_rfl) rfl rfl (bH [] [] (by kernel_rfl) rfl rfl rfl rfl (kY _) ?_)
   rintro _ _ _ ⟨rfl, rfl, t3, ht3, rfl⟩
   refine bST rfl ?_
   refine bV 10 rfl rfl (qO rfl rfl (by rw [ByteArray.size_append]; omega)) ?_
   refine cg (q := true) 13 rfl (by kernel_rfl) rfl rfl (bH [] [] (by kernel_rfl) rfl rfl rfl rfl (xH tb (by omega)) ?_)
   rintro _ _ _ ⟨rfl, rfl, t4, ht4, rfl⟩
   refine bST rfl ?_
   refine bV 14 rfl rfl (qO rfl rfl (by rw [ByteArray.size_append, ByteArray.size_append]; omega)) ?_
   refine cg (q := true) 15 rfl (by kernel_rfl) rfl rfl (bH [2, 1] [] (by kernel_rfl) rfl rfl rfl rfl (abd _ (by rw [ByteArray.size_append, ByteArray.size_append, ByteArray.size_append]; unfold maxLen; omega)) ?_)
   rintro _ _ _ ⟨rfl, rfl, t5, rfl⟩
   refine bST rfl ?_
   refine bV 16 rfl rfl (cz rfl) ?_
   refine bO (by kernel_rfl) ?_
   refine az (aJ ?_)
   refine br [] [] rfl Tryz.results82 rfl ?_ (.inr rfl)
   exact ⟨rfl, rfl, _, rfl⟩
end Go.Proofs.YtgmiihmahaahiaaGreatDoor

namespace Go.Proofs.YtgmiihmahaahiaaGreatDoor
open Go.RowKit Go.Lp Go.Sy
open Go.Proofs.Tryz
attribute [local irreducible] aL aB awp aC fwp
theorem oA (l : Sl Int) (hl : l.l.length ≤ 1000000) : Con Tryz.prog 80 [l.val] [ShF gJ l] [] fun r ps hp => ps = [] ∧ ∃ (ad : Option Addr) (c : Nat), r = .slice ad l.l.length c ∧ hp = [bg (.slice ad l.l.length c) 3 1 (l.l.map gJ)] := by
 refine Con.enter Tryz.func80 rfl (by simp [Tryz.ntmps80]) ?_
 show awp _ _ _ _ ⟨[(0, true, _)], _, _⟩
 refine lq (φ := l.ad = none → l.l = []) (fun w S fp hst => ?_) (fun hnil => ?_)
 · intro hn
   have hrep : eU w S (.slice l.ad l.l.length l.cap) (.sl (l.l.map gJ)) := hst.per _ (aF 0 rfl)
   rw [hn] at hrep
   generalize hrw : l.l.map gJ = rows at hrep
   generalize l.l.length = m at hrep
   cases hrep with
   | e => exact List.map_eq_nil_iff.1 hrw
 refine aSR (aA rfl (aNs (aSR (aM rfl (aU rfl (abA Tryz.underlying90 rfl) (aNn ?_))))))
 refine al _ rfl (fun h1 => ?_) (fun h1 => ?_)
 ·skip
  have hl0 : l.l = [] := hnil (by simpa using h1)
  refine aH (eD 3 1 ?_)
  show awp _ _ _ _ ⟨_, _, [_]⟩
  refine aj (aA rfl (aNn (aJ (aO ?_))))
  refine br [] [0] rfl Tryz.results80 rfl ?_ (.inr rfl)
  exact ⟨rfl, none, 0, by rw [hl0]; rfl, by rw [hl0]; rfl⟩
 ·skip
  refine aq (az (aSR ?_))
  refine an (q := true) rfl (abo el90 rfl (fun v3_0 => ?_))
  refine aHN ?_
  refine aM rfl ?_
  refine an rfl (xW 0 el90 el90 rfl rfl rfl rfl (aF 0 rfl) ((fun r hr => by obtain ⟨z, _, rfl⟩ := List.mem_map.1 hr; rfl)) (by show ([] : List (List D)).length + (l.l.map gJ).length ≤ _; rw [List.length_map]; exact Nat.le_trans (show 0 + l.l.length ≤ 1000000 by omega) (by decide)) (l.l.length) (by simp; try omega) (fun v3_2 c3_2 => ?_))
  refine aHK ?_
  refine aA rfl (aNn (aJ ?_))
  refine br [] [0] rfl Tryz.results80 rfl ?_ (.inr rfl)
  exact ⟨rfl, v3_2, c3_2, rfl, rfl⟩
end Go.Proofs.YtgmiihmahaahiaaGreatDoor

