/- Parts of the proof, in build order. No condition. -/
import Derived.Test.YtgmiihmahaahiaaGreatDoorQb04
import Derived.Test.YtgmiihmahaahiaaGreatDoorQb03
import Derived.Test.YtgmiihmahaahiaaGreatDoorQb06
import Derived.Test.YtgmiihmahaahiaaGreatDoorQb02
import Derived.Test.YtgmiihmahaahiaaGreatDoorQb08
set_option linter.unusedSimpArgs false
set_option linter.unusedVariables false
set_option maxHeartbeats 1000000
set_option maxRecDepth 20000
namespace Go.Proofs.YtgmiihmahaahiaaGreatDoor
open Go.RowKit Go.Lp Go.Sy
deriving instance DecidableEq for aD
deriving instance DecidableEq for aT
abbrev cU := ByteArray × ByteArray
structure Dfn where
 p : aD
 s : bu
 deriving Inhabited
abbrev Dfn.key (d : Dfn) : cU := (d.s.name, d.s.version)
def dy (i : Int) (l : List bu) : List Dfn := l.zipIdx.map fun x => ⟨⟨i, (x.2 : Int)⟩, x.1⟩
def cI (os : List ar) (n : Nat) : List Dfn := (List.range n).flatMap fun i : Nat => dy (i : Int) (elt os (i : Int)).syms.l
def bQ (os : List ar) : List Dfn := cI os os.length
theorem mH (i : Int) (l : List bu) (s : bu) : dy i (l ++ [s]) = dy i l ++ [⟨⟨i, (l.length : Int)⟩, s⟩] := by
 unfold dy; rw [List.zipIdx_append]; simp
theorem dE (os : List ar) (n : Nat) : cI os (n + 1) = cI os n ++ dy (n : Int) (elt os (n : Int)).syms.l := by unfold cI; rw [List.range_succ, List.flatMap_append]; simp
theorem iI {i : Int} {l : List bu} {k : Nat} {s : bu} (h : l[k]? = some s) : dy i (l.take (k + 1)) = dy i (l.take k) ++ [⟨⟨i, (k : Int)⟩, s⟩] := by
 have hk := (List.getElem?_eq_some_iff.1 h).1
 rw [List.take_add_one, h, Option.toList_some, mH, List.length_take, Nat.min_eq_left (by omega)]
section
variable (kp : List (Sl Bool))
def kP (i s : Int) : Bool := elt (elt kp i).l s
def fe (d : Dfn) : Bool := decide (d.s.bind = 3) || (decide (d.s.bind ≠ 0) && (decide (d.s.sec ≥ 0) && kP kp d.p.obj d.s.sec))
def eC (d : Dfn) : Int := if d.s.bind = 1 then 0 else if d.s.bind = 3 then 1 else 2
def dA (L : List Dfn) (k : cU) : List Dfn := L.filter fun d => fe kp d && decide (d.key = k)
def better (o : Option Dfn) (d : Dfn) : Option Dfn := match o with
 | none => some d
 | some e => if eC d < eC e then some d else some e
def cu (L : List Dfn) (k : cU) : Option Dfn := (dA kp L k).foldl better none
def dV (L : List Dfn) (n : ByteArray) : List cU := (L.foldl (fun (x : List Dfn × List cU) d => (x.1 ++ [d], if fe kp d = true ∧ d.s.name = n ∧ dA kp x.1 d.key = [] then x.2 ++ [d.key] else x.2)) ([], [])).2
def fN (L : List Dfn) : Option aD := (L.foldl (fun (x : List Dfn × Option aD) d => (x.1 ++ [d], x.2.or (if fe kp d = true ∧ d.s.bind = 1 ∧ (∃ e ∈ dA kp x.1 d.key, e.s.bind = 1) then some d.p else none))) ([], none)).2
variable {kp}
theorem iG (L : List Dfn) (d : Dfn) (k : cU) : dA kp (L ++ [d]) k = dA kp L k ++ if fe kp d = true ∧ d.key = k then [d] else [] := by
 unfold dA; rw [List.filter_append]
 by_cases h : fe kp d = true ∧ d.key = k
 · rw [if_pos h]; simp [h.1, h.2]
 · rw [if_neg h]
   have : (fe kp d && decide (d.key = k)) = false := by
     rw [Bool.eq_false_iff]; intro hh; simp only [Bool.and_eq_true, decide_eq_true_eq] at hh; exact h hh
   simp [this]
theorem jh (L : List Dfn) (d : Dfn) (k : cU) : cu kp (L ++ [d]) k = if fe kp d = true ∧ d.key = k then better (cu kp L k) d else cu kp L k := by
 unfold cu; rw [iG]
 by_cases h : fe kp d = true ∧ d.key = k
 · rw [if_pos h, if_pos h, List.foldl_append]; rfl
 · rw [if_neg h, if_neg h, List.append_nil]
theorem sP {β : Type} (f : List Dfn → Dfn → β → β) (b : β) : ∀ (L P : List Dfn), L.foldl (fun (x : List Dfn × β) d => (x.1 ++ [d], f x.1 d x.2)) (P, b) = (P ++ L, (L.foldl (fun (x : List Dfn × β) d => (x.1 ++ [d], f x.1 d x.2)) (P, b)).2) := by
 intro L
 induction L generalizing b with
 | nil => intro P; simp
 | cons d L ih => intro P; rw [List.foldl_cons, ih]; simp
theorem lq {β : Type} (f : List Dfn → Dfn → β → β) (b : β) (L : List Dfn) (d : Dfn) : ((L ++ [d]).foldl (fun (x : List Dfn × β) d => (x.1 ++ [d], f x.1 d x.2)) ([], b)).2 = f L d (L.foldl (fun (x : List Dfn × β) d => (x.1 ++ [d], f x.1 d x.2)) ([], b)).2 := by
 rw [List.foldl_append, List.foldl_cons, List.foldl_nil]
 show f (L.foldl _ ([], b)).1 d _ = _
 rw [sP f b L []]; rfl
theorem fG (L : List Dfn) (d : Dfn) (n : ByteArray) : dV kp (L ++ [d]) n = if fe kp d = true ∧ d.s.name = n ∧ dA kp L d.key = [] then dV kp L n ++ [d.key] else dV kp L n :=
 lq (fun P d (x : List cU) => if fe kp d = true ∧ d.s.name = n ∧ dA kp P d.key = [] then x ++ [d.key] else x) [] L d
theorem iq (L : List Dfn) (d : Dfn) : fN kp (L ++ [d]) = (fN kp L).or (if fe kp d = true ∧ d.s.bind = 1 ∧ (∃ e ∈ dA kp L d.key, e.s.bind = 1) then some d.p else none) :=
 lq (fun P d (x : Option aD) => x.or (if fe kp d = true ∧ d.s.bind = 1 ∧ (∃ e ∈ dA kp P d.key, e.s.bind = 1) then some d.p else none)) none L d
theorem pU {L : List Dfn} {k : cU} {d : Dfn} : d ∈ dA kp L k ↔ d ∈ L ∧ fe kp d = true ∧ d.key = k := by unfold dA; simp [List.mem_filter]
theorem fX {α : Type} {motive : List α → Prop} (nil : motive []) (snoc : ∀ L d, motive L → motive (L ++ [d])) (L : List α) : motive L := by
 have : ∀ n (L : List α), L.length = n → motive L := by
   intro n
   induction n with
   | zero => intro L h; rw [List.eq_nil_of_length_eq_zero h]; exact nil
   | succ n ih =>
     intro L h
     have hne : L ≠ [] := by rintro rfl; cases h
     rw [← List.dropLast_concat_getLast hne]
     exact snoc _ _ (ih _ (by rw [List.length_dropLast, h]; rfl))
 exact this _ L rfl
theorem ep {L : List Dfn} {k : cU} : cu kp L k = none ↔ dA kp L k = [] := by
 unfold cu
 generalize dA kp L k = l
 induction l using fX with
 | nil => simp
 | snoc L d ih =>
   rw [List.foldl_append, List.foldl_cons, List.foldl_nil]
   constructor
   · intro h; unfold better at h; split at h
     · cases h
     · split at h <;> cases h
   · intro h; simp at h
theorem gF : ∀ (l : List Dfn) (o : Option Dfn) (e : Dfn), l.foldl better o = some e → e ∈ l ∨ o = some e
 | [], o, e, h => .inr h
 | d :: l, o, e, h => by
   rcases gF l _ e h with h | h
   · exact .inl (List.mem_cons_of_mem _ h)
   · unfold better at h
     split at h
     · exact .inl (by rw [← Option.some.inj h]; exact List.mem_cons_self)
     · split at h
       · exact .inl (by rw [← Option.some.inj h]; exact List.mem_cons_self)
       · exact .inr h
theorem dG {L : List Dfn} {k : cU} {e : Dfn} (h : cu kp L k = some e) : e ∈ L ∧ fe kp e = true ∧ e.key = k := by
 rcases gF _ _ _ h with h | h
 · exact pU.1 h
 · cases h
theorem ow {L : List Dfn} {k : cU} {e : Dfn} (h : cu kp L k = some e) : ∀ d ∈ dA kp L k, eC e ≤ eC d := by
 unfold cu at h
 generalize dA kp L k = l at h
 induction l using fX generalizing e with
 | nil => cases h
 | snoc L d ih =>
   rw [List.foldl_append, List.foldl_cons, List.foldl_nil] at h
   intro x hx
   unfold better at h
   split at h
   · rename_i hn
     have : L = [] := by
       cases hL : L with
       | nil => rfl
       | cons a l => rw [hL] at hn; exact absurd hn (by
           have : ∀ (l : List Dfn) (a : Dfn), l.foldl better (some a) ≠ none := fun l => by
             induction l with
             | nil => intro a h; cases h
             | cons b l ih => intro a; rw [List.foldl_cons]; unfold better; split
                              · rename_i h; cases h
                              · split
                                · exact ih _
                                · exact ih _
           exact this l a)
     subst this
     simp at hx h; subst hx; subst h; exact Int.le_refl _
   · rename_i e0 he0
     split at h
     · rename_i hlt
       obtain rfl := Option.some.inj h
       rcases List.mem_append.1 hx with hx | hx
       · have := ih he0 x hx; omega
       · rw [List.mem_singleton.1 hx]; exact Int.le_refl _
     · rename_i hlt
       obtain rfl := Option.some.inj h
       rcases List.mem_append.1 hx with hx | hx
       · exact ih he0 x hx
       · rw [List.mem_singleton.1 hx]; omega
end
end Go.Proofs.YtgmiihmahaahiaaGreatDoor

namespace Go.Proofs.YtgmiihmahaahiaaGreatDoor
open Go.RowKit Go.Lp Go.Sy
def ltC (p q : aD) : Prop := p.obj < q.obj ∨ p.obj = q.obj ∧ p.sym < q.sym
instance (p q : aD) : Decidable (ltC p q) := by unfold ltC; infer_instance
theorem ek (p : aD) : ¬ ltC p p := by unfold ltC; omega
theorem er {p q r : aD} (h1 : ltC p q) (h2 : ltC q r) : ltC p r := by unfold ltC at *; omega
theorem sm (p q : aD) : ltC p q ∨ p = q ∨ ltC q p := by
 have : p.obj = q.obj → p.sym = q.sym → p = q := fun h1 h2 => by cases p; cases q; simp_all
 unfold ltC
 by_cases h1 : p.obj = q.obj
 · by_cases h2 : p.sym = q.sym
   · exact .inr (.inl (this h1 h2))
   · omega
 · omega
def Asc (L : List Dfn) : Prop := L.Pairwise fun d e => ltC d.p e.p
theorem jA {i : Int} {l : List bu} {d : Dfn} (h : d ∈ dy i l) : ∃ k : Nat, l[k]? = some d.s ∧ d.p = ⟨i, (k : Int)⟩ := by
 unfold dy at h
 obtain ⟨⟨s, k⟩, hx, rfl⟩ := List.mem_map.1 h
 exact ⟨k, List.mem_zipIdx_iff_getElem?.1 hx, rfl⟩
theorem uF {i : Int} {l : List bu} {k : Nat} {s : bu} (h : l[k]? = some s) : (⟨⟨i, (k : Int)⟩, s⟩ : Dfn) ∈ dy i l := by
 unfold dy
 exact List.mem_map.2 ⟨(s, k), List.mem_zipIdx_iff_getElem?.2 h, rfl⟩
theorem uP (i : Int) (l : List bu) : Asc (dy i l) := by
 induction l using fX with
 | nil => exact .nil
 | snoc l s ih =>
   rw [mH]
   refine List.pairwise_append.2 ⟨ih, List.pairwise_singleton _ _, fun d hd e he => ?_⟩
   obtain ⟨k, hk, hp⟩ := jA hd
   rw [List.mem_singleton.1 he, hp]
   have := (List.getElem?_eq_some_iff.1 hk).1
   exact .inr ⟨rfl, by dsimp only; omega⟩
theorem lD {os : List ar} {n : Nat} {d : Dfn} : d ∈ cI os n ↔ ∃ i k : Nat, i < n ∧ (elt os (i : Int)).syms.l[k]? = some d.s ∧ d.p = ⟨(i : Int), (k : Int)⟩ := by
 unfold cI
 rw [List.mem_flatMap]
 constructor
 · rintro ⟨i, hi, hd⟩
   obtain ⟨k, h1, h2⟩ := jA hd
   exact ⟨i, k, List.mem_range.1 hi, h1, h2⟩
 · rintro ⟨i, k, hi, h1, h2⟩
   obtain ⟨p, s⟩ := d
   dsimp only at h1 h2; subst h2
   exact ⟨i, List.mem_range.2 hi, uF h1⟩
theorem fo (os : List ar) : ∀ n, Asc (cI os n)
 | 0 => .nil
 | n + 1 => by
   rw [dE]
   refine List.pairwise_append.2 ⟨fo os n, uP _ _, fun d hd e he => ?_⟩
   obtain ⟨i, k, h1, _, h2⟩ := lD.1 hd
   obtain ⟨k2, _, h3⟩ := jA he
   rw [h2, h3]
   exact .inl (by dsimp only; omega)
theorem sq {L : List Dfn} (h : Asc L) {d e : Dfn} (hd : d ∈ L) (he : e ∈ L) (hp : d.p = e.p) : d = e := by
 unfold Asc at h
 induction L with
 | nil => cases hd
 | cons a L ih =>
   rw [List.pairwise_cons] at h
   rcases List.mem_cons.1 hd with e1 | hd2 <;> rcases List.mem_cons.1 he with e2 | he2
   · rw [e1, e2]
   · have := h.1 e he2; rw [← e1, hp] at this; exact absurd this (ek _)
   · have := h.1 d hd2; rw [← e2, hp] at this; exact absurd this (ek _)
   · exact ih h.2 hd2 he2
section
variable (kp : List (Sl Bool)) (L : List Dfn)
def lr (d : Dfn) : Bool := decide ((cu kp L d.key).map (·.p) = some d.p)
def gl (d : Dfn) : Bool := lr kp L d && (decide (d.s.version = .empty) || d.s.main)
def cS (n : ByteArray) : List Dfn := L.filter fun d => decide (d.s.name = n) && gl kp L d
def ft : Option aD := (L.find? fun d => gl kp L d && L.any fun e => gl kp L e && (decide (e.s.name = d.s.name) && decide (ltC e.p d.p))).map (·.p)
def fl (sv : ByteArray → ByteArray → Bool) (n v : ByteArray) : Option Dfn :=
 if v = .empty then (cS kp L n).head? else (cu kp L (n, v)).or (L.find? fun d => decide (d.s.name = n) && (lr kp L d && sv d.s.version v))
def lR (s : bu) (d : Dfn) : Int := if d.s.bind = 3 then 4 else if d.s.version ≠ s.version then 5 else if (dA kp L d.key).length = 1 then 1 else if d.s.bind = 1 then 2 else 3
def iJ (n : ByteArray) : Int := L.foldl (fun v d => if d.s.name = n ∧ d.s.bind ≠ 0 then max v d.s.vis else v) 0
def ga : aT := ⟨0, 0, 0, 0, 0, false⟩
def cr (sv : ByteArray → ByteArray → Bool) (lf : ByteArray → ByteArray → Int) (lib : Bool) (d : Dfn) : Option aT :=
 if d.s.bind = 0 then some (if kP kp d.p.obj d.s.sec = true then ⟨1, d.p.obj, d.p.sym, 0, 0, false⟩ else ga)
 else match fl kp L sv d.s.name d.s.version with
   | some e => some ⟨if e.s.bind = 3 then 3 else 2, e.p.obj, e.p.sym, 0, lR kp L d.s e, lib && decide (iJ L d.s.name = 0)⟩
   | none => if lf d.s.name d.s.version ≥ 0 then some ⟨4, 0, 0, lf d.s.name d.s.version, 6, false⟩ else if d.s.sec ≠ -1 then some ga else if d.s.bind = 2 then some ⟨5, 0, 0, 0, 7, false⟩ else none
def i7 (sv : ByteArray → ByteArray → Bool) (lf : ByteArray → ByteArray → Int) (lib : Bool) : Option aD := (L.find? fun d => decide (cr kp L sv lf lib d = none)).map (·.p)
end
def cM (kp : List (Sl Bool)) (L : List Dfn) (sv : ByteArray → ByteArray → Bool) (lf : ByteArray → ByteArray → Int) (lib : Bool) : Option (Int × aD) :=
 match fN kp L with
 | some p => some (4, p)
 | none => match ft kp L with
   | some p => some (4, p)
   | none => (i7 kp L sv lf lib).map fun p => (3, p)
def rC (kp : List (Sl Bool)) (L : List Dfn) (sv : ByteArray → ByteArray → Bool) (lf : ByteArray → ByteArray → Int) (lib : Bool) (l : List Dfn) : List aT := l.map fun d => (cr kp L sv lf lib d).getD ga
def hJ (os : List ar) (kp : List (Sl Bool)) (sv : ByteArray → ByteArray → Bool) (lf : ByteArray → ByteArray → Int) (lib : Bool) : List (List aT) :=
 (List.range os.length).map fun i : Nat => rC kp (bQ os) sv lf lib (dy (i : Int) (elt os (i : Int)).syms.l)
section
variable {kp : List (Sl Bool)} {L : List Dfn} (hA : Asc L)
include hA
theorem l8 {d : Dfn} (hd : d ∈ L) : lr kp L d = true ↔ cu kp L d.key = some d := by
 unfold lr
 rw [decide_eq_true_eq, Option.map_eq_some_iff]
 constructor
 · rintro ⟨e, he, hp⟩
   obtain ⟨h1, _, _⟩ := dG he
   rw [he, sq hA h1 hd hp]
 · exact fun h => ⟨d, h, rfl⟩
theorem j1 {k : cU} {e : Dfn} (h : cu kp L k = some e) : lr kp L e = true := by
 obtain ⟨h1, _, h3⟩ := dG h
 rw [l8 hA h1, h3]; exact h
theorem qq {sv : ByteArray → ByteArray → Bool} {n v : ByteArray} {e : Dfn} (h : fl kp L sv n v = some e) : e ∈ L ∧ lr kp L e = true ∧ e.s.name = n ∧ (e.s.version = v ∨ v = .empty ∧ e.s.main = true ∨ v ≠ .empty ∧ sv e.s.version v = true) := by
 unfold fl at h
 split at h
 · rename_i hv
   have hm := List.mem_of_mem_head? (Option.mem_def.2 h)
   unfold cS gl at hm
   simp only [List.mem_filter, Bool.and_eq_true, decide_eq_true_eq, Bool.or_eq_true] at hm
   refine ⟨hm.1, hm.2.2.1, hm.2.1, ?_⟩
   rcases hm.2.2.2 with h | h
   · exact .inl (h.trans hv.symm)
   · exact .inr (.inl ⟨hv, h⟩)
 · rename_i hv
   rw [Option.or_eq_some_iff] at h
   rcases h with h | ⟨h0, h⟩
   · obtain ⟨h1, _, h3⟩ := dG h
     exact ⟨h1, j1 hA h, congrArg Prod.fst h3, .inl (congrArg Prod.snd h3)⟩
   · have h1 := List.find?_some h
     have h2 := List.mem_of_find?_eq_some h
     simp only [Bool.and_eq_true, decide_eq_true_eq] at h1
     exact ⟨h2, h1.2.1, h1.1, .inr (.inr ⟨hv, h1.2.2⟩)⟩
end
end Go.Proofs.YtgmiihmahaahiaaGreatDoor

namespace Go.Proofs.YtgmiihmahaahiaaGreatDoor
open Go.RowKit Go.Lp Go.Sy
section
variable {kp : List (Sl Bool)}
theorem eN {L : List Dfn} {n : ByteArray} {k : cU} : k ∈ dV kp L n ↔ dA kp L k ≠ [] ∧ k.1 = n := by
 induction L using fX with
 | nil => simp [dV, dA]
 | snoc L d ih =>
   rw [fG, iG]
   by_cases h : fe kp d = true ∧ d.s.name = n ∧ dA kp L d.key = []
   · rw [if_pos h, List.mem_append, ih, List.mem_singleton]
     constructor
     · rintro (⟨h1, h2⟩ | rfl)
       · exact ⟨by simp [h1], h2⟩
       · exact ⟨by simp [h.1], h.2.1⟩
     · rintro ⟨h1, h2⟩
       by_cases hk : d.key = k
       · exact .inr hk.symm
       · exact .inl ⟨by simpa [hk] using h1, h2⟩
   · rw [if_neg h, ih]
     constructor
     · rintro ⟨h1, h2⟩; exact ⟨by simp [h1], h2⟩
     · rintro ⟨h1, h2⟩
       refine ⟨fun h0 => ?_, h2⟩
       by_cases hk : fe kp d = true ∧ d.key = k
       · exact h ⟨hk.1, by rw [← h2, ← hk.2], by rw [hk.2]; exact h0⟩
       · rw [if_neg hk, List.append_nil] at h1; exact h1 h0
theorem oN (L : List Dfn) (n : ByteArray) : (dV kp L n).Nodup := by
 induction L using fX with
 | nil => simp [dV]
 | snoc L d ih =>
   rw [fG]
   split
   · rename_i h
     rw [List.nodup_append]
     refine ⟨ih, by simp, fun a ha b hb => ?_⟩
     rw [List.mem_singleton.1 hb]
     rintro rfl
     exact (eN.1 ha).1 h.2.2
   · exact ih
theorem jI (L : List Dfn) (n : ByteArray) : (dV kp L n).length ≤ L.length := by
 induction L using fX with
 | nil => simp [dV]
 | snoc L d ih => rw [fG]; split <;> simp <;> omega
theorem xm (L : List Dfn) (k : cU) : (dA kp L k).length ≤ L.length := List.length_filter_le _ _
def fi (kp : List (Sl Bool)) (L : List Dfn) (l : List cU) : List aD := l.filterMap fun k => (cu kp L k).bind fun e => if k.2 = .empty ∨ e.s.main = true then some e.p else none
theorem lM (L : List Dfn) (l : List cU) (k : cU) {e : Dfn} (h : cu kp L k = some e) : fi kp L (l ++ [k]) = fi kp L l ++ if k.2 = .empty ∨ e.s.main = true then [e.p] else [] := by
 unfold fi; rw [List.filterMap_append]
 congr 1
 by_cases hc : k.2 = .empty ∨ e.s.main = true <;> simp [h, hc]
theorem qn (L : List Dfn) (l : List cU) : (fi kp L l).length ≤ l.length := List.length_filterMap_le _ _
theorem fL {α β : Type} {f : α → Option β} (hf : ∀ a b c, f a = some c → f b = some c → a = b) : ∀ {l : List α}, l.Nodup → (l.filterMap f).Nodup
 | [], _ => by simp
 | a :: l, h => by
   rw [List.nodup_cons] at h
   rw [List.filterMap_cons]
   cases ha : f a with
   | none => exact fL hf h.2
   | some c =>
     rw [List.nodup_cons]
     refine ⟨fun hm => ?_, fL hf h.2⟩
     obtain ⟨b, hb, hc⟩ := List.mem_filterMap.1 hm
     exact h.1 (hf a b c ha hc ▸ hb)
end
theorem ss : ∀ {a b : List aD}, a.Pairwise ltC → b.Pairwise ltC → (∀ x, x ∈ a ↔ x ∈ b) → a = b
 | [], [], _, _, _ => rfl
 | [], y :: b, _, _, h => by have := (h y).2 List.mem_cons_self; cases this
 | x :: a, [], _, _, h => by have := (h x).1 List.mem_cons_self; cases this
 | x :: a, y :: b, ha, hb, h => by
   rw [List.pairwise_cons] at ha hb
   have hxy : x = y := by
     rcases List.mem_cons.1 ((h x).1 List.mem_cons_self) with h1 | h1
     · exact h1
     · rcases List.mem_cons.1 ((h y).2 List.mem_cons_self) with h2 | h2
       · exact h2.symm
       · exact (ek _ (er (hb.1 x h1) (ha.1 y h2))).elim
   subst hxy
   rw [ss ha.2 hb.2 fun z => ?_]
   constructor
   · intro hz
     rcases List.mem_cons.1 ((h z).1 (List.mem_cons_of_mem _ hz)) with rfl | h1
     · exact (ek _ (ha.1 z hz)).elim
     · exact h1
   · intro hz
     rcases List.mem_cons.1 ((h z).2 (List.mem_cons_of_mem _ hz)) with rfl | h1
     · exact (ek _ (hb.1 z hz)).elim
     · exact h1
section
variable {kp : List (Sl Bool)} {L : List Dfn}
theorem fV {n : ByteArray} {d : Dfn} : d ∈ cS kp L n ↔ d ∈ L ∧ d.s.name = n ∧ gl kp L d = true := by unfold cS; simp [List.mem_filter]
variable (hA : Asc L)
include hA
theorem tF (n : ByteArray) : ((cS kp L n).map (·.p)).Pairwise ltC := by
 rw [List.pairwise_map]; exact List.Pairwise.filter _ hA
theorem mE {n : ByteArray} {p : aD} : p ∈ fi kp L (dV kp L n) ↔ p ∈ (cS kp L n).map (·.p) := by
 unfold fi cS gl
 rw [List.mem_filterMap, List.mem_map]
 constructor
 · rintro ⟨k, hk, h⟩
   obtain ⟨e, he, h⟩ := Option.bind_eq_some_iff.1 h
   split at h
   · rename_i hc
     obtain ⟨h1, h2, h3⟩ := dG he
     refine ⟨e, ?_, Option.some.inj h⟩
     simp only [List.mem_filter, Bool.and_eq_true, decide_eq_true_eq, Bool.or_eq_true]
     refine ⟨h1, ?_, j1 hA he, ?_⟩
     · rw [← (eN.1 hk).2, ← h3]
     · rw [← h3] at hc; exact hc
   · cases h
 · rintro ⟨e, he, rfl⟩
   simp only [List.mem_filter, Bool.and_eq_true, decide_eq_true_eq, Bool.or_eq_true] at he
   obtain ⟨h1, h2, h3, h4⟩ := he
   have hc := (l8 hA h1).1 h3
   refine ⟨e.key, eN.2 ⟨fun h0 => ?_, h2⟩, ?_⟩
   · rw [← ep (kp := kp)] at h0; rw [h0] at hc; cases hc
   · rw [hc, Option.bind_some, if_pos h4]
theorem pT (n : ByteArray) : (fi kp L (dV kp L n)).Nodup := by
 refine fL (fun a b c h1 h2 => ?_) (oN L n)
 obtain ⟨e, he, h1⟩ := Option.bind_eq_some_iff.1 h1
 obtain ⟨e2, he2, h2⟩ := Option.bind_eq_some_iff.1 h2
 split at h1
 · split at h2
   · have e3 : e.p = e2.p := (Option.some.inj h1).trans (Option.some.inj h2).symm
     obtain ⟨m1, _, m3⟩ := dG he
     obtain ⟨m4, _, m6⟩ := dG he2
     rw [← m3, ← m6, sq hA m1 m4 e3]
   · cases h2
 · cases h1
theorem oz {n : ByteArray} {q : List aD} (hp : q.Perm (fi kp L (dV kp L n))) (hs : q.Pairwise fun a b => ¬ ltC b a) : q = (cS kp L n).map (·.p) := by
 refine ss ?_ (tF hA n) fun x => by rw [hp.mem_iff, mE hA]
 have hn : q.Nodup := hp.nodup_iff.2 (pT hA n)
 have := List.Pairwise.and hs hn
 refine this.imp fun {a b} h => ?_
 rcases sm a b with h1 | h1 | h1
 · exact h1
 · exact (h.2 h1).elim
 · exact (h.1 h1).elim
theorem ve {n : ByteArray} {d : Dfn} (h : (cS kp L n)[1]? = some d) : ∃ e, (cS kp L n)[0]? = some e ∧ ltC e.p d.p := by
 have hl := (List.getElem?_eq_some_iff.1 h).1
 have := List.Pairwise.filter (fun d : Dfn => decide (d.s.name = n) && gl kp L d) hA
 refine ⟨_, List.getElem?_eq_getElem (by omega), ?_⟩
 have h2 := List.pairwise_iff_getElem.1 this 0 1 (show 0 < (cS kp L n).length by omega) hl (by omega)
 rw [List.getElem?_eq_getElem hl] at h
 rw [← Option.some.inj h]; exact h2
theorem rM {n : ByteArray} {d e : Dfn} (hd : d ∈ cS kp L n) (he : e ∈ cS kp L n) (h : ltC e.p d.p) : ∃ d2, (cS kp L n)[1]? = some d2 ∧ ¬ ltC d.p d2.p := by
 have hp : (cS kp L n).Pairwise fun d e => ltC d.p e.p := List.Pairwise.filter _ hA
 cases hl : cS kp L n with
 | nil => rw [hl] at hd; cases hd
 | cons a l =>
   rw [hl] at hd he hp
   rw [List.pairwise_cons] at hp
   have hda : d ∈ l := by
     rcases List.mem_cons.1 hd with rfl | hd
     · rcases List.mem_cons.1 he with rfl | he
       · exact (ek _ h).elim
       · exact (ek _ (er h (hp.1 e he))).elim
     · exact hd
   cases l with
   | nil => cases hda
   | cons b l =>
     refine ⟨b, rfl, fun hlt => ?_⟩
     rcases List.mem_cons.1 hda with rfl | hda
     · exact ek _ hlt
     · exact ek _ (er hlt ((List.pairwise_cons.1 hp.2).1 d hda))
theorem pw (h : ∀ n, (cS kp L n)[1]? = none) : ft kp L = none := by
 unfold ft
 rw [Option.map_eq_none_iff, List.find?_eq_none]
 intro d hd hh
 rw [Bool.and_eq_true, List.any_eq_true] at hh
 obtain ⟨h1, e, he, h2⟩ := hh
 simp only [Bool.and_eq_true, decide_eq_true_eq] at h2
 obtain ⟨d2, h3, _⟩ := rM hA ((fV).2 ⟨hd, rfl, h1⟩) ((fV).2 ⟨he, h2.2.1, h2.1⟩) h2.2.2
 rw [h d.s.name] at h3; cases h3
theorem find?_asc {f : Dfn → Bool} {d d1 : Dfn} (hd : d ∈ L) (hf : f d = true) (h : L.find? f = some d1) : d1 = d ∨ ltC d1.p d.p := by
 unfold Asc at hA
 induction L with
 | nil => cases h
 | cons a L ih =>
   rw [List.pairwise_cons] at hA
   by_cases ha : f a = true
   · rw [List.find?_cons_of_pos ha] at h
     obtain rfl := Option.some.inj h
     rcases List.mem_cons.1 hd with rfl | hd
     · exact .inl rfl
     · exact .inr (hA.1 d hd)
   · rw [List.find?_cons_of_neg ha] at h
     rcases List.mem_cons.1 hd with rfl | hd
     · exact (ha hf).elim
     · exact ih hA.2 hd h
theorem pH {n : ByteArray} {d : Dfn} (h1 : (cS kp L n)[1]? = some d) (h2 : ∀ n d2, (cS kp L n)[1]? = some d2 → ¬ ltC d2.p d.p) : ft kp L = some d.p := by
 obtain ⟨e, he, hlt⟩ := ve hA h1
 obtain ⟨m1, m2, m3⟩ := (fV).1 (List.mem_of_getElem? h1)
 obtain ⟨k1, k2, k3⟩ := (fV).1 (List.mem_of_getElem? he)
 have hf : (fun d : Dfn => gl kp L d && L.any fun e => gl kp L e && (decide (e.s.name = d.s.name) && decide (ltC e.p d.p))) d = true := by
   simp only [Bool.and_eq_true, List.any_eq_true, decide_eq_true_eq]
   exact ⟨m3, e, k1, k3, by rw [k2, m2], hlt⟩
 unfold ft
 cases hx : L.find? fun d : Dfn => gl kp L d && L.any fun e => gl kp L e && (decide (e.s.name = d.s.name) && decide (ltC e.p d.p)) with
 | none => rw [List.find?_eq_none] at hx; exact (hx d m1 hf).elim
 | some d1 =>
   have hd1 := List.find?_some hx
   have hm1 := List.mem_of_find?_eq_some hx
   simp only [Bool.and_eq_true, List.any_eq_true, decide_eq_true_eq] at hd1
   obtain ⟨g1, e1, g2, g3, g4, g5⟩ := hd1
   obtain ⟨d2, g6, g7⟩ := rM hA ((fV).2 ⟨hm1, rfl, g1⟩) ((fV).2 ⟨g2, g4, g3⟩) g5
   rcases find?_asc hA m1 hf hx with h | h
   · rw [h]; rfl
   · exfalso
     have q1 := h2 _ _ g6
     rcases sm d2.p d1.p with r | r | r
     · exact q1 (er r h)
     · exact q1 (r ▸ h)
     · exact g7 r
end
end Go.Proofs.YtgmiihmahaahiaaGreatDoor

namespace Go.Proofs.YtgmiihmahaahiaaGreatDoor
open Go.RowKit Go.Lp Go.Sy
def sLt (a b : ByteArray) : Prop := a.toList < b.toList
instance (a b : ByteArray) : Decidable (sLt a b) := by unfold sLt; infer_instance
theorem yb {a b : ByteArray} (h : a.toList = b.toList) : a = b := by
 have key : ∀ (x : ByteArray), x.toList = x.data.toList := fun x => by
   have loop : ∀ (n i : Nat) (acc : List UInt8), x.size - i = n → ByteArray.toList.loop x i acc = acc.reverse ++ x.data.toList.drop i := by
     intro n
     induction n with
     | zero =>
       intro i acc h
       unfold ByteArray.toList.loop
       have hle : x.data.size ≤ i := by have : x.size = x.data.size := rfl; omega
       rw [if_neg (by omega), List.drop_eq_nil_of_le (by simpa using hle), List.append_nil]
     | succ n ih =>
       intro i acc h
       unfold ByteArray.toList.loop
       have hlt : i < x.size := by omega
       have hlt' : i < x.data.toList.length := by simpa using hlt
       rw [if_pos hlt, ih (i + 1) _ (by omega), List.drop_eq_getElem_cons hlt']
       have : x.get! i = x.data.toList[i] := by
         show x.data[i]! = _
         rw [getElem!_pos x.data i (by simpa using hlt)]; simp
       rw [this]; simp
   unfold ByteArray.toList
   rw [loop _ 0 [] rfl]; simp
 rw [key, key] at h
 cases a; cases b
 simp only [ByteArray.mk.injEq]
 exact Array.toList_inj.1 h
theorem gr (a : ByteArray) : ¬ sLt a a := List.lt_irrefl _
theorem jR {a b c : ByteArray} (h1 : sLt a b) (h2 : sLt b c) : sLt a c := List.lt_trans h1 h2
theorem kK (a b : ByteArray) : sLt a b ∨ a = b ∨ sLt b a := by
 unfold sLt
 by_cases h1 : a.toList < b.toList
 · exact .inl h1
 · by_cases h2 : b.toList < a.toList
   · exact .inr (.inr h2)
   · exact .inr (.inl (yb (List.le_antisymm h2 h1)))
def kLt (a b : cU) : Prop := sLt a.1 b.1 ∨ a.1 = b.1 ∧ sLt a.2 b.2
instance (a b : cU) : Decidable (kLt a b) := by unfold kLt; infer_instance
theorem xl (a : cU) : ¬ kLt a a := fun h => h.elim (gr _) fun h => gr _ h.2
theorem nk {a b c : cU} (h1 : kLt a b) (h2 : kLt b c) : kLt a c := by
 rcases h1 with h1 | ⟨e1, h1⟩ <;> rcases h2 with h2 | ⟨e2, h2⟩
 · exact .inl (jR h1 h2)
 · exact .inl (e2 ▸ h1)
 · exact .inl (e1 ▸ h2)
 · exact .inr ⟨e1.trans e2, jR h1 h2⟩
theorem wH (a b : cU) : kLt a b ∨ a = b ∨ kLt b a := by
 rcases kK a.1 b.1 with h | h | h
 · exact .inl (.inl h)
 · rcases kK a.2 b.2 with h2 | h2 | h2
   · exact .inl (.inr ⟨h, h2⟩)
   · exact .inr (.inl (Prod.ext h h2))
   · exact .inr (.inr (.inr ⟨h.symm, h2⟩))
 · exact .inr (.inr (.inl h))
deriving instance DecidableEq for cn
abbrev cn.key (x : cn) : cU := (x.name, x.version)
def yg (d : Dfn) : cn := ⟨d.s.name, d.s.version, decide (d.s.version = .empty) || d.s.main, d.s.kind, d.p.obj, d.p.sym, decide (d.s.bind = 3)⟩
section
variable {kp : List (Sl Bool)} {L : List Dfn}
variable (hA : Asc L)
include hA
end
end Go.Proofs.YtgmiihmahaahiaaGreatDoor

namespace Go.Proofs.YtgmiihmahaahiaaGreatDoor
open Go.RowKit Go.Lp Go.Sy
section
variable {kp : List (Sl Bool)} {L : List Dfn}
variable {sv : ByteArray → ByteArray → Bool} {lf : ByteArray → ByteArray → Int} {lib : Bool}
structure RB (kp : List (Sl Bool)) (L : List Dfn) (sv : ByteArray → ByteArray → Bool) (lf : ByteArray → ByteArray → Int) (lib : Bool) : Prop where
 asc : Asc L
 t1 : fN kp L = none
 t2 : ft kp L = none
 all : ∀ d ∈ L, cr kp L sv lf lib d ≠ none
theorem RB.of (hA : Asc L) (h : cM kp L sv lf lib = none) : RB kp L sv lf lib := by
 unfold cM at h
 cases h1 : fN kp L with
 | some p => rw [h1] at h; cases h
 | none =>
   rw [h1] at h
   cases h2 : ft kp L with
   | some p => rw [h2] at h; cases h
   | none =>
     rw [h2] at h
     refine ⟨hA, h1, h2, fun d hd hn => ?_⟩
     unfold i7 at h
     rw [Option.map_eq_none_iff, Option.map_eq_none_iff, List.find?_eq_none] at h
     exact h d hd (decide_eq_true hn)
theorem RB.to (h : RB kp L sv lf lib) : cM kp L sv lf lib = none := by
 unfold cM i7
 rw [h.t1, h.t2]
 dsimp only
 rw [Option.map_eq_none_iff, Option.map_eq_none_iff, List.find?_eq_none]
 intro d hd hn
 exact h.all d hd (of_decide_eq_true hn)
def chD (kp : List (Sl Bool)) (L : List Dfn) (sv : ByteArray → ByteArray → Bool) (lf : ByteArray → ByteArray → Int) (lib : Bool) (d : Dfn) : aT := (cr kp L sv lf lib d).getD ga
end
end Go.Proofs.YtgmiihmahaahiaaGreatDoor

namespace Go.Proofs.YtgmiihmahaahiaaGreatDoor
open Go.RowKit Go.Lp Go.Sy
section
variable {kp : List (Sl Bool)} {L : List Dfn} {sv : ByteArray → ByteArray → Bool} {lf lf2 : ByteArray → ByteArray → Int} {lib : Bool} {N : Int}
theorem j8 : (∃ p, cM kp L sv lf lib = some (4, p) ∧ ∀ lf2 : ByteArray → ByteArray → Int, cM kp L sv lf2 lib = some (4, p)) ∨ (fN kp L = none ∧ ft kp L = none ∧ ((∃ p, cM kp L sv lf lib = some (3, p)) ∨ cM kp L sv lf lib = none)) := by
 unfold cM
 cases h1 : fN kp L with
 | some p => exact .inl ⟨p, rfl, fun _ => rfl⟩
 | none =>
   cases h2 : ft kp L with
   | some p => exact .inl ⟨p, rfl, fun _ => rfl⟩
   | none =>
     refine .inr ⟨rfl, rfl, ?_⟩
     cases h3 : i7 kp L sv lf lib with
     | some p => exact .inl ⟨p, rfl⟩
     | none => exact .inr rfl
theorem uw (hl : ∀ n v, lf2 n v = lf n v ∨ (lf n v < 0 ∧ (lf2 n v = N ∨ lf2 n v < 0))) (h : RB kp L sv lf lib) : RB kp L sv lf2 lib :=
 ⟨h.asc, h.t1, h.t2, fun d hd hn => h.all d hd (by
   unfold cr at hn ⊢
   split
   · rename_i h0; rw [if_pos h0] at hn; cases hn
   · rename_i h0
     rw [if_neg h0] at hn
     cases hf : fl kp L sv d.s.name d.s.version with
     | some e => rw [hf] at hn; cases hn
     | none =>
       rw [hf] at hn
       dsimp only at hn ⊢
       rcases hl d.s.name d.s.version with h1 | ⟨h1, h2⟩
       · rw [h1] at hn; exact hn
       · rw [if_neg (by omega)]
         split at hn
         · cases hn
         · exact hn)⟩
theorem su (hl : ∀ n v, lf2 n v = lf n v ∨ (lf n v < 0 ∧ (lf2 n v = N ∨ lf2 n v < 0))) (d : Dfn) :
   chD kp L sv lf lib d = chD kp L sv lf2 lib d ∨ (((chD kp L sv lf lib d).kind = 5 ∨ (chD kp L sv lf lib d).kind = 0) ∧ (chD kp L sv lf2 lib d).kind = 4 ∧ (chD kp L sv lf2 lib d).lib = N) := by
 unfold chD cr
 by_cases h0 : d.s.bind = 0
 · rw [if_pos h0, if_pos h0]; exact .inl rfl
 · rw [if_neg h0, if_neg h0]
   cases hf : fl kp L sv d.s.name d.s.version with
   | some e => exact .inl rfl
   | none =>
     dsimp only
     rcases hl d.s.name d.s.version with h1 | ⟨h1, h2⟩
     · rw [h1]; exact .inl rfl
     · rw [if_neg (by omega : ¬ lf d.s.name d.s.version ≥ 0)]
       by_cases h3 : lf2 d.s.name d.s.version ≥ 0
       · rw [if_pos h3]
         refine .inr ⟨?_, rfl, ?_⟩
         · split
           · exact .inr rfl
           · split
             · exact .inl rfl
             · exact .inr rfl
         · show lf2 d.s.name d.s.version = N; omega
       · rw [if_neg h3]; exact .inl rfl
theorem xI (d : Dfn) (h : (chD kp L sv lf lib d).kind = 4) : (chD kp L sv lf lib d).lib = lf d.s.name d.s.version := by
 unfold chD cr at h ⊢
 by_cases h0 : d.s.bind = 0
 · rw [if_pos h0] at h; simp only [Option.getD_some] at h; split at h <;> simp [ga] at h
 · rw [if_neg h0] at h ⊢
   cases hf : fl kp L sv d.s.name d.s.version with
   | some e => rw [hf] at h; simp only [Option.getD_some] at h; split at h <;> simp at h
   | none =>
     rw [hf] at h
     dsimp only at h ⊢
     split
     · rfl
     · rename_i h1
       rw [if_neg h1] at h
       split at h
       · simp [ga] at h
       · split at h <;> simp [ga] at h
end
section
variable {kp : List (Sl Bool)} {L : List Dfn} {sv : ByteArray → ByteArray → Bool} {lf : ByteArray → ByteArray → Int} {lib : Bool} {d0 : Dfn} {s0 : bu}
structure Wk (kp : List (Sl Bool)) (L : List Dfn) (d0 : Dfn) (s0 : bu) : Prop where
 mem : d0 ∈ L
 weak : d0.s.bind = 2
 name : s0.name = d0.s.name
 version : s0.version = d0.s.version
 bind : s0.bind = 2
 vis : s0.vis = d0.s.vis
 sec : s0.sec = -1
 no : lr kp L d0 = false
end
end Go.Proofs.YtgmiihmahaahiaaGreatDoor

namespace Go.Sy
open Go.RowKit Go.Lp
section
variable {α : Type} {enc : α → Value}
variable {P : Program} {n : Fr} {env : Env} {ps : List Per} {hp : List Res} {c : Code} {Q : Exit → Sta → Prop} {vo : Value} {T E : TypeId} {l : List (List α)}

end
end Go.Sy

namespace Go.Sy
open Go.RowKit Go.Lp
section
variable {P : Program} {n : Fr} {s : Sta} {d : Option Tmp} {ty : TypeId} {pos : String} {af : Array Edge} {gd : Option (Nat × Bool)} {x y1 y2 y3 : Operand}
end
end Go.Sy

namespace Go.Sy
open Go.RowKit Go.Lp
def vU (R : Res) : Prop := ∀ w S S' F, R.holds w S F → R.holds w S' F
theorem my {v : Value} {E : TypeId} {sz : Nat} {rows : List (List D)} (hr : ∀ r ∈ rows, ∀ d ∈ r, ∃ u, d = D.v u) : vU (bH v E sz rows) := fun w S S' F h => by
 rcases h with ⟨h1, h2, h3⟩ | ⟨b, cap, h1, ⟨cs, sp, hb, ha, hl, hle, hc⟩, hF⟩
 · exact .inl ⟨h1, h2, h3⟩
 · refine .inr ⟨b, cap, h1, ⟨cs, sp, hb, ⟨ha.len, ha.row, ha.one, fun i j r d h1 h2 => ?_⟩, hl, hle, hc⟩, hF⟩
   obtain ⟨u, hu, hd⟩ := ha.rep i j r d h1 h2
   obtain ⟨u', rfl⟩ := hr r (List.mem_of_getElem? h1) d (List.mem_of_getElem? h2)
   refine ⟨u, hu, ?_⟩
   cases hd; exact .v _
section
variable {P : Program} {n : Fr} {s : Sta} {d : Option Tmp} {ty : TypeId} {pos : String} {af : Array Edge} {gd : Option (Nat × Bool)} {x y1 y2 y3 : Operand}
end
end Go.Sy

namespace Go.Sy
open Go.RowKit Go.Lp
theorem so {w : World} {S : bE} {fp : Nat → bE} {ps : List Per} {p : Per} {L : List Res} (hst : St w S fp ps L) (hp : p.holds w (fun b => S b ∨ tot fp L.length b)) :
   St w (fun b => S b ∨ tot fp L.length b) (fun _ _ => False) (p :: ps) [] :=
 ⟨fun q hq => by
     rcases List.mem_cons.1 hq with rfl | hq
     · exact hp
     · exact q.mono (hst.per q hq) (fun _ _ => rfl) (fun _ h => .inl h), fun i R hi => by simp at hi, fun i hi => by simp at hi, fun i j hi => by simp at hi, fun b hb => hb.elim (hst.slt b) fun ⟨i, hi, h⟩ => (hst.lt i hi b h).1⟩
theorem Con.borrowL {P : Program} {f : FuncId} {args : List Value} {ps : List Per} {p : Per} {R : Value → List Per → List Res → Prop} (h : Con P f args (p :: ps) [] R) (L : List Res)
   (hB : ∀ (w : World) (S : bE) (fp : Nat → bE), (∀ (i : Nat) (A : Res), L[i]? = some A → A.holds w S (fp i)) → p.holds w (fun b => S b ∨ tot fp L.length b)) (hR : ∀ v ps' hp', R v ps' hp' → ∀ r ∈ hp', vU r) :
   Con P f args ps L (fun v ps' hp' => ps' = [] ∧ ∃ ps2 hp2, R v ps2 hp2 ∧ hp' = L ++ hp2) := fun w S fp hst => by
 have h2 := so hst (hB w S fp hst.res)
 have h0 : ∀ b, ¬ tot (fun _ _ => False) ([] : List Res).length b := fun b ⟨j, hj, _⟩ => by simp at hj
 refine (h w _ _ h2).mono fun e w' ⟨v, ps', hp', S', fp', he, hR', hst', hE, hb⟩ => ?_
 have hFlt : ∀ b, tot fp L.length b → b < w.heap.size ∧ ¬ S b := fun b ⟨i, hi, h⟩ => hst.lt i hi b h
 have hsame : ∀ b, b < w.heap.size → w'.heap[b]? = w.heap[b]? := fun b hb' => hE.block b hb' (h0 b)
 have hfp : ∀ i, i < L.length → ∀ b, fp i b → tot fp L.length b := fun i hi b hb => ⟨i, hi, hb⟩
 refine ⟨v, [], L ++ hp', fun b => S' b ∧ ¬ tot fp L.length b, fun i => if i < L.length then fp i else fp' (i - L.length), he, ⟨rfl, ps', hp', hR', rfl⟩, ⟨fun q hq => (by cases hq), fun i A hi => ?_, fun i hi b hbi => ?_, fun i j hi hj hne b hbi hbj => ?_, fun b hb' => hst'.slt b hb'.1⟩, ⟨hE.os, hE.tape, hE.output, hE.size, hE.drawn, fun b hb' _ => hsame b hb', fun b hb' => ⟨hE.more b (.inl hb'), fun hf => (hFlt b hf).2 hb'⟩, fun b hb' => ?_⟩, fun b ⟨i, hi, hbi⟩ => ?_⟩
 · by_cases hil : i < L.length
   · rw [if_pos hil]
     rw [List.getElem?_append_left hil] at hi
     exact A.mono (hst.res i A hi) (fun b hb' => hsame b (hFlt b (hfp i hil b hb')).1) (fun b hb' => hsame b (hst.slt b hb')) (fun b hb' => ⟨hE.more b (.inl hb'), fun hf => (hFlt b hf).2 hb'⟩)
   · rw [if_neg hil]
     rw [List.getElem?_append_right (by omega)] at hi
     exact hR v ps' hp' hR' A (List.mem_of_getElem? hi) _ _ _ _ (hst'.res _ A hi)
 · by_cases hil : i < L.length
   · rw [if_pos hil] at hbi
     exact ⟨Nat.lt_of_lt_of_le (hFlt b (hfp i hil b hbi)).1 hE.size, fun h => h.2 (hfp i hil b hbi)⟩
   · rw [if_neg hil] at hbi
     rw [List.length_append] at hi
     have := hst'.lt (i - L.length) (by omega) b hbi
     exact ⟨this.1, fun h => this.2 h.1⟩
 · rw [List.length_append] at hi hj
   by_cases hil : i < L.length
   · rw [if_pos hil] at hbi
     by_cases hjl : j < L.length
     · rw [if_pos hjl] at hbj; exact hst.dj i j hil hjl hne b hbi hbj
     · rw [if_neg hjl] at hbj; exact (hst'.lt (j - L.length) (by omega) b hbj).2 (hE.more b (.inr (hfp i hil b hbi)))
   · rw [if_neg hil] at hbi
     by_cases hjl : j < L.length
     · rw [if_pos hjl] at hbj; exact (hst'.lt (i - L.length) (by omega) b hbi).2 (hE.more b (.inr (hfp j hjl b hbj)))
     · rw [if_neg hjl] at hbj; exact hst'.dj (i - L.length) (j - L.length) (by omega) (by omega) (by omega) b hbi hbj
 · rcases hE.new b hb'.1 with (h | h) | h | h
   · exact .inl h
   · exact (hb'.2 h).elim
   · exact (h0 b h).elim
   · exact .inr (.inr h)
 · dsimp only at hbi
   by_cases hil : i < L.length
   · rw [if_pos hil] at hbi; exact .inl ⟨i, hil, hbi⟩
   · rw [if_neg hil] at hbi
     rw [List.length_append] at hi
     exact (hb b ⟨i - L.length, by omega, hbi⟩).elim (fun h => (h0 b h).elim) .inr
theorem Con.ofRes {P : Program} {f : FuncId} {args : List Value} {ps : List Per} {p : Per} {R : Value → List Per → List Res → Prop} (h : Con P f args (p :: ps) [] R) (L : List Res)
   (hB : ∀ (w : World) (S : bE) (fp : Nat → bE), (∀ (i : Nat) (A : Res), L[i]? = some A → A.holds w S (fp i)) → p.holds w (fun b => S b ∨ tot fp L.length b)) : Con P f args ps L R := fun w S fp hst => by
 have h2 := so hst (hB w S fp hst.res)
 have h0 : ∀ b, ¬ tot (fun _ _ => False) ([] : List Res).length b := fun b ⟨j, hj, _⟩ => by simp at hj
 have hE : Evo w S (tot fp L.length) w (fun b => S b ∨ tot fp L.length b) := ⟨rfl, rfl, rfl, Nat.le_refl _, Nat.le_refl _, fun _ _ _ => rfl, fun _ h => .inl h, fun b hb => hb.elim .inl fun h => .inr (.inl h)⟩
 exact (h w _ _ h2).mono fun e w' ⟨u, ps', hp', S', fp', he, hR, hst', hE', hb⟩ => ⟨u, ps', hp', S', fp', he, hR, hst', hE.trans hE' (fun b hb => (h0 b hb).elim), fun b hb' => (hb b hb').elim (fun h => (h0 b h).elim) .inr⟩
theorem Con.clean {P : Program} {f : FuncId} {args : List Value} {ps : List Per} {hp : List Res} {R : Value → List Per → List Res → Prop} {φ : Value → Prop} (h : Con P f args ps hp R) (hR : ∀ v ps' hp', R v ps' hp' → φ v) : Con P f args ps hp (fun v ps' hp' => φ v ∧ ps' = [] ∧ hp' = []) := fun w S fp hst =>
 (h w S fp hst).mono fun e w' ⟨v, ps', hp', S', fp', he, hr, hst', hE, hb⟩ => ⟨v, [], [], S', fun _ _ => False, he, ⟨hR _ _ _ hr, rfl, rfl⟩, ⟨fun q hq => (by cases hq), fun i A hi => (by simp at hi), fun i hi => (by simp at hi), fun i j hi => (by simp at hi), hst'.slt⟩, hE, fun b ⟨i, hi, _⟩ => (by simp at hi)⟩
end Go.Sy

namespace Go.Proofs.YtgmiihmahaahiaaGreatDoor
open Go.RowKit Go.Lp Go.Sy
open Go.Proofs.Tryz
attribute [local irreducible] aL aB awp aC fwp
structure cg where
 objs : Sl ar
 kp : Sl (Sl Bool)
 lib : Bool
 ifs : Sl bw
 vs : Sl aF
 ball : Nat
 bch : Nat
 bnm : Nat
 bmn : Nat
abbrev cg.row (x : cg) : List D := [.v (.slice x.objs.ad x.objs.l.length x.objs.cap), .v (.slice x.kp.ad x.kp.l.length x.kp.cap), .v (.bool x.lib), .v (.slice x.ifs.ad x.ifs.l.length x.ifs.cap), .v (.slice x.vs.ad x.vs.l.length x.vs.cap), .v (.map (some x.ball)), .v (.map (some x.bch)), .v (.map (some x.bnm)), .v (.map (some x.bmn))]
abbrev bR : Bool → List D := fun b => [.v (.bool b)]
abbrev slR {α : Type} : Sl α → List D := fun s => [.v (.slice s.ad s.l.length s.cap)]
def cg.ok (x : cg) : Per := cw (ShF ar.row x.objs) (cw (bW ar.ok x.objs.l) (cw (ShF slR x.kp) (cw (bW (ShF bR) x.kp.l) (cw (ShF bw.row x.ifs) (cw (bW bw.ok x.ifs.l) (cw (ShF aF.row x.vs) (bW aF.ok x.vs.l)))))))
section
variable {ps : List Per} {x : cg} (h : Ent ps x.ok)
include h
theorem cg.f_objs : Ent ps (ShF ar.row x.objs) := h.left
theorem cg.f_objsA : Ent ps (bW ar.ok x.objs.l) := h.right.left
theorem cg.f_kp : Ent ps (ShF slR x.kp) := h.right.right.left
theorem cg.f_kpA : Ent ps (bW (ShF bR) x.kp.l) := h.right.right.right.left
theorem cg.f_ifs : Ent ps (ShF bw.row x.ifs) := h.right.right.right.right.left
theorem cg.f_ifsA : Ent ps (bW bw.ok x.ifs.l) := h.right.right.right.right.right.left
theorem cg.f_vs : Ent ps (ShF aF.row x.vs) := h.right.right.right.right.right.right.left
theorem cg.f_vsA : Ent ps (bW aF.ok x.vs.l) := h.right.right.right.right.right.right.right
end
structure gG (os : List ar) (kp : List (Sl Bool)) : Prop where
 n : os.length ≤ 5
 sy : ∀ o ∈ os, o.syms.l.length ≤ 14
 kn : kp.length = os.length
 ks : ∀ i : Nat, i < os.length → (elt kp (i : Int)).l.length = (elt os (i : Int)).secs.l.length
 sec : ∀ o ∈ os, ∀ s ∈ o.syms.l, (s.sec = -1 ∧ s.bind ≠ 0) ∨ (0 ≤ s.sec ∧ s.sec < o.secs.l.length)
def InD (os : List ar) (d : Dfn) : Prop := ∃ i k : Nat, i < os.length ∧ (elt os (i : Int)).syms.l[k]? = some d.s ∧ d.p = ⟨(i : Int), (k : Int)⟩
theorem kN {os : List ar} {d : Dfn} : d ∈ bQ os ↔ InD os d := lD
theorem jf (s : bu) : Con Tryz.prog 87 [s.val] [] [] (fun r _ _ => r = .int .i64 (eC ⟨default, s⟩)) := by
 refine Con.enter Tryz.func87 rfl (by simp [Tryz.ntmps87]) ?_
 show awp _ _ _ _ ⟨[(0, true, _)], _, _⟩
 refine aSR ?_
 refine al (q := true) rfl (bO rfl rfl rfl (fun b0_0 => ?_))
 refine aH (by (try simp only [nM, nN]); rfl) ?_
 refine aA rfl (aNs (aSR ?_))
 refine aU rfl (aa (off := 3) (by kernel_rfl) rfl) ?_
 refine aU rfl (ae 0 tk3 rfl rfl rfl) (aNn (ax (aSR (aU rfl (bK rfl rfl) (aA rfl (aNn ?_))))))
 refine ah _ rfl (fun h1 => ?_) (fun h1 => ?_)
 ·skip
  refine aSR (aA rfl (aNn (aj (bC (aO ?_)))))
  refine bc [] [] rfl Tryz.results87 rfl ?_ (.inr rfl)
  have : s.bind = 1 := by simpa using h1
  unfold eC; rw [if_pos this]
 ·skip
  refine aSR (aU rfl (bK rfl rfl) (aA rfl (aNn ?_)))
  refine ah _ rfl (fun h2 => ?_) (fun h2 => ?_)
  ·skip
   refine aSR (aA rfl (aNn (aj (bC (aO ?_)))))
   refine bc [] [] rfl Tryz.results87 rfl ?_ (.inr rfl)
   have a1 : ¬ s.bind = 1 := by simpa using h1
   have : s.bind = 3 := by simpa using h2
   unfold eC; rw [if_neg a1, if_pos this]
  ·skip
   refine au (bL (aw (aSR (aA rfl (aNn (aj ?_))))))
   refine bc [] [] rfl Tryz.results87 rfl ?_ (.inr rfl)
   have a1 : ¬ s.bind = 1 := by simpa using h1
   have a2 : ¬ s.bind = 3 := by simpa using h2
   unfold eC; rw [if_neg a1, if_neg a2]
theorem oW (z : Int) : Con Tryz.prog 239 [.int .i64 z] [] [] (fun r _ _ => r = .bool false) := by
 refine Con.enter Tryz.func239 rfl (by simp [Tryz.ntmps239]) ?_
 show awp _ _ _ _ ⟨[(0, true, _)], _, _⟩
 refine aSR (aA rfl (aNn (aSR (aM rfl (aM rfl (aU rfl (cN rfl rfl) (aA rfl (aNn (aj ?_)))))))))
 refine bc [] [] rfl Tryz.results239 rfl ?_ (.inr rfl)
 simp
theorem pv (z : ByteArray) : Con Tryz.prog 99 [.string z] [] [] (fun r _ _ => r = .bool false) := by
 refine Con.enter Tryz.func99 rfl (by simp [Tryz.ntmps99]) ?_
 show awp _ _ _ _ ⟨[(0, true, _)], _, _⟩
 refine aSR (aA rfl (aNn (aSR (aM rfl (aM rfl (aU rfl (jn rfl rfl) (aA rfl (aNn (aj ?_)))))))))
 refine bc [] [] rfl Tryz.results99 rfl ?_ (.inr rfl)
 simp
def hP (a b : Int) : Int := if a < b then -1 else if b < a then 1 else 0
theorem fH (a b : Int) : Con Tryz.prog 166 [.int .i64 a, .int .i64 b] [] [] (fun r _ _ => r = .int .i64 (hP a b)) := by
 refine Con.enter Tryz.func166 rfl (by simp [Tryz.ntmps166]) ?_
 show awp _ _ _ _ ⟨[(0, true, _), (1, true, _)], _, _⟩
 refine aSR (aA rfl (aNn (aSR (aM rfl ?_))))
 refine aU rfl (bP (by kernel_rfl) rfl (fun w S fp hst => (oW _).quiet0 hst)) ?_
 refine aA rfl (aNn (aSR (aM rfl ?_)))
 refine aU rfl (bP (by kernel_rfl) rfl (fun w S fp hst => (oW _).quiet0 hst)) ?_
 refine aA rfl (aNs (aSR (aM rfl (aNn ?_))))
 refine ah _ rfl (fun h1 => ?_) (fun h1 => ?_)
 ·skip
  exact absurd h1 (by decide)
 ·skip
  refine au (aw (az (aSR (aM rfl (aNn ?_)))))
  refine ah _ rfl (fun h2 => ?_) (fun h2 => ?_)
  ·skip
   exact absurd h2 (by decide)
  ·skip
   refine au (aw (az (aSR (aM rfl (aM rfl (aU rfl (bJ rfl rfl) (aNn ?_)))))))
   refine ah _ rfl (fun h3 => ?_) (fun h3 => ?_)
   ·skip
    refine aSR (aA rfl (aNn (aj (aO ?_))))
    refine bc [] [] rfl Tryz.results166 rfl ?_ (.inr rfl)
    have : a < b := by simpa using h3
    unfold hP; rw [if_pos this]
   ·skip
    refine au (aw (az (aSR (aM rfl (aM rfl (aU rfl (dp rfl rfl) (aNn ?_)))))))
    refine ah _ rfl (fun h4 => ?_) (fun h4 => ?_)
    ·skip
     refine aSR (aA rfl (aNn (aj (aO ?_))))
     refine bc [] [] rfl Tryz.results166 rfl ?_ (.inr rfl)
     have a1 : ¬ a < b := by simpa using h3
     have : b < a := by simpa using h4
     unfold hP; rw [if_neg a1, if_pos this]
    ·skip
     refine au (aw (aSR (aA rfl (aNn (aj ?_)))))
     refine bc [] [] rfl Tryz.results166 rfl ?_ (.inr rfl)
     have a1 : ¬ a < b := by simpa using h3
     have a2 : ¬ b < a := by simpa using h4
     unfold hP; rw [if_neg a1, if_neg a2]
def kx (a b : ByteArray) : Int := if sLt a b then -1 else if sLt b a then 1 else 0
theorem mY {a b : ByteArray} (h : sLt a b) : ¬ sLt b a := fun k => gr _ (jR h k)
theorem ly (a b : ByteArray) : Con Tryz.prog 45 [.string a, .string b] [] [] (fun r _ _ => r = .int .i64 (kx a b)) := by
 refine Con.enter Tryz.func45 rfl (by simp [Tryz.ntmps45]) ?_
 show awp _ _ _ _ ⟨[(0, true, _), (1, true, _)], _, _⟩
 refine aSR (aA rfl (aNn (aSR (aM rfl ?_))))
 refine aU rfl (bP (by kernel_rfl) rfl (fun w S fp hst => (pv _).quiet0 hst)) ?_
 refine aA rfl (aNn (aSR (aM rfl ?_)))
 refine aU rfl (bP (by kernel_rfl) rfl (fun w S fp hst => (pv _).quiet0 hst)) ?_
 refine aA rfl (aNs (aSR (aM rfl (aNn ?_))))
 refine ah _ rfl (fun h1 => ?_) (fun h1 => ?_)
 ·skip
  exact absurd h1 (by decide)
 ·skip
  refine au (aw (az (aSR (aM rfl (aNn ?_)))))
  refine ah _ rfl (fun h2 => ?_) (fun h2 => ?_)
  ·skip
   exact absurd h2 (by decide)
  ·skip
   refine au (aw (az (aSR (aM rfl (aM rfl (aU rfl (vG rfl rfl) (aNn ?_)))))))
   refine ah _ rfl (fun h3 => ?_) (fun h3 => ?_)
   ·skip
    refine aSR (aA rfl (aNn (aj (aO ?_))))
    refine bc [] [] rfl Tryz.results45 rfl ?_ (.inr rfl)
    have : sLt a b := of_decide_eq_true h3
    unfold kx; rw [if_pos this]
   ·skip
    refine au (aw (az (aSR (aM rfl (aM rfl (aU rfl (xR rfl rfl) (aNn ?_)))))))
    refine ah _ rfl (fun h4 => ?_) (fun h4 => ?_)
    ·skip
     refine aSR (aA rfl (aNn (aj (aO ?_))))
     refine bc [] [] rfl Tryz.results45 rfl ?_ (.inr rfl)
     have a1 : ¬ sLt a b := of_decide_eq_false h3
     have h4' : ¬ sLt a b ∧ ¬ a = b := by simp only [Bool.not_eq_true', Bool.or_eq_false_iff, decide_eq_false_iff_not] at h4; exact h4
     have : sLt b a := by
       rcases kK a b with h | h | h
       · exact (a1 h).elim
       · exact (h4'.2 h).elim
       · exact h
     unfold kx; rw [if_neg a1, if_pos this]
    ·skip
     refine au (aw (aSR (aA rfl (aNn (aj ?_)))))
     refine bc [] [] rfl Tryz.results45 rfl ?_ (.inr rfl)
     have a1 : ¬ sLt a b := of_decide_eq_false h3
     have h4' : sLt a b ∨ a = b := by simp only [Bool.not_eq_false', Bool.or_eq_true, decide_eq_true_eq] at h4; exact h4
     have a2 : ¬ sLt b a := by
       rcases h4' with h | h
       · exact mY h
       · rw [h]; exact gr _
     unfold kx; rw [if_neg a1, if_neg a2]
theorem sd (v : Value) (a b : Int) : Con Tryz.prog 44 [v] [] [bH v 3 1 [[.v (.int .i64 a)], [.v (.int .i64 b)]]] (fun r _ _ => r = .int .i64 (if a ≠ 0 then a else b)) := by
 refine Con.ofRes (p := Sh v (.sl [[.v (.int .i64 a)], [.v (.int .i64 b)]])) ?_ _ (fun w S fp hres => (et (hres 0 _ rfl)).mono (fun _ _ => rfl) fun b hb => hb.imp id fun hf => ⟨0, by simp, hf⟩)
 refine Con.enter Tryz.func44 rfl (by simp [Tryz.ntmps44]) ?_
 show awp _ _ _ _ ⟨[(0, true, _)], _, _⟩
 refine l9 (.of (an 0 rfl)) (fun ad cp hv => ?_)
 obtain rfl : v = .slice ad 2 cp := hv
 refine aSR (aA rfl (aNn (aSR (aA rfl (aNs (aSR (aM rfl (aU rfl (bq Tryz.underlying90 rfl) (aM rfl (aNn (ax ?_)))))))))))
 refine aZ [0, 3, 6, 7, 8] [0] [] (fun (k : Nat) st => (k ≤ 2 ∧ (1 ≤ k → a = 0) ∧ (2 ≤ k → b = 0)) ∧ st = ⟨[(0, true, .slice ad 2 cp), (3, true, .int .i64 0), (6, true, .slice ad 2 cp), (7, true, .int .i64 2), (8, true, .int .i64 k)], [Sh (.slice ad 2 cp) (.sl [[.v (.int .i64 a)], [.v (.int .i64 b)]])], []⟩) (fun k => 2 - k) rfl (⟨0, ⟨by omega, fun h => by omega, fun h => by omega⟩, rfl⟩) ?_
 rintro k st ⟨⟨hk, ha, hb⟩, rfl⟩
 refine aSR (aU rfl (bJ rfl rfl) (aNs ?_))
 refine ah _ rfl (fun h1 => ?_) (fun h1 => ?_)
 ·skip
  have hk' : k < 2 := by simp at h1; omega
  obtain ⟨c, hc1, hc⟩ : ∃ c, (([[.v (.int .i64 a)], [.v (.int .i64 b)]] : List (List D))[k]? = some [D.v (.int .i64 c)]) ∧ ((k = 0 ∧ c = a) ∨ (k = 1 ∧ c = b)) := by
    rcases (by omega : k = 0 ∨ k = 1) with rfl | rfl
    · exact ⟨a, rfl, .inl ⟨rfl, rfl⟩⟩
    · exact ⟨b, rfl, .inr ⟨rfl, rfl⟩⟩
  refine au (aw (az (ax (aSR ?_))))
  refine cF true rfl rfl (fun _ => j4 Tryz.underlying90 tk3 rfl (an 0 rfl) rfl hc1 rfl rfl) (fun h => absurd h (by decide)) (fun ⟨b4_0, o4_0⟩ => ?_)
  refine aU rfl (aR (o := 0) tk3 rfl (an 0 rfl) rfl rfl) (aA rfl (aNn (aSR (aM rfl (aM rfl (aU rfl (cN rfl rfl) (aNn ?_)))))))
  refine ah _ rfl (fun h2 => ?_) (fun h2 => ?_)
  ·skip
   refine aSR (aM rfl (aA rfl (aNn (aj (bC (aO (aO (bC (aO ?_)))))))))
   refine bc [] [] rfl Tryz.results44 rfl ?_ (.inr rfl)
   have hc0 : c ≠ 0 := by simpa using h2
   rcases hc with ⟨rfl, rfl⟩ | ⟨rfl, rfl⟩
   · rw [if_pos hc0]
   · rw [if_neg (by have := ha (by omega); omega)]
  ·skip
   refine au (bL (aw (ai ?_)))
   refine aU rfl (bB rfl rfl (by omega)) ?_
   refine aM rfl (aNn ?_)
   refine ⟨[0, 3, 6, 7, 8], [0], [], rfl, ?_⟩
   have hc0 : c = 0 := by simpa using h2
   rcases hc with ⟨rfl, rfl⟩ | ⟨rfl, rfl⟩
   · exact ⟨1, ⟨⟨by omega, fun _ => hc0, fun h => by omega⟩, rfl⟩, by omega⟩
   · exact ⟨2, ⟨⟨by omega, fun _ => ha (by omega), fun _ => hc0⟩, rfl⟩, by omega⟩
 ·skip
  refine bg (bj (bj (bz (aw (aSR (aM rfl (aA rfl (aNn (aj ?_)))))))))
  refine bc [] [] rfl Tryz.results44 rfl ?_ (.inr rfl)
  have hk2 : k = 2 := by simp at h1; omega
  subst hk2
  rw [if_neg (by have := ha (by omega); omega), hb (by omega)]
end Go.Proofs.YtgmiihmahaahiaaGreatDoor

namespace Go.Proofs.YtgmiihmahaahiaaGreatDoor
open Go.RowKit Go.Lp Go.Sy
open Go.Proofs.Tryz
attribute [local irreducible] aL aB awp aC fwp
def sO (p q : aD) : Int := if hP p.obj q.obj ≠ 0 then hP p.obj q.obj else hP p.sym q.sym
theorem pY (a b : Int) : hP a b < 0 ↔ a < b := by unfold hP; split <;> (try split) <;> omega
theorem tV (a b : Int) : hP a b = 0 ↔ a = b := by unfold hP; split <;> (try split) <;> omega
theorem jo (p q : aD) : sO p q < 0 ↔ ltC p q := by
 unfold sO ltC
 have h1 := pY p.obj q.obj
 have h2 := tV p.obj q.obj
 have h3 := pY p.sym q.sym
 split <;> omega
theorem lx (p q : aD) : Con Tryz.prog 89 [p.val, q.val] [] [] (fun r _ _ => r = .int .i64 (sO p q)) := by
 refine Con.enter Tryz.func89 rfl (by simp [Tryz.ntmps89]) ?_
 show awp _ _ _ _ ⟨[(0, true, _), (1, true, _)], _, _⟩
 refine aSR ?_
 refine al (q := true) rfl (bO rfl rfl rfl (fun b0_0 => ?_))
 refine aH (by (try simp only [nM, nN]); rfl) ?_
 refine al (q := true) rfl (bO rfl rfl rfl (fun b0_1 => ?_))
 refine aH (by (try simp only [nM, nN]); rfl) ?_
 refine aA rfl (aNs ?_)
 refine bn [11] (by kernel_rfl) ?_
 show aB _ _ _ _ _ 13 #[false, false, false, false, false, false, false, false, false, false, false, false, false] _
 refine bU 0 rfl (by kernel_rfl) rfl (aa (off := 0) (by kernel_rfl) rfl) ?_
 refine bU 1 rfl (by kernel_rfl) rfl (ae 0 tk3 rfl rfl rfl) ?_
 refine bU 2 rfl (by kernel_rfl) rfl (aa (off := 0) (by kernel_rfl) rfl) ?_
 refine bU 3 rfl (by kernel_rfl) rfl (ae 1 tk3 rfl rfl rfl) ?_
 refine bU 4 rfl (by kernel_rfl) rfl (bP (by kernel_rfl) rfl (fun w S fp hst => (fH _ _).quiet0 hst)) ?_
 refine bU 5 rfl (by kernel_rfl) rfl (aa (off := 1) (by kernel_rfl) rfl) ?_
 refine bU 6 rfl (by kernel_rfl) rfl (ae 0 tk3 rfl rfl rfl) ?_
 refine bU 7 rfl (by kernel_rfl) rfl (aa (off := 1) (by kernel_rfl) rfl) ?_
 refine bU 8 rfl (by kernel_rfl) rfl (ae 1 tk3 rfl rfl rfl) ?_
 refine bU 9 rfl (by kernel_rfl) rfl (bP (by kernel_rfl) rfl (fun w S fp hst => (fH _ _).quiet0 hst)) ?_
 refine bV (q := true) 10 rfl (by kernel_rfl) rfl rfl (cz (zs := [.int .i64 0]) (l := [(0, .tmp 9), (1, .tmp 14)]) el90 (by kernel_rfl) (by decide) (by decide) (by decide) rfl rfl rfl (.more rfl (.v rfl .nil) (.more rfl (.v rfl .nil) .nil)) rfl rfl (fun v1_10 => ?_))
 refine cq rfl (by (try simp only [nM, nN]); rfl) (by (try simp only [aV, place, Nat.reduceBEq, if_true, if_false, reduceIte, Nat.reduceAdd, nW]); rfl) ?_
 refine bV (q := false) 11 rfl (by kernel_rfl) rfl rfl (bF [] [2] (by kernel_rfl) rfl rfl rfl rfl ((sd (.slice v1_10 2 2) _ _).clean (φ := fun r => r = _) (fun _ _ _ h => h)) ?_)
 rintro _ _ _ ⟨rfl, rfl, rfl⟩
 refine cq rfl (by (try simp only [nM, nN]); rfl) (by (try simp only [aV, place, Nat.reduceBEq, if_true, if_false, reduceIte, Nat.reduceAdd, nW]); rfl) ?_
 refine bU 12 rfl (by kernel_rfl) rfl (bk rfl) ?_
 refine bS (by kernel_rfl) ?_
 refine aw (aj ?_)
 refine bc [] [] rfl Tryz.results89 rfl ?_ (.inr rfl)
 rfl
def dM (x : aD × Bool) (p : aD) : aD × Bool := if x.2 = false ∨ ltC p x.1 then (p, true) else x
theorem iC (a b : Nat) (x : aD × Bool) (p : aD) : Con Tryz.prog 39 [.pointer (some ⟨a, 0, none⟩), .pointer (some ⟨b, 0, none⟩), p.val] [] [Box a 34 x.1.vs, Box b 4 [.bool x.2]]
   (fun _ ps hp => ps = [] ∧ hp = [Box a 34 (dM x p).1.vs, Box b 4 [.bool (dM x p).2]]) := by
 refine Con.enter Tryz.func39 rfl (by simp [Tryz.ntmps39]) ?_
 show awp _ _ _ _ ⟨[(0, true, _), (1, true, _), (2, true, _)], _, _⟩
 refine aSR ?_
 refine al (q := true) rfl (bO rfl rfl rfl (fun b0_0 => ?_))
 refine aH (by (try simp only [nM, nN]); rfl) ?_
 refine aNs ?_
 refine bn [] (by kernel_rfl) ?_
 show aB _ _ _ _ _ 12 #[false, false, false, false, false, false, false, false, false, false, false, false] _
 refine bU 0 rfl (by kernel_rfl) rfl (aq rfl) ?_
 refine bU 1 rfl (by kernel_rfl) rfl (br rfl) ?_
 refine bU 2 rfl (by kernel_rfl) rfl (ae 1 tk4 rfl rfl rfl) ?_
 refine bU 3 rfl (by kernel_rfl) rfl (cm rfl) ?_
 refine bU 4 rfl (by kernel_rfl) rfl (aq rfl) ?_
 refine bG 5 rfl (by kernel_rfl) rfl rfl (fun hc => ae 2 tk34 rfl rfl rfl) ?_
 refine bG 6 rfl (by kernel_rfl) rfl rfl (fun hc => aq rfl) ?_
 refine bG 7 rfl (by kernel_rfl) rfl rfl (fun hc => br (ab rfl hc)) ?_
 refine bG 8 rfl (by kernel_rfl) rfl rfl (fun hc => ae 0 tk34 (ab rfl hc) rfl rfl) ?_
 refine bG 9 rfl (by kernel_rfl) rfl rfl (fun hc => bP (by kernel_rfl) (aN (ab rfl hc) (aN (ab rfl hc) rfl)) (fun w S fp hst => (lx _ _).quiet0 hst)) ?_
 refine bG 10 rfl (by kernel_rfl) rfl rfl (fun hc => bJ (ab rfl hc) rfl) ?_
 refine bU 11 rfl (by kernel_rfl) rfl (cx rfl rfl (fun h => gf rfl h)) ?_
 refine bS (by kernel_rfl) ?_
 refine aw ?_
 refine ah _ rfl (fun h1 => ?_) (fun h1 => ?_)
 ·skip
  refine ai (aM rfl (aM rfl (aU rfl (ae 2 tk34 rfl rfl rfl) (aU rfl (br rfl) ?_))))
  refine al rfl (aW 0 tk34 rfl rfl rfl rfl ?_)
  refine aH (by (try simp only [nK, nL]); rfl) ?_
  refine aU rfl (br rfl) ?_
  refine al rfl (aW 1 tk4 rfl rfl rfl rfl ?_)
  refine aH (by (try simp only [nK, nL]); rfl) ?_
  refine cA ?_
  refine gZ [] [0, 1] rfl Tryz.results39 ?_ (.inl rfl)
  have hh : x.2 = false ∨ ltC p x.1 := by
    rw [← jo]; simpa using h1
  exact ⟨rfl, by unfold dM; rw [if_pos hh]; rfl⟩
 ·skip
  refine au ?_
  refine gZ [] [0, 1] rfl Tryz.results39 ?_ (.inl rfl)
  have hh : ¬ (x.2 = false ∨ ltC p x.1) := by
    rw [← jo]; simpa using h1
  exact ⟨rfl, by unfold dM; rw [if_neg hh]; rfl⟩
theorem kJ (x : cg) (lb : Nat) (d : Dfn) (hd : InD x.objs.l d) : Con Tryz.prog 86 [.pointer (some ⟨lb, 0, none⟩), d.p.val] [At lb 0 x.row, x.ok] [] (fun r _ _ => r = d.s.val) := by
 obtain ⟨i, k, hi, hk, hp⟩ := hd
 obtain ⟨p, s⟩ := d
 dsimp only at hk hp
 subst hp
 have ho := bY hi
 refine Con.enter Tryz.func86 rfl (by simp [Tryz.ntmps86]) ?_
 show awp _ _ _ _ ⟨[(0, true, _), (1, true, _)], _, _⟩
 refine aSR ?_
 refine al (q := true) rfl (bO rfl rfl rfl (fun b0_0 => ?_))
 refine aH (by (try simp only [nM, nN]); rfl) ?_
 refine al (q := true) rfl (bp (zs := [.string .empty, .string .empty, .bool false, .int .i64 0, .int .i64 0, .int .i64 0, .int .i64 0, .int .i64 0, .int .i64 0, .int .i64 0]) (by kernel_rfl) rfl (fun b0_1 => ?_))
 refine aH (by (try simp only [nM, nN]); rfl) ?_
 refine aNs ?_
 refine bn [13] (by kernel_rfl) ?_
 show aB _ _ _ _ _ 14 #[false, false, false, false, false, false, false, false, false, false, false, false, false, false] _
 refine bU 0 rfl (by kernel_rfl) rfl (aq rfl) ?_
 refine bU 1 rfl (by kernel_rfl) rfl (br rfl) ?_
 refine bU 2 rfl (by kernel_rfl) rfl (aa (off := 0) (by kernel_rfl) rfl) ?_
 refine bU 3 rfl (by kernel_rfl) rfl (aK (o := 0) tk22 rfl (.of (an 0 rfl)) rfl) ?_
 refine bU 4 rfl (by kernel_rfl) rfl (aa (off := 0) (by kernel_rfl) rfl) ?_
 refine bU 5 rfl (by kernel_rfl) rfl (ae 0 tk3 rfl rfl rfl) ?_
 refine dI 6 rfl (by kernel_rfl) true rfl rfl (fun _ => av Tryz.underlying22 tk61 rfl ((cg.f_objs (.of (an 1 rfl)))) rfl (aS ho) rfl rfl) (fun h => absurd h (by decide)) (fun ⟨b1_6, o1_6⟩ => ?_)
 refine bU 7 rfl (by kernel_rfl) rfl (aa (off := 2) (by kernel_rfl) rfl) ?_
 refine bU 8 rfl (by kernel_rfl) rfl (aR (o := 2) tk51 rfl (an 0 rfl) rfl rfl) ?_
 refine bU 9 rfl (by kernel_rfl) rfl (aa (off := 1) (by kernel_rfl) rfl) ?_
 refine bU 10 rfl (by kernel_rfl) rfl (ae 0 tk3 rfl rfl rfl) ?_
 refine dI 11 rfl (by kernel_rfl) true rfl rfl (fun _ => av Tryz.underlying51 tk63 rfl ((ar.f_syms (Ent.all (cg.f_objsA (.of (an 2 rfl))) ho))) rfl (aS hk) rfl rfl) (fun h => absurd h (by decide)) (fun ⟨b1_11, o1_11⟩ => ?_)
 refine bU 12 rfl (by kernel_rfl) rfl (aR (o := 0) tk63 rfl (an 0 rfl) rfl rfl) ?_
 refine bV 13 rfl (by kernel_rfl) rfl rfl (aW 1 tk63 rfl rfl rfl rfl ?_)
 refine cq rfl (by (try simp only [nM, nN]); rfl) (by (try simp only [aV, place, Nat.reduceBEq, if_true, if_false, reduceIte, Nat.reduceAdd, nW]); rfl) ?_
 refine bS (by kernel_rfl) ?_
 refine aw (aj ?_)
 refine rU [] [] rfl Tryz.results86 (cT 1 tk63 rfl rfl rfl) ?_ (.inr rfl)
 rfl
theorem qg (x : cg) (hok : gG x.objs.l x.kp.l) (lb : Nat) (d : Dfn) (hd : InD x.objs.l d) : Con Tryz.prog 85 [.pointer (some ⟨lb, 0, none⟩), d.p.val, d.s.val] [At lb 0 x.row, x.ok] [] (fun r _ _ => r = .bool (fe x.kp.l d)) := by
 obtain ⟨i, k, hi, hk, hp⟩ := hd
 obtain ⟨p, s⟩ := d
 dsimp only at hk hp
 subst hp
 have ho := bY hi
 have hkn := hok.kn
 have hkp := bY (l := x.kp.l) (i := i) (by omega)
 have hks := hok.ks i hi
 have hsec := hok.sec _ (List.mem_of_getElem? ho) s (List.mem_of_getElem? hk)
 refine Con.enter Tryz.func85 rfl (by simp [Tryz.ntmps85]) ?_
 show awp _ _ _ _ ⟨[(0, true, _), (1, true, _), (2, true, _)], _, _⟩
 refine aSR ?_
 refine al (q := true) rfl (bO rfl rfl rfl (fun b0_0 => ?_))
 refine aH (by (try simp only [nM, nN]); rfl) ?_
 refine al (q := true) rfl (bO rfl rfl rfl (fun b0_1 => ?_))
 refine aH (by (try simp only [nM, nN]); rfl) ?_
 refine aA rfl (aNs ?_)
 refine bn [] (by kernel_rfl) ?_
 show aB _ _ _ _ _ 28 #[false, false, false, false, false, false, false, false, false, false, false, false, false, false, false, false, false, false, false, false, false, false, false, false, false, false, false, false] _
 refine bU 0 rfl (by kernel_rfl) rfl (aa (off := 3) (by kernel_rfl) rfl) ?_
 refine bU 1 rfl (by kernel_rfl) rfl (ae 1 tk3 rfl rfl rfl) ?_
 refine bU 2 rfl (by kernel_rfl) rfl (bK rfl rfl) ?_
 refine bU 3 rfl (by kernel_rfl) rfl (aq rfl) ?_
 refine bG 4 rfl (by kernel_rfl) rfl rfl (fun hc => aa (off := 3) (by kernel_rfl) rfl) ?_
 refine bG 5 rfl (by kernel_rfl) rfl rfl (fun hc => ae 1 tk3 (ab rfl hc) rfl rfl) ?_
 refine bG 6 rfl (by kernel_rfl) rfl rfl (fun hc => cN (ab rfl hc) rfl) ?_
 refine bG 7 rfl (by kernel_rfl) rfl rfl (fun hc => aq (ab rfl hc)) ?_
 refine bG 8 rfl (by kernel_rfl) rfl rfl (fun hc => aa (off := 6) (by kernel_rfl) rfl) ?_
 refine bG 9 rfl (by kernel_rfl) rfl rfl (fun hc => ae 1 tk3 (ab rfl hc) rfl rfl) ?_
 refine bG 10 rfl (by kernel_rfl) rfl rfl (fun hc => cQ (ab rfl hc) rfl) ?_
 refine bG 11 rfl (by kernel_rfl) rfl rfl (fun hc => bA (ab rfl hc) rfl (fun h => gt hc h)) ?_
 refine bG 12 rfl (by kernel_rfl) rfl rfl (fun hc => aq (ab rfl hc)) ?_
 refine bG 13 rfl (by kernel_rfl) rfl rfl (fun hc => aq rfl) ?_
 refine bG 14 rfl (by kernel_rfl) rfl rfl (fun hc => br (ab rfl hc)) ?_
 refine bG 15 rfl (by kernel_rfl) rfl rfl (fun hc => aa (off := 1) (by kernel_rfl) (ab rfl hc)) ?_
 refine bG 16 rfl (by kernel_rfl) rfl rfl (fun hc => aK (o := 1) tk27 (ab rfl hc) (.of (an 0 rfl)) rfl) ?_
 refine bG 17 rfl (by kernel_rfl) rfl rfl (fun hc => aa (off := 0) (by kernel_rfl) rfl) ?_
 refine bG 18 rfl (by kernel_rfl) rfl rfl (fun hc => ae 0 tk3 (ab rfl hc) rfl rfl) ?_
 refine dI 19 rfl (by kernel_rfl) _ rfl rfl (fun hc => av Tryz.underlying27 tk68 (ab rfl hc) ((cg.f_kp (.of (an 1 rfl)))) (ab rfl hc) (aS hkp) rfl rfl) (fun _ => ⟨(0, 0)⟩) (fun ⟨b1_19, o1_19⟩ => ?_)
 refine bG 20 rfl (by kernel_rfl) rfl rfl (fun hc => aR (o := 0) tk68 (ab rfl hc) (an 0 rfl) hc rfl) ?_
 refine bG 21 rfl (by kernel_rfl) rfl rfl (fun hc => aa (off := 6) (by kernel_rfl) rfl) ?_
 refine bG 22 rfl (by kernel_rfl) rfl rfl (fun hc => ae 1 tk3 (ab rfl hc) rfl rfl) ?_
 refine dI 23 rfl (by kernel_rfl) _ rfl rfl (fun hc => av Tryz.underlying68 tk4 (ab rfl hc) ((Ent.all (f := ShF bR) (cg.f_kpA (.of (an 2 rfl))) hkp)) (ab rfl hc) (dO (i := s.sec) (by simp at hc; omega) (by simp at hc; omega)) (by simp at hc; omega) rfl) (fun _ => ⟨(0, 0)⟩) (fun ⟨b1_23, o1_23⟩ => ?_)
 refine bG 24 rfl (by kernel_rfl) rfl rfl (fun hc => aR (o := 0) tk4 (ab rfl hc) (an 0 rfl) hc rfl) ?_
 refine bG 25 rfl (by kernel_rfl) rfl rfl (fun hc => bA (ab rfl hc) rfl (fun h => gt hc h)) ?_
 refine bU 26 rfl (by kernel_rfl) rfl (cx rfl rfl (fun h => gf rfl h)) ?_
 refine bU 27 rfl (by kernel_rfl) rfl (bk rfl) ?_
 refine bS (by kernel_rfl) ?_
 refine aw (aj ?_)
 refine bc [] [] rfl Tryz.results85 rfl ?_ (.inr rfl)
 unfold fe kP; simp [Bool.and_assoc]
theorem uY (i : Int) (l : List bu) : ∀ m : List bu, ∃ M, dy i (l ++ m) = dy i l ++ M := fun m => by
 unfold dy; rw [List.zipIdx_append, List.map_append]; exact ⟨_, rfl⟩
theorem qo (i : Int) (l : List bu) (k : Nat) : ∃ M, dy i l = dy i (l.take k) ++ M := by
 obtain ⟨M, h⟩ := uY i (l.take k) (l.drop k)
 rw [List.take_append_drop] at h; exact ⟨M, h⟩
theorem kX (os : List ar) {i : Nat} : ∀ {n : Nat}, i ≤ n → ∃ M, cI os n = cI os i ++ M := fun {n} h => by
 induction n with
 | zero => obtain rfl : i = 0 := by omega
           exact ⟨[], by simp⟩
 | succ n ih =>
   by_cases hi : i = n + 1
   · subst hi; exact ⟨[], by simp⟩
   · obtain ⟨M, hM⟩ := ih (by omega)
     exact ⟨M ++ dy (n : Int) (elt os (n : Int)).syms.l, by rw [dE, hM, List.append_assoc]⟩
theorem qa (x : cg) (hn : x.objs.l.length ≤ 5) (hs : ∀ o ∈ x.objs.l, o.syms.l.length ≤ 14) (lb : Nat) (F : FuncId) (caps : List Value) (q : Per) (J : List Dfn → Res) (hF : bI Tryz.prog F = true)
   (h : ∀ (L : List Dfn) (d : Dfn), InD x.objs.l d → L.length < 70 → (∃ M, bQ x.objs.l = (L ++ [d]) ++ M) → Con Tryz.prog F (d.p.val :: d.s.val :: caps) [q] [J L] fun _ ps hp => ps = [] ∧ hp = [J (L ++ [d])]) :
   Con Tryz.prog 36 [.pointer (some ⟨lb, 0, none⟩), .func (.func F) #[] caps.toArray] [At lb 0 x.row, x.ok, q] [J []] fun _ ps hp => ps = [] ∧ hp = [J (bQ x.objs.l)] := by
 have hfl : ∀ i, i ≤ x.objs.l.length → (cI x.objs.l i).length ≤ 14 * i := fun i => by
   induction i with
   | zero => intro _; exact Nat.le_refl _
   | succ i ih =>
     intro hi
     rw [dE, List.length_append]
     have h1 := ih (by omega)
     have h2 := hs _ (List.mem_of_getElem? (bY (l := x.objs.l) (i := i) (by omega)))
     have h3 : (dy (i : Int) (elt x.objs.l (i : Int)).syms.l).length = (elt x.objs.l (i : Int)).syms.l.length := by unfold dy; simp
     omega
 have hlt : ∀ (i k : Nat) (o : ar), i < x.objs.l.length → elt x.objs.l (i : Int) = o → k < o.syms.l.length → (cI x.objs.l i ++ dy (i : Int) (o.syms.l.take k)).length < 70 := fun i k o hi ho hk => by
   have h1 := hfl i (by omega)
   have h2 := hs _ (List.mem_of_getElem? (bY (l := x.objs.l) (i := i) (by omega)))
   have h3 : (dy (i : Int) (o.syms.l.take k)).length ≤ k := by unfold dy; simp; omega
   rw [ho] at h2
   rw [List.length_append]; omega
 have hpre : ∀ (i k : Nat) (o : ar) (s : bu), i < x.objs.l.length → elt x.objs.l (i : Int) = o → o.syms.l[k]? = some s → ∃ M, bQ x.objs.l = ((cI x.objs.l i ++ dy (i : Int) (o.syms.l.take k)) ++ [⟨⟨(i : Int), (k : Int)⟩, s⟩]) ++ M := fun i k o s hi ho hk => by
   obtain ⟨M, hM⟩ := kX x.objs.l (i := i + 1) (n := x.objs.l.length) (by omega)
   rw [List.append_assoc _ _ [_], ← iI hk]
   obtain ⟨M2, hM2⟩ := qo (i : Int) o.syms.l (k + 1)
   refine ⟨M2 ++ M, ?_⟩
   unfold bQ
   rw [hM, dE, ho, hM2]; simp
 refine Con.enter Tryz.func36 rfl (by simp [Tryz.ntmps36]) ?_
 show awp _ _ _ _ ⟨[(0, true, _), (1, true, _)], _, _⟩
 refine bf (cg.f_objs (.of (an 1 rfl))) (fun hlen => ?_)
 refine aSR (aM rfl (aU rfl (br rfl) ?_))
 refine aU rfl (aa (off := 0) (by kernel_rfl) rfl) ?_
 refine aU rfl (aK (o := 0) tk22 rfl (.of (an 0 rfl)) rfl) (aU rfl (bq Tryz.underlying22 rfl) (aM rfl (aNn (ax (aZ [1, 11, 12, 13] [2, 1, 0] [0] (fun (i : Nat) st => i ≤ x.objs.l.length ∧ st = ⟨[(1, true, .func (.func F) #[] caps.toArray), (11, true, x.objs.val), (12, true, .int .i64 x.objs.l.length), (13, true, .int .i64 i)], [At lb 0 x.row, x.ok, q], [J (cI x.objs.l i)]⟩) (fun i => x.objs.l.length - i) rfl (⟨0, Nat.zero_le _, rfl⟩) ?_)))))
 rintro i st ⟨hi, rfl⟩
 refine aSR (aU rfl (bJ rfl rfl) (aNs ?_))
 refine ah _ rfl (fun h1 => ?_) (fun h1 => ?_)
 ·skip
  have hi' : i < x.objs.l.length := by simp at h1; omega
  have ho := bY hi'
  generalize hoo : elt x.objs.l (i : Int) = o at ho
  refine au (aw (az (ax (aSR (aM rfl ?_)))))
  refine cF true rfl rfl (fun _ => av Tryz.underlying22 tk61 rfl ((cg.f_objs (.of (an 1 rfl)))) rfl (aS ho) rfl rfl) (fun h => absurd h (by decide)) (fun ⟨b2_1, o2_1⟩ => ?_)
  refine aU rfl (aR (o := 0) tk61 rfl (an 0 rfl) rfl rfl) ?_
  refine al (q := true) rfl (bp (zs := [.string .empty, .slice none 0 0, .slice none 0 0, .slice none 0 0, .slice none 0 0, .slice none 0 0, .slice none 0 0, .slice none 0 0, .slice none 0 0, .slice none 0 0, .slice none 0 0]) (by kernel_rfl) rfl (fun b2_3 => ?_))
  refine aH (by (try simp only [nM, nN]); rfl) ?_
  refine aA rfl ?_
  refine al rfl (aW 1 tk61 rfl rfl rfl rfl ?_)
  refine aH (by (try simp only [nK, nL]); rfl) ?_
  refine aNs ?_
  refine bf (ar.f_syms (Ent.all (cg.f_objsA (.of (an 2 rfl))) ho)) (fun hlen2 => ?_)
  refine ai ?_
  refine aU rfl (aa (off := 2) (by kernel_rfl) rfl) ?_
  refine aU rfl (ae 1 tk51 rfl rfl rfl) (aU rfl (bq Tryz.underlying51 rfl) (aM rfl (aNn (ax ?_))))
  refine aZ [1, 4, 11, 12, 13, 19, 20, 21] [2, 1, 0] [0] (fun (k : Nat) st => k ≤ o.syms.l.length ∧ st = ⟨[(1, true, .func (.func F) #[] caps.toArray), (4, true, .int .i64 i), (11, true, x.objs.val), (12, true, .int .i64 x.objs.l.length), (13, true, .int .i64 i), (19, true, o.syms.val), (20, true, .int .i64 o.syms.l.length), (21, true, .int .i64 k)], [At lb 0 x.row, x.ok, q], [J (cI x.objs.l i ++ dy (i : Int) (o.syms.l.take k))]⟩) (fun k => o.syms.l.length - k) rfl (⟨0, Nat.zero_le _, by rw [List.take_zero, show dy (i : Int) [] = [] from rfl, List.append_nil]; rfl⟩) ?_
  rintro k st ⟨hk, rfl⟩
  refine aSR (aU rfl (bJ rfl rfl) (aNs ?_))
  refine ah _ rfl (fun h2 => ?_) (fun h2 => ?_)
  ·skip
   have hk' : k < o.syms.l.length := by simp at h2; omega
   obtain ⟨s, hs'⟩ : ∃ s, o.syms.l[k]? = some s := ⟨_, List.getElem?_eq_getElem hk'⟩
   refine au (aw (az (ax (aSR (aM rfl ?_)))))
   refine cF true rfl rfl (fun _ => av Tryz.underlying51 tk63 rfl ((ar.f_syms (Ent.all (cg.f_objsA (.of (an 1 rfl))) ho))) rfl (aS hs') rfl rfl) (fun h => absurd h (by decide)) (fun ⟨b5_1, o5_1⟩ => ?_)
   refine aU rfl (aR (o := 0) tk63 rfl (an 0 rfl) rfl rfl) ?_
   refine al (q := true) rfl (bp (zs := [.string .empty, .string .empty, .bool false, .int .i64 0, .int .i64 0, .int .i64 0, .int .i64 0, .int .i64 0, .int .i64 0, .int .i64 0]) (by kernel_rfl) rfl (fun b5_3 => ?_))
   refine aH (by (try simp only [nM, nN]); rfl) ?_
   refine aA rfl ?_
   refine al rfl (aW 1 tk63 rfl rfl rfl rfl ?_)
   refine aH (by (try simp only [nK, nL]); rfl) ?_
   refine aNn (ai (aM rfl (aM rfl (aM rfl ?_))))
   refine aU rfl (dF (l := [(0, .tmp 27), (1, .tmp 28)]) (zs := [.int .i64 0, .int .i64 0]) (pl := [(0, 1), (1, 1)]) (by kernel_rfl) (by kernel_rfl) (by kernel_rfl) rfl rfl rfl) ?_
   refine aU rfl (ae 1 tk63 rfl rfl rfl) ?_
   refine al (q := false) rfl (iB [0] [0] hF rfl rfl rfl rfl rfl (h _ ⟨⟨(i : Int), (k : Int)⟩, s⟩ ⟨i, k, hi', by rw [hoo]; exact hs', rfl⟩ (hlt i k o hi' hoo hk') (hpre i k o s hi' hoo hs')) ?_)
   rintro _ _ _ ⟨rfl, rfl⟩
   refine cB (by (try simp only [nM, nN]); rfl) (by (try simp only [aV, place, Nat.reduceBEq, if_true, if_false, reduceIte, Nat.reduceAdd, nW]); rfl) ?_
   refine cA (bL (aw (ai ?_)))
   refine aU rfl (bB rfl rfl (by omega)) ?_
   refine aM rfl (aNn ?_)
   refine ⟨[1, 4, 11, 12, 13, 19, 20, 21], [2, 1, 0], [0], rfl, ?_⟩
   exact ⟨k + 1, ⟨by omega, by rw [iI hs', ← List.append_assoc]; rfl⟩, by omega⟩
  ·skip
   refine bg (bj (bj (bz (bL (aw (ai ?_))))))
   refine aU rfl (bB rfl rfl (by omega)) ?_
   refine aM rfl (aNn ?_)
   refine ⟨[1, 11, 12, 13], [2, 1, 0], [0], rfl, ?_⟩
   rw [List.take_of_length_le (by simp at h2; omega)]
   exact ⟨i + 1, ⟨by omega, by rw [dE, hoo]; rfl⟩, by omega⟩
 ·skip
  refine bg (bj (bj (bz ?_)))
  refine gZ [] [0] rfl Tryz.results36 ?_ (.inl rfl)
  rw [show i = x.objs.l.length by simp at h1; omega]
  exact ⟨rfl, rfl⟩
end Go.Proofs.YtgmiihmahaahiaaGreatDoor

namespace Go.Proofs.YtgmiihmahaahiaaGreatDoor
open Go.RowKit Go.Lp Go.Sy
open Go.Proofs.Tryz
attribute [local irreducible] aL aB awp aC fwp
theorem ti (b : Nat) (o : ar) (x : eH) : Con Tryz.prog 156 [x.val, .pointer (some ⟨b, 0, none⟩)] [At b 0 o.row, o.ok] [] (YB True) := by
 refine Con.enter Tryz.func156 rfl (by simp [Tryz.ntmps156]) ?_
 show awp _ _ _ _ ⟨[(0, true, _), (1, true, _)], _, _⟩
 refine aSR ?_
 refine al (q := true) rfl (bO rfl rfl rfl (fun b0_0 => ?_))
 refine aH (by (try simp only [nM, nN]); rfl) ?_
 refine aA rfl (aNn (aSR (aU rfl (aK (o := 0) tk145 rfl (.of (an 0 rfl)) rfl) ?_)))
 refine aU rfl (aa (off := 0) (by kernel_rfl) rfl) ?_
 refine aU rfl (ae 0 tk3 rfl rfl rfl) ?_
 refine aQ (caps := []) [0] (false) (by kernel_rfl) true rfl rfl (fun _ => rfl) (fun hc => rfl) (fun hc => by rw [List.append_nil]; exact lV o _ _) (fun c1 hc1 => ?_)
 refine aM rfl ?_
 refine aG rfl rfl (fun hc => aa (off := 1) (by kernel_rfl) rfl) ?_
 refine aG rfl rfl (fun hc => ae 0 tk3 (ab rfl hc) rfl rfl) (aG rfl rfl (fun hc => cQ (ab rfl hc) rfl) (aU rfl (bA rfl rfl (fun h => gt rfl h)) (aM rfl ?_)))
 refine aG rfl rfl (fun hc => aa (off := 1) (by kernel_rfl) rfl) ?_
 refine aG rfl rfl (fun hc => ae 0 tk3 (ab rfl hc) rfl rfl) (aG rfl rfl (fun hc => eG (ab rfl hc) rfl) (aU rfl (bA rfl rfl (fun h => gt rfl h)) (aA rfl (aNn (aj ?_)))))
 refine bc [] [] rfl Tryz.results156 rfl ?_ (.inr rfl)
 exact ⟨⟨rfl, rfl⟩, _, rfl, fun _ => trivial⟩
theorem ry (o : ar) : Con Tryz.prog 71 [o.val] [o.ok] [] (YB True) := by
 refine Con.enter Tryz.func71 rfl (by simp [Tryz.ntmps71]) ?_
 show awp _ _ _ _ ⟨[(0, true, _)], _, _⟩
 refine aSR ?_
 refine al (q := true) rfl (bO rfl rfl rfl (fun b0_0 => ?_))
 refine aH (by (try simp only [nM, nN]); rfl) ?_
 refine aA rfl (aNs (bT 0 rfl rfl ?_))
 show awp _ _ _ _ ⟨_, At _ 0 _ :: _, _⟩
 refine ai ?_
 refine aU rfl (aa (off := 0) (by kernel_rfl) rfl) ?_
 refine aU rfl (aa (off := 5) (by kernel_rfl) rfl) ?_
 refine aU rfl (aK (o := 5) tk54 rfl (.of (an 0 rfl)) rfl) (aU rfl (dn (l := [.tmp 1]) rfl) ?_)
 refine aQ (caps := []) [1, 0] (false) (by kernel_rfl) true rfl rfl (fun _ => rfl) (fun hc => rfl) (fun hc => by rw [List.append_nil]; exact (lW o.inits 156 [.pointer (some ⟨b0_0, 0, none⟩)] (cw (At b0_0 0 o.row) o.ok) (fun _ => True) (by kernel_rfl) (fun x _ => (ti b0_0 o x).pre (el ff.left ff.right))).pre (el (ar.f_inits (.of (an 1 rfl))) (.mk2 (.of (an 0 rfl)) (.of (an 1 rfl))))) (fun c1 hc1 => ?_)
 refine aA rfl (aNn (aj ?_))
 refine bc [] [] rfl Tryz.results71 rfl ?_ (.inr rfl)
 exact ⟨⟨rfl, rfl⟩, _, rfl, fun _ => trivial⟩
theorem k8 (o : ar) (sec f t : Int) : Con Tryz.prog 165 [o.val, .int .i64 sec, .int .i64 f, .int .i64 t] [o.ok] [] (YB True) := by
 refine Con.enter Tryz.func165 rfl (by simp [Tryz.ntmps165]) ?_
 show awp _ _ _ _ ⟨[(0, true, _), (1, true, _), (2, true, _), (3, true, _)], _, _⟩
 refine bf (ar.f_secs (.of (an 0 rfl))) (fun hlen => ?_)
 refine aSR ?_
 refine al (q := true) rfl (bO rfl rfl rfl (fun b0_0 => ?_))
 refine aH (by (try simp only [nM, nN]); rfl) ?_
 refine aA rfl (aNn (aSR (aU rfl (ae 0 tk145 rfl rfl rfl) (aM rfl ?_))))
 refine fS (zs := [.int .i64 0]) (l := [(0, .const (.int .i64 0))]) el90 (by kernel_rfl) (by decide) (by decide) (by decide) rfl _ rfl (fun hc => rfl) rfl (.more rfl (.v rfl .nil) .nil) rfl rfl (fun v1_2 => ?_)
 refine aQ (caps := []) [1, 0] (false) (by kernel_rfl) true rfl rfl (fun _ => rfl) (fun hc => rfl) (fun hc => by rw [List.append_nil]; exact (jr o ⟨v1_2, 1, [0]⟩ _).pre (el (.yes (.of (an 0 rfl)) rfl) (.of (an 1 rfl)))) (fun c1 hc1 => ?_)
 refine aM rfl (aG rfl rfl (fun hc => aq rfl) (aG rfl rfl (fun hc => cQ (ab rfl hc) rfl) (aU rfl (bA rfl rfl (fun h => gt rfl h)) (aM rfl (aG rfl rfl (fun hc => aq rfl) (aG rfl rfl (fun hc => aq rfl) (aG rfl rfl (fun hc => bJ (ab rfl hc) (ab rfl hc)) (aU rfl (bA rfl rfl (fun h => gt rfl h)) (aM rfl (aG rfl rfl (fun hc => aq rfl) ?_))))))))))
 refine aG rfl rfl (fun hc => aa (off := 0) (by kernel_rfl) rfl) ?_
 refine aG rfl rfl (fun hc => aa (off := 1) (by kernel_rfl) (ab rfl hc)) ?_
 refine aG rfl rfl (fun hc => ae 0 tk50 (ab rfl hc) rfl rfl) (aG rfl rfl (fun hc => aq rfl) ?_)
 refine cF _ rfl rfl (fun hc => av Tryz.underlying50 tk85 (ab rfl hc) ((ar.f_secs (.of (an 1 rfl)))) (ab rfl hc) (dO (i := sec) (by have := hc1 rfl (by simp at hc; exact hc.1.1); omega) (by have := hc1 rfl (by simp at hc; exact hc.1.1); omega)) ((by have := hc1 rfl (by simp at hc; exact hc.1.1); omega)) rfl) (fun _ => ⟨(0, 0)⟩) (fun ⟨b1_19, o1_19⟩ => ?_)
 refine aG rfl rfl (fun hc => aa (off := 3) (by kernel_rfl) (ab rfl hc)) ?_
 refine aG rfl rfl (fun hc => aR (o := 3) tk3 (ab rfl hc) (an 0 rfl) hc rfl) (aG rfl rfl (fun hc => eG (ab rfl hc) (ab rfl hc)) (aU rfl (bA rfl rfl (fun h => gt rfl h)) (aM rfl (aG rfl rfl (fun hc => aq rfl) ?_))))
 refine aG rfl rfl (fun hc => eJ (ab rfl hc) rfl (by decide)) ?_
 refine aG rfl rfl (fun hc => bK (ab rfl hc) rfl) (aU rfl (bA rfl rfl (fun h => gt rfl h)) (aM rfl (aG rfl rfl (fun hc => aq rfl) ?_)))
 refine aG rfl rfl (fun hc => eJ (ab rfl hc) rfl (by decide)) ?_
 refine aG rfl rfl (fun hc => bK (ab rfl hc) rfl) (aU rfl (bA rfl rfl (fun h => gt rfl h)) (aA rfl (aNn (aj ?_))))
 refine bc [] [] rfl Tryz.results165 rfl ?_ (.inr rfl)
 exact ⟨⟨rfl, rfl⟩, _, rfl, fun _ => trivial⟩
theorem ta (b : Nat) (o : ar) (x : dt) : Con Tryz.prog 158 [x.val, .pointer (some ⟨b, 0, none⟩)] [At b 0 o.row, o.ok, x.ok] [] (YB True) := by
 refine Con.enter Tryz.func158 rfl (by simp [Tryz.ntmps158]) ?_
 show awp _ _ _ _ ⟨[(0, true, _), (1, true, _)], _, _⟩
 refine bf (ar.f_secs (.of (an 1 rfl))) (fun hlen => ?_)
 refine eE (dt.f_file (.of (an 2 rfl))) (fun hnl => ?_)
 refine aSR ?_
 refine al (q := true) rfl (bO rfl rfl rfl (fun b0_0 => ?_))
 refine aH (by (try simp only [nM, nN]); rfl) ?_
 refine aA rfl (aNs ?_)
 refine bn [] (by kernel_rfl) ?_
 show aB _ _ _ _ _ 40 #[false, false, false, false, false, false, false, false, false, false, false, false, false, false, false, false, false, false, false, false, false, false, false, false, false, false, false, false, false, false, false, false, false, false, false, false, false, false, false, false] _
 refine bU 0 rfl (by kernel_rfl) rfl (aK (o := 0) tk145 rfl (.of (an 0 rfl)) rfl) ?_
 refine bU 1 rfl (by kernel_rfl) rfl (aa (off := 0) (by kernel_rfl) rfl) ?_
 refine bU 2 rfl (by kernel_rfl) rfl (ae 0 tk3 rfl rfl rfl) ?_
 refine gM (zs := [.int .i64 0]) (l := [(0, .const (.int .i64 0))]) 3 rfl (by kernel_rfl) el90 (by kernel_rfl) (by decide) (by decide) (by decide) rfl rfl rfl rfl (.more rfl (.v rfl .nil) .nil) rfl rfl (fun v1_3 => ?_)
 refine ea (caps := []) 4 rfl (by kernel_rfl) [3, 1] (false) (by kernel_rfl) true rfl rfl (fun _ => rfl) (fun hc => rfl) (fun hc => by rw [List.append_nil]; exact jr o ⟨v1_3, 1, [0]⟩ _) (fun c1 hc1 => ?_)
 refine bU 5 rfl (by kernel_rfl) rfl (aq rfl) ?_
 refine bG 6 rfl (by kernel_rfl) rfl rfl (fun hc => aa (off := 1) (by kernel_rfl) rfl) ?_
 refine bG 7 rfl (by kernel_rfl) rfl rfl (fun hc => ae 0 tk3 (ab rfl hc) rfl rfl) ?_
 refine bG 8 rfl (by kernel_rfl) rfl rfl (fun hc => aa (off := 0) (by kernel_rfl) rfl) ?_
 refine bG 9 rfl (by kernel_rfl) rfl rfl (fun hc => aa (off := 1) (by kernel_rfl) (ab rfl hc)) ?_
 refine bG 10 rfl (by kernel_rfl) rfl rfl (fun hc => aK (o := 1) tk50 (ab rfl hc) (.of (an 1 rfl)) rfl) ?_
 refine bG 11 rfl (by kernel_rfl) rfl rfl (fun hc => aa (off := 0) (by kernel_rfl) rfl) ?_
 refine bG 12 rfl (by kernel_rfl) rfl rfl (fun hc => ae 0 tk3 (ab rfl hc) rfl rfl) ?_
 refine dI 13 rfl (by kernel_rfl) _ rfl rfl (fun hc => av Tryz.underlying50 tk85 (ab rfl hc) ((ar.f_secs (.of (an 2 rfl)))) (ab rfl hc) (dO (i := x.sec) (by have := hc1 rfl (by simp at hc; exact hc); omega) (by have := hc1 rfl (by simp at hc; exact hc); omega)) ((by have := hc1 rfl (by simp at hc; exact hc); omega)) rfl) (fun _ => ⟨(0, 0)⟩) (fun ⟨b1_13, o1_13⟩ => ?_)
 refine bG 14 rfl (by kernel_rfl) rfl rfl (fun hc => aa (off := 3) (by kernel_rfl) (ab rfl hc)) ?_
 refine bG 15 rfl (by kernel_rfl) rfl rfl (fun hc => aR (o := 3) tk3 (ab rfl hc) (an 0 rfl) hc rfl) ?_
 refine bG 16 rfl (by kernel_rfl) rfl rfl (fun hc => bP (by kernel_rfl) (aN (ab rfl hc) (aN (ab rfl hc) rfl)) (fun w S fp hst => (cD _ _).quiet0 hst)) ?_
 refine bU 17 rfl (by kernel_rfl) rfl (bA rfl rfl (fun h => gt rfl h)) ?_
 refine bU 18 rfl (by kernel_rfl) rfl (aq rfl) ?_
 refine bG 19 rfl (by kernel_rfl) rfl rfl (fun hc => aa (off := 1) (by kernel_rfl) rfl) ?_
 refine bG 20 rfl (by kernel_rfl) rfl rfl (fun hc => ae 0 tk3 (ab rfl hc) rfl rfl) ?_
 refine bG 21 rfl (by kernel_rfl) rfl rfl (fun hc => eJ (ab rfl hc) rfl (by decide)) ?_
 refine bG 22 rfl (by kernel_rfl) rfl rfl (fun hc => bK (ab rfl hc) rfl) ?_
 refine bU 23 rfl (by kernel_rfl) rfl (bA rfl rfl (fun h => gt rfl h)) ?_
 refine bU 24 rfl (by kernel_rfl) rfl (aq rfl) ?_
 refine bG 25 rfl (by kernel_rfl) rfl rfl (fun hc => aa (off := 2) (by kernel_rfl) rfl) ?_
 refine bG 26 rfl (by kernel_rfl) rfl rfl (fun hc => ae 0 tk9 (ab rfl hc) rfl rfl) ?_
 refine ea (caps := []) 27 rfl (by kernel_rfl) [] (false) (by kernel_rfl) _ rfl rfl (fun _ => rfl) (fun hc => (aN (ab rfl hc) rfl)) (fun hc => by rw [List.append_nil]; exact mF _ hnl) (fun c2 hc2 => ?_)
 refine bU 28 rfl (by kernel_rfl) rfl (bA rfl rfl (fun h => gt rfl h)) ?_
 refine bU 29 rfl (by kernel_rfl) rfl (aq rfl) ?_
 refine bG 30 rfl (by kernel_rfl) rfl rfl (fun hc => aa (off := 3) (by kernel_rfl) rfl) ?_
 refine bG 31 rfl (by kernel_rfl) rfl rfl (fun hc => ae 0 tk3 (ab rfl hc) rfl rfl) ?_
 refine bG 32 rfl (by kernel_rfl) rfl rfl (fun hc => cQ (ab rfl hc) rfl) ?_
 refine bU 33 rfl (by kernel_rfl) rfl (bA rfl rfl (fun h => gt rfl h)) ?_
 refine bU 34 rfl (by kernel_rfl) rfl (aq rfl) ?_
 refine bG 35 rfl (by kernel_rfl) rfl rfl (fun hc => aa (off := 3) (by kernel_rfl) rfl) ?_
 refine bG 36 rfl (by kernel_rfl) rfl rfl (fun hc => ae 0 tk3 (ab rfl hc) rfl rfl) ?_
 refine bG 37 rfl (by kernel_rfl) rfl rfl (fun hc => eG (ab rfl hc) rfl) ?_
 refine bU 38 rfl (by kernel_rfl) rfl (bA rfl rfl (fun h => gt rfl h)) ?_
 refine bU 39 rfl (by kernel_rfl) rfl (bk rfl) ?_
 refine bS (by kernel_rfl) ?_
 refine aw (aj ?_)
 refine bc [] [] rfl Tryz.results158 rfl ?_ (.inr rfl)
 exact ⟨⟨rfl, rfl⟩, _, rfl, fun _ => trivial⟩
theorem tP (x y : dt) (p : Per) : Con Tryz.prog 160 [x.val, y.val] [p] [] (YB True) := by
 refine Con.enter Tryz.func160 rfl (by simp [Tryz.ntmps160]) ?_
 show awp _ _ _ _ ⟨[(0, true, _), (1, true, _)], _, _⟩
 refine aSR ?_
 refine al (q := true) rfl (bO rfl rfl rfl (fun b0_0 => ?_))
 refine aH (by (try simp only [nM, nN]); rfl) ?_
 refine al (q := true) rfl (bO rfl rfl rfl (fun b0_1 => ?_))
 refine aH (by (try simp only [nM, nN]); rfl) ?_
 refine aA rfl (aNn (aSR ?_))
 refine aU rfl (aa (off := 0) (by kernel_rfl) rfl) ?_
 refine aU rfl (ae 0 tk3 rfl rfl rfl) ?_
 refine aU rfl (aa (off := 0) (by kernel_rfl) rfl) ?_
 refine aU rfl (ae 1 tk3 rfl rfl rfl) (aU rfl (bJ rfl rfl) (aM rfl ?_))
 refine aG rfl rfl (fun hc => aa (off := 0) (by kernel_rfl) rfl) ?_
 refine aG rfl rfl (fun hc => ae 0 tk3 (ab rfl hc) rfl rfl) ?_
 refine aG rfl rfl (fun hc => aa (off := 0) (by kernel_rfl) rfl) ?_
 refine aG rfl rfl (fun hc => ae 1 tk3 (ab rfl hc) rfl rfl) (aG rfl rfl (fun hc => bK (ab rfl hc) (ab rfl hc)) (aG rfl rfl (fun hc => aq (ab rfl hc)) ?_))
 refine aG rfl rfl (fun hc => aa (off := 1) (by kernel_rfl) rfl) ?_
 refine aG rfl rfl (fun hc => ae 0 tk3 (ab rfl hc) rfl rfl) ?_
 refine aG rfl rfl (fun hc => aa (off := 1) (by kernel_rfl) rfl) ?_
 refine aG rfl rfl (fun hc => ae 1 tk3 (ab rfl hc) rfl rfl) (aG rfl rfl (fun hc => bJ (ab rfl hc) (ab rfl hc)) (aG rfl rfl (fun hc => bA (ab rfl hc) rfl (fun h => gt hc h)) (aU rfl (cx rfl rfl (fun h => gf rfl h)) (aA rfl (aNn (aj ?_))))))
 refine bc [] [] rfl Tryz.results160 rfl ?_ (.inr rfl)
 exact ⟨⟨rfl, rfl⟩, _, rfl, fun _ => trivial⟩
theorem rq (o : ar) : Con Tryz.prog 72 [o.val] [o.ok] [] (YB True) := by
 refine Con.enter Tryz.func72 rfl (by simp [Tryz.ntmps72]) ?_
 show awp _ _ _ _ ⟨[(0, true, _)], _, _⟩
 refine aSR ?_
 refine al (q := true) rfl (bO rfl rfl rfl (fun b0_0 => ?_))
 refine aH (by (try simp only [nM, nN]); rfl) ?_
 refine aA rfl (aNn (aSR (aU rfl (dn (l := [.tmp 1]) rfl) (aA rfl (cA ?_)))))
 refine aw (aSR (aA rfl (aNs (bT 0 rfl rfl ?_))))
 show awp _ _ _ _ ⟨_, At _ 0 _ :: _, _⟩
 refine ai ?_
 refine aU rfl (aa (off := 0) (by kernel_rfl) rfl) ?_
 refine aU rfl (aa (off := 6) (by kernel_rfl) rfl) ?_
 refine aU rfl (aK (o := 6) tk55 rfl (.of (an 0 rfl)) rfl) (aM rfl ?_)
 refine aQ (caps := []) [1, 0] (false) (by kernel_rfl) true rfl rfl (fun _ => rfl) (fun hc => rfl) (fun hc => by rw [List.append_nil]; exact (kZ o.lines 158 [.pointer (some ⟨b0_0, 0, none⟩)] (cw (At b0_0 0 o.row) o.ok) (fun _ => True) (by kernel_rfl) (fun x hx => (ta b0_0 o x).pre (ra ff.left ff.right (.allm (ar.f_linesA ff.right) hx)))).pre (el (ar.f_lines (.of (an 1 rfl))) (.mk2 (.of (an 0 rfl)) (.of (an 1 rfl))))) (fun c1 hc1 => ?_)
 refine aM rfl ?_
 refine aG rfl rfl (fun hc => aa (off := 0) (by kernel_rfl) rfl) ?_
 refine aG rfl rfl (fun hc => aa (off := 6) (by kernel_rfl) (ab rfl hc)) ?_
 refine aG rfl rfl (fun hc => aK (o := 6) tk55 (ab rfl hc) (.of (an 0 rfl)) rfl) (aG rfl rfl (fun hc => aq rfl) ?_)
 refine aQ (caps := []) [0] (false) (by kernel_rfl) _ rfl rfl (fun _ => rfl) (fun hc => (aN (ab rfl hc) (aN (ab rfl hc) rfl))) (fun hc => by rw [List.append_nil]; exact (lF o.lines 160 [] o.ok (by kernel_rfl) (fun x _ y _ => tP x y _)).pre (el (ar.f_lines (.of (an 0 rfl))) (.of (an 0 rfl)))) (fun c2 hc2 => ?_)
 refine aU rfl (bA rfl rfl (fun h => gt rfl h)) (aA rfl (aNn (aj ?_)))
 refine bc [] [] rfl Tryz.results72 rfl ?_ (.inr rfl)
 exact ⟨⟨rfl, rfl⟩, _, rfl, fun _ => trivial⟩
theorem rl (b : Nat) (o : ar) (x : dx) : Con Tryz.prog 171 [x.val, .pointer (some ⟨b, 0, none⟩)] [At b 0 o.row, o.ok] [] (YB True) := by
 refine Con.enter Tryz.func171 rfl (by simp [Tryz.ntmps171]) ?_
 show awp _ _ _ _ ⟨[(0, true, _), (1, true, _)], _, _⟩
 refine aSR ?_
 refine al (q := true) rfl (bO rfl rfl rfl (fun b0_0 => ?_))
 refine aH (by (try simp only [nM, nN]); rfl) ?_
 refine aA rfl (aNn (aSR (aU rfl (aK (o := 0) tk145 rfl (.of (an 0 rfl)) rfl) ?_)))
 refine aU rfl (aa (off := 0) (by kernel_rfl) rfl) ?_
 refine aU rfl (ae 0 tk3 rfl rfl rfl) ?_
 refine aU rfl (aa (off := 1) (by kernel_rfl) rfl) ?_
 refine aU rfl (ae 0 tk3 rfl rfl rfl) ?_
 refine aU rfl (aa (off := 2) (by kernel_rfl) rfl) ?_
 refine aU rfl (ae 0 tk3 rfl rfl rfl) ?_
 refine aQ (caps := []) [0] (false) (by kernel_rfl) true rfl rfl (fun _ => rfl) (fun hc => rfl) (fun hc => by rw [List.append_nil]; exact k8 o _ _ _) (fun c1 hc1 => ?_)
 refine aM rfl ?_
 refine aG rfl rfl (fun hc => aa (off := 3) (by kernel_rfl) rfl) ?_
 refine aG rfl rfl (fun hc => ae 0 tk3 (ab rfl hc) rfl rfl) ?_
 refine aG rfl rfl (fun hc => bP (by kernel_rfl) (aN (ab rfl hc) (aN (ab rfl rfl) rfl)) (fun w S fp hst => (cD _ _).quiet0 hst)) ?_
 refine aU rfl (bA rfl rfl (fun h => gt rfl h)) (aM rfl ?_)
 refine aG rfl rfl (fun hc => aa (off := 3) (by kernel_rfl) rfl) ?_
 refine aG rfl rfl (fun hc => ae 0 tk3 (ab rfl hc) rfl rfl) ?_
 refine aG rfl rfl (fun hc => eJ (ab rfl hc) rfl (by decide)) ?_
 refine aG rfl rfl (fun hc => bK (ab rfl hc) rfl) (aU rfl (bA rfl rfl (fun h => gt rfl h)) (aA rfl (aNn (aj ?_))))
 refine bc [] [] rfl Tryz.results171 rfl ?_ (.inr rfl)
 exact ⟨⟨rfl, rfl⟩, _, rfl, fun _ => trivial⟩
theorem qt (x y : dx) (p : Per) : Con Tryz.prog 172 [x.val, y.val] [p] [] (YB True) := by
 refine Con.enter Tryz.func172 rfl (by simp [Tryz.ntmps172]) ?_
 show awp _ _ _ _ ⟨[(0, true, _), (1, true, _)], _, _⟩
 refine aSR ?_
 refine al (q := true) rfl (bO rfl rfl rfl (fun b0_0 => ?_))
 refine aH (by (try simp only [nM, nN]); rfl) ?_
 refine al (q := true) rfl (bO rfl rfl rfl (fun b0_1 => ?_))
 refine aH (by (try simp only [nM, nN]); rfl) ?_
 refine aA rfl (aNn (aSR ?_))
 refine aU rfl (aa (off := 0) (by kernel_rfl) rfl) ?_
 refine aU rfl (ae 0 tk3 rfl rfl rfl) ?_
 refine aU rfl (aa (off := 0) (by kernel_rfl) rfl) ?_
 refine aU rfl (ae 1 tk3 rfl rfl rfl) (aU rfl (bJ rfl rfl) (aM rfl ?_))
 refine aG rfl rfl (fun hc => aa (off := 0) (by kernel_rfl) rfl) ?_
 refine aG rfl rfl (fun hc => ae 0 tk3 (ab rfl hc) rfl rfl) ?_
 refine aG rfl rfl (fun hc => aa (off := 0) (by kernel_rfl) rfl) ?_
 refine aG rfl rfl (fun hc => ae 1 tk3 (ab rfl hc) rfl rfl) (aG rfl rfl (fun hc => bK (ab rfl hc) (ab rfl hc)) (aG rfl rfl (fun hc => aq (ab rfl hc)) ?_))
 refine aG rfl rfl (fun hc => aa (off := 2) (by kernel_rfl) rfl) ?_
 refine aG rfl rfl (fun hc => ae 0 tk3 (ab rfl hc) rfl rfl) ?_
 refine aG rfl rfl (fun hc => aa (off := 1) (by kernel_rfl) rfl) ?_
 refine aG rfl rfl (fun hc => ae 1 tk3 (ab rfl hc) rfl rfl) (aG rfl rfl (fun hc => eG (ab rfl hc) (ab rfl hc)) (aG rfl rfl (fun hc => bA (ab rfl hc) rfl (fun h => gt hc h)) (aU rfl (cx rfl rfl (fun h => gf rfl h)) (aA rfl (aNn (aj ?_))))))
 refine bc [] [] rfl Tryz.results172 rfl ?_ (.inr rfl)
 exact ⟨⟨rfl, rfl⟩, _, rfl, fun _ => trivial⟩
theorem pC (o : ar) : Con Tryz.prog 75 [o.val] [o.ok] [] (YB True) := by
 refine Con.enter Tryz.func75 rfl (by simp [Tryz.ntmps75]) ?_
 show awp _ _ _ _ ⟨[(0, true, _)], _, _⟩
 refine aSR ?_
 refine al (q := true) rfl (bO rfl rfl rfl (fun b0_0 => ?_))
 refine aH (by (try simp only [nM, nN]); rfl) ?_
 refine aA rfl (aNn (aSR (aU rfl (dn (l := [.tmp 1]) rfl) (aA rfl (cA ?_)))))
 refine aw (aSR (aA rfl (aNs (bT 0 rfl rfl ?_))))
 show awp _ _ _ _ ⟨_, At _ 0 _ :: _, _⟩
 refine ai ?_
 refine aU rfl (aa (off := 0) (by kernel_rfl) rfl) ?_
 refine aU rfl (aa (off := 9) (by kernel_rfl) rfl) ?_
 refine aU rfl (aK (o := 9) tk58 rfl (.of (an 0 rfl)) rfl) (aM rfl ?_)
 refine aQ (caps := []) [1, 0] (false) (by kernel_rfl) true rfl rfl (fun _ => rfl) (fun hc => rfl) (fun hc => by rw [List.append_nil]; exact (kG o.depths 171 [.pointer (some ⟨b0_0, 0, none⟩)] (cw (At b0_0 0 o.row) o.ok) (fun _ => True) (by kernel_rfl) (fun x hx => (rl b0_0 o x).pre (el ff.left ff.right))).pre (el (ar.f_depths (.of (an 1 rfl))) (.mk2 (.of (an 0 rfl)) (.of (an 1 rfl))))) (fun c1 hc1 => ?_)
 refine aM rfl ?_
 refine aG rfl rfl (fun hc => aa (off := 0) (by kernel_rfl) rfl) ?_
 refine aG rfl rfl (fun hc => aa (off := 9) (by kernel_rfl) (ab rfl hc)) ?_
 refine aG rfl rfl (fun hc => aK (o := 9) tk58 (ab rfl hc) (.of (an 0 rfl)) rfl) (aG rfl rfl (fun hc => aq rfl) ?_)
 refine aQ (caps := []) [0] (false) (by kernel_rfl) _ rfl rfl (fun _ => rfl) (fun hc => (aN (ab rfl hc) (aN (ab rfl hc) rfl))) (fun hc => by rw [List.append_nil]; exact (ko o.depths 172 [] o.ok (by kernel_rfl) (fun x _ y _ => qt x y _)).pre (el (ar.f_depths (.of (an 0 rfl))) (.of (an 0 rfl)))) (fun c2 hc2 => ?_)
 refine aU rfl (bA rfl rfl (fun h => gt rfl h)) (aA rfl (aNn (aj ?_)))
 refine bc [] [] rfl Tryz.results75 rfl ?_ (.inr rfl)
 exact ⟨⟨rfl, rfl⟩, _, rfl, fun _ => trivial⟩
end Go.Proofs.YtgmiihmahaahiaaGreatDoor

