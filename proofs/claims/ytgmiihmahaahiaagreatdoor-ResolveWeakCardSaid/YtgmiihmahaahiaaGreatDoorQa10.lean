/- Parts of the proof, in build order. No condition. -/
import Derived.Test.YtgmiihmahaahiaaGreatDoorQa04
import Derived.Test.YtgmiihmahaahiaaGreatDoorQa03
import Derived.Test.YtgmiihmahaahiaaGreatDoorQa07
import Derived.Test.YtgmiihmahaahiaaGreatDoorQa02
set_option linter.unusedSimpArgs false
set_option linter.unusedVariables false
set_option maxHeartbeats 1000000
set_option maxRecDepth 20000
namespace Go.Proofs.YtgmiihmahaahiaaGreatDoor
open Go.RowKit Go.Lp Go.Sy
deriving instance DecidableEq for GCulprit
deriving instance DecidableEq for GChoice
abbrev RKey := ByteArray × ByteArray
structure Dfn where
 p : GCulprit
 s : GSymbol
 deriving Inhabited
abbrev Dfn.key (d : Dfn) : RKey := (d.s.name, d.s.version)
def rowD (i : Int) (l : List GSymbol) : List Dfn := l.zipIdx.map fun x => ⟨⟨i, (x.2 : Int)⟩, x.1⟩
def flatTo (os : List GObject) (n : Nat) : List Dfn := (List.range n).flatMap fun i : Nat => rowD (i : Int) (elt os (i : Int)).syms.l
def flatF (os : List GObject) : List Dfn := flatTo os os.length
theorem rowD_snoc (i : Int) (l : List GSymbol) (s : GSymbol) : rowD i (l ++ [s]) = rowD i l ++ [⟨⟨i, (l.length : Int)⟩, s⟩] := by
 unfold rowD; rw [List.zipIdx_append]; simp
theorem flatTo_succ (os : List GObject) (n : Nat) : flatTo os (n + 1) = flatTo os n ++ rowD (n : Int) (elt os (n : Int)).syms.l := by unfold flatTo; rw [List.range_succ, List.flatMap_append]; simp
theorem rowD_take {i : Int} {l : List GSymbol} {k : Nat} {s : GSymbol} (h : l[k]? = some s) : rowD i (l.take (k + 1)) = rowD i (l.take k) ++ [⟨⟨i, (k : Int)⟩, s⟩] := by
 have hk := (List.getElem?_eq_some_iff.1 h).1
 rw [List.take_add_one, h, Option.toList_some, rowD_snoc, List.length_take, Nat.min_eq_left (by omega)]
section
variable (kp : List (Sl Bool))
def keptB (i s : Int) : Bool := elt (elt kp i).l s
def defB (d : Dfn) : Bool := decide (d.s.bind = 3) || (decide (d.s.bind ≠ 0) && (decide (d.s.sec ≥ 0) && keptB kp d.p.obj d.s.sec))
def rankF (d : Dfn) : Int := if d.s.bind = 1 then 0 else if d.s.bind = 3 then 1 else 2
def allK (L : List Dfn) (k : RKey) : List Dfn := L.filter fun d => defB kp d && decide (d.key = k)
def better (o : Option Dfn) (d : Dfn) : Option Dfn := match o with
 | none => some d
 | some e => if rankF d < rankF e then some d else some e
def chosenK (L : List Dfn) (k : RKey) : Option Dfn := (allK kp L k).foldl better none
def namesK (L : List Dfn) (n : ByteArray) : List RKey := (L.foldl (fun (x : List Dfn × List RKey) d => (x.1 ++ [d], if defB kp d = true ∧ d.s.name = n ∧ allK kp x.1 d.key = [] then x.2 ++ [d.key] else x.2)) ([], [])).2
def twiceK (L : List Dfn) : Option GCulprit := (L.foldl (fun (x : List Dfn × Option GCulprit) d => (x.1 ++ [d], x.2.or (if defB kp d = true ∧ d.s.bind = 1 ∧ (∃ e ∈ allK kp x.1 d.key, e.s.bind = 1) then some d.p else none))) ([], none)).2
variable {kp}
theorem allK_snoc (L : List Dfn) (d : Dfn) (k : RKey) : allK kp (L ++ [d]) k = allK kp L k ++ if defB kp d = true ∧ d.key = k then [d] else [] := by
 unfold allK; rw [List.filter_append]
 by_cases h : defB kp d = true ∧ d.key = k
 · rw [if_pos h]; simp [h.1, h.2]
 · rw [if_neg h]
   have : (defB kp d && decide (d.key = k)) = false := by
     rw [Bool.eq_false_iff]; intro hh; simp only [Bool.and_eq_true, decide_eq_true_eq] at hh; exact h hh
   simp [this]
theorem chosenK_snoc (L : List Dfn) (d : Dfn) (k : RKey) : chosenK kp (L ++ [d]) k = if defB kp d = true ∧ d.key = k then better (chosenK kp L k) d else chosenK kp L k := by
 unfold chosenK; rw [allK_snoc]
 by_cases h : defB kp d = true ∧ d.key = k
 · rw [if_pos h, if_pos h, List.foldl_append]; rfl
 · rw [if_neg h, if_neg h, List.append_nil]
theorem foldl_pre {β : Type} (f : List Dfn → Dfn → β → β) (b : β) : ∀ (L P : List Dfn), L.foldl (fun (x : List Dfn × β) d => (x.1 ++ [d], f x.1 d x.2)) (P, b) = (P ++ L, (L.foldl (fun (x : List Dfn × β) d => (x.1 ++ [d], f x.1 d x.2)) (P, b)).2) := by
 intro L
 induction L generalizing b with
 | nil => intro P; simp
 | cons d L ih => intro P; rw [List.foldl_cons, ih]; simp
theorem foldl_snoc {β : Type} (f : List Dfn → Dfn → β → β) (b : β) (L : List Dfn) (d : Dfn) : ((L ++ [d]).foldl (fun (x : List Dfn × β) d => (x.1 ++ [d], f x.1 d x.2)) ([], b)).2 = f L d (L.foldl (fun (x : List Dfn × β) d => (x.1 ++ [d], f x.1 d x.2)) ([], b)).2 := by
 rw [List.foldl_append, List.foldl_cons, List.foldl_nil]
 show f (L.foldl _ ([], b)).1 d _ = _
 rw [foldl_pre f b L []]; rfl
theorem namesK_snoc (L : List Dfn) (d : Dfn) (n : ByteArray) : namesK kp (L ++ [d]) n = if defB kp d = true ∧ d.s.name = n ∧ allK kp L d.key = [] then namesK kp L n ++ [d.key] else namesK kp L n :=
 foldl_snoc (fun P d (x : List RKey) => if defB kp d = true ∧ d.s.name = n ∧ allK kp P d.key = [] then x ++ [d.key] else x) [] L d
theorem twiceK_snoc (L : List Dfn) (d : Dfn) : twiceK kp (L ++ [d]) = (twiceK kp L).or (if defB kp d = true ∧ d.s.bind = 1 ∧ (∃ e ∈ allK kp L d.key, e.s.bind = 1) then some d.p else none) :=
 foldl_snoc (fun P d (x : Option GCulprit) => x.or (if defB kp d = true ∧ d.s.bind = 1 ∧ (∃ e ∈ allK kp P d.key, e.s.bind = 1) then some d.p else none)) none L d
theorem mem_allK {L : List Dfn} {k : RKey} {d : Dfn} : d ∈ allK kp L k ↔ d ∈ L ∧ defB kp d = true ∧ d.key = k := by unfold allK; simp [List.mem_filter]
theorem snoc_rec {α : Type} {motive : List α → Prop} (nil : motive []) (snoc : ∀ L d, motive L → motive (L ++ [d])) (L : List α) : motive L := by
 have : ∀ n (L : List α), L.length = n → motive L := by
   intro n
   induction n with
   | zero => intro L h; rw [List.eq_nil_of_length_eq_zero h]; exact nil
   | succ n ih =>
     intro L h
     have hne : L ≠ [] := by rintro rfl; cases h
     rw [← List.dropLast_concat_getLast hne]
     exact snoc _ _ (ih _ (by rw [List.length_dropLast, h]; rfl))
 exact this _ L rfl
theorem chosenK_none {L : List Dfn} {k : RKey} : chosenK kp L k = none ↔ allK kp L k = [] := by
 unfold chosenK
 generalize allK kp L k = l
 induction l using snoc_rec with
 | nil => simp
 | snoc L d ih =>
   rw [List.foldl_append, List.foldl_cons, List.foldl_nil]
   constructor
   · intro h; unfold better at h; split at h
     · cases h
     · split at h <;> cases h
   · intro h; simp at h
theorem foldl_better_mem : ∀ (l : List Dfn) (o : Option Dfn) (e : Dfn), l.foldl better o = some e → e ∈ l ∨ o = some e
 | [], o, e, h => .inr h
 | d :: l, o, e, h => by
   rcases foldl_better_mem l _ e h with h | h
   · exact .inl (List.mem_cons_of_mem _ h)
   · unfold better at h
     split at h
     · exact .inl (by rw [← Option.some.inj h]; exact List.mem_cons_self)
     · split at h
       · exact .inl (by rw [← Option.some.inj h]; exact List.mem_cons_self)
       · exact .inr h
theorem chosenK_mem {L : List Dfn} {k : RKey} {e : Dfn} (h : chosenK kp L k = some e) : e ∈ L ∧ defB kp e = true ∧ e.key = k := by
 rcases foldl_better_mem _ _ _ h with h | h
 · exact mem_allK.1 h
 · cases h
theorem chosenK_rank {L : List Dfn} {k : RKey} {e : Dfn} (h : chosenK kp L k = some e) : ∀ d ∈ allK kp L k, rankF e ≤ rankF d := by
 unfold chosenK at h
 generalize allK kp L k = l at h
 induction l using snoc_rec generalizing e with
 | nil => cases h
 | snoc L d ih =>
   rw [List.foldl_append, List.foldl_cons, List.foldl_nil] at h
   intro x hx
   unfold better at h
   split at h
   · rename_i hn
     have : L = [] := by
       cases hL : L with
       | nil => rfl
       | cons a l => rw [hL] at hn; exact absurd hn (by
           have : ∀ (l : List Dfn) (a : Dfn), l.foldl better (some a) ≠ none := fun l => by
             induction l with
             | nil => intro a h; cases h
             | cons b l ih => intro a; rw [List.foldl_cons]; unfold better; split
                              · rename_i h; cases h
                              · split
                                · exact ih _
                                · exact ih _
           exact this l a)
     subst this
     simp at hx h; subst hx; subst h; exact Int.le_refl _
   · rename_i e0 he0
     split at h
     · rename_i hlt
       obtain rfl := Option.some.inj h
       rcases List.mem_append.1 hx with hx | hx
       · have := ih he0 x hx; omega
       · rw [List.mem_singleton.1 hx]; exact Int.le_refl _
     · rename_i hlt
       obtain rfl := Option.some.inj h
       rcases List.mem_append.1 hx with hx | hx
       · exact ih he0 x hx
       · rw [List.mem_singleton.1 hx]; omega
end
end Go.Proofs.YtgmiihmahaahiaaGreatDoor

namespace Go.Proofs.YtgmiihmahaahiaaGreatDoor
open Go.RowKit Go.Lp Go.Sy
def ltC (p q : GCulprit) : Prop := p.obj < q.obj ∨ p.obj = q.obj ∧ p.sym < q.sym
instance (p q : GCulprit) : Decidable (ltC p q) := by unfold ltC; infer_instance
theorem ltC_irr (p : GCulprit) : ¬ ltC p p := by unfold ltC; omega
theorem ltC_trans {p q r : GCulprit} (h1 : ltC p q) (h2 : ltC q r) : ltC p r := by unfold ltC at *; omega
theorem ltC_tri (p q : GCulprit) : ltC p q ∨ p = q ∨ ltC q p := by
 have : p.obj = q.obj → p.sym = q.sym → p = q := fun h1 h2 => by cases p; cases q; simp_all
 unfold ltC
 by_cases h1 : p.obj = q.obj
 · by_cases h2 : p.sym = q.sym
   · exact .inr (.inl (this h1 h2))
   · omega
 · omega
def Asc (L : List Dfn) : Prop := L.Pairwise fun d e => ltC d.p e.p
theorem rowD_get {i : Int} {l : List GSymbol} {d : Dfn} (h : d ∈ rowD i l) : ∃ k : Nat, l[k]? = some d.s ∧ d.p = ⟨i, (k : Int)⟩ := by
 unfold rowD at h
 obtain ⟨⟨s, k⟩, hx, rfl⟩ := List.mem_map.1 h
 exact ⟨k, List.mem_zipIdx_iff_getElem?.1 hx, rfl⟩
theorem rowD_mem {i : Int} {l : List GSymbol} {k : Nat} {s : GSymbol} (h : l[k]? = some s) : (⟨⟨i, (k : Int)⟩, s⟩ : Dfn) ∈ rowD i l := by
 unfold rowD
 exact List.mem_map.2 ⟨(s, k), List.mem_zipIdx_iff_getElem?.2 h, rfl⟩
theorem rowD_asc (i : Int) (l : List GSymbol) : Asc (rowD i l) := by
 induction l using snoc_rec with
 | nil => exact .nil
 | snoc l s ih =>
   rw [rowD_snoc]
   refine List.pairwise_append.2 ⟨ih, List.pairwise_singleton _ _, fun d hd e he => ?_⟩
   obtain ⟨k, hk, hp⟩ := rowD_get hd
   rw [List.mem_singleton.1 he, hp]
   have := (List.getElem?_eq_some_iff.1 hk).1
   exact .inr ⟨rfl, by dsimp only; omega⟩
theorem flatTo_mem {os : List GObject} {n : Nat} {d : Dfn} : d ∈ flatTo os n ↔ ∃ i k : Nat, i < n ∧ (elt os (i : Int)).syms.l[k]? = some d.s ∧ d.p = ⟨(i : Int), (k : Int)⟩ := by
 unfold flatTo
 rw [List.mem_flatMap]
 constructor
 · rintro ⟨i, hi, hd⟩
   obtain ⟨k, h1, h2⟩ := rowD_get hd
   exact ⟨i, k, List.mem_range.1 hi, h1, h2⟩
 · rintro ⟨i, k, hi, h1, h2⟩
   obtain ⟨p, s⟩ := d
   dsimp only at h1 h2; subst h2
   exact ⟨i, List.mem_range.2 hi, rowD_mem h1⟩
theorem flatTo_asc (os : List GObject) : ∀ n, Asc (flatTo os n)
 | 0 => .nil
 | n + 1 => by
   rw [flatTo_succ]
   refine List.pairwise_append.2 ⟨flatTo_asc os n, rowD_asc _ _, fun d hd e he => ?_⟩
   obtain ⟨i, k, h1, _, h2⟩ := flatTo_mem.1 hd
   obtain ⟨k2, _, h3⟩ := rowD_get he
   rw [h2, h3]
   exact .inl (by dsimp only; omega)
theorem asc_inj {L : List Dfn} (h : Asc L) {d e : Dfn} (hd : d ∈ L) (he : e ∈ L) (hp : d.p = e.p) : d = e := by
 unfold Asc at h
 induction L with
 | nil => cases hd
 | cons a L ih =>
   rw [List.pairwise_cons] at h
   rcases List.mem_cons.1 hd with e1 | hd2 <;> rcases List.mem_cons.1 he with e2 | he2
   · rw [e1, e2]
   · have := h.1 e he2; rw [← e1, hp] at this; exact absurd this (ltC_irr _)
   · have := h.1 d hd2; rw [← e2, hp] at this; exact absurd this (ltC_irr _)
   · exact ih h.2 hd2 he2
section
variable (kp : List (Sl Bool)) (L : List Dfn)
def isCh (d : Dfn) : Bool := decide ((chosenK kp L d.key).map (·.p) = some d.p)
def isMain (d : Dfn) : Bool := isCh kp L d && (decide (d.s.version = .empty) || d.s.main)
def mainL (n : ByteArray) : List Dfn := L.filter fun d => decide (d.s.name = n) && isMain kp L d
def twice2 : Option GCulprit := (L.find? fun d => isMain kp L d && L.any fun e => isMain kp L e && (decide (e.s.name = d.s.name) && decide (ltC e.p d.p))).map (·.p)
def findR (sv : ByteArray → ByteArray → Bool) (n v : ByteArray) : Option Dfn :=
 if v = .empty then (mainL kp L n).head? else (chosenK kp L (n, v)).or (L.find? fun d => decide (d.s.name = n) && (isCh kp L d && sv d.s.version v))
def whyR (s : GSymbol) (d : Dfn) : Int := if d.s.bind = 3 then 4 else if d.s.version ≠ s.version then 5 else if (allK kp L d.key).length = 1 then 1 else if d.s.bind = 1 then 2 else 3
def visR (n : ByteArray) : Int := L.foldl (fun v d => if d.s.name = n ∧ d.s.bind ≠ 0 then max v d.s.vis else v) 0
def noneC : GChoice := ⟨0, 0, 0, 0, 0, false⟩
def choiceR (sv : ByteArray → ByteArray → Bool) (lf : ByteArray → ByteArray → Int) (lib : Bool) (d : Dfn) : Option GChoice :=
 if d.s.bind = 0 then some (if keptB kp d.p.obj d.s.sec = true then ⟨1, d.p.obj, d.p.sym, 0, 0, false⟩ else noneC)
 else match findR kp L sv d.s.name d.s.version with
   | some e => some ⟨if e.s.bind = 3 then 3 else 2, e.p.obj, e.p.sym, 0, whyR kp L d.s e, lib && decide (visR L d.s.name = 0)⟩
   | none => if lf d.s.name d.s.version ≥ 0 then some ⟨4, 0, 0, lf d.s.name d.s.version, 6, false⟩ else if d.s.sec ≠ -1 then some noneC else if d.s.bind = 2 then some ⟨5, 0, 0, 0, 7, false⟩ else none
def missR (sv : ByteArray → ByteArray → Bool) (lf : ByteArray → ByteArray → Int) (lib : Bool) : Option GCulprit := (L.find? fun d => decide (choiceR kp L sv lf lib d = none)).map (·.p)
end
def bindE (kp : List (Sl Bool)) (L : List Dfn) (sv : ByteArray → ByteArray → Bool) (lf : ByteArray → ByteArray → Int) (lib : Bool) : Option (Int × GCulprit) :=
 match twiceK kp L with
 | some p => some (4, p)
 | none => match twice2 kp L with
   | some p => some (4, p)
   | none => (missR kp L sv lf lib).map fun p => (3, p)
def rowC (kp : List (Sl Bool)) (L : List Dfn) (sv : ByteArray → ByteArray → Bool) (lf : ByteArray → ByteArray → Int) (lib : Bool) (l : List Dfn) : List GChoice := l.map fun d => (choiceR kp L sv lf lib d).getD noneC
def bindC (os : List GObject) (kp : List (Sl Bool)) (sv : ByteArray → ByteArray → Bool) (lf : ByteArray → ByteArray → Int) (lib : Bool) : List (List GChoice) :=
 (List.range os.length).map fun i : Nat => rowC kp (flatF os) sv lf lib (rowD (i : Int) (elt os (i : Int)).syms.l)
section
variable {kp : List (Sl Bool)} {L : List Dfn} (hA : Asc L)
include hA
theorem isCh_iff {d : Dfn} (hd : d ∈ L) : isCh kp L d = true ↔ chosenK kp L d.key = some d := by
 unfold isCh
 rw [decide_eq_true_eq, Option.map_eq_some_iff]
 constructor
 · rintro ⟨e, he, hp⟩
   obtain ⟨h1, _, _⟩ := chosenK_mem he
   rw [he, asc_inj hA h1 hd hp]
 · exact fun h => ⟨d, h, rfl⟩
theorem isCh_def {d : Dfn} (hd : d ∈ L) (h : isCh kp L d = true) : defB kp d = true := (chosenK_mem ((isCh_iff hA hd).1 h)).2.1
theorem chosen_is {k : RKey} {e : Dfn} (h : chosenK kp L k = some e) : isCh kp L e = true := by
 obtain ⟨h1, _, h3⟩ := chosenK_mem h
 rw [isCh_iff hA h1, h3]; exact h
theorem mainL_one (ht : twice2 kp L = none) {n : ByteArray} {d e : Dfn} (hd : d ∈ mainL kp L n) (he : e ∈ mainL kp L n) : d = e := by
 unfold mainL at hd he
 simp only [List.mem_filter, Bool.and_eq_true, decide_eq_true_eq] at hd he
 have hn := ht
 unfold twice2 at hn
 rw [Option.map_eq_none_iff, List.find?_eq_none] at hn
 have key : ∀ d e : Dfn, d ∈ L → e ∈ L → isMain kp L d = true → isMain kp L e = true → e.s.name = d.s.name → ¬ ltC e.p d.p := fun d e h1 h2 h3 h4 h5 h6 => by
   refine hn d h1 ?_
   rw [Bool.and_eq_true, List.any_eq_true]
   exact ⟨h3, e, h2, by simp [h4, h5, h6]⟩
 rcases ltC_tri d.p e.p with h | h | h
 · exact (key e d he.1 hd.1 he.2.2 hd.2.2 (by rw [hd.2.1, he.2.1]) h).elim
 · exact asc_inj hA hd.1 he.1 h
 · exact (key d e hd.1 he.1 hd.2.2 he.2.2 (by rw [hd.2.1, he.2.1]) h).elim
theorem findR_spec {sv : ByteArray → ByteArray → Bool} {n v : ByteArray} {e : Dfn} (h : findR kp L sv n v = some e) : e ∈ L ∧ isCh kp L e = true ∧ e.s.name = n ∧ (e.s.version = v ∨ v = .empty ∧ e.s.main = true ∨ v ≠ .empty ∧ sv e.s.version v = true) := by
 unfold findR at h
 split at h
 · rename_i hv
   have hm := List.mem_of_mem_head? (Option.mem_def.2 h)
   unfold mainL isMain at hm
   simp only [List.mem_filter, Bool.and_eq_true, decide_eq_true_eq, Bool.or_eq_true] at hm
   refine ⟨hm.1, hm.2.2.1, hm.2.1, ?_⟩
   rcases hm.2.2.2 with h | h
   · exact .inl (h.trans hv.symm)
   · exact .inr (.inl ⟨hv, h⟩)
 · rename_i hv
   rw [Option.or_eq_some_iff] at h
   rcases h with h | ⟨h0, h⟩
   · obtain ⟨h1, _, h3⟩ := chosenK_mem h
     exact ⟨h1, chosen_is hA h, congrArg Prod.fst h3, .inl (congrArg Prod.snd h3)⟩
   · have h1 := List.find?_some h
     have h2 := List.mem_of_find?_eq_some h
     simp only [Bool.and_eq_true, decide_eq_true_eq] at h1
     exact ⟨h2, h1.2.1, h1.1, .inr (.inr ⟨hv, h1.2.2⟩)⟩
theorem findR_self {sv : ByteArray → ByteArray → Bool} (ht : twice2 kp L = none) {e : Dfn} (he : e ∈ L) (h : isCh kp L e = true) : findR kp L sv e.s.name e.s.version = some e := by
 unfold findR
 split
 · rename_i hv
   have hm : e ∈ mainL kp L e.s.name := by unfold mainL isMain; simp [List.mem_filter, he, h, hv]
   cases hl : mainL kp L e.s.name with
   | nil => rw [hl] at hm; cases hm
   | cons a l => rw [mainL_one hA ht hm (hl ▸ List.mem_cons_self : a ∈ mainL kp L e.s.name)]; rfl
 · rw [(isCh_iff hA he).1 h]; rfl
end
end Go.Proofs.YtgmiihmahaahiaaGreatDoor

namespace Go.Proofs.YtgmiihmahaahiaaGreatDoor
open Go.RowKit Go.Lp Go.Sy
section
variable {kp : List (Sl Bool)}
theorem namesK_mem {L : List Dfn} {n : ByteArray} {k : RKey} : k ∈ namesK kp L n ↔ allK kp L k ≠ [] ∧ k.1 = n := by
 induction L using snoc_rec with
 | nil => simp [namesK, allK]
 | snoc L d ih =>
   rw [namesK_snoc, allK_snoc]
   by_cases h : defB kp d = true ∧ d.s.name = n ∧ allK kp L d.key = []
   · rw [if_pos h, List.mem_append, ih, List.mem_singleton]
     constructor
     · rintro (⟨h1, h2⟩ | rfl)
       · exact ⟨by simp [h1], h2⟩
       · exact ⟨by simp [h.1], h.2.1⟩
     · rintro ⟨h1, h2⟩
       by_cases hk : d.key = k
       · exact .inr hk.symm
       · exact .inl ⟨by simpa [hk] using h1, h2⟩
   · rw [if_neg h, ih]
     constructor
     · rintro ⟨h1, h2⟩; exact ⟨by simp [h1], h2⟩
     · rintro ⟨h1, h2⟩
       refine ⟨fun h0 => ?_, h2⟩
       by_cases hk : defB kp d = true ∧ d.key = k
       · exact h ⟨hk.1, by rw [← h2, ← hk.2], by rw [hk.2]; exact h0⟩
       · rw [if_neg hk, List.append_nil] at h1; exact h1 h0
theorem namesK_nodup (L : List Dfn) (n : ByteArray) : (namesK kp L n).Nodup := by
 induction L using snoc_rec with
 | nil => simp [namesK]
 | snoc L d ih =>
   rw [namesK_snoc]
   split
   · rename_i h
     rw [List.nodup_append]
     refine ⟨ih, by simp, fun a ha b hb => ?_⟩
     rw [List.mem_singleton.1 hb]
     rintro rfl
     exact (namesK_mem.1 ha).1 h.2.2
   · exact ih
theorem namesK_le (L : List Dfn) (n : ByteArray) : (namesK kp L n).length ≤ L.length := by
 induction L using snoc_rec with
 | nil => simp [namesK]
 | snoc L d ih => rw [namesK_snoc]; split <;> simp <;> omega
theorem allK_le (L : List Dfn) (k : RKey) : (allK kp L k).length ≤ L.length := List.length_filter_le _ _
def mainP (kp : List (Sl Bool)) (L : List Dfn) (l : List RKey) : List GCulprit := l.filterMap fun k => (chosenK kp L k).bind fun e => if k.2 = .empty ∨ e.s.main = true then some e.p else none
theorem mainP_snoc (L : List Dfn) (l : List RKey) (k : RKey) {e : Dfn} (h : chosenK kp L k = some e) : mainP kp L (l ++ [k]) = mainP kp L l ++ if k.2 = .empty ∨ e.s.main = true then [e.p] else [] := by
 unfold mainP; rw [List.filterMap_append]
 congr 1
 by_cases hc : k.2 = .empty ∨ e.s.main = true <;> simp [h, hc]
theorem mainP_le (L : List Dfn) (l : List RKey) : (mainP kp L l).length ≤ l.length := List.length_filterMap_le _ _
theorem nodup_filterMap {α β : Type} {f : α → Option β} (hf : ∀ a b c, f a = some c → f b = some c → a = b) : ∀ {l : List α}, l.Nodup → (l.filterMap f).Nodup
 | [], _ => by simp
 | a :: l, h => by
   rw [List.nodup_cons] at h
   rw [List.filterMap_cons]
   cases ha : f a with
   | none => exact nodup_filterMap hf h.2
   | some c =>
     rw [List.nodup_cons]
     refine ⟨fun hm => ?_, nodup_filterMap hf h.2⟩
     obtain ⟨b, hb, hc⟩ := List.mem_filterMap.1 hm
     exact h.1 (hf a b c ha hc ▸ hb)
end
theorem ltC_ext : ∀ {a b : List GCulprit}, a.Pairwise ltC → b.Pairwise ltC → (∀ x, x ∈ a ↔ x ∈ b) → a = b
 | [], [], _, _, _ => rfl
 | [], y :: b, _, _, h => by have := (h y).2 List.mem_cons_self; cases this
 | x :: a, [], _, _, h => by have := (h x).1 List.mem_cons_self; cases this
 | x :: a, y :: b, ha, hb, h => by
   rw [List.pairwise_cons] at ha hb
   have hxy : x = y := by
     rcases List.mem_cons.1 ((h x).1 List.mem_cons_self) with h1 | h1
     · exact h1
     · rcases List.mem_cons.1 ((h y).2 List.mem_cons_self) with h2 | h2
       · exact h2.symm
       · exact (ltC_irr _ (ltC_trans (hb.1 x h1) (ha.1 y h2))).elim
   subst hxy
   rw [ltC_ext ha.2 hb.2 fun z => ?_]
   constructor
   · intro hz
     rcases List.mem_cons.1 ((h z).1 (List.mem_cons_of_mem _ hz)) with rfl | h1
     · exact (ltC_irr _ (ha.1 z hz)).elim
     · exact h1
   · intro hz
     rcases List.mem_cons.1 ((h z).2 (List.mem_cons_of_mem _ hz)) with rfl | h1
     · exact (ltC_irr _ (hb.1 z hz)).elim
     · exact h1
section
variable {kp : List (Sl Bool)} {L : List Dfn}
theorem mainL_mem {n : ByteArray} {d : Dfn} : d ∈ mainL kp L n ↔ d ∈ L ∧ d.s.name = n ∧ isMain kp L d = true := by unfold mainL; simp [List.mem_filter]
variable (hA : Asc L)
include hA
theorem mainL_asc (n : ByteArray) : ((mainL kp L n).map (·.p)).Pairwise ltC := by
 rw [List.pairwise_map]; exact List.Pairwise.filter _ hA
theorem mainP_mem {n : ByteArray} {p : GCulprit} : p ∈ mainP kp L (namesK kp L n) ↔ p ∈ (mainL kp L n).map (·.p) := by
 unfold mainP mainL isMain
 rw [List.mem_filterMap, List.mem_map]
 constructor
 · rintro ⟨k, hk, h⟩
   obtain ⟨e, he, h⟩ := Option.bind_eq_some_iff.1 h
   split at h
   · rename_i hc
     obtain ⟨h1, h2, h3⟩ := chosenK_mem he
     refine ⟨e, ?_, Option.some.inj h⟩
     simp only [List.mem_filter, Bool.and_eq_true, decide_eq_true_eq, Bool.or_eq_true]
     refine ⟨h1, ?_, chosen_is hA he, ?_⟩
     · rw [← (namesK_mem.1 hk).2, ← h3]
     · rw [← h3] at hc; exact hc
   · cases h
 · rintro ⟨e, he, rfl⟩
   simp only [List.mem_filter, Bool.and_eq_true, decide_eq_true_eq, Bool.or_eq_true] at he
   obtain ⟨h1, h2, h3, h4⟩ := he
   have hc := (isCh_iff hA h1).1 h3
   refine ⟨e.key, namesK_mem.2 ⟨fun h0 => ?_, h2⟩, ?_⟩
   · rw [← chosenK_none (kp := kp)] at h0; rw [h0] at hc; cases hc
   · rw [hc, Option.bind_some, if_pos h4]
theorem mainP_nodup (n : ByteArray) : (mainP kp L (namesK kp L n)).Nodup := by
 refine nodup_filterMap (fun a b c h1 h2 => ?_) (namesK_nodup L n)
 obtain ⟨e, he, h1⟩ := Option.bind_eq_some_iff.1 h1
 obtain ⟨e2, he2, h2⟩ := Option.bind_eq_some_iff.1 h2
 split at h1
 · split at h2
   · have e3 : e.p = e2.p := (Option.some.inj h1).trans (Option.some.inj h2).symm
     obtain ⟨m1, _, m3⟩ := chosenK_mem he
     obtain ⟨m4, _, m6⟩ := chosenK_mem he2
     rw [← m3, ← m6, asc_inj hA m1 m4 e3]
   · cases h2
 · cases h1
theorem mainP_sorted {n : ByteArray} {q : List GCulprit} (hp : q.Perm (mainP kp L (namesK kp L n))) (hs : q.Pairwise fun a b => ¬ ltC b a) : q = (mainL kp L n).map (·.p) := by
 refine ltC_ext ?_ (mainL_asc hA n) fun x => by rw [hp.mem_iff, mainP_mem hA]
 have hn : q.Nodup := hp.nodup_iff.2 (mainP_nodup hA n)
 have := List.Pairwise.and hs hn
 refine this.imp fun {a b} h => ?_
 rcases ltC_tri a b with h1 | h1 | h1
 · exact h1
 · exact (h.2 h1).elim
 · exact (h.1 h1).elim
theorem main_two {n : ByteArray} {d : Dfn} (h : (mainL kp L n)[1]? = some d) : ∃ e, (mainL kp L n)[0]? = some e ∧ ltC e.p d.p := by
 have hl := (List.getElem?_eq_some_iff.1 h).1
 have := List.Pairwise.filter (fun d : Dfn => decide (d.s.name = n) && isMain kp L d) hA
 refine ⟨_, List.getElem?_eq_getElem (by omega), ?_⟩
 have h2 := List.pairwise_iff_getElem.1 this 0 1 (show 0 < (mainL kp L n).length by omega) hl (by omega)
 rw [List.getElem?_eq_getElem hl] at h
 rw [← Option.some.inj h]; exact h2
theorem main_ge {n : ByteArray} {d e : Dfn} (hd : d ∈ mainL kp L n) (he : e ∈ mainL kp L n) (h : ltC e.p d.p) : ∃ d2, (mainL kp L n)[1]? = some d2 ∧ ¬ ltC d.p d2.p := by
 have hp : (mainL kp L n).Pairwise fun d e => ltC d.p e.p := List.Pairwise.filter _ hA
 cases hl : mainL kp L n with
 | nil => rw [hl] at hd; cases hd
 | cons a l =>
   rw [hl] at hd he hp
   rw [List.pairwise_cons] at hp
   have hda : d ∈ l := by
     rcases List.mem_cons.1 hd with rfl | hd
     · rcases List.mem_cons.1 he with rfl | he
       · exact (ltC_irr _ h).elim
       · exact (ltC_irr _ (ltC_trans h (hp.1 e he))).elim
     · exact hd
   cases l with
   | nil => cases hda
   | cons b l =>
     refine ⟨b, rfl, fun hlt => ?_⟩
     rcases List.mem_cons.1 hda with rfl | hda
     · exact ltC_irr _ hlt
     · exact ltC_irr _ (ltC_trans hlt ((List.pairwise_cons.1 hp.2).1 d hda))
theorem twice2_none (h : ∀ n, (mainL kp L n)[1]? = none) : twice2 kp L = none := by
 unfold twice2
 rw [Option.map_eq_none_iff, List.find?_eq_none]
 intro d hd hh
 rw [Bool.and_eq_true, List.any_eq_true] at hh
 obtain ⟨h1, e, he, h2⟩ := hh
 simp only [Bool.and_eq_true, decide_eq_true_eq] at h2
 obtain ⟨d2, h3, _⟩ := main_ge hA ((mainL_mem).2 ⟨hd, rfl, h1⟩) ((mainL_mem).2 ⟨he, h2.2.1, h2.1⟩) h2.2.2
 rw [h d.s.name] at h3; cases h3
theorem find?_asc {f : Dfn → Bool} {d d1 : Dfn} (hd : d ∈ L) (hf : f d = true) (h : L.find? f = some d1) : d1 = d ∨ ltC d1.p d.p := by
 unfold Asc at hA
 induction L with
 | nil => cases h
 | cons a L ih =>
   rw [List.pairwise_cons] at hA
   by_cases ha : f a = true
   · rw [List.find?_cons_of_pos ha] at h
     obtain rfl := Option.some.inj h
     rcases List.mem_cons.1 hd with rfl | hd
     · exact .inl rfl
     · exact .inr (hA.1 d hd)
   · rw [List.find?_cons_of_neg ha] at h
     rcases List.mem_cons.1 hd with rfl | hd
     · exact (ha hf).elim
     · exact ih hA.2 hd h
theorem twice2_some {n : ByteArray} {d : Dfn} (h1 : (mainL kp L n)[1]? = some d) (h2 : ∀ n d2, (mainL kp L n)[1]? = some d2 → ¬ ltC d2.p d.p) : twice2 kp L = some d.p := by
 obtain ⟨e, he, hlt⟩ := main_two hA h1
 obtain ⟨m1, m2, m3⟩ := (mainL_mem).1 (List.mem_of_getElem? h1)
 obtain ⟨k1, k2, k3⟩ := (mainL_mem).1 (List.mem_of_getElem? he)
 have hf : (fun d : Dfn => isMain kp L d && L.any fun e => isMain kp L e && (decide (e.s.name = d.s.name) && decide (ltC e.p d.p))) d = true := by
   simp only [Bool.and_eq_true, List.any_eq_true, decide_eq_true_eq]
   exact ⟨m3, e, k1, k3, by rw [k2, m2], hlt⟩
 unfold twice2
 cases hx : L.find? fun d : Dfn => isMain kp L d && L.any fun e => isMain kp L e && (decide (e.s.name = d.s.name) && decide (ltC e.p d.p)) with
 | none => rw [List.find?_eq_none] at hx; exact (hx d m1 hf).elim
 | some d1 =>
   have hd1 := List.find?_some hx
   have hm1 := List.mem_of_find?_eq_some hx
   simp only [Bool.and_eq_true, List.any_eq_true, decide_eq_true_eq] at hd1
   obtain ⟨g1, e1, g2, g3, g4, g5⟩ := hd1
   obtain ⟨d2, g6, g7⟩ := main_ge hA ((mainL_mem).2 ⟨hm1, rfl, g1⟩) ((mainL_mem).2 ⟨g2, g4, g3⟩) g5
   rcases find?_asc hA m1 hf hx with h | h
   · rw [h]; rfl
   · exfalso
     have q1 := h2 _ _ g6
     rcases ltC_tri d2.p d1.p with r | r | r
     · exact q1 (ltC_trans r h)
     · exact q1 (r ▸ h)
     · exact g7 r
end
end Go.Proofs.YtgmiihmahaahiaaGreatDoor

namespace Go.Proofs.YtgmiihmahaahiaaGreatDoor
open Go.RowKit Go.Lp Go.Sy
theorem foldl_better (l : List Dfn) : l.foldl better none = (l.find? fun d => decide (d.s.bind = 1)).or ((l.find? fun d => decide (d.s.bind = 3)).or l.head?) := by
 induction l using snoc_rec with
 | nil => rfl
 | snoc l d ih =>
   rw [List.foldl_append, List.foldl_cons, List.foldl_nil, ih, List.find?_append, List.find?_append]
   have hr1 : d.s.bind = 1 → rankF d = 0 := fun h => by unfold rankF; rw [if_pos h]
   have hr3 : d.s.bind = 3 → rankF d = 1 := fun h => by unfold rankF; rw [if_neg (by omega), if_pos h]
   have hr2 : d.s.bind ≠ 1 → d.s.bind ≠ 3 → rankF d = 2 := fun h h' => by unfold rankF; rw [if_neg h, if_neg h']
   cases h1 : l.find? fun d => decide (d.s.bind = 1) with
   | some e =>
     have he : rankF e = 0 := by have := List.find?_some h1; unfold rankF; rw [if_pos (by simpa using this)]
     simp only [Option.some_or, better]
     rw [if_neg (by unfold rankF at *; split <;> (try split) <;> omega)]
   | none =>
     simp only [Option.none_or]
     rw [List.find?_eq_none] at h1
     cases h3 : l.find? fun d => decide (d.s.bind = 3) with
     | some e =>
       have he : rankF e = 1 := by
         have h2 := List.find?_some h3
         have h4 := h1 e (List.mem_of_find?_eq_some h3)
         simp only [decide_eq_true_eq] at h2 h4
         unfold rankF; rw [if_neg h4, if_pos h2]
       simp only [Option.some_or, better]
       by_cases hd : d.s.bind = 1
       · rw [if_pos (by rw [hr1 hd, he]; decide)]; simp [hd]
       · rw [if_neg (by rw [he]; by_cases hd3 : d.s.bind = 3
                        · rw [hr3 hd3]; decide
                        · rw [hr2 hd hd3]; decide)]; simp [hd]
     | none =>
       rw [List.find?_eq_none] at h3
       simp only [Option.none_or]
       cases hl : l with
       | nil =>
         subst hl
         simp only [List.head?_nil, better, List.nil_append, List.head?_cons]
         by_cases hd : d.s.bind = 1
         · simp [hd]
         · by_cases hd3 : d.s.bind = 3 <;> simp [hd, hd3]
       | cons a l' =>
         have ha : rankF a = 2 := by
           have q1 := h1 a (by rw [hl]; exact List.mem_cons_self)
           have q3 := h3 a (by rw [hl]; exact List.mem_cons_self)
           simp only [decide_eq_true_eq] at q1 q3
           unfold rankF; rw [if_neg q1, if_neg q3]
         simp only [List.head?_cons, better, List.cons_append]
         by_cases hd : d.s.bind = 1
         · rw [if_pos (by rw [hr1 hd, ha]; decide)]; simp [hd]
         · by_cases hd3 : d.s.bind = 3
           · rw [if_pos (by rw [hr3 hd3, ha]; decide)]; simp [hd3]
           · rw [if_neg (by rw [hr2 hd hd3, ha]; decide)]; simp [hd, hd3]
theorem filter_head {α : Type} (f : α → Bool) : ∀ l : List α, (l.filter f).head? = l.find? f
 | [] => rfl
 | a :: l => by
   by_cases h : f a = true
   · rw [List.filter_cons_of_pos h, List.find?_cons_of_pos h]; rfl
   · rw [List.filter_cons_of_neg h, List.find?_cons_of_neg h]; exact filter_head f l
def sLt (a b : ByteArray) : Prop := a.toList < b.toList
instance (a b : ByteArray) : Decidable (sLt a b) := by unfold sLt; infer_instance
theorem ba_ext {a b : ByteArray} (h : a.toList = b.toList) : a = b := by
 have key : ∀ (x : ByteArray), x.toList = x.data.toList := fun x => by
   have loop : ∀ (n i : Nat) (acc : List UInt8), x.size - i = n → ByteArray.toList.loop x i acc = acc.reverse ++ x.data.toList.drop i := by
     intro n
     induction n with
     | zero =>
       intro i acc h
       unfold ByteArray.toList.loop
       have hle : x.data.size ≤ i := by have : x.size = x.data.size := rfl; omega
       rw [if_neg (by omega), List.drop_eq_nil_of_le (by simpa using hle), List.append_nil]
     | succ n ih =>
       intro i acc h
       unfold ByteArray.toList.loop
       have hlt : i < x.size := by omega
       have hlt' : i < x.data.toList.length := by simpa using hlt
       rw [if_pos hlt, ih (i + 1) _ (by omega), List.drop_eq_getElem_cons hlt']
       have : x.get! i = x.data.toList[i] := by
         show x.data[i]! = _
         rw [getElem!_pos x.data i (by simpa using hlt)]; simp
       rw [this]; simp
   unfold ByteArray.toList
   rw [loop _ 0 [] rfl]; simp
 rw [key, key] at h
 cases a; cases b
 simp only [ByteArray.mk.injEq]
 exact Array.toList_inj.1 h
theorem sLt_irr (a : ByteArray) : ¬ sLt a a := List.lt_irrefl _
theorem sLt_trans {a b c : ByteArray} (h1 : sLt a b) (h2 : sLt b c) : sLt a c := List.lt_trans h1 h2
theorem sLt_tri (a b : ByteArray) : sLt a b ∨ a = b ∨ sLt b a := by
 unfold sLt
 by_cases h1 : a.toList < b.toList
 · exact .inl h1
 · by_cases h2 : b.toList < a.toList
   · exact .inr (.inr h2)
   · exact .inr (.inl (ba_ext (List.le_antisymm h2 h1)))
def kLt (a b : RKey) : Prop := sLt a.1 b.1 ∨ a.1 = b.1 ∧ sLt a.2 b.2
instance (a b : RKey) : Decidable (kLt a b) := by unfold kLt; infer_instance
theorem kLt_irr (a : RKey) : ¬ kLt a a := fun h => h.elim (sLt_irr _) fun h => sLt_irr _ h.2
theorem kLt_trans {a b c : RKey} (h1 : kLt a b) (h2 : kLt b c) : kLt a c := by
 rcases h1 with h1 | ⟨e1, h1⟩ <;> rcases h2 with h2 | ⟨e2, h2⟩
 · exact .inl (sLt_trans h1 h2)
 · exact .inl (e2 ▸ h1)
 · exact .inl (e1 ▸ h2)
 · exact .inr ⟨e1.trans e2, sLt_trans h1 h2⟩
theorem kLt_tri (a b : RKey) : kLt a b ∨ a = b ∨ kLt b a := by
 rcases sLt_tri a.1 b.1 with h | h | h
 · exact .inl (.inl h)
 · rcases sLt_tri a.2 b.2 with h2 | h2 | h2
   · exact .inl (.inr ⟨h, h2⟩)
   · exact .inr (.inl (Prod.ext h h2))
   · exact .inr (.inr (.inr ⟨h.symm, h2⟩))
 · exact .inr (.inr (.inl h))
deriving instance DecidableEq for GOffered
abbrev GOffered.key (x : GOffered) : RKey := (x.name, x.version)
def insO (x : GOffered) : List GOffered → List GOffered
 | [] => [x]
 | y :: l => if kLt y.key x.key then y :: insO x l else x :: y :: l
theorem insO_mem {x z : GOffered} : ∀ {l : List GOffered}, z ∈ insO x l ↔ z = x ∨ z ∈ l
 | [] => by simp [insO]
 | y :: l => by
   unfold insO
   split
   · rw [List.mem_cons, insO_mem, List.mem_cons]
     constructor
     · rintro (h | h | h)
       · exact .inr (.inl h)
       · exact .inl h
       · exact .inr (.inr h)
     · rintro (h | h | h)
       · exact .inr (.inl h)
       · exact .inl h
       · exact .inr (.inr h)
   · rw [List.mem_cons]
def AscO (l : List GOffered) : Prop := l.Pairwise fun a b => kLt a.key b.key
theorem insO_asc {x : GOffered} : ∀ {l : List GOffered}, AscO l → (∀ y ∈ l, y.key ≠ x.key) → AscO (insO x l)
 | [], _, _ => List.pairwise_singleton _ _
 | y :: l, h, hn => by
   unfold AscO at *
   rw [List.pairwise_cons] at h
   unfold insO
   split
   · rename_i hlt
     refine List.pairwise_cons.2 ⟨fun z hz => ?_, insO_asc h.2 fun y hy => hn y (List.mem_cons_of_mem _ hy)⟩
     rcases insO_mem.1 hz with rfl | hz
     · exact hlt
     · exact h.1 z hz
   · rename_i hlt
     have hxy : kLt x.key y.key := by
       rcases kLt_tri x.key y.key with h | h | h
       · exact h
       · exact (hn y List.mem_cons_self h.symm).elim
       · exact (hlt h).elim
     refine List.pairwise_cons.2 ⟨fun z hz => ?_, List.pairwise_cons.2 h⟩
     rcases List.mem_cons.1 hz with rfl | hz
     · exact hxy
     · exact kLt_trans hxy (h.1 z hz)
theorem ascO_ext : ∀ {a b : List GOffered}, AscO a → AscO b → (∀ x, x ∈ a ↔ x ∈ b) → a = b
 | [], [], _, _, _ => rfl
 | [], y :: b, _, _, h => by have := (h y).2 List.mem_cons_self; cases this
 | x :: a, [], _, _, h => by have := (h x).1 List.mem_cons_self; cases this
 | x :: a, y :: b, ha, hb, h => by
   unfold AscO at ha hb
   rw [List.pairwise_cons] at ha hb
   have hxy : x = y := by
     rcases List.mem_cons.1 ((h x).1 List.mem_cons_self) with h1 | h1
     · exact h1
     · rcases List.mem_cons.1 ((h y).2 List.mem_cons_self) with h2 | h2
       · exact h2.symm
       · exact (kLt_irr _ (kLt_trans (hb.1 x h1) (ha.1 y h2))).elim
   subst hxy
   rw [ascO_ext ha.2 hb.2 fun z => ?_]
   constructor
   · intro hz
     rcases List.mem_cons.1 ((h z).1 (List.mem_cons_of_mem _ hz)) with rfl | h1
     · exact (kLt_irr _ (ha.1 z hz)).elim
     · exact h1
   · intro hz
     rcases List.mem_cons.1 ((h z).2 (List.mem_cons_of_mem _ hz)) with rfl | h1
     · exact (kLt_irr _ (hb.1 z hz)).elim
     · exact h1
def offD (d : Dfn) : GOffered := ⟨d.s.name, d.s.version, decide (d.s.version = .empty) || d.s.main, d.s.kind, d.p.obj, d.p.sym, decide (d.s.bind = 3)⟩
def expL (kp : List (Sl Bool)) (L : List Dfn) : List Dfn := L.filter fun d => isCh kp L d && decide (visR L d.s.name ≠ 2)
def expF (kp : List (Sl Bool)) (L : List Dfn) : List GOffered := (expL kp L).foldl (fun o d => insO (offD d) o) []
theorem foldl_insO (l : List Dfn) : ∀ (o : List GOffered) (x : GOffered), x ∈ l.foldl (fun o d => insO (offD d) o) o ↔ x ∈ o ∨ ∃ d ∈ l, x = offD d := by
 induction l with
 | nil => intro o x; simp
 | cons d l ih =>
   intro o x
   rw [List.foldl_cons, ih, insO_mem]
   constructor
   · rintro ((h | h) | ⟨d2, h, h2⟩)
     · exact .inr ⟨d, List.mem_cons_self, h⟩
     · exact .inl h
     · exact .inr ⟨d2, List.mem_cons_of_mem _ h, h2⟩
   · rintro (h | ⟨d2, h, h2⟩)
     · exact .inl (.inr h)
     · rcases List.mem_cons.1 h with rfl | h
       · exact .inl (.inl h2)
       · exact .inr ⟨d2, h, h2⟩
section
variable {kp : List (Sl Bool)} {L : List Dfn}
theorem expL_mem {d : Dfn} : d ∈ expL kp L ↔ d ∈ L ∧ isCh kp L d = true ∧ visR L d.s.name ≠ 2 := by unfold expL; simp [List.mem_filter]
theorem expF_mem {x : GOffered} : x ∈ expF kp L ↔ ∃ d ∈ expL kp L, x = offD d := by unfold expF; rw [foldl_insO]; simp
variable (hA : Asc L)
include hA
theorem expL_keys : (expL kp L).Pairwise fun d e => d.key ≠ e.key := by
 have h1 : (expL kp L).Pairwise fun d e => ltC d.p e.p := List.Pairwise.filter _ hA
 refine h1.imp_of_mem fun {d e} hd he h hk => ?_
 obtain ⟨d1, d2, _⟩ := expL_mem.1 hd
 obtain ⟨e1, e2, _⟩ := expL_mem.1 he
 have := (isCh_iff hA d1).1 d2
 rw [hk, (isCh_iff hA e1).1 e2] at this
 rw [Option.some.inj this] at h
 exact ltC_irr _ h
theorem expF_asc : AscO (expF kp L) := by
 have key : ∀ (l : List Dfn) (o : List GOffered), l.Pairwise (fun d e => d.key ≠ e.key) → AscO o → (∀ x ∈ o, ∀ d ∈ l, x.key ≠ d.key) → AscO (l.foldl (fun o d => insO (offD d) o) o) := by
   intro l
   induction l with
   | nil => intro o _ h _; exact h
   | cons d l ih =>
     intro o hl ho hx
     rw [List.pairwise_cons] at hl
     refine ih _ hl.2 (insO_asc ho fun y hy => hx y hy d List.mem_cons_self) fun x hx2 e he => ?_
     rcases insO_mem.1 hx2 with rfl | hx2
     · exact hl.1 e he
     · exact hx x hx2 e (List.mem_cons_of_mem _ he)
 exact key _ _ (expL_keys hA) .nil fun x hx => by cases hx
theorem expF_sorted {q : List GOffered} (hp : q.Perm ((expL kp L).map offD)) (hs : q.Pairwise fun a b => ¬ kLt b.key a.key) : q = expF kp L := by
 refine ascO_ext ?_ (expF_asc hA) fun x => ?_
 · have hk : ((expL kp L).map offD).Pairwise fun a b => a.key ≠ b.key := by rw [List.pairwise_map]; exact expL_keys hA
   have hk2 : q.Pairwise fun a b => a.key ≠ b.key := (hp.symm.pairwise_iff (R := fun a b : GOffered => a.key ≠ b.key) (fun h => Ne.symm h)).1 hk
   refine (hs.and hk2).imp fun {a b} h => ?_
   rcases kLt_tri a.key b.key with h1 | h1 | h1
   · exact h1
   · exact (h.2 h1).elim
   · exact (h.1 h1).elim
 · rw [hp.mem_iff, expF_mem, List.mem_map]
   constructor
   · rintro ⟨d, h1, h2⟩; exact ⟨d, h1, h2.symm⟩
   · rintro ⟨d, h1, h2⟩; exact ⟨d, h1, h2.symm⟩
end
end Go.Proofs.YtgmiihmahaahiaaGreatDoor

namespace Go.Proofs.YtgmiihmahaahiaaGreatDoor
open Go.RowKit Go.Lp Go.Sy
theorem foldl_rank : ∀ (l : List Dfn) (e : Dfn), l.foldl better none = some e → ∀ d ∈ l, rankF e ≤ rankF d := by
 intro l
 induction l using snoc_rec with
 | nil => intro e h; cases h
 | snoc L c ih =>
   intro e h x hx
   rw [List.foldl_append, List.foldl_cons, List.foldl_nil] at h
   cases ho : L.foldl better none with
   | none =>
     rw [ho] at h
     obtain rfl := Option.some.inj h
     have hnil : L = [] := by
       rw [foldl_better] at ho
       cases L with
       | nil => rfl
       | cons b l => simp at ho
     subst hnil
     simp at hx; subst hx; exact Int.le_refl _
   | some e0 =>
     rw [ho] at h
     unfold better at h
     dsimp only at h
     split at h
     · rename_i hlt
       obtain rfl := Option.some.inj h
       rcases List.mem_append.1 hx with hx | hx
       · have := ih e0 ho x hx; omega
       · rw [List.mem_singleton.1 hx]; exact Int.le_refl _
     · rename_i hlt
       obtain rfl := Option.some.inj h
       rcases List.mem_append.1 hx with hx | hx
       · exact ih _ ho x hx
       · rw [List.mem_singleton.1 hx]; omega
theorem foldl_first {l : List Dfn} (hl : l.Pairwise fun d e => ltC d.p e.p) {e : Dfn} (h : l.foldl better none = some e) : ∀ d ∈ l, rankF d = rankF e → d = e ∨ ltC e.p d.p := by
 induction l using snoc_rec generalizing e with
 | nil => cases h
 | snoc l a ih =>
   rw [List.foldl_append, List.foldl_cons, List.foldl_nil] at h
   rw [List.pairwise_append] at hl
   intro d hd hr
   cases ho : l.foldl better none with
   | none =>
     rw [ho] at h
     obtain rfl := Option.some.inj h
     have hnil : l = [] := by
       rw [foldl_better] at ho
       cases l with
       | nil => rfl
       | cons b l => simp at ho
     subst hnil
     simp at hd; exact .inl hd
   | some e0 =>
     rw [ho] at h
     unfold better at h
     dsimp only at h
     split at h
     · rename_i hlt
       obtain rfl := Option.some.inj h
       rcases List.mem_append.1 hd with hd | hd
       · exfalso
         have : rankF e0 ≤ rankF d := by
           exact foldl_rank l e0 ho d hd
         omega
       · exact .inl (List.mem_singleton.1 hd)
     · rename_i hlt
       obtain rfl := Option.some.inj h
       rcases List.mem_append.1 hd with hd | hd
       · exact ih hl.1 ho d hd hr
       · rw [List.mem_singleton.1 hd]
         have hm : e0 ∈ l := by
           rcases foldl_better_mem _ _ _ ho with h | h
           · exact h
           · cases h
         exact .inr (hl.2.2 e0 hm a (List.mem_singleton.2 rfl))
section
variable {kp : List (Sl Bool)} {L : List Dfn}
theorem allK_asc (hA : Asc L) (k : RKey) : (allK kp L k).Pairwise fun d e => ltC d.p e.p := List.Pairwise.filter _ hA
theorem chosenK_first (hA : Asc L) {k : RKey} {e d : Dfn} (h : chosenK kp L k = some e) (hd : d ∈ allK kp L k) (hr : rankF d = rankF e) : d = e ∨ ltC e.p d.p := foldl_first (allK_asc hA k) h d hd hr
theorem twiceK_one (h : twiceK kp L = none) (hA : Asc L) {k : RKey} {d e : Dfn} (hd : d ∈ allK kp L k) (he : e ∈ allK kp L k) (h1 : d.s.bind = 1) (h2 : e.s.bind = 1) : d = e := by
 induction L using snoc_rec with
 | nil => simp [allK] at hd
 | snoc L a ih =>
   have hA0 : Asc L := (List.pairwise_append.1 hA).1
   rw [twiceK_snoc, Option.or_eq_none_iff] at h
   rw [allK_snoc] at hd he
   have hn : ¬ (defB kp a = true ∧ a.s.bind = 1 ∧ ∃ e ∈ allK kp L a.key, e.s.bind = 1) := fun hh => by rw [if_pos hh] at h; cases h.2
   by_cases hc : defB kp a = true ∧ a.key = k
   · rw [if_pos hc] at hd he
     rcases List.mem_append.1 hd with hd | hd <;> rcases List.mem_append.1 he with he | he
     · exact ih h.1 hA0 hd he
     · rw [List.mem_singleton.1 he] at h2; exact (hn ⟨hc.1, h2, d, by rw [hc.2]; exact hd, h1⟩).elim
     · rw [List.mem_singleton.1 hd] at h1; exact (hn ⟨hc.1, h1, e, by rw [hc.2]; exact he, h2⟩).elim
     · rw [List.mem_singleton.1 hd, List.mem_singleton.1 he]
   · rw [if_neg hc, List.append_nil] at hd he; exact ih h.1 hA0 hd he
variable {sv : ByteArray → ByteArray → Bool} {lf : ByteArray → ByteArray → Int} {lib : Bool}
structure RB (kp : List (Sl Bool)) (L : List Dfn) (sv : ByteArray → ByteArray → Bool) (lf : ByteArray → ByteArray → Int) (lib : Bool) : Prop where
 asc : Asc L
 t1 : twiceK kp L = none
 t2 : twice2 kp L = none
 all : ∀ d ∈ L, choiceR kp L sv lf lib d ≠ none
theorem RB.of (hA : Asc L) (h : bindE kp L sv lf lib = none) : RB kp L sv lf lib := by
 unfold bindE at h
 cases h1 : twiceK kp L with
 | some p => rw [h1] at h; cases h
 | none =>
   rw [h1] at h
   cases h2 : twice2 kp L with
   | some p => rw [h2] at h; cases h
   | none =>
     rw [h2] at h
     refine ⟨hA, h1, h2, fun d hd hn => ?_⟩
     unfold missR at h
     rw [Option.map_eq_none_iff, Option.map_eq_none_iff, List.find?_eq_none] at h
     exact h d hd (decide_eq_true hn)
theorem RB.to (h : RB kp L sv lf lib) : bindE kp L sv lf lib = none := by
 unfold bindE missR
 rw [h.t1, h.t2]
 dsimp only
 rw [Option.map_eq_none_iff, Option.map_eq_none_iff, List.find?_eq_none]
 intro d hd hn
 exact h.all d hd (of_decide_eq_true hn)
def chD (kp : List (Sl Bool)) (L : List Dfn) (sv : ByteArray → ByteArray → Bool) (lf : ByteArray → ByteArray → Int) (lib : Bool) (d : Dfn) : GChoice := (choiceR kp L sv lf lib d).getD noneC
theorem RB.some (h : RB kp L sv lf lib) {d : Dfn} (hd : d ∈ L) : choiceR kp L sv lf lib d = Option.some (chD kp L sv lf lib d) := by
 unfold chD
 cases hc : choiceR kp L sv lf lib d with
 | none => exact (h.all d hd hc).elim
 | some x => rfl
def defC (kp : List (Sl Bool)) (L : List Dfn) (lib : Bool) (s : GSymbol) (e : Dfn) : GChoice := ⟨if e.s.bind = 3 then 3 else 2, e.p.obj, e.p.sym, 0, whyR kp L s e, lib && decide (visR L s.name = 0)⟩
theorem chD_find {d e : Dfn} (h0 : d.s.bind ≠ 0) (h : findR kp L sv d.s.name d.s.version = Option.some e) : chD kp L sv lf lib d = defC kp L lib d.s e := by
 unfold chD choiceR; rw [if_neg h0, h]; rfl
theorem chD_def {d : Dfn} (h : (chD kp L sv lf lib d).kind = 2 ∨ (chD kp L sv lf lib d).kind = 3) : d.s.bind ≠ 0 ∧ ∃ e, findR kp L sv d.s.name d.s.version = Option.some e ∧ chD kp L sv lf lib d = defC kp L lib d.s e := by
 unfold chD choiceR at h
 by_cases h0 : d.s.bind = 0
 · rw [if_pos h0] at h
   simp only [Option.getD_some] at h
   split at h
   · simp at h
   · simp [noneC] at h
 · refine ⟨h0, ?_⟩
   rw [if_neg h0] at h
   cases hf : findR kp L sv d.s.name d.s.version with
   | some e => exact ⟨e, rfl, chD_find h0 hf⟩
   | none =>
     rw [hf] at h
     dsimp only at h
     split at h
     · simp at h
     · split at h
       · simp [noneC] at h
       · split at h <;> simp [noneC] at h
theorem chD_same {d t : Dfn} (h0 : d.s.bind ≠ 0) (h1 : t.s.bind ≠ 0) (h2 : t.s.name = d.s.name) (h3 : t.s.version = d.s.version) {e : Dfn} (h : findR kp L sv d.s.name d.s.version = Option.some e) : chD kp L sv lf lib t = chD kp L sv lf lib d := by
 rw [chD_find h0 h, chD_find h1 (by rw [h2, h3]; exact h)]
 unfold defC whyR; rw [h2, h3]
theorem RB.agree (h : RB kp L sv lf lib) {d : Dfn} (hk : (chD kp L sv lf lib d).kind = 2 ∨ (chD kp L sv lf lib d).kind = 3) :
   d.s.bind ≠ 0 ∧ ∃ e ∈ L, chD kp L sv lf lib d = defC kp L lib d.s e ∧ e.s.name = d.s.name ∧ isCh kp L e = true ∧ chD kp L sv lf lib e = defC kp L lib e.s e ∧ defB kp e = true ∧
     (e.s.version = d.s.version ∨ d.s.version = .empty ∧ e.s.main = true ∨ d.s.version ≠ .empty ∧ sv e.s.version d.s.version = true) ∧
     ∀ t ∈ L, t.s.bind ≠ 0 → t.s.name = d.s.name → t.s.version = d.s.version → chD kp L sv lf lib t = chD kp L sv lf lib d := by
 obtain ⟨h0, e, he, hx⟩ := chD_def hk
 obtain ⟨m1, m2, m3, m4⟩ := findR_spec h.asc he
 have hde := isCh_def h.asc m1 m2
 have hb : e.s.bind ≠ 0 := by intro hb; unfold defB at hde; simp [hb] at hde
 exact ⟨h0, e, m1, hx, m3, m2, chD_find hb (findR_self h.asc h.t2 m1 m2), hde, m4, fun t _ h1 h2 h3 => chD_same h0 h1 h2 h3 he⟩
theorem RB.chosen (h : RB kp L sv lf lib) {d : Dfn} (hd : d ∈ L) (hb : defB kp d = true) : ∃ e ∈ L, chosenK kp L d.key = Option.some e ∧ e.key = d.key ∧ chD kp L sv lf lib d = defC kp L lib d.s e := by
 cases hc : chosenK kp L d.key with
 | none =>
   rw [chosenK_none] at hc
   have : d ∈ allK kp L d.key := mem_allK.2 ⟨hd, hb, rfl⟩
   rw [hc] at this; cases this
 | some e =>
   obtain ⟨m1, _, m3⟩ := chosenK_mem hc
   have h0 : d.s.bind ≠ 0 := by intro h0; unfold defB at hb; simp [h0] at hb
   have hf := findR_self (sv := sv) h.asc h.t2 m1 (chosen_is h.asc hc)
   rw [show e.s.name = d.s.name from congrArg Prod.fst m3, show e.s.version = d.s.version from congrArg Prod.snd m3] at hf
   exact ⟨e, m1, rfl, m3, chD_find h0 hf⟩
theorem RB.strong (h : RB kp L sv lf lib) {d : Dfn} (hd : d ∈ L) (hb : defB kp d = true) (h1 : d.s.bind = 1) : chD kp L sv lf lib d = defC kp L lib d.s d := by
 obtain ⟨e, m1, m2, m3, m4⟩ := h.chosen hd hb
 have hda : d ∈ allK kp L d.key := mem_allK.2 ⟨hd, hb, rfl⟩
 have hr := chosenK_rank m2 d hda
 have he1 : e.s.bind = 1 := by
   unfold rankF at hr
   rw [if_pos h1] at hr
   split at hr
   · assumption
   · split at hr <;> omega
 have := twiceK_one h.t1 h.asc hda (mem_allK.2 ⟨m1, (chosenK_mem m2).2.1, m3⟩) h1 he1
 rw [← this] at m4; exact m4
theorem RB.weak (h : RB kp L sv lf lib) {d : Dfn} (hd : d ∈ L) (hb : defB kp d = true) : ∃ e ∈ L, chD kp L sv lf lib d = defC kp L lib d.s e ∧ e.s.version = d.s.version ∧ (d.s.bind = 3 → e.s.bind ≠ 2) ∧ (e.s.bind = d.s.bind → ¬ ltC d.p e.p) := by
 obtain ⟨e, m1, m2, m3, m4⟩ := h.chosen hd hb
 have hda : d ∈ allK kp L d.key := mem_allK.2 ⟨hd, hb, rfl⟩
 have hr := chosenK_rank m2 d hda
 refine ⟨e, m1, m4, congrArg Prod.snd m3, fun h3 h2 => ?_, fun hbb => ?_⟩
 · unfold rankF at hr
   rw [if_neg (by omega), if_neg (by omega), if_neg (by omega), if_pos h3] at hr
   omega
 · rcases chosenK_first h.asc m2 hda (by unfold rankF; rw [hbb]) with rfl | hlt
   · exact ltC_irr _
   · exact fun h2 => ltC_irr _ (ltC_trans h2 hlt)
end
end Go.Proofs.YtgmiihmahaahiaaGreatDoor

namespace Go.Proofs.YtgmiihmahaahiaaGreatDoor
open Go.RowKit Go.Lp Go.Sy
section
variable {kp : List (Sl Bool)} {L : List Dfn} {sv : ByteArray → ByteArray → Bool} {lf lf2 : ByteArray → ByteArray → Int} {lib : Bool} {N : Int}
theorem bindE_cases : (∃ p, bindE kp L sv lf lib = some (4, p) ∧ ∀ lf2 : ByteArray → ByteArray → Int, bindE kp L sv lf2 lib = some (4, p)) ∨ (twiceK kp L = none ∧ twice2 kp L = none ∧ ((∃ p, bindE kp L sv lf lib = some (3, p)) ∨ bindE kp L sv lf lib = none)) := by
 unfold bindE
 cases h1 : twiceK kp L with
 | some p => exact .inl ⟨p, rfl, fun _ => rfl⟩
 | none =>
   cases h2 : twice2 kp L with
   | some p => exact .inl ⟨p, rfl, fun _ => rfl⟩
   | none =>
     refine .inr ⟨rfl, rfl, ?_⟩
     cases h3 : missR kp L sv lf lib with
     | some p => exact .inl ⟨p, rfl⟩
     | none => exact .inr rfl
end
def rpD (p0 : GCulprit) (s0 : GSymbol) (d : Dfn) : Dfn := if d.p = p0 then ⟨d.p, s0⟩ else d
theorem rpD_p (p0 : GCulprit) (s0 : GSymbol) (d : Dfn) : (rpD p0 s0 d).p = d.p := by unfold rpD; split <;> rfl
section
variable {kp : List (Sl Bool)} {L : List Dfn} {sv : ByteArray → ByteArray → Bool} {lf : ByteArray → ByteArray → Int} {lib : Bool} {d0 : Dfn} {s0 : GSymbol}
structure Wk (kp : List (Sl Bool)) (L : List Dfn) (d0 : Dfn) (s0 : GSymbol) : Prop where
 mem : d0 ∈ L
 weak : d0.s.bind = 2
 name : s0.name = d0.s.name
 version : s0.version = d0.s.version
 bind : s0.bind = 2
 vis : s0.vis = d0.s.vis
 sec : s0.sec = -1
 no : isCh kp L d0 = false
theorem Wk.same (h : Wk kp L d0 s0) {d : Dfn} (hA : Asc L) (hd : d ∈ L) (hp : d.p = d0.p) : d = d0 := asc_inj hA hd h.mem hp
theorem Wk.keep {d : Dfn} (hp : d.p ≠ d0.p) : rpD d0.p s0 d = d := if_neg hp
theorem Wk.at0 : rpD d0.p s0 d0 = ⟨d0.p, s0⟩ := if_pos rfl
theorem Wk.key (h : Wk kp L d0 s0) (hA : Asc L) {d : Dfn} (hd : d ∈ L) : (rpD d0.p s0 d).s.name = d.s.name ∧ (rpD d0.p s0 d).s.version = d.s.version ∧ (rpD d0.p s0 d).s.bind = d.s.bind ∧ (rpD d0.p s0 d).s.vis = d.s.vis := by
 by_cases hp : d.p = d0.p
 · obtain rfl := h.same hA hd hp
   rw [Wk.at0]; exact ⟨h.name, h.version, h.bind.trans h.weak.symm, h.vis⟩
 · rw [Wk.keep hp]; exact ⟨rfl, rfl, rfl, rfl⟩
theorem Wk.notdef (h : Wk kp L d0 s0) : defB kp (⟨d0.p, s0⟩ : Dfn) = false := by unfold defB; simp [h.bind, h.sec]
theorem Wk.asc (hA : Asc L) : Asc (L.map (rpD d0.p s0)) := by
 unfold Asc; rw [List.pairwise_map]
 refine hA.imp fun {a b} hab => ?_
 rw [rpD_p, rpD_p]; exact hab
theorem Wk.all_eq (h : Wk kp L d0 s0) (hA : Asc L) (k : RKey) : allK kp (L.map (rpD d0.p s0)) k = (allK kp L k).filter fun d => decide (d.p ≠ d0.p) := by
 unfold allK
 have key : ∀ l : List Dfn, (∀ d ∈ l, d ∈ L) → (l.map (rpD d0.p s0)).filter (fun d => defB kp d && decide (d.key = k)) = (l.filter fun d => defB kp d && decide (d.key = k)).filter fun d => decide (d.p ≠ d0.p) := by
   intro l
   induction l with
   | nil => intro _; rfl
   | cons d l ih =>
     intro hl
     have ih := ih fun d hd => hl d (List.mem_cons_of_mem _ hd)
     rw [List.map_cons]
     by_cases hp : d.p = d0.p
     · obtain rfl := h.same hA (hl d List.mem_cons_self) hp
       rw [Wk.at0, List.filter_cons_of_neg (p := fun d : Dfn => defB kp d && decide (d.key = k)) (by rw [h.notdef]; simp), ih]
       by_cases hc : (defB kp d && decide (d.key = k)) = true
       · rw [List.filter_cons_of_pos (p := fun d : Dfn => defB kp d && decide (d.key = k)) hc, List.filter_cons_of_neg (by simp)]
       · rw [List.filter_cons_of_neg (p := fun d : Dfn => defB kp d && decide (d.key = k)) hc]
     · rw [Wk.keep hp]
       by_cases hc : (defB kp d && decide (d.key = k)) = true
       · rw [List.filter_cons_of_pos (p := fun d : Dfn => defB kp d && decide (d.key = k)) hc, List.filter_cons_of_pos (p := fun d : Dfn => defB kp d && decide (d.key = k)) hc, List.filter_cons_of_pos (by simpa using hp), ih]
       · rw [List.filter_cons_of_neg (p := fun d : Dfn => defB kp d && decide (d.key = k)) hc, List.filter_cons_of_neg (p := fun d : Dfn => defB kp d && decide (d.key = k)) hc, ih]
 exact key L fun _ h => h
theorem find?_filter' {α : Type} {f g : α → Bool} : ∀ {l : List α}, (∀ x ∈ l, f x = true → g x = true) → (l.filter g).find? f = l.find? f
 | [], _ => rfl
 | a :: l, h => by
   have ih := find?_filter' (l := l) fun x hx => h x (List.mem_cons_of_mem _ hx)
   by_cases hf : f a = true
   · rw [List.filter_cons_of_pos (h a List.mem_cons_self hf), List.find?_cons_of_pos hf, List.find?_cons_of_pos hf]
   · rw [List.find?_cons_of_neg hf]
     by_cases hg : g a = true
     · rw [List.filter_cons_of_pos hg, List.find?_cons_of_neg hf, ih]
     · rw [List.filter_cons_of_neg hg, ih]
theorem Wk.chosen (h : Wk kp L d0 s0) (hA : Asc L) (k : RKey) : chosenK kp (L.map (rpD d0.p s0)) k = chosenK kp L k := by
 have hno := h.no
 unfold chosenK
 rw [h.all_eq hA]
 by_cases hk : d0 ∈ allK kp L k
 · have hk0 : d0.key = k := (mem_allK.1 hk).2.2
   have hn : chosenK kp L k ≠ some d0 := fun hc => by
     rw [← hk0] at hc
     rw [(isCh_iff hA h.mem).2 hc] at hno; cases hno
   unfold chosenK at hn
   have hm : ∀ d ∈ allK kp L k, d.p = d0.p → d = d0 := fun d hd hp => h.same hA (mem_allK.1 hd).1 hp
   generalize allK kp L k = l at hn hm hk
   rw [foldl_better, foldl_better]
   rw [foldl_better] at hn
   rw [find?_filter' fun x hx hf => ?_, find?_filter' fun x hx hf => ?_]
   · cases h1 : l.find? fun d => decide (d.s.bind = 1) with
     | some e => rfl
     | none =>
       cases h3 : l.find? fun d => decide (d.s.bind = 3) with
       | some e => rfl
       | none =>
         rw [h1, h3] at hn
         simp only [Option.none_or] at hn ⊢
         cases l with
         | nil => rfl
         | cons a l =>
           rw [List.head?_cons] at hn
           rw [List.filter_cons_of_pos]
           · rfl
           · rw [decide_eq_true_eq]; intro hp; exact hn (by rw [hm a List.mem_cons_self hp])
   · rw [decide_eq_true_eq] at hf ⊢; intro hp; rw [hm x hx hp, h.weak] at hf; omega
   · rw [decide_eq_true_eq] at hf ⊢; intro hp; rw [hm x hx hp, h.weak] at hf; omega
 · rw [List.filter_eq_self.2]
   intro d hd
   rw [decide_eq_true_eq]
   intro hp
   rw [h.same hA (mem_allK.1 hd).1 hp] at hd; exact hk hd
theorem Wk.ch_eq (h : Wk kp L d0 s0) (hA : Asc L) {d : Dfn} (hd : d ∈ L) : isCh kp (L.map (rpD d0.p s0)) (rpD d0.p s0 d) = isCh kp L d := by
 unfold isCh
 obtain ⟨h1, h2, _⟩ := h.key hA hd
 rw [h.chosen hA, rpD_p, show (rpD d0.p s0 d).key = d.key from Prod.ext h1 h2]
theorem Wk.main_eq (h : Wk kp L d0 s0) (hA : Asc L) {d : Dfn} (hd : d ∈ L) : isMain kp (L.map (rpD d0.p s0)) (rpD d0.p s0 d) = isMain kp L d := by
 have hno := h.no
 unfold isMain
 rw [h.ch_eq hA hd]
 by_cases hp : d.p = d0.p
 · obtain rfl := h.same hA hd hp
   rw [hno]; rfl
 · rw [Wk.keep hp]
theorem find?_map_eq {f g : Dfn → Bool} {r : Dfn → Dfn} : ∀ {l : List Dfn}, (∀ d ∈ l, g (r d) = f d) → (l.map r).find? g = (l.find? f).map r
 | [], _ => rfl
 | a :: l, h => by
   have ih := find?_map_eq (l := l) fun d hd => h d (List.mem_cons_of_mem _ hd)
   rw [List.map_cons]
   by_cases hf : f a = true
   · rw [List.find?_cons_of_pos hf, List.find?_cons_of_pos (by rw [h a List.mem_cons_self]; exact hf)]; rfl
   · rw [List.find?_cons_of_neg hf, List.find?_cons_of_neg (by rw [h a List.mem_cons_self]; exact hf), ih]
theorem Wk.find (h : Wk kp L d0 s0) (hA : Asc L) (n v : ByteArray) : findR kp (L.map (rpD d0.p s0)) sv n v = findR kp L sv n v := by
 have hno := h.no
 have back : ∀ o : Option Dfn, (∀ e, o = some e → isCh kp L e = true) → o.map (rpD d0.p s0) = o := by
   intro o ho
   cases o with
   | none => rfl
   | some e =>
     rw [Option.map_some, Wk.keep]
     intro hp
     have he := ho e rfl
     have : isCh kp L d0 = true := by
       unfold isCh at he ⊢
       rw [decide_eq_true_eq, Option.map_eq_some_iff] at he
       obtain ⟨e2, h1, h2⟩ := he
       have hm := chosenK_mem h1
       have h3 := h.same hA hm.1 (h2.trans hp)
       subst h3
       rw [decide_eq_true_eq, hm.2.2, h1]; rfl
     rw [hno] at this; cases this
 unfold findR mainL
 split
 · rw [filter_head, filter_head, find?_map_eq (f := fun d => decide (d.s.name = n) && isMain kp L d)]
   · refine back _ fun e he => ?_
     have h1 := List.find?_some he
     unfold isMain at h1
     simp only [Bool.and_eq_true] at h1
     exact h1.2.1
   · intro d hd
     rw [h.main_eq hA hd, (h.key hA hd).1]
 · rw [h.chosen hA, find?_map_eq (f := fun d => decide (d.s.name = n) && (isCh kp L d && sv d.s.version v))]
   · rw [back _ fun e he => ?_]
     have h1 := List.find?_some he
     simp only [Bool.and_eq_true] at h1
     exact h1.2.1
   · intro d hd
     rw [h.ch_eq hA hd, (h.key hA hd).1, (h.key hA hd).2.1]
theorem Wk.vis_eq (h : Wk kp L d0 s0) (hA : Asc L) (n : ByteArray) : visR (L.map (rpD d0.p s0)) n = visR L n := by
 unfold visR
 rw [List.foldl_map]
 have key : ∀ (l : List Dfn) (z : Int), (∀ d ∈ l, d ∈ L) → l.foldl (fun v d => if (rpD d0.p s0 d).s.name = n ∧ (rpD d0.p s0 d).s.bind ≠ 0 then max v (rpD d0.p s0 d).s.vis else v) z = l.foldl (fun v d => if d.s.name = n ∧ d.s.bind ≠ 0 then max v d.s.vis else v) z := by
   intro l
   induction l with
   | nil => intro z _; rfl
   | cons d l ih =>
     intro z hl
     obtain ⟨h1, _, h2, h3⟩ := h.key hA (hl d List.mem_cons_self)
     rw [List.foldl_cons, List.foldl_cons, h1, h2, h3, ih _ fun d hd => hl d (List.mem_cons_of_mem _ hd)]
 exact key L 0 fun _ h => h
theorem twiceK_mono (h : Wk kp L d0 s0) (hA : Asc L) (ht : twiceK kp L = none) : twiceK kp (L.map (rpD d0.p s0)) = none := by
 -- each prefix has no more global ones
 have key : ∀ l : List Dfn, (∀ d ∈ l, d ∈ L) → twiceK kp l = none → twiceK kp (l.map (rpD d0.p s0)) = none := by
   intro l
   induction l using snoc_rec with
   | nil => intro _ _; rfl
   | snoc l d ih =>
     intro hl ht
     rw [twiceK_snoc, Option.or_eq_none_iff] at ht
     have hl' : ∀ d ∈ l, d ∈ L := fun d hd => hl d (List.mem_append_left _ hd)
     have hd := hl d (by simp)
     rw [List.map_append, List.map_singleton, twiceK_snoc, Option.or_eq_none_iff]
     refine ⟨ih hl' ht.1, if_neg fun ⟨h1, h2, e, he, h3⟩ => ?_⟩
     have hp : d.p ≠ d0.p := fun hp => by
       rw [h.same hA hd hp, Wk.at0, h.notdef] at h1; cases h1
     rw [Wk.keep hp] at h1 h2 he
     obtain ⟨m1, m2, m3⟩ := mem_allK.1 he
     obtain ⟨e2, m4, rfl⟩ := List.mem_map.1 m1
     have hp2 : e2.p ≠ d0.p := fun hp => by
       rw [h.same hA (hl' e2 m4) hp, Wk.at0, h.notdef] at m2; cases m2
     rw [Wk.keep hp2] at m2 m3 h3
     have := ht.2
     rw [if_pos ⟨h1, h2, e2, mem_allK.2 ⟨m4, m2, m3⟩, h3⟩] at this; cases this
 exact key L (fun _ h => h) ht
theorem Wk.t2 (h : Wk kp L d0 s0) (hA : Asc L) : twice2 kp (L.map (rpD d0.p s0)) = twice2 kp L := by
 unfold twice2
 rw [find?_map_eq (f := fun d => isMain kp L d && L.any fun e => isMain kp L e && (decide (e.s.name = d.s.name) && decide (ltC e.p d.p)))]
 · rw [Option.map_map]; congr 1; funext d; exact rpD_p _ _ _
 · intro d hd
   rw [h.main_eq hA hd, (h.key hA hd).1, rpD_p]
   congr 1
   rw [List.any_map]
   rw [Bool.eq_iff_iff, List.any_eq_true, List.any_eq_true]
   constructor
   · rintro ⟨e, he, hh⟩
     refine ⟨e, he, ?_⟩
     simp only [Function.comp_apply] at hh
     rw [h.main_eq hA he, (h.key hA he).1, rpD_p] at hh; exact hh
   · rintro ⟨e, he, hh⟩
     refine ⟨e, he, ?_⟩
     simp only [Function.comp_apply]
     rw [h.main_eq hA he, (h.key hA he).1, rpD_p]; exact hh
def noWhy (x : GChoice) : GChoice := { x with why := 0 }
theorem Wk.choice (h : Wk kp L d0 s0) (hA : Asc L) {d : Dfn} (hd : d ∈ L) (h0 : ∃ e, findR kp L sv d0.s.name d0.s.version = some e) :
   (choiceR kp (L.map (rpD d0.p s0)) sv lf lib (rpD d0.p s0 d)).map noWhy = (choiceR kp L sv lf lib d).map noWhy := by
 obtain ⟨h1, h2, h3, h4⟩ := h.key hA hd
 unfold choiceR
 rw [h1, h2, h3, rpD_p, h.find hA, h.vis_eq hA]
 by_cases hb : d.s.bind = 0
 · rw [if_pos hb, if_pos hb]
   have hp : d.p ≠ d0.p := fun hp => by rw [h.same hA hd hp, h.weak] at hb; omega
   rw [Wk.keep hp]
 · rw [if_neg hb, if_neg hb]
   cases hf : findR kp L sv d.s.name d.s.version with
   | some e => rfl
   | none =>
     have hp : d.p ≠ d0.p := fun hp => by
       obtain ⟨e, he⟩ := h0
       rw [h.same hA hd hp, he] at hf; cases hf
     rw [Wk.keep hp]
theorem Wk.rb (h : Wk kp L d0 s0) (hb : RB kp L sv lf lib) (h0 : ∃ e, findR kp L sv d0.s.name d0.s.version = some e) : RB kp (L.map (rpD d0.p s0)) sv lf lib :=
 ⟨Wk.asc hb.asc, twiceK_mono h hb.asc hb.t1, by rw [h.t2 hb.asc]; exact hb.t2, fun d hd hn => by
   obtain ⟨d1, hd1, rfl⟩ := List.mem_map.1 hd
   have := h.choice (lf := lf) (lib := lib) hb.asc hd1 h0
   rw [hn, Option.map_none, eq_comm, Option.map_eq_none_iff] at this
   exact hb.all d1 hd1 this⟩
theorem Wk.chD_eq (h : Wk kp L d0 s0) (hb : RB kp L sv lf lib) {d : Dfn} (hd : d ∈ L) (h0 : ∃ e, findR kp L sv d0.s.name d0.s.version = some e) :
   noWhy (chD kp (L.map (rpD d0.p s0)) sv lf lib (rpD d0.p s0 d)) = noWhy (chD kp L sv lf lib d) := by
 have := h.choice (lf := lf) (lib := lib) hb.asc hd h0
 rw [(h.rb hb h0).some (List.mem_map_of_mem hd), hb.some hd, Option.map_some, Option.map_some] at this
 exact Option.some.inj this
end
end Go.Proofs.YtgmiihmahaahiaaGreatDoor

namespace Go.Sy
open Go.RowKit Go.Lp
section
variable {α : Type} {enc : α → Value}
variable {P : Program} {n : Fr} {env : Env} {ps : List Per} {hp : List Res} {c : Code} {Q : Exit → Sta → Prop} {vo : Value} {T E : TypeId} {l : List (List α)}

end
end Go.Sy

namespace Go.Sy
open Go.RowKit Go.Lp
section
variable {P : Program} {n : Fr} {s : Sta} {d : Option Tmp} {ty : TypeId} {pos : String} {af : Array Edge} {gd : Option (Nat × Bool)} {x y1 y2 y3 : Operand}
end
end Go.Sy

namespace Go.Sy
open Go.RowKit Go.Lp
def Indep (R : Res) : Prop := ∀ w S S' F, R.holds w S F → R.holds w S' F
theorem indep_own {v : Value} {E : TypeId} {sz : Nat} {rows : List (List D)} (hr : ∀ r ∈ rows, ∀ d ∈ r, ∃ u, d = D.v u) : Indep (OwnS v E sz rows) := fun w S S' F h => by
 rcases h with ⟨h1, h2, h3⟩ | ⟨b, cap, h1, ⟨cs, sp, hb, ha, hl, hle, hc⟩, hF⟩
 · exact .inl ⟨h1, h2, h3⟩
 · refine .inr ⟨b, cap, h1, ⟨cs, sp, hb, ⟨ha.len, ha.row, ha.one, fun i j r d h1 h2 => ?_⟩, hl, hle, hc⟩, hF⟩
   obtain ⟨u, hu, hd⟩ := ha.rep i j r d h1 h2
   obtain ⟨u', rfl⟩ := hr r (List.mem_of_getElem? h1) d (List.mem_of_getElem? h2)
   refine ⟨u, hu, ?_⟩
   cases hd; exact .v _
section
variable {P : Program} {n : Fr} {s : Sta} {d : Option Tmp} {ty : TypeId} {pos : String} {af : Array Edge} {gd : Option (Nat × Bool)} {x y1 y2 y3 : Operand}
end
end Go.Sy

namespace Go.Sy
open Go.RowKit Go.Lp
theorem st_lend {w : World} {S : Blks} {fp : Nat → Blks} {ps : List Per} {p : Per} {L : List Res} (hst : St w S fp ps L) (hp : p.holds w (fun b => S b ∨ tot fp L.length b)) :
   St w (fun b => S b ∨ tot fp L.length b) (fun _ _ => False) (p :: ps) [] :=
 ⟨fun q hq => by
     rcases List.mem_cons.1 hq with rfl | hq
     · exact hp
     · exact q.mono (hst.per q hq) (fun _ _ => rfl) (fun _ h => .inl h), fun i R hi => by simp at hi, fun i hi => by simp at hi, fun i j hi => by simp at hi, fun b hb => hb.elim (hst.slt b) fun ⟨i, hi, h⟩ => (hst.lt i hi b h).1⟩
theorem Con.borrowL {P : Program} {f : FuncId} {args : List Value} {ps : List Per} {p : Per} {R : Value → List Per → List Res → Prop} (h : Con P f args (p :: ps) [] R) (L : List Res)
   (hB : ∀ (w : World) (S : Blks) (fp : Nat → Blks), (∀ (i : Nat) (A : Res), L[i]? = some A → A.holds w S (fp i)) → p.holds w (fun b => S b ∨ tot fp L.length b)) (hR : ∀ v ps' hp', R v ps' hp' → ∀ r ∈ hp', Indep r) :
   Con P f args ps L (fun v ps' hp' => ps' = [] ∧ ∃ ps2 hp2, R v ps2 hp2 ∧ hp' = L ++ hp2) := fun w S fp hst => by
 have h2 := st_lend hst (hB w S fp hst.res)
 have h0 : ∀ b, ¬ tot (fun _ _ => False) ([] : List Res).length b := fun b ⟨j, hj, _⟩ => by simp at hj
 refine (h w _ _ h2).mono fun e w' ⟨v, ps', hp', S', fp', he, hR', hst', hE, hb⟩ => ?_
 have hFlt : ∀ b, tot fp L.length b → b < w.heap.size ∧ ¬ S b := fun b ⟨i, hi, h⟩ => hst.lt i hi b h
 have hsame : ∀ b, b < w.heap.size → w'.heap[b]? = w.heap[b]? := fun b hb' => hE.block b hb' (h0 b)
 have hfp : ∀ i, i < L.length → ∀ b, fp i b → tot fp L.length b := fun i hi b hb => ⟨i, hi, hb⟩
 refine ⟨v, [], L ++ hp', fun b => S' b ∧ ¬ tot fp L.length b, fun i => if i < L.length then fp i else fp' (i - L.length), he, ⟨rfl, ps', hp', hR', rfl⟩, ⟨fun q hq => (by cases hq), fun i A hi => ?_, fun i hi b hbi => ?_, fun i j hi hj hne b hbi hbj => ?_, fun b hb' => hst'.slt b hb'.1⟩, ⟨hE.os, hE.tape, hE.output, hE.size, hE.drawn, fun b hb' _ => hsame b hb', fun b hb' => ⟨hE.more b (.inl hb'), fun hf => (hFlt b hf).2 hb'⟩, fun b hb' => ?_⟩, fun b ⟨i, hi, hbi⟩ => ?_⟩
 · by_cases hil : i < L.length
   · rw [if_pos hil]
     rw [List.getElem?_append_left hil] at hi
     exact A.mono (hst.res i A hi) (fun b hb' => hsame b (hFlt b (hfp i hil b hb')).1) (fun b hb' => hsame b (hst.slt b hb')) (fun b hb' => ⟨hE.more b (.inl hb'), fun hf => (hFlt b hf).2 hb'⟩)
   · rw [if_neg hil]
     rw [List.getElem?_append_right (by omega)] at hi
     exact hR v ps' hp' hR' A (List.mem_of_getElem? hi) _ _ _ _ (hst'.res _ A hi)
 · by_cases hil : i < L.length
   · rw [if_pos hil] at hbi
     exact ⟨Nat.lt_of_lt_of_le (hFlt b (hfp i hil b hbi)).1 hE.size, fun h => h.2 (hfp i hil b hbi)⟩
   · rw [if_neg hil] at hbi
     rw [List.length_append] at hi
     have := hst'.lt (i - L.length) (by omega) b hbi
     exact ⟨this.1, fun h => this.2 h.1⟩
 · rw [List.length_append] at hi hj
   by_cases hil : i < L.length
   · rw [if_pos hil] at hbi
     by_cases hjl : j < L.length
     · rw [if_pos hjl] at hbj; exact hst.dj i j hil hjl hne b hbi hbj
     · rw [if_neg hjl] at hbj; exact (hst'.lt (j - L.length) (by omega) b hbj).2 (hE.more b (.inr (hfp i hil b hbi)))
   · rw [if_neg hil] at hbi
     by_cases hjl : j < L.length
     · rw [if_pos hjl] at hbj; exact (hst'.lt (i - L.length) (by omega) b hbi).2 (hE.more b (.inr (hfp j hjl b hbj)))
     · rw [if_neg hjl] at hbj; exact hst'.dj (i - L.length) (j - L.length) (by omega) (by omega) (by omega) b hbi hbj
 · rcases hE.new b hb'.1 with (h | h) | h | h
   · exact .inl h
   · exact (hb'.2 h).elim
   · exact (h0 b h).elim
   · exact .inr (.inr h)
 · dsimp only at hbi
   by_cases hil : i < L.length
   · rw [if_pos hil] at hbi; exact .inl ⟨i, hil, hbi⟩
   · rw [if_neg hil] at hbi
     rw [List.length_append] at hi
     exact (hb b ⟨i - L.length, by omega, hbi⟩).elim (fun h => (h0 b h).elim) .inr
theorem Con.ofRes {P : Program} {f : FuncId} {args : List Value} {ps : List Per} {p : Per} {R : Value → List Per → List Res → Prop} (h : Con P f args (p :: ps) [] R) (L : List Res)
   (hB : ∀ (w : World) (S : Blks) (fp : Nat → Blks), (∀ (i : Nat) (A : Res), L[i]? = some A → A.holds w S (fp i)) → p.holds w (fun b => S b ∨ tot fp L.length b)) : Con P f args ps L R := fun w S fp hst => by
 have h2 := st_lend hst (hB w S fp hst.res)
 have h0 : ∀ b, ¬ tot (fun _ _ => False) ([] : List Res).length b := fun b ⟨j, hj, _⟩ => by simp at hj
 have hE : Evo w S (tot fp L.length) w (fun b => S b ∨ tot fp L.length b) := ⟨rfl, rfl, rfl, Nat.le_refl _, Nat.le_refl _, fun _ _ _ => rfl, fun _ h => .inl h, fun b hb => hb.elim .inl fun h => .inr (.inl h)⟩
 exact (h w _ _ h2).mono fun e w' ⟨u, ps', hp', S', fp', he, hR, hst', hE', hb⟩ => ⟨u, ps', hp', S', fp', he, hR, hst', hE.trans hE' (fun b hb => (h0 b hb).elim), fun b hb' => (hb b hb').elim (fun h => (h0 b h).elim) .inr⟩
theorem Con.clean {P : Program} {f : FuncId} {args : List Value} {ps : List Per} {hp : List Res} {R : Value → List Per → List Res → Prop} {φ : Value → Prop} (h : Con P f args ps hp R) (hR : ∀ v ps' hp', R v ps' hp' → φ v) : Con P f args ps hp (fun v ps' hp' => φ v ∧ ps' = [] ∧ hp' = []) := fun w S fp hst =>
 (h w S fp hst).mono fun e w' ⟨v, ps', hp', S', fp', he, hr, hst', hE, hb⟩ => ⟨v, [], [], S', fun _ _ => False, he, ⟨hR _ _ _ hr, rfl, rfl⟩, ⟨fun q hq => (by cases hq), fun i A hi => (by simp at hi), fun i hi => (by simp at hi), fun i j hi => (by simp at hi), hst'.slt⟩, hE, fun b ⟨i, hi, _⟩ => (by simp at hi)⟩
end Go.Sy

namespace Go.Proofs.YtgmiihmahaahiaaGreatDoor
open Go.RowKit Go.Lp Go.Sy
open Go.Proofs.Tryz
attribute [local irreducible] aL aB awp aC fwp
structure RLink where
 objs : Sl GObject
 kp : Sl (Sl Bool)
 lib : Bool
 ifs : Sl GIface
 vs : Sl GVersionDef
 ball : Nat
 bch : Nat
 bnm : Nat
 bmn : Nat
abbrev RLink.row (x : RLink) : List D := [.v (.slice x.objs.ad x.objs.l.length x.objs.cap), .v (.slice x.kp.ad x.kp.l.length x.kp.cap), .v (.bool x.lib), .v (.slice x.ifs.ad x.ifs.l.length x.ifs.cap), .v (.slice x.vs.ad x.vs.l.length x.vs.cap), .v (.map (some x.ball)), .v (.map (some x.bch)), .v (.map (some x.bnm)), .v (.map (some x.bmn))]
abbrev bR : Bool → List D := fun b => [.v (.bool b)]
abbrev slR {α : Type} : Sl α → List D := fun s => [.v (.slice s.ad s.l.length s.cap)]
def RLink.ok (x : RLink) : Per := AndP (ShF GObject.row x.objs) (AndP (AllF GObject.ok x.objs.l) (AndP (ShF slR x.kp) (AndP (AllF (ShF bR) x.kp.l) (AndP (ShF GIface.row x.ifs) (AndP (AllF GIface.ok x.ifs.l) (AndP (ShF GVersionDef.row x.vs) (AllF GVersionDef.ok x.vs.l)))))))
section
variable {ps : List Per} {x : RLink} (h : Ent ps x.ok)
include h
theorem RLink.f_objs : Ent ps (ShF GObject.row x.objs) := h.left
theorem RLink.f_objsA : Ent ps (AllF GObject.ok x.objs.l) := h.right.left
theorem RLink.f_kp : Ent ps (ShF slR x.kp) := h.right.right.left
theorem RLink.f_kpA : Ent ps (AllF (ShF bR) x.kp.l) := h.right.right.right.left
theorem RLink.f_ifs : Ent ps (ShF GIface.row x.ifs) := h.right.right.right.right.left
theorem RLink.f_ifsA : Ent ps (AllF GIface.ok x.ifs.l) := h.right.right.right.right.right.left
theorem RLink.f_vs : Ent ps (ShF GVersionDef.row x.vs) := h.right.right.right.right.right.right.left
theorem RLink.f_vsA : Ent ps (AllF GVersionDef.ok x.vs.l) := h.right.right.right.right.right.right.right
end
structure RsOk (os : List GObject) (kp : List (Sl Bool)) : Prop where
 n : os.length ≤ 5
 sy : ∀ o ∈ os, o.syms.l.length ≤ 14
 kn : kp.length = os.length
 ks : ∀ i : Nat, i < os.length → (elt kp (i : Int)).l.length = (elt os (i : Int)).secs.l.length
 sec : ∀ o ∈ os, ∀ s ∈ o.syms.l, (s.sec = -1 ∧ s.bind ≠ 0) ∨ (0 ≤ s.sec ∧ s.sec < o.secs.l.length)
def InD (os : List GObject) (d : Dfn) : Prop := ∃ i k : Nat, i < os.length ∧ (elt os (i : Int)).syms.l[k]? = some d.s ∧ d.p = ⟨(i : Int), (k : Int)⟩
theorem inD_iff {os : List GObject} {d : Dfn} : d ∈ flatF os ↔ InD os d := flatTo_mem
theorem con_rank (s : GSymbol) : Con Tryz.prog 87 [s.val] [] [] (fun r _ _ => r = .int .i64 (rankF ⟨default, s⟩)) := by
 refine Con.enter Tryz.func87 rfl (by simp [Tryz.ntmps87]) ?_
 show awp _ _ _ _ ⟨[(0, true, _)], _, _⟩
 refine aSR ?_
 refine aL_eff (q := true) rfl (x_box rfl rfl rfl (fun b0_0 => ?_))
 refine aL_hp (by (try simp only [nM, nN]); rfl) ?_
 refine aA rfl (aNs (aSR ?_))
 refine aU rfl (q_fieldAddr (off := 3) (by kernel_rfl) rfl) ?_
 refine aU rfl (q_load 0 tk3 rfl rfl rfl) (aNn (awp_block (aSR (aU rfl (q_eql rfl rfl) (aA rfl (aNn ?_))))))
 refine awp_cond _ rfl (fun h1 => ?_) (fun h1 => ?_)
 ·skip
  refine aSR (aA rfl (aNn (awp_ret (blk_r (thn_r ?_)))))
  refine fin1 [] [] rfl Tryz.results87 rfl ?_ (.inr rfl)
  have : s.bind = 1 := by simpa using h1
  unfold rankF; rw [if_pos this]
 ·skip
  refine aSR (aU rfl (q_eql rfl rfl) (aA rfl (aNn ?_)))
  refine awp_cond _ rfl (fun h2 => ?_) (fun h2 => ?_)
  ·skip
   refine aSR (aA rfl (aNn (awp_ret (blk_r (thn_r ?_)))))
   refine fin1 [] [] rfl Tryz.results87 rfl ?_ (.inr rfl)
   have a1 : ¬ s.bind = 1 := by simpa using h1
   have : s.bind = 3 := by simpa using h2
   unfold rankF; rw [if_neg a1, if_pos this]
  ·skip
   refine awp_skip (blk_n (thn_n (aSR (aA rfl (aNn (awp_ret ?_))))))
   refine fin1 [] [] rfl Tryz.results87 rfl ?_ (.inr rfl)
   have a1 : ¬ s.bind = 1 := by simpa using h1
   have a2 : ¬ s.bind = 3 := by simpa using h2
   unfold rankF; rw [if_neg a1, if_neg a2]
theorem con_nanI (z : Int) : Con Tryz.prog 239 [.int .i64 z] [] [] (fun r _ _ => r = .bool false) := by
 refine Con.enter Tryz.func239 rfl (by simp [Tryz.ntmps239]) ?_
 show awp _ _ _ _ ⟨[(0, true, _)], _, _⟩
 refine aSR (aA rfl (aNn (aSR (aM rfl (aM rfl (aU rfl (q_neq rfl rfl) (aA rfl (aNn (awp_ret ?_)))))))))
 refine fin1 [] [] rfl Tryz.results239 rfl ?_ (.inr rfl)
 simp
theorem con_nanS (z : ByteArray) : Con Tryz.prog 99 [.string z] [] [] (fun r _ _ => r = .bool false) := by
 refine Con.enter Tryz.func99 rfl (by simp [Tryz.ntmps99]) ?_
 show awp _ _ _ _ ⟨[(0, true, _)], _, _⟩
 refine aSR (aA rfl (aNn (aSR (aM rfl (aM rfl (aU rfl (qs_neqD rfl rfl) (aA rfl (aNn (awp_ret ?_)))))))))
 refine fin1 [] [] rfl Tryz.results99 rfl ?_ (.inr rfl)
 simp
def cmpI (a b : Int) : Int := if a < b then -1 else if b < a then 1 else 0
theorem con_cmpI (a b : Int) : Con Tryz.prog 166 [.int .i64 a, .int .i64 b] [] [] (fun r _ _ => r = .int .i64 (cmpI a b)) := by
 refine Con.enter Tryz.func166 rfl (by simp [Tryz.ntmps166]) ?_
 show awp _ _ _ _ ⟨[(0, true, _), (1, true, _)], _, _⟩
 refine aSR (aA rfl (aNn (aSR (aM rfl ?_))))
 refine aU rfl (q_call (by kernel_rfl) rfl (fun w S fp hst => (con_nanI _).quiet0 hst)) ?_
 refine aA rfl (aNn (aSR (aM rfl ?_)))
 refine aU rfl (q_call (by kernel_rfl) rfl (fun w S fp hst => (con_nanI _).quiet0 hst)) ?_
 refine aA rfl (aNs (aSR (aM rfl (aNn ?_))))
 refine awp_cond _ rfl (fun h1 => ?_) (fun h1 => ?_)
 ·skip
  exact absurd h1 (by decide)
 ·skip
  refine awp_skip (thn_n (awp_seq (aSR (aM rfl (aNn ?_)))))
  refine awp_cond _ rfl (fun h2 => ?_) (fun h2 => ?_)
  ·skip
   exact absurd h2 (by decide)
  ·skip
   refine awp_skip (thn_n (awp_seq (aSR (aM rfl (aM rfl (aU rfl (q_lss rfl rfl) (aNn ?_)))))))
   refine awp_cond _ rfl (fun h3 => ?_) (fun h3 => ?_)
   ·skip
    refine aSR (aA rfl (aNn (awp_ret (thn_r ?_))))
    refine fin1 [] [] rfl Tryz.results166 rfl ?_ (.inr rfl)
    have : a < b := by simpa using h3
    unfold cmpI; rw [if_pos this]
   ·skip
    refine awp_skip (thn_n (awp_seq (aSR (aM rfl (aM rfl (aU rfl (q_gtr rfl rfl) (aNn ?_)))))))
    refine awp_cond _ rfl (fun h4 => ?_) (fun h4 => ?_)
    ·skip
     refine aSR (aA rfl (aNn (awp_ret (thn_r ?_))))
     refine fin1 [] [] rfl Tryz.results166 rfl ?_ (.inr rfl)
     have a1 : ¬ a < b := by simpa using h3
     have : b < a := by simpa using h4
     unfold cmpI; rw [if_neg a1, if_pos this]
    ·skip
     refine awp_skip (thn_n (aSR (aA rfl (aNn (awp_ret ?_)))))
     refine fin1 [] [] rfl Tryz.results166 rfl ?_ (.inr rfl)
     have a1 : ¬ a < b := by simpa using h3
     have a2 : ¬ b < a := by simpa using h4
     unfold cmpI; rw [if_neg a1, if_neg a2]
def cmpS (a b : ByteArray) : Int := if sLt a b then -1 else if sLt b a then 1 else 0
theorem sLt_asymm {a b : ByteArray} (h : sLt a b) : ¬ sLt b a := fun k => sLt_irr _ (sLt_trans h k)
theorem con_cmpS (a b : ByteArray) : Con Tryz.prog 45 [.string a, .string b] [] [] (fun r _ _ => r = .int .i64 (cmpS a b)) := by
 refine Con.enter Tryz.func45 rfl (by simp [Tryz.ntmps45]) ?_
 show awp _ _ _ _ ⟨[(0, true, _), (1, true, _)], _, _⟩
 refine aSR (aA rfl (aNn (aSR (aM rfl ?_))))
 refine aU rfl (q_call (by kernel_rfl) rfl (fun w S fp hst => (con_nanS _).quiet0 hst)) ?_
 refine aA rfl (aNn (aSR (aM rfl ?_)))
 refine aU rfl (q_call (by kernel_rfl) rfl (fun w S fp hst => (con_nanS _).quiet0 hst)) ?_
 refine aA rfl (aNs (aSR (aM rfl (aNn ?_))))
 refine awp_cond _ rfl (fun h1 => ?_) (fun h1 => ?_)
 ·skip
  exact absurd h1 (by decide)
 ·skip
  refine awp_skip (thn_n (awp_seq (aSR (aM rfl (aNn ?_)))))
  refine awp_cond _ rfl (fun h2 => ?_) (fun h2 => ?_)
  ·skip
   exact absurd h2 (by decide)
  ·skip
   refine awp_skip (thn_n (awp_seq (aSR (aM rfl (aM rfl (aU rfl (qs_lss rfl rfl) (aNn ?_)))))))
   refine awp_cond _ rfl (fun h3 => ?_) (fun h3 => ?_)
   ·skip
    refine aSR (aA rfl (aNn (awp_ret (thn_r ?_))))
    refine fin1 [] [] rfl Tryz.results45 rfl ?_ (.inr rfl)
    have : sLt a b := of_decide_eq_true h3
    unfold cmpS; rw [if_pos this]
   ·skip
    refine awp_skip (thn_n (awp_seq (aSR (aM rfl (aM rfl (aU rfl (qs_gtr rfl rfl) (aNn ?_)))))))
    refine awp_cond _ rfl (fun h4 => ?_) (fun h4 => ?_)
    ·skip
     refine aSR (aA rfl (aNn (awp_ret (thn_r ?_))))
     refine fin1 [] [] rfl Tryz.results45 rfl ?_ (.inr rfl)
     have a1 : ¬ sLt a b := of_decide_eq_false h3
     have h4' : ¬ sLt a b ∧ ¬ a = b := by simp only [Bool.not_eq_true', Bool.or_eq_false_iff, decide_eq_false_iff_not] at h4; exact h4
     have : sLt b a := by
       rcases sLt_tri a b with h | h | h
       · exact (a1 h).elim
       · exact (h4'.2 h).elim
       · exact h
     unfold cmpS; rw [if_neg a1, if_pos this]
    ·skip
     refine awp_skip (thn_n (aSR (aA rfl (aNn (awp_ret ?_)))))
     refine fin1 [] [] rfl Tryz.results45 rfl ?_ (.inr rfl)
     have a1 : ¬ sLt a b := of_decide_eq_false h3
     have h4' : sLt a b ∨ a = b := by simp only [Bool.not_eq_false', Bool.or_eq_true, decide_eq_true_eq] at h4; exact h4
     have a2 : ¬ sLt b a := by
       rcases h4' with h | h
       · exact sLt_asymm h
       · rw [h]; exact sLt_irr _
     unfold cmpS; rw [if_neg a1, if_neg a2]
theorem con_or2 (v : Value) (a b : Int) : Con Tryz.prog 44 [v] [] [OwnS v 3 1 [[.v (.int .i64 a)], [.v (.int .i64 b)]]] (fun r _ _ => r = .int .i64 (if a ≠ 0 then a else b)) := by
 refine Con.ofRes (p := Sh v (.sl [[.v (.int .i64 a)], [.v (.int .i64 b)]])) ?_ _ (fun w S fp hres => (own_rep (hres 0 _ rfl)).mono (fun _ _ => rfl) fun b hb => hb.imp id fun hf => ⟨0, by simp, hf⟩)
 refine Con.enter Tryz.func44 rfl (by simp [Tryz.ntmps44]) ?_
 show awp _ _ _ _ ⟨[(0, true, _)], _, _⟩
 refine awp_form (.of (psAt 0 rfl)) (fun ad cp hv => ?_)
 obtain rfl : v = .slice ad 2 cp := hv
 refine aSR (aA rfl (aNn (aSR (aA rfl (aNs (aSR (aM rfl (aU rfl (q_lenS Tryz.underlying90 rfl) (aM rfl (aNn (awp_block ?_)))))))))))
 refine awp_loopK [0, 3, 6, 7, 8] [0] [] (fun (k : Nat) st => (k ≤ 2 ∧ (1 ≤ k → a = 0) ∧ (2 ≤ k → b = 0)) ∧ st = ⟨[(0, true, .slice ad 2 cp), (3, true, .int .i64 0), (6, true, .slice ad 2 cp), (7, true, .int .i64 2), (8, true, .int .i64 k)], [Sh (.slice ad 2 cp) (.sl [[.v (.int .i64 a)], [.v (.int .i64 b)]])], []⟩) (fun k => 2 - k) rfl (⟨0, ⟨by omega, fun h => by omega, fun h => by omega⟩, rfl⟩) ?_
 rintro k st ⟨⟨hk, ha, hb⟩, rfl⟩
 refine aSR (aU rfl (q_lss rfl rfl) (aNs ?_))
 refine awp_cond _ rfl (fun h1 => ?_) (fun h1 => ?_)
 ·skip
  have hk' : k < 2 := by simp at h1; omega
  obtain ⟨c, hc1, hc⟩ : ∃ c, (([[.v (.int .i64 a)], [.v (.int .i64 b)]] : List (List D))[k]? = some [D.v (.int .i64 c)]) ∧ ((k = 0 ∧ c = a) ∨ (k = 1 ∧ c = b)) := by
    rcases (by omega : k = 0 ∨ k = 1) with rfl | rfl
    · exact ⟨a, rfl, .inl ⟨rfl, rfl⟩⟩
    · exact ⟨b, rfl, .inr ⟨rfl, rfl⟩⟩
  refine awp_skip (thn_n (awp_seq (awp_block (aSR ?_))))
  refine aL_E true rfl rfl (fun _ => q_indexAddr Tryz.underlying90 tk3 rfl (psAt 0 rfl) rfl hc1 rfl rfl) (fun h => absurd h (by decide)) (fun ⟨b4_0, o4_0⟩ => ?_)
  refine aU rfl (q_loadD (o := 0) tk3 rfl (psAt 0 rfl) rfl rfl) (aA rfl (aNn (aSR (aM rfl (aM rfl (aU rfl (q_neq rfl rfl) (aNn ?_)))))))
  refine awp_cond _ rfl (fun h2 => ?_) (fun h2 => ?_)
  ·skip
   refine aSR (aM rfl (aA rfl (aNn (awp_ret (blk_r (thn_r (thn_r (blk_r (thn_r ?_)))))))))
   refine fin1 [] [] rfl Tryz.results44 rfl ?_ (.inr rfl)
   have hc0 : c ≠ 0 := by simpa using h2
   rcases hc with ⟨rfl, rfl⟩ | ⟨rfl, rfl⟩
   · rw [if_pos hc0]
   · rw [if_neg (by have := ha (by omega); omega)]
  ·skip
   refine awp_skip (blk_n (thn_n (awp_region ?_)))
   refine aU rfl (q_addi rfl rfl (by omega)) ?_
   refine aM rfl (aNn ?_)
   refine ⟨[0, 3, 6, 7, 8], [0], [], rfl, ?_⟩
   have hc0 : c = 0 := by simpa using h2
   rcases hc with ⟨rfl, rfl⟩ | ⟨rfl, rfl⟩
   · exact ⟨1, ⟨⟨by omega, fun _ => hc0, fun h => by omega⟩, rfl⟩, by omega⟩
   · exact ⟨2, ⟨⟨by omega, fun _ => ha (by omega), fun _ => hc0⟩, rfl⟩, by omega⟩
 ·skip
  refine awp_exit (thn_e (thn_e (blk_hit (thn_n (aSR (aM rfl (aA rfl (aNn (awp_ret ?_)))))))))
  refine fin1 [] [] rfl Tryz.results44 rfl ?_ (.inr rfl)
  have hk2 : k = 2 := by simp at h1; omega
  subst hk2
  rw [if_neg (by have := ha (by omega); omega), hb (by omega)]
end Go.Proofs.YtgmiihmahaahiaaGreatDoor

