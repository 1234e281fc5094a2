/- Proved: for every recipe, objects, kept sections and choices the law LiveDead of the given program answers true and leaves what it was handed as it was. Conditions: none but those in the given statement itself. -/
import Derived.Test.YtnbochlghdkfkaaBlK
import Derived.Test.YtnbochlghdkfkaaRows
import Derived.Test.YtnbochlghdkfkaaBlL
import Derived.WalkKit
import Derived.ProofKit
import Derived.OpenShut
import Derived.ShutString
import Derived.ChangeOld
import Derived.Below
set_option linter.unusedVariables false
set_option linter.unusedSimpArgs false
set_option maxRecDepth 20000
namespace Go.Proofs.Ytnbochlghdkfkaa
open Go.RowKit Go.Lp Go.Sy Go.Lv
open Go.Proofs.Try
attribute [local irreducible] aL aB awp aC fwp
structure Like (x y : GLink) : Prop where
  r : x.r = y.r
  keep : x.keep.l = y.keep.l
  choices : x.choices.l = y.choices.l
  len : x.objs.l.length = y.objs.l.length
  secs : ∀ i : Int, (elt x.objs.l i).secs.l.length = (elt y.objs.l i).secs.l.length
  syms : ∀ i : Int, (elt x.objs.l i).syms.l = (elt y.objs.l i).syms.l
  inits : ∀ i : Int, (elt x.objs.l i).inits.l = (elt y.objs.l i).inits.l
theorem list_elt {α : Type} [Inhabited α] {l m : List α} (h : l.length = m.length) (he : ∀ i : Nat, elt l (i : Int) = elt m (i : Int)) : l = m := by
  refine List.ext_getElem? fun i => ?_
  by_cases hi : i < l.length
  · rw [elt_nat hi, elt_nat (by omega), he]
  · rw [List.getElem?_eq_none (by omega), List.getElem?_eq_none (by omega)]
section
variable {x y : GLink} (h : Like x y)
include h
theorem Like.kept (a b : Int) : keptF x.objs.l x.keep.l a b = keptF y.objs.l y.keep.l a b := by unfold keptF; rw [h.len, h.secs, h.keep]
theorem Like.secOf (o k : Int) : secOf x o k = secOf y o k := by unfold Go.Proofs.Ytnbochlghdkfkaa.secOf; rw [h.choices, h.syms]
theorem Like.bad (o k : Int) : refBad x o k = refBad y o k := by unfold refBad; rw [h.choices, h.len, h.syms]
theorem Like.leads (o k a b : Int) : leadsF x o k a b = leadsF y o k a b := by
  rw [Bool.eq_iff_iff, leads_iff, leads_iff, h.bad, h.choices, h.secOf, h.kept, h.syms]
theorem Like.chosen (o k : Int) : chosenF x o k = chosenF y o k := by unfold chosenF; rw [h.choices]
theorem Like.hidden (nm : ByteArray) : hiddenF x.objs.l nm = hiddenF y.objs.l nm := by
  have e : ∀ os : List GObject, hiddenF os nm = (os.map fun o => o.syms.l).any fun l => l.any (hiddenSym nm) := fun os => by unfold hiddenF; rw [List.any_map]; rfl
  rw [e, e]
  have : (x.objs.l.map fun o => o.syms.l) = y.objs.l.map fun o => o.syms.l := by
    refine List.ext_getElem? fun i => ?_
    by_cases hi : i < x.objs.l.length
    · have hi' : i < y.objs.l.length := by rw [← h.len]; exact hi
      rw [List.getElem?_map, List.getElem?_map, elt_nat hi, elt_nat hi', Option.map_some, Option.map_some, h.syms]
    · rw [List.getElem?_eq_none (by simpa using hi), List.getElem?_eq_none (by rw [List.length_map, ← h.len]; omega)]
  rw [this]
theorem Like.rootSym (a b : Int) (i k : Nat) (s : GSymbol) : rootSymF x a b i k s = rootSymF y a b i k s := by unfold rootSymF entryF; rw [h.chosen, h.leads, h.hidden, h.r]
theorem Like.rootObs (a b : Int) (n : Nat) : rootObs x a b n = rootObs y a b n := by
  have e1 : ∀ (i : Nat) (l : List GSymbol) (n : Nat), rootSyms x a b i l n = rootSyms y a b i l n := fun i l n => by
    unfold rootSyms; congr 1; funext k; exact h.rootSym a b i k _
  have e2 : ∀ (i : Nat) (l : List GInit), rootInits x a b i l = rootInits y a b i l := fun i l => by
    unfold rootInits; congr 1; funext z; exact h.leads _ _ _ _
  unfold Go.Proofs.Ytnbochlghdkfkaa.rootObs
  congr 1; funext i
  rw [e1, e2, h.syms, h.inits]
end
/-- one more section is to be kept -/
def moreX (x : GLink) (am as_ : Option Addr) (cm cs : Nat) (j s : Nat) : GLink :=
  ⟨x.r, ⟨am, cm, x.objs.l.set j { elt x.objs.l (j : Int) with secs := ⟨as_, cs, (elt x.objs.l (j : Int)).secs.l.set s { elt (elt x.objs.l (j : Int)).secs.l (s : Int) with keep := true }⟩ }⟩, x.keep, x.choices, x.first, x.count⟩
theorem elt_set' {α : Type} [Inhabited α] {l : List α} {j : Nat} {v : α} (hj : j < l.length) (i : Int) : elt (l.set j v) i = if i.toNat = j then v else elt l i := by
  unfold elt
  rw [List.getD_eq_getElem?_getD, List.getD_eq_getElem?_getD, List.getElem?_set]
  by_cases hi : i.toNat = j
  · rw [if_pos hi.symm, if_pos hj, if_pos hi]; rfl
  · rw [if_neg (fun h => hi h.symm), if_neg hi]
section
variable {x : GLink} {am as_ : Option Addr} {cm cs j s : Nat}
theorem elt_toNat {α : Type} [Inhabited α] {l : List α} {i : Int} {j : Nat} (h : i.toNat = j) : elt l i = elt l (j : Int) := by unfold elt; rw [h, Int.toNat_natCast]
theorem more_like (hj : j < x.objs.l.length) : Like x (moreX x am as_ cm cs j s) where
  r := rfl
  keep := rfl
  choices := rfl
  len := by simp [moreX]
  secs i := by
    show _ = (elt (x.objs.l.set j _) i).secs.l.length
    rw [elt_set' hj]; split
    · rename_i h; rw [elt_toNat h]; simp
    · rfl
  syms i := by
    show _ = (elt (x.objs.l.set j _) i).syms.l
    rw [elt_set' hj]; split
    · rename_i h; rw [elt_toNat h]
    · rfl
  inits i := by
    show _ = (elt (x.objs.l.set j _) i).inits.l
    rw [elt_set' hj]; split
    · rename_i h; rw [elt_toNat h]
    · rfl
theorem more_needs (hj : j < x.objs.l.length) (a b o t : Int) : needsF x a b o t = needsF (moreX x am as_ cm cs j s) a b o t := by
  have hl := more_like (x := x) (am := am) (as_ := as_) (cm := cm) (cs := cs) (s := s) hj
  have e1 : ∀ i : Int, (elt x.objs.l i).rels.l = (elt (moreX x am as_ cm cs j s).objs.l i).rels.l := fun i => by
    show _ = (elt (x.objs.l.set j _) i).rels.l
    rw [elt_set' hj]; split
    · rename_i h; rw [elt_toNat h]
    · rfl
  have e2 : ∀ i : Int, (elt x.objs.l i).converts.l = (elt (moreX x am as_ cm cs j s).objs.l i).converts.l := fun i => by
    show _ = (elt (x.objs.l.set j _) i).converts.l
    rw [elt_set' hj]; split
    · rename_i h; rw [elt_toNat h]
    · rfl
  rw [Bool.eq_iff_iff, needs_iff, needs_iff, hl.kept, e1, e2]
  simp only [hl.leads]
theorem more_root (hj : j < x.objs.l.length) (hs : s < (elt x.objs.l (j : Int)).secs.l.length) {a b : Int} (h : rootF x a b = true) : rootF (moreX x am as_ cm cs j s) a b = true := by
  have hl := more_like (x := x) (am := am) (as_ := as_) (cm := cm) (cs := cs) (s := s) hj
  unfold rootF at h ⊢
  rw [← hl.kept, ← hl.rootObs, ← hl.len]
  rw [Bool.and_eq_true, Bool.or_eq_true] at h ⊢
  refine ⟨h.1, h.2.imp (fun hk => ?_) id⟩
  show (elt (elt (x.objs.l.set j _) a).secs.l b).keep = true
  rw [elt_set' hj]
  split
  · rename_i ha
    show (elt ((elt x.objs.l (j : Int)).secs.l.set s _) b).keep = true
    rw [elt_set' hs]
    split
    · rfl
    · rw [elt_toNat ha] at hk; exact hk
  · exact hk
theorem more_rch (hj : j < x.objs.l.length) (hs : s < (elt x.objs.l (j : Int)).secs.l.length) {a b : Int} (h : PRch x a b) : PRch (moreX x am as_ cm cs j s) a b := by
  induction h with
  | root h => exact .root (more_root hj hs h)
  | needs _ h ih => exact .needs ih (by rw [← more_needs hj]; exact h)
theorem more_this (hj : j < x.objs.l.length) (hs : s < (elt x.objs.l (j : Int)).secs.l.length) : PRch (moreX x am as_ cm cs j s) (j : Int) (s : Int) ↔ keptF x.objs.l x.keep.l (j : Int) (s : Int) = true := by
  have hl := more_like (x := x) (am := am) (as_ := as_) (cm := cm) (cs := cs) (s := s) hj
  constructor
  · intro h; rw [hl.kept]; exact h.kept
  · intro h
    refine .root ?_
    unfold rootF
    rw [← hl.kept, h, Bool.true_and, Bool.or_eq_true]
    refine .inl ?_
    show (elt (elt (x.objs.l.set j _) (j : Int)).secs.l (s : Int)).keep = true
    rw [elt_set' hj, if_pos (Int.toNat_natCast j)]
    show (elt ((elt x.objs.l (j : Int)).secs.l.set s _) (s : Int)).keep = true
    rw [elt_set' hs, if_pos (Int.toNat_natCast s)]
theorem more_few (hj : j < x.objs.l.length) (hf : FewL x.objs.l) : FewL (moreX x am as_ cm cs j s).objs.l := by
  refine ⟨by show (x.objs.l.set j _).length ≤ 4; rw [List.length_set]; exact hf.n, fun o ho => ?_⟩
  rcases List.mem_or_eq_of_mem_set ho with h | rfl
  · exact hf.of o h
  · have := hf.of _ (List.mem_of_getElem? (elt_nat hj))
    simpa using this
end
end Go.Proofs.Ytnbochlghdkfkaa
namespace Go.Proofs.Ytnbochlghdkfkaa
open Go.RowKit Go.Lp Go.Sy Go.Lv
open Go.Proofs.Try
attribute [local irreducible] aL aB awp aC fwp
/-- the section of a row of the table is live -/
def inT (row : List Bool) (s : Int) : Bool := (decide (s ≥ 0) && decide (s < row.length)) && elt row s
def relsD (row : List Bool) (l : List GRel) : List GRel := l.filter fun r => inT row r.sec
def convD (row : List Bool) (l : List GConvert) : List GConvert := l.filter fun c => inT row c.sec
structure LessO (row : List Bool) (o o' : GObject) : Prop where
  name : o'.name = o.name
  secs : o'.secs = o.secs
  syms : o'.syms = o.syms
  inits : o'.inits = o.inits
  rels : o'.rels.l = relsD row o.rels.l
  convs : o'.converts.l = convD row o.converts.l
structure Less (x y : GLink) (t : Sl (Sl Bool)) : Prop where
  r : y.r = x.r
  keep : y.keep = x.keep
  choices : y.choices = x.choices
  len : y.objs.l.length = x.objs.l.length
  obj : ∀ i : Nat, i < x.objs.l.length → LessO (elt t.l (i : Int)).l (elt x.objs.l (i : Int)) (elt y.objs.l (i : Int))
theorem elt_out {α : Type} [Inhabited α] {l : List α} {i : Int} (h : ¬ i.toNat < l.length) : elt l i = default := by
  unfold elt; rw [List.getD_eq_getElem?_getD, List.getElem?_eq_none (by omega)]; rfl
section
variable {x y : GLink} {t : Sl (Sl Bool)} (h : Less x y t)
include h
theorem Less.at (i : Int) : (elt y.objs.l i).secs = (elt x.objs.l i).secs ∧ (elt y.objs.l i).syms = (elt x.objs.l i).syms ∧ (elt y.objs.l i).inits = (elt x.objs.l i).inits := by
  by_cases hi : i.toNat < x.objs.l.length
  · have := h.obj i.toNat hi
    rw [elt_toNat (l := y.objs.l) (i := i) rfl, elt_toNat (l := x.objs.l) (i := i) rfl]
    exact ⟨this.secs, this.syms, this.inits⟩
  · rw [elt_out hi, elt_out (by rw [h.len]; exact hi)]; exact ⟨rfl, rfl, rfl⟩
theorem Less.like : Like x y where
  r := h.r.symm
  keep := by rw [h.keep]
  choices := by rw [h.choices]
  len := h.len.symm
  secs i := by rw [(h.at i).1]
  syms i := by rw [(h.at i).2.1]
  inits i := by rw [(h.at i).2.2]
theorem Less.root (a b : Int) : rootF y a b = rootF x a b := by
  unfold rootF
  rw [← h.like.kept, ← h.like.rootObs, h.len, (h.at a).1]
variable {ad : Option Addr} {cap : Nat} (ht : tabL t = liveF (lkF x ad cap x.objs.l.length))
include ht
omit h in
theorem inT_live {a b : Int} (hk : keptF x.objs.l x.keep.l a b = true) : inT (elt t.l a).l b = true ↔ PRch x a b := by
  have hr := kept_range hk
  have ha : ((a.toNat : Nat) : Int) = a := Int.toNat_of_nonneg hr.1.1
  have hb : ((b.toNat : Nat) : Int) = b := Int.toNat_of_nonneg hr.2.1
  have hfit := (fits_iff.1 (tab_fits ht)).2 a.toNat (by omega)
  rw [ha] at hfit
  have hl := tab_live ht (i := a.toNat) (k := b.toNat) (by omega) (by rw [ha]; omega)
  rw [ha, hb] at hl
  unfold inT
  rw [hfit, Bool.and_eq_true, Bool.and_eq_true, decide_eq_true_eq, decide_eq_true_eq]
  exact ⟨fun hh => hl.1 hh.2, fun hh => ⟨⟨hr.2.1, hr.2.2⟩, hl.2 hh⟩⟩
theorem Less.needs {a b o s : Int} : needsF y a b o s = true ↔ needsF x a b o s = true ∧ PRch x a b := by
  rw [needs_iff, needs_iff, ← h.like.kept]
  have hlt : keptF x.objs.l x.keep.l a b = true → LessO (elt t.l a).l (elt x.objs.l a) (elt y.objs.l a) := fun hk => by
    have hr := kept_range hk
    have := h.obj a.toNat (by omega)
    rwa [Int.toNat_of_nonneg hr.1.1] at this
  constructor
  · rintro ⟨hk, ⟨r, hr, rfl, hl⟩ | ⟨c, hc, rfl, hl⟩⟩
    · rw [(hlt hk).rels] at hr
      obtain ⟨h1, h2⟩ := List.mem_filter.1 hr
      exact ⟨⟨hk, .inl ⟨r, h1, rfl, by rw [h.like.leads]; exact hl⟩⟩, (inT_live ht hk).1 h2⟩
    · rw [(hlt hk).convs] at hc
      obtain ⟨h1, h2⟩ := List.mem_filter.1 hc
      exact ⟨⟨hk, .inr ⟨c, h1, rfl, by rw [h.like.leads]; exact hl⟩⟩, (inT_live ht hk).1 h2⟩
  · rintro ⟨⟨hk, ⟨r, hr, rfl, hl⟩ | ⟨c, hc, rfl, hl⟩⟩, hp⟩
    · exact ⟨hk, .inl ⟨r, by rw [(hlt hk).rels]; exact List.mem_filter.2 ⟨hr, (inT_live ht hk).2 hp⟩, rfl, by rw [← h.like.leads]; exact hl⟩⟩
    · exact ⟨hk, .inr ⟨c, by rw [(hlt hk).convs]; exact List.mem_filter.2 ⟨hc, (inT_live ht hk).2 hp⟩, rfl, by rw [← h.like.leads]; exact hl⟩⟩
theorem Less.rch {a b : Int} : PRch y a b ↔ PRch x a b := by
  constructor
  · intro hp
    induction hp with
    | root hh => exact .root (by rw [← h.root]; exact hh)
    | needs _ hh ih => exact .needs ih ((h.needs ht).1 hh).1
  · intro hp
    induction hp with
    | root hh => exact .root (by rw [h.root]; exact hh)
    | needs hp hh ih => exact .needs ih ((h.needs ht).2 ⟨hh, hp⟩)
theorem Less.tab {u : Sl (Sl Bool)} {ad2 : Option Addr} {cap2 : Nat} (hu : tabL u = liveF (lkF y ad2 cap2 y.objs.l.length)) : tabL u = tabL t := by
  have f1 := fits_iff.1 (tab_fits ht)
  have f2 := fits_iff.1 (tab_fits hu)
  refine List.ext_getElem? fun i => ?_
  by_cases hi : i < x.objs.l.length
  · have e1 : (tabL u)[i]? = some (elt u.l (i : Int)).l := by unfold tabL; rw [List.getElem?_map, elt_nat (by rw [f2.1, h.len]; exact hi)]; rfl
    have e2 : (tabL t)[i]? = some (elt t.l (i : Int)).l := by unfold tabL; rw [List.getElem?_map, elt_nat (by rw [f1.1]; exact hi)]; rfl
    rw [e1, e2]
    congr 1
    have l1 := f1.2 i hi
    have l2 := f2.2 i (by rw [h.len]; exact hi)
    rw [(h.at i).1] at l2
    refine List.ext_getElem? fun k => ?_
    by_cases hk : k < (elt x.objs.l (i : Int)).secs.l.length
    · rw [elt_nat (l := (elt u.l (i : Int)).l) (by rw [l2]; exact hk), elt_nat (l := (elt t.l (i : Int)).l) (by rw [l1]; exact hk)]
      congr 1
      rw [Bool.eq_iff_iff, tab_live ht hi hk, tab_live hu (by rw [h.len]; exact hi) (by rw [(h.at i).1]; exact hk)]
      exact h.rch ht
    · rw [List.getElem?_eq_none (by rw [l2]; omega), List.getElem?_eq_none (by rw [l1]; omega)]
  · rw [List.getElem?_eq_none (by simp [tabL, f2.1, h.len]; omega), List.getElem?_eq_none (by simp [tabL, f1.1]; omega)]
end
theorem Less.few {x y : GLink} {t : Sl (Sl Bool)} (h : Less x y t) (hf : FewL x.objs.l) : FewL y.objs.l := by
  refine ⟨by rw [h.len]; exact hf.n, fun o ho => ?_⟩
  obtain ⟨i, hi⟩ := List.mem_iff_getElem?.1 ho
  have hil := (List.getElem?_eq_some_iff.1 hi).1
  have hix : i < x.objs.l.length := by rw [← h.len]; exact hil
  rw [elt_nat hil] at hi
  obtain rfl := Option.some.inj hi
  have hx := hf.of _ (List.mem_of_getElem? (elt_nat hix))
  have ho := h.obj i hix
  have l1 : (elt y.objs.l (i : Int)).rels.l.length ≤ (elt x.objs.l (i : Int)).rels.l.length := by rw [ho.rels]; exact List.length_filter_le _ _
  have l2 : (elt y.objs.l (i : Int)).converts.l.length ≤ (elt x.objs.l (i : Int)).converts.l.length := by rw [ho.convs]; exact List.length_filter_le _ _
  rw [ho.secs, ho.syms, ho.inits]
  omega
theorem filter_snoc {α : Type} (p : α → Bool) {l : List α} {k : Nat} {a : α} (h : l[k]? = some a) : (l.take (k + 1)).filter p = if p a then (l.take k).filter p ++ [a] else (l.take k).filter p := by
  rw [List.take_add_one, h, List.filter_append]
  show _ ++ [a].filter p = _
  split
  · rename_i hp; simp [hp]
  · rename_i hp; simp [hp]
end Go.Proofs.Ytnbochlghdkfkaa
namespace Go.Proofs.Ytnbochlghdkfkaa
open Go.RowKit Go.Lp Go.Sy Go.Lv
open Go.Proofs.Try
attribute [local irreducible] aL aB awp aC fwp
theorem con_same_res (u t : Sl (Sl Bool)) (h : tabL u = tabL t) : Con Try.prog 11 [u.val, t.val] [TabF t] [PrivR (TabF u)] fun r ps hp => r = .bool true ∧ ps = [] ∧ hp = [] := by
  refine Con.clean (φ := fun r => r = .bool true) (R := fun r _ _ => r = .bool true) ?_ fun _ _ _ h => h
  refine Con.ofRes (p := TabF u) ((con_same u t).post fun v _ _ hv => by rw [hv, h, show sameF (tabL t) (tabL t) = true from decide_eq_true rfl]) _ fun w S fp hres => ?_
  exact (TabF u).mono (hres 0 _ rfl) (fun _ _ => rfl) fun b hb => .inr ⟨0, by simp, hb⟩
theorem con_live_less (x : GLink) (ao : Option Addr) (co : Nat) (os : List GObject) (hl : os.length = x.objs.l.length) (hf : FewL os) : Con Try.prog 12 [x.r.val, .slice ao x.objs.l.length co, x.keep.val, x.choices.val] [GLink.ok ⟨x.r, ⟨ao, co, os⟩, x.keep, x.choices, x.first, x.count⟩] []
    fun r ps hp => ps = [] ∧ ∃ (u : Sl (Sl Bool)) (ad : Option Addr) (cap : Nat), r = u.val ∧ tabL u = liveF (lkF ⟨x.r, ⟨ao, co, os⟩, x.keep, x.choices, x.first, x.count⟩ ad cap os.length) ∧ hp = [PrivR (TabF u)] := by
  have h := con_live ⟨x.r, ⟨ao, co, os⟩, x.keep, x.choices, x.first, x.count⟩ hf
  rwa [show (⟨ao, co, os⟩ : Sl GObject).val = .slice ao x.objs.l.length co by simp [Sl.val, hl]] at h
theorem drop_one {α : Type} [Inhabited α] {l : List α} {i : Nat} (h : i < l.length) : l.drop i = elt l (i : Int) :: l.drop (i + 1) := by
  rw [List.drop_eq_getElem_cons h]; congr 1
  have := elt_nat h; rw [List.getElem?_eq_getElem h] at this; exact Option.some.inj this
theorem mid_get {α : Type} [Inhabited α] (row : α → List D) {os l : List α} (h : os.length < l.length) : ((os ++ l.drop os.length).map row)[os.length]? = some (row (elt l (os.length : Int))) := by
  rw [drop_one h, List.map_append, List.getElem?_append_right (by simp), List.length_map, Nat.sub_self]; rfl
theorem mid_set {α : Type} [Inhabited α] (row : α → List D) {os l : List α} (h : os.length < l.length) (o : α) : ((os ++ l.drop os.length).map row).set os.length (row o) = (((os ++ [o]) ++ l.drop (os.length + 1)).map row) := by
  rw [drop_one h, List.map_append, List.set_append_right _ _ (by simp), List.length_map, Nat.sub_self, List.map_append, List.map_append, List.append_assoc]; rfl
theorem elt_app_l {α : Type} [Inhabited α] {l m : List α} {i : Nat} (h : i < l.length) : elt (l ++ m) (i : Int) = elt l (i : Int) := by
  unfold elt; rw [List.getD_eq_getElem?_getD, List.getD_eq_getElem?_getD, Int.toNat_natCast, List.getElem?_append_left h]
theorem elt_app_r {α : Type} [Inhabited α] {l : List α} {v : α} : elt (l ++ [v]) (l.length : Int) = v := by
  unfold elt; rw [List.getD_eq_getElem?_getD, Int.toNat_natCast, List.getElem?_append_right (Nat.le_refl _), Nat.sub_self]; rfl
set_option maxHeartbeats 2000000 in
theorem con_dead (x : GLink) : Con Try.prog 6 [x.r.val, x.objs.val, x.keep.val, x.choices.val] [x.ok] [] fun r _ _ => r = .bool true := by
  refine Con.enter Try.func6 rfl (by simp [Try.ntmps6]) ?_
  show awp _ _ _ _ ⟨[(0, true, _), (1, true, _), (2, true, _), (3, true, _)], _, _⟩
  refine awp_lenE (GLink.f_objs (.of (psAt 0 rfl))) (fun hlen => ?_)
  refine awp_seq (awp_region ?_)
  refine aL_eff (q := true) rfl (x_box rfl rfl rfl (fun b0_0 => ?_))
  refine aL_hp (by (try simp only [nM, nN]); rfl) ?_
  refine aL_s true rfl rfl (fun _ => q_assign rfl) (aL_nil (thn_n (awp_seq (awp_region ?_))))
  refine aL_eff (q := true) rfl (e_call [] [] (by kernel_rfl) rfl rfl rfl rfl (con_small) ?_)
  rintro _ _ _ ⟨rfl, rfl, rfl⟩
  refine aL_st (by (try simp only [nM, nN]); rfl) (by (try simp only [putB, place, Nat.reduceBEq, nA, if_true, if_false, reduceIte, nB, nC, nD, nE, nF, nG, nH, nI, Nat.reduceAdd, nJ, beq_self_eq_true, nK, nL, nM, nN]); rfl) ?_
  refine aL_s true rfl rfl (fun _ => q_assign rfl) (aL_nil (thn_n (awp_seq (awp_seq (awp_region (aL_s true rfl rfl (fun _ => q_move rfl) (aL_s true rfl rfl (fun _ => q_move rfl) ?_)))))))
  refine aL_s true rfl rfl (fun _ => q_move rfl) ?_
  refine aL_s true rfl rfl (fun _ => q_call (by kernel_rfl) rfl (fun w S fp hst => (con_few x).quiet1 (psAt 0 rfl) hst)) ?_
  refine aL_s true rfl rfl (fun _ => q_not rfl) (aL_nil (thn_n ?_))
  refine awp_cond _ rfl (fun h1 => ?_) (fun h1 => ?_)
  ·skip
   refine awp_seq (awp_region (aL_s true rfl rfl (fun _ => q_move rfl) (aL_s true rfl rfl (fun _ => q_assign rfl) (aL_nil (thn_n (awp_ret (thn_r ?_)))))))
   refine fin1 [] [] rfl Try.results6 rfl ?_ (.inr rfl)
   rfl
  ·skip
   have hF := few_of (x := x) (by simpa using h1)
   have hn4 := hF.n
   refine awp_skip (thn_n (awp_seq (awp_region (aL_s true rfl rfl (fun _ => q_load 0 tk25 rfl rfl rfl) (aL_s true rfl rfl (fun _ => q_move rfl) (aL_s true rfl rfl (fun _ => q_move rfl) (aL_s true rfl rfl (fun _ => q_move rfl) ?_)))))))
   refine aL_eff (q := true) rfl (e_call [0] [] (by kernel_rfl) rfl rfl rfl rfl (con_live x hF) ?_)
   rintro _ _ _ ⟨rfl, t, ad, cap, rfl, ht, rfl⟩
   refine aL_st (by (try simp only [nM, nN]); rfl) (by (try simp only [putB, place, Nat.reduceBEq, nA, if_true, if_false, reduceIte, nB, nC, nD, nE, nF, nG, nH, nI, Nat.reduceAdd, nJ, beq_self_eq_true, nK, nL, nM, nN]); rfl) ?_
   refine aL_s true rfl rfl (fun _ => q_assign rfl) (aL_nil (thn_n (awp_seq (awp_seq (awp_shareR 1 (TabF t) rfl (fun w S F h => (TabF t).mono h (fun _ _ => rfl) (fun b hb => .inr hb)) ?_)))))
   have hfit := tab_fits ht
   have hft := fits_iff.1 hfit
   refine awp_region (aL_s true rfl rfl (fun _ => q_move rfl) (aL_s true rfl rfl (fun _ => q_move rfl) ?_))
   refine aL_s true rfl rfl (fun _ => q_call (by kernel_rfl) rfl (fun w S fp hst => (con_fits x t).quiet2 (psAt 0 rfl) (psAt 1 rfl) hst)) ?_
   refine aL_s true rfl rfl (fun _ => q_not rfl) (aL_nil (thn_n ?_))
   refine awp_cond _ rfl (fun h2 => ?_) (fun h2 => ?_)
   ·skip
    exact absurd h2 (by rw [hfit]; decide)
   ·skip
    refine awp_skip (thn_n (awp_seq ?_))
    refine awp_fact (ShF GObject.row x.objs) (fun w S hps => (hps x.ok (by simp)).2.1) ?_
    refine awp_region ?_
    refine aL_eff (q := true) rfl (w_lit0 el26 rfl (fun v7_0 => ?_))
    refine aL_hp (by (try simp only [nM, nN]); rfl) ?_
    refine aL_s true rfl rfl (fun _ => q_move rfl) ?_
    refine aL_eff (q := true) rfl (w_appendQ 2 el26 el26 rfl rfl rfl rfl (psAt 0 rfl) ((fun r hr => by obtain ⟨o, _, rfl⟩ := List.mem_map.1 hr; rfl)) (by simp; omega) (x.objs.l.length) (by simp; try omega) (fun v7_2 c7_2 => ?_))
    refine aL_hp (by simp only [nK, nL]; rfl) ?_
    refine aL_s true rfl rfl (fun _ => q_assign rfl) (aL_nil (thn_n (awp_seq (awp_seq (awp_region (aL_s true rfl rfl (fun _ => q_assign rfl) (aL_nil ?_)))))))
    refine thn_n (awp_block ?_)
    refine awp_fact (AllF GObject.ok []) (fun w S hps y hy => by cases hy) ?_
    refine awp_loopK [1, 2, 3, 4, 8, 9, 10, 11, 12] [3, 1, 0] [0, 2] (fun (os : List GObject) st => (os.length ≤ x.objs.l.length ∧ ∀ i : Nat, i < os.length → LessO (elt t.l (i : Int)).l (elt x.objs.l (i : Int)) (elt os (i : Int))) ∧ st = ⟨[(1, true, x.objs.val), (2, true, x.keep.val), (3, true, x.choices.val), (4, true, .pointer (some ⟨b0_0, 0, none⟩)), (8, true, .bool false), (9, true, .bool true), (10, true, t.val), (11, true, .slice v7_2 x.objs.l.length c7_2), (12, true, .int .i64 os.length)], [AllF GObject.ok os, TabF t, x.ok], [Box b0_0 25 x.r.vs, OwnS (.slice v7_2 x.objs.l.length c7_2) 53 11 ((os ++ x.objs.l.drop os.length).map GObject.row)]⟩) (fun os => x.objs.l.length - os.length) rfl (⟨[], ⟨Nat.zero_le _, fun i hi => by simp at hi⟩, rfl⟩) ?_
    rintro os st ⟨⟨hi, hos⟩, rfl⟩
    refine awp_seq (awp_seq (awp_region (aL_s true rfl rfl (fun _ => q_move rfl) (aL_s true rfl rfl (fun _ => q_move rfl) (aL_s true rfl rfl (fun _ => q_lenS Try.underlying26 rfl) (aL_s true rfl rfl (fun _ => q_lss rfl rfl) (aL_nil ?_)))))))
    refine thn_n ?_
    refine awp_cond _ rfl (fun h3 => ?_) (fun h3 => ?_)
    ·skip
     have hi' : os.length < x.objs.l.length := by simp at h3; omega
     have ho := elt_nat hi'
     have hti := elt_nat (l := t.l) (i := os.length) (by omega)
     have hfo := hF.of _ (List.mem_of_getElem? ho)
     obtain ⟨o, hoo⟩ : ∃ o, elt x.objs.l (os.length : Int) = o := ⟨_, rfl⟩
     obtain ⟨row, hrow⟩ : ∃ row, elt t.l (os.length : Int) = row := ⟨_, rfl⟩
     rw [hoo] at ho hfo
     rw [hrow] at hti
     refine awp_skip (thn_n (awp_seq (awp_block (awp_seq (awp_nil 62 5 ?_)))))
     show awp _ _ _ _ ⟨_, _, [_, _, _]⟩
     refine awp_region (aL_s true rfl rfl (fun _ => q_assign rfl) (aL_nil (thn_n (awp_seq (awp_seq (awp_region (aL_s true rfl rfl (fun _ => q_assign rfl) ?_)))))))
     refine aL_nil (thn_n (awp_block (awp_loopK [1, 2, 3, 4, 8, 9, 10, 11, 12, 13, 14] [2, 1, 0] [0, 1, 2] (fun (p : Nat × Value) st => p.1 ≤ o.rels.l.length ∧ st = ⟨[(1, true, x.objs.val), (2, true, x.keep.val), (3, true, x.choices.val), (4, true, .pointer (some ⟨b0_0, 0, none⟩)), (8, true, .bool false), (9, true, .bool true), (10, true, t.val), (11, true, .slice v7_2 x.objs.l.length c7_2), (12, true, .int .i64 os.length), (13, true, p.2), (14, true, .int .i64 p.1)], [AllF GObject.ok os, TabF t, x.ok], [Box b0_0 25 x.r.vs, OwnS (.slice v7_2 x.objs.l.length c7_2) 53 11 ((os ++ x.objs.l.drop os.length).map GObject.row), OwnS p.2 62 5 ((relsD row.l (o.rels.l.take p.1)).map GRel.row)]⟩) (fun p => o.rels.l.length - p.1) rfl (⟨(0, .slice none 0 0), Nat.zero_le _, rfl⟩) ?_)))
     rintro ⟨j, vr⟩ st ⟨hj, rfl⟩
     dsimp only at hj
     have hrl : (relsD row.l (o.rels.l.take j)).length ≤ 14 := Nat.le_trans (List.length_filter_le _ _) (by rw [List.length_take]; omega)
     refine awp_seq (awp_seq (awp_region (aL_s true rfl rfl (fun _ => q_move rfl) (aL_s true rfl rfl (fun _ => q_move rfl) (aL_s true rfl rfl (fun _ => q_move rfl) ?_)))))
     refine aL_E true rfl rfl (fun _ => q_indexAddrG Try.underlying26 tk53 rfl ((GLink.f_objs (.of (psAt 2 rfl)))) rfl (rows_get ho) rfl rfl) (fun h => absurd h (by decide)) (fun ⟨b13_3, o13_3⟩ => ?_)
     refine aL_s true rfl rfl (fun _ => q_fieldAddr (off := 3) (by kernel_rfl) rfl) ?_
     refine aL_s true rfl rfl (fun _ => q_loadD (o := 3) tk44 rfl (psAt 0 rfl) rfl rfl) (aL_s true rfl rfl (fun _ => q_lenS Try.underlying44 rfl) (aL_s true rfl rfl (fun _ => q_lss rfl rfl) (aL_nil (thn_n ?_))))
     refine awp_cond _ rfl (fun h4 => ?_) (fun h4 => ?_)
     ·skip
      have hj' : j < o.rels.l.length := by simp at h4; omega
      obtain ⟨r, hr⟩ : ∃ r, o.rels.l[j]? = some r := ⟨_, List.getElem?_eq_getElem hj'⟩
      have hsn := filter_snoc (fun r : GRel => inT row.l r.sec) hr
      refine awp_skip (thn_n (awp_seq (awp_block (awp_seq (awp_region (aL_s true rfl rfl (fun _ => q_move rfl) (aL_s true rfl rfl (fun _ => q_move rfl) ?_)))))))
      refine aL_E true rfl rfl (fun _ => q_indexAddrG Try.underlying26 tk53 rfl ((GLink.f_objs (.of (psAt 3 rfl)))) rfl (rows_get ho) rfl rfl) (fun h => absurd h (by decide)) (fun ⟨b15_2, o15_2⟩ => ?_)
      refine aL_s true rfl rfl (fun _ => q_fieldAddr (off := 3) (by kernel_rfl) rfl) ?_
      refine aL_s true rfl rfl (fun _ => q_loadD (o := 3) tk44 rfl (psAt 0 rfl) rfl rfl) (aL_s true rfl rfl (fun _ => q_move rfl) ?_)
      refine aL_E true rfl rfl (fun _ => q_indexAddrG Try.underlying44 tk62 rfl ((GObject.f_rels ((GLink.f_objsA (.of (psAt 4 rfl))).all ho))) rfl (rows_get hr) rfl rfl) (fun h => absurd h (by decide)) (fun ⟨b15_6, o15_6⟩ => ?_)
      refine aL_s true rfl rfl (fun _ => q_loadD (o := 0) tk62 rfl (psAt 0 rfl) rfl rfl) ?_
      refine aL_eff (q := true) rfl (x_alloc (zs := [.int .i64 0, .int .i64 0, .int .i64 0, .int .i64 0, .int .i64 0]) (by kernel_rfl) rfl (fun b15_8 => ?_))
      refine aL_hp (by (try simp only [nM, nN]); rfl) ?_
      refine aL_eff rfl (x_store 3 tk62 rfl rfl rfl rfl ?_)
      refine aL_hp (by simp only [nK, nL]; rfl) ?_
      refine aL_nil (thn_n (awp_seq ?_))
      refine awp_drawnC [] [] [b15_8] (by kernel_rfl) ?_
      show aC _ _ _ _ _ _ _ 23 #[false, false, false, false, false, false, false, false, false, false, false, false, false, false, false, false, false, false, false, false, false, false, false] _
      refine aC_f 0 rfl (by kernel_rfl) true rfl rfl (fun _ => q_fieldAddr (off := 0) (by kernel_rfl) rfl) ?_
      refine aC_box 1 3 rfl (by kernel_rfl) true rfl rfl (by simp) tk3 (fun _ => rfl) rfl rfl ?_
      refine aC_f 2 rfl (by kernel_rfl) true rfl rfl (fun _ => q_geq rfl rfl) ?_
      refine aC_f 3 rfl (by kernel_rfl) true rfl rfl (fun _ => q_move rfl) ?_
      refine aC_f 4 rfl (by kernel_rfl) _ rfl rfl (fun hc => q_fieldAddr (off := 0) (by kernel_rfl) rfl) ?_
      refine aC_box 5 3 rfl (by kernel_rfl) _ rfl rfl (by simp) tk3 (fun hc => (ev_yes rfl hc)) rfl rfl ?_
      refine aC_f 6 rfl (by kernel_rfl) _ rfl rfl (fun hc => q_move rfl) ?_
      refine aC_f 7 rfl (by kernel_rfl) _ rfl rfl (fun hc => q_move rfl) ?_
      refine aC_R 8 rfl (by kernel_rfl) _ rfl rfl (fun hc => q_indexAddrGR Try.underlying27 tk54 (ev_yes rfl hc) ((.left (.of (psAt 4 rfl)))) (ev_yes rfl hc) (rows_get hti) rfl rfl) (fun _ => ⟨(0, 0)⟩) (fun ⟨b16_8, o16_8⟩ => ?_)
      refine aC_f 9 rfl (by kernel_rfl) _ rfl rfl (fun hc => q_loadD (o := 0) tk54 (ev_yes rfl hc) (psAt 0 rfl) hc rfl) ?_
      refine aC_f 10 rfl (by kernel_rfl) _ rfl rfl (fun hc => q_lenS Try.underlying54 (ev_yes rfl hc)) ?_
      refine aC_f 11 rfl (by kernel_rfl) _ rfl rfl (fun hc => q_lss (ev_yes rfl hc) (ev_yes rfl hc)) ?_
      refine aC_f 12 rfl (by kernel_rfl) true rfl rfl (fun _ => q_and rfl rfl (fun h => gt rfl h)) ?_
      refine aC_f 13 rfl (by kernel_rfl) true rfl rfl (fun _ => q_move rfl) ?_
      refine aC_f 14 rfl (by kernel_rfl) _ rfl rfl (fun hc => q_move rfl) ?_
      refine aC_f 15 rfl (by kernel_rfl) _ rfl rfl (fun hc => q_move rfl) ?_
      refine aC_R 16 rfl (by kernel_rfl) _ rfl rfl (fun hc => q_indexAddrGR Try.underlying27 tk54 (ev_yes rfl hc) ((.left (.of (psAt 5 rfl)))) (ev_yes rfl hc) (rows_get hti) rfl rfl) (fun _ => ⟨(0, 0)⟩) (fun ⟨b16_16, o16_16⟩ => ?_)
      refine aC_f 17 rfl (by kernel_rfl) _ rfl rfl (fun hc => q_loadD (o := 0) tk54 (ev_yes rfl hc) (psAt 0 rfl) hc rfl) ?_
      refine aC_f 18 rfl (by kernel_rfl) _ rfl rfl (fun hc => q_fieldAddr (off := 0) (by kernel_rfl) rfl) ?_
      refine aC_box 19 3 rfl (by kernel_rfl) _ rfl rfl (by simp) tk3 (fun hc => (ev_yes rfl hc)) rfl rfl ?_
      refine aC_R 20 rfl (by kernel_rfl) _ rfl rfl (fun hc => q_indexAddrGR Try.underlying54 tk4 (ev_yes rfl hc) ((Ent.all (f := ShF fun b : Bool => [.v (.bool b)]) (Ent.right (.of (psAt 6 rfl))) hti)) (ev_yes rfl hc) (rows_elt (i := r.sec) (by simp at hc; omega) (by simp at hc; omega)) (by simp at hc; omega) rfl) (fun _ => ⟨(0, 0)⟩) (fun ⟨b16_20, o16_20⟩ => ?_)
      refine aC_f 21 rfl (by kernel_rfl) _ rfl rfl (fun hc => q_loadD (o := 0) tk4 (ev_yes rfl hc) (psAt 0 rfl) hc rfl) ?_
      refine aC_f 22 rfl (by kernel_rfl) true rfl rfl (fun _ => q_and rfl rfl (fun h => gt rfl h)) ?_
      refine aC_nil (by kernel_rfl) ?_
      refine thn_n ?_
      refine awp_cond _ rfl (fun h5 => ?_) (fun h5 => ?_)
      ·skip
       have hin : inT row.l r.sec = true := by unfold inT; simpa using h5
       refine awp_region (aL_s true rfl rfl (fun _ => q_move rfl) (aL_s true rfl rfl (fun _ => q_load 3 tk62 rfl rfl rfl) ?_))
       refine aL_eff (q := true) rfl (w_lit (zs := [.int .i64 0, .int .i64 0, .int .i64 0, .int .i64 0, .int .i64 0]) (l := [(0, .tmp 86)]) el44 (by kernel_rfl) (by decide) (by decide) (by decide) rfl rfl rfl (.more rfl (.v rfl (.v rfl (.v rfl (.v rfl (.v rfl .nil))))) .nil) rfl rfl (fun v17_2 => ?_))
       refine aL_hp (by (try simp only [nM, nN]); rfl) ?_
       refine aL_eff rfl (w_append 2 el44 rfl rfl rfl rfl (w_srcO 4 el44 rfl (by simp)) (by first | assumption | simp) (by simp; omega) _ rfl (fun v17_3 c17_3 => ?_))
       refine aL_hp (by simp only [nK, nL]; rfl) ?_
       refine aL_s true rfl rfl (fun _ => q_assign rfl) (aL_nil (blk_n (thn_n (awp_region (aL_s true rfl rfl (fun _ => q_move rfl) ?_)))))
       refine aL_s true rfl rfl (fun _ => q_addi rfl rfl (by omega)) ?_
       refine aL_s true rfl rfl (fun _ => q_assign rfl) (aL_nil (thn_n ?_))
       refine ⟨[1, 2, 3, 4, 8, 9, 10, 11, 12, 13, 14], [2, 1, 0], [0, 1, 2], rfl, ?_⟩
       refine ⟨(j + 1, .slice v17_3 (((relsD row.l (o.rels.l.take j)).map GRel.row).length + 1) c17_3), ⟨by dsimp only; omega, ?_⟩, by dsimp only; omega⟩
       dsimp only
       rw [show (relsD row.l (o.rels.l.take (j + 1))).map GRel.row = (relsD row.l (o.rels.l.take j)).map GRel.row ++ [GRel.row r] by unfold relsD; rw [hsn, if_pos hin, List.map_append]; rfl]
       rfl
      ·skip
       have hin : inT row.l r.sec = false := by unfold inT; simpa using h5
       refine awp_skip (blk_n (thn_n (awp_region (aL_s true rfl rfl (fun _ => q_move rfl) ?_))))
       refine aL_s true rfl rfl (fun _ => q_addi rfl rfl (by omega)) ?_
       refine aL_s true rfl rfl (fun _ => q_assign rfl) (aL_nil (thn_n ?_))
       refine ⟨[1, 2, 3, 4, 8, 9, 10, 11, 12, 13, 14], [2, 1, 0], [0, 1, 2], rfl, ?_⟩
       refine ⟨(j + 1, vr), ⟨by dsimp only; omega, ?_⟩, by dsimp only; omega⟩
       dsimp only
       rw [show relsD row.l (o.rels.l.take (j + 1)) = relsD row.l (o.rels.l.take j) by unfold relsD; rw [hsn, if_neg (by rw [hin]; decide)]]
       rfl
     ·skip
      have hjl : j = o.rels.l.length := by simp at h4; omega
      subst hjl
      dsimp only
      rw [List.take_length] at hrl ⊢
      refine awp_exit (thn_e (thn_e (blk_hit (thn_n (awp_seq ?_)))))
      refine awp_formV 2 rfl (fun ar cr hvr => ?_)
      rw [List.length_map] at hvr
      subst hvr
      refine awp_share 2 rfl (awp_nil 65 4 ?_)
      show awp _ _ _ _ ⟨_, _, [_, _, _, _]⟩
      refine awp_region (aL_s true rfl rfl (fun _ => q_assign rfl) (aL_nil (thn_n (awp_seq (awp_seq (awp_region (aL_s true rfl rfl (fun _ => q_assign rfl) ?_)))))))
      refine aL_nil (thn_n (awp_block (awp_loopK [1, 2, 3, 4, 8, 9, 10, 11, 12, 13, 16, 17] [4, 2, 1, 0] [0, 1, 3] (fun (p : Nat × Value) st => p.1 ≤ o.converts.l.length ∧ st = ⟨[(1, true, x.objs.val), (2, true, x.keep.val), (3, true, x.choices.val), (4, true, .pointer (some ⟨b0_0, 0, none⟩)), (8, true, .bool false), (9, true, .bool true), (10, true, t.val), (11, true, .slice v7_2 x.objs.l.length c7_2), (12, true, .int .i64 os.length), (13, true, .slice ar (relsD row.l o.rels.l).length cr), (16, true, p.2), (17, true, .int .i64 p.1)], [Sh (.slice ar (relsD row.l o.rels.l).length cr) (.sl ((relsD row.l o.rels.l).map GRel.row)), AllF GObject.ok os, TabF t, x.ok], [Box b0_0 25 x.r.vs, OwnS (.slice v7_2 x.objs.l.length c7_2) 53 11 ((os ++ x.objs.l.drop os.length).map GObject.row), OwnS p.2 65 4 ((convD row.l (o.converts.l.take p.1)).map GConvert.row)]⟩) (fun p => o.converts.l.length - p.1) rfl (⟨(0, .slice none 0 0), Nat.zero_le _, rfl⟩) ?_)))
      rintro ⟨j, vc⟩ st ⟨hj, rfl⟩
      dsimp only at hj
      have hcl : (convD row.l (o.converts.l.take j)).length ≤ 6 := Nat.le_trans (List.length_filter_le _ _) (by rw [List.length_take]; omega)
      refine awp_seq (awp_seq (awp_region (aL_s true rfl rfl (fun _ => q_move rfl) (aL_s true rfl rfl (fun _ => q_move rfl) (aL_s true rfl rfl (fun _ => q_move rfl) ?_)))))
      refine aL_E true rfl rfl (fun _ => q_indexAddrG Try.underlying26 tk53 rfl ((GLink.f_objs (.of (psAt 3 rfl)))) rfl (rows_get ho) rfl rfl) (fun h => absurd h (by decide)) (fun ⟨b20_3, o20_3⟩ => ?_)
      refine aL_s true rfl rfl (fun _ => q_fieldAddr (off := 10) (by kernel_rfl) rfl) ?_
      refine aL_s true rfl rfl (fun _ => q_loadD (o := 10) tk51 rfl (psAt 0 rfl) rfl rfl) (aL_s true rfl rfl (fun _ => q_lenS Try.underlying51 rfl) (aL_s true rfl rfl (fun _ => q_lss rfl rfl) (aL_nil (thn_n ?_))))
      refine awp_cond _ rfl (fun h6 => ?_) (fun h6 => ?_)
      ·skip
       have hj' : j < o.converts.l.length := by simp at h6; omega
       obtain ⟨c, hc0⟩ : ∃ c, o.converts.l[j]? = some c := ⟨_, List.getElem?_eq_getElem hj'⟩
       have hsn := filter_snoc (fun c : GConvert => inT row.l c.sec) hc0
       refine awp_skip (thn_n (awp_seq (awp_block (awp_seq (awp_region (aL_s true rfl rfl (fun _ => q_move rfl) (aL_s true rfl rfl (fun _ => q_move rfl) ?_)))))))
       refine aL_E true rfl rfl (fun _ => q_indexAddrG Try.underlying26 tk53 rfl ((GLink.f_objs (.of (psAt 4 rfl)))) rfl (rows_get ho) rfl rfl) (fun h => absurd h (by decide)) (fun ⟨b22_2, o22_2⟩ => ?_)
       refine aL_s true rfl rfl (fun _ => q_fieldAddr (off := 10) (by kernel_rfl) rfl) ?_
       refine aL_s true rfl rfl (fun _ => q_loadD (o := 10) tk51 rfl (psAt 0 rfl) rfl rfl) (aL_s true rfl rfl (fun _ => q_move rfl) ?_)
       refine aL_E true rfl rfl (fun _ => q_indexAddrG Try.underlying51 tk65 rfl ((GObject.f_converts ((GLink.f_objsA (.of (psAt 5 rfl))).all ho))) rfl (rows_get hc0) rfl rfl) (fun h => absurd h (by decide)) (fun ⟨b22_6, o22_6⟩ => ?_)
       refine aL_s true rfl rfl (fun _ => q_loadD (o := 0) tk65 rfl (psAt 0 rfl) rfl rfl) ?_
       refine aL_eff (q := true) rfl (x_alloc (zs := [.int .i64 0, .string .empty, .slice none 0 0, .int .i64 0]) (by kernel_rfl) rfl (fun b22_8 => ?_))
       refine aL_hp (by (try simp only [nM, nN]); rfl) ?_
       refine aL_eff rfl (x_store 3 tk65 rfl rfl rfl rfl ?_)
       refine aL_hp (by simp only [nK, nL]; rfl) ?_
       refine aL_nil (thn_n (awp_seq ?_))
       refine awp_drawnC [] [] [b22_8] (by kernel_rfl) ?_
       show aC _ _ _ _ _ _ _ 23 #[false, false, false, false, false, false, false, false, false, false, false, false, false, false, false, false, false, false, false, false, false, false, false] _
       refine aC_f 0 rfl (by kernel_rfl) true rfl rfl (fun _ => q_fieldAddr (off := 0) (by kernel_rfl) rfl) ?_
       refine aC_box 1 3 rfl (by kernel_rfl) true rfl rfl (by simp) tk3 (fun _ => rfl) rfl rfl ?_
       refine aC_f 2 rfl (by kernel_rfl) true rfl rfl (fun _ => q_geq rfl rfl) ?_
       refine aC_f 3 rfl (by kernel_rfl) true rfl rfl (fun _ => q_move rfl) ?_
       refine aC_f 4 rfl (by kernel_rfl) _ rfl rfl (fun hc => q_fieldAddr (off := 0) (by kernel_rfl) rfl) ?_
       refine aC_box 5 3 rfl (by kernel_rfl) _ rfl rfl (by simp) tk3 (fun hc => (ev_yes rfl hc)) rfl rfl ?_
       refine aC_f 6 rfl (by kernel_rfl) _ rfl rfl (fun hc => q_move rfl) ?_
       refine aC_f 7 rfl (by kernel_rfl) _ rfl rfl (fun hc => q_move rfl) ?_
       refine aC_R 8 rfl (by kernel_rfl) _ rfl rfl (fun hc => q_indexAddrGR Try.underlying27 tk54 (ev_yes rfl hc) ((.left (.of (psAt 5 rfl)))) (ev_yes rfl hc) (rows_get hti) rfl rfl) (fun _ => ⟨(0, 0)⟩) (fun ⟨b23_8, o23_8⟩ => ?_)
       refine aC_f 9 rfl (by kernel_rfl) _ rfl rfl (fun hc => q_loadD (o := 0) tk54 (ev_yes rfl hc) (psAt 0 rfl) hc rfl) ?_
       refine aC_f 10 rfl (by kernel_rfl) _ rfl rfl (fun hc => q_lenS Try.underlying54 (ev_yes rfl hc)) ?_
       refine aC_f 11 rfl (by kernel_rfl) _ rfl rfl (fun hc => q_lss (ev_yes rfl hc) (ev_yes rfl hc)) ?_
       refine aC_f 12 rfl (by kernel_rfl) true rfl rfl (fun _ => q_and rfl rfl (fun h => gt rfl h)) ?_
       refine aC_f 13 rfl (by kernel_rfl) true rfl rfl (fun _ => q_move rfl) ?_
       refine aC_f 14 rfl (by kernel_rfl) _ rfl rfl (fun hc => q_move rfl) ?_
       refine aC_f 15 rfl (by kernel_rfl) _ rfl rfl (fun hc => q_move rfl) ?_
       refine aC_R 16 rfl (by kernel_rfl) _ rfl rfl (fun hc => q_indexAddrGR Try.underlying27 tk54 (ev_yes rfl hc) ((.left (.of (psAt 6 rfl)))) (ev_yes rfl hc) (rows_get hti) rfl rfl) (fun _ => ⟨(0, 0)⟩) (fun ⟨b23_16, o23_16⟩ => ?_)
       refine aC_f 17 rfl (by kernel_rfl) _ rfl rfl (fun hc => q_loadD (o := 0) tk54 (ev_yes rfl hc) (psAt 0 rfl) hc rfl) ?_
       refine aC_f 18 rfl (by kernel_rfl) _ rfl rfl (fun hc => q_fieldAddr (off := 0) (by kernel_rfl) rfl) ?_
       refine aC_box 19 3 rfl (by kernel_rfl) _ rfl rfl (by simp) tk3 (fun hc => (ev_yes rfl hc)) rfl rfl ?_
       refine aC_R 20 rfl (by kernel_rfl) _ rfl rfl (fun hc => q_indexAddrGR Try.underlying54 tk4 (ev_yes rfl hc) ((Ent.all (f := ShF fun b : Bool => [.v (.bool b)]) (Ent.right (.of (psAt 7 rfl))) hti)) (ev_yes rfl hc) (rows_elt (i := c.sec) (by simp at hc; omega) (by simp at hc; omega)) (by simp at hc; omega) rfl) (fun _ => ⟨(0, 0)⟩) (fun ⟨b23_20, o23_20⟩ => ?_)
       refine aC_f 21 rfl (by kernel_rfl) _ rfl rfl (fun hc => q_loadD (o := 0) tk4 (ev_yes rfl hc) (psAt 0 rfl) hc rfl) ?_
       refine aC_f 22 rfl (by kernel_rfl) true rfl rfl (fun _ => q_and rfl rfl (fun h => gt rfl h)) ?_
       refine aC_nil (by kernel_rfl) ?_
       refine thn_n ?_
       refine awp_cond _ rfl (fun h7 => ?_) (fun h7 => ?_)
       ·skip
        have hin : inT row.l c.sec = true := by unfold inT; simpa using h7
        refine awp_region (aL_s true rfl rfl (fun _ => q_move rfl) (aL_s true rfl rfl (fun _ => q_load 3 tk65 rfl rfl rfl) ?_))
        refine aL_eff (q := true) rfl (w_lit (zs := [.int .i64 0, .string .empty, .slice none 0 0, .int .i64 0]) (l := [(0, .tmp 131)]) el51 (by kernel_rfl) (by decide) (by decide) (by decide) rfl rfl rfl (.more rfl (.v rfl (.v rfl (.v rfl (.v rfl .nil)))) .nil) rfl rfl (fun v24_2 => ?_))
        refine aL_hp (by (try simp only [nM, nN]); rfl) ?_
        refine aL_eff rfl (w_append 2 el51 rfl rfl rfl rfl (w_srcO 4 el51 rfl (by simp)) (by first | assumption | simp) (by simp; omega) _ rfl (fun v24_3 c24_3 => ?_))
        refine aL_hp (by simp only [nK, nL]; rfl) ?_
        refine aL_s true rfl rfl (fun _ => q_assign rfl) (aL_nil (blk_n (thn_n (awp_region (aL_s true rfl rfl (fun _ => q_move rfl) ?_)))))
        refine aL_s true rfl rfl (fun _ => q_addi rfl rfl (by omega)) ?_
        refine aL_s true rfl rfl (fun _ => q_assign rfl) (aL_nil (thn_n ?_))
        refine ⟨[1, 2, 3, 4, 8, 9, 10, 11, 12, 13, 16, 17], [3, 2, 1, 0], [0, 1, 2], rfl, ?_⟩
        refine ⟨(j + 1, .slice v24_3 (((convD row.l (o.converts.l.take j)).map GConvert.row).length + 1) c24_3), ⟨by dsimp only; omega, ?_⟩, by dsimp only; omega⟩
        dsimp only
        rw [show (convD row.l (o.converts.l.take (j + 1))).map GConvert.row = (convD row.l (o.converts.l.take j)).map GConvert.row ++ [GConvert.row c] by unfold convD; rw [hsn, if_pos hin, List.map_append]; rfl]
        rfl
       ·skip
        have hin : inT row.l c.sec = false := by unfold inT; simpa using h7
        refine awp_skip (blk_n (thn_n (awp_region (aL_s true rfl rfl (fun _ => q_move rfl) ?_))))
        refine aL_s true rfl rfl (fun _ => q_addi rfl rfl (by omega)) ?_
        refine aL_s true rfl rfl (fun _ => q_assign rfl) (aL_nil (thn_n ?_))
        refine ⟨[1, 2, 3, 4, 8, 9, 10, 11, 12, 13, 16, 17], [3, 2, 1, 0], [0, 1, 2], rfl, ?_⟩
        refine ⟨(j + 1, vc), ⟨by dsimp only; omega, ?_⟩, by dsimp only; omega⟩
        dsimp only
        rw [show convD row.l (o.converts.l.take (j + 1)) = convD row.l (o.converts.l.take j) by unfold convD; rw [hsn, if_neg (by rw [hin]; decide)]]
        rfl
      ·skip
       have hjl : j = o.converts.l.length := by simp at h6; omega
       subst hjl
       dsimp only
       rw [List.take_length] at hcl ⊢
       refine awp_exit (thn_e (thn_e (blk_hit (thn_n (awp_seq ?_)))))
       refine awp_formV 2 rfl (fun ac cc hvc => ?_)
       rw [List.length_map] at hvc
       subst hvc
       refine awp_share 2 rfl ?_
       refine awp_formO 1 rfl (fun h0 => by have := congrArg List.length h0; simp at this; omega) (fun B cpb hvb => ?_)
       obtain ⟨rfl, rfl⟩ : v7_2 = some ⟨B, 0, none⟩ ∧ c7_2 = cpb := by simp at hvb; exact ⟨hvb.1, hvb.2.2⟩
       have hr1 := mid_get GObject.row hi'
       rw [hoo] at hr1
       have hr2 : (((os ++ x.objs.l.drop os.length).map GObject.row).set os.length (setD (GObject.row o) 3 [D.v (.slice ar (relsD row.l o.rels.l).length cr)]))[os.length]? = some (setD (GObject.row o) 3 [D.v (.slice ar (relsD row.l o.rels.l).length cr)]) := List.getElem?_set_self (by simp; omega)
       refine awp_region (aL_s true rfl rfl (fun _ => q_move rfl) (aL_s true rfl rfl (fun _ => q_move rfl) (aL_s true rfl rfl (fun _ => q_move rfl) (aL_s true rfl rfl (fun _ => q_idxV os.length el26 rfl rfl rfl hi') ?_))))
       refine aL_s true rfl rfl (fun _ => q_fieldAddr (off := 3) (by kernel_rfl) rfl) ?_
       refine aL_eff (q := false) rfl (e_storeO 1 os.length 3 tk44 rfl rfl rfl hr1 rfl (.v rfl .nil) rfl (by decide) ?_)
       refine aL_nil (thn_n (awp_region (aL_s true rfl rfl (fun _ => q_move rfl) (aL_s true rfl rfl (fun _ => q_move rfl) (aL_s true rfl rfl (fun _ => q_move rfl) (aL_s true rfl rfl (fun _ => q_idxV os.length el26 rfl rfl rfl hi') ?_))))))
       refine aL_s true rfl rfl (fun _ => q_fieldAddr (off := 10) (by kernel_rfl) rfl) ?_
       refine aL_eff (q := false) rfl (e_storeO 1 os.length 10 tk51 rfl rfl rfl hr2 rfl (.v rfl .nil) rfl (by decide) ?_)
       refine aL_nil (blk_n (thn_n ?_))
       refine aw_hp (hp' := [_, OwnS (.slice (some ⟨B, 0, none⟩) x.objs.l.length c7_2) 53 11 (((os ++ [{ o with rels := ⟨ar, cr, relsD row.l o.rels.l⟩, converts := ⟨ac, cc, convD row.l o.converts.l⟩ }]) ++ x.objs.l.drop (os.length + 1)).map GObject.row), _]) (by show [_, OwnS _ _ _ ((((os ++ x.objs.l.drop os.length).map GObject.row).set os.length _).set os.length _), _] = _; rw [List.set_set, ← mid_set GObject.row hi']; rfl) ?_
       refine awp_fact (AllF GObject.ok (os ++ [{ o with rels := ⟨ar, cr, relsD row.l o.rels.l⟩, converts := ⟨ac, cc, convD row.l o.converts.l⟩ }])) (fun w S hps y hy => ?_) ?_
       · rcases List.mem_append.1 hy with hy | hy
         · exact (hps (AllF GObject.ok os) (by simp)) y hy
         · rw [List.mem_singleton.1 hy]
           have hx := (hps x.ok (by simp)).2.2.1 _ (List.mem_of_getElem? ho)
           have hr := hps (Sh (.slice ar (relsD row.l o.rels.l).length cr) (.sl ((relsD row.l o.rels.l).map GRel.row))) (by simp)
           obtain ⟨q1, q2, q3, q4, q5, q6, q7, q8, q9, q10, q11, q12⟩ := hx
           have hcv := hps (Sh (.slice ac (convD row.l o.converts.l).length cc) (.sl ((convD row.l o.converts.l).map GConvert.row))) (by simp)
           exact ⟨q1, q2, hr, q4, q5, q6, q7, q8, q9, q10, hcv, fun y hy => q12 y (List.mem_filter.1 hy).1⟩
       refine awp_region (aL_s true rfl rfl (fun _ => q_move rfl) ?_)
       refine aL_s true rfl rfl (fun _ => q_addi rfl rfl (by omega)) ?_
       refine aL_s true rfl rfl (fun _ => q_assign rfl) (aL_nil (thn_n ?_))
       refine ⟨[1, 2, 3, 4, 8, 9, 10, 11, 12], [6, 1, 0], [0, 1], rfl, ?_⟩
       refine ⟨os ++ [{ o with rels := ⟨ar, cr, relsD row.l o.rels.l⟩, converts := ⟨ac, cc, convD row.l o.converts.l⟩ }], ⟨⟨by simp; omega, fun i hik => ?_⟩, ?_⟩, by simp; omega⟩
       · by_cases hil : i < os.length
         · rw [elt_app_l hil]; exact hos i hil
         · have hie : i = os.length := by rw [List.length_append, List.length_singleton] at hik; omega
           subst hie
           rw [elt_app_r, hoo, hrow]
           exact ⟨rfl, rfl, rfl, rfl, rfl, rfl⟩
       · rw [show (os ++ [({ o with rels := ⟨ar, cr, relsD row.l o.rels.l⟩, converts := ⟨ac, cc, convD row.l o.converts.l⟩ } : GObject)]).length = os.length + 1 by simp]
         rfl
    ·skip
     have hol : os.length = x.objs.l.length := by simp at h3; omega
     have hless : Less x ⟨x.r, ⟨v7_2, c7_2, os⟩, x.keep, x.choices, x.first, x.count⟩ t := ⟨rfl, rfl, rfl, hol, fun i hi => hos i (by rw [hol]; exact hi)⟩
     rw [show (os ++ x.objs.l.drop os.length) = os by rw [hol, List.drop_length, List.append_nil]]
     refine awp_exit (thn_e (thn_e (blk_hit (thn_n (awp_seq (awp_share 1 rfl ?_))))))
     refine awp_fact (GLink.ok ⟨x.r, ⟨v7_2, c7_2, os⟩, x.keep, x.choices, x.first, x.count⟩) (fun w S hps => ⟨(hps x.ok (by simp)).1, (by have h := hps (Sh (.slice v7_2 x.objs.l.length c7_2) (.sl (os.map GObject.row))) (by simp); show RepD w S (.slice v7_2 os.length c7_2) _; rw [hol]; exact h), hps (AllF GObject.ok os) (by simp), (hps x.ok (by simp)).2.2.2⟩) ?_
     refine awp_region (aL_s true rfl rfl (fun _ => q_move rfl) (aL_s true rfl rfl (fun _ => q_move rfl) (aL_s true rfl rfl (fun _ => q_load 0 tk25 rfl rfl rfl) (aL_s true rfl rfl (fun _ => q_move rfl) (aL_s true rfl rfl (fun _ => q_move rfl) (aL_s true rfl rfl (fun _ => q_move rfl) ?_))))))
     refine aL_eff (q := true) rfl (e_call [4] [] (by kernel_rfl) rfl rfl rfl rfl (con_live_less x v7_2 c7_2 os hol (hless.few hF)) ?_)
     rintro _ _ _ ⟨rfl, u, ad2, cap2, rfl, hu, rfl⟩
     refine aL_st (by (try simp only [nM, nN]); rfl) (by (try simp only [putB, place, Nat.reduceBEq, nA, if_true, if_false, reduceIte, nB, nC, nD, nE, nF, nG, nH, nI, Nat.reduceAdd, nJ, beq_self_eq_true, nK, nL, nM, nN]); rfl) ?_
     refine aL_s true rfl rfl (fun _ => q_move rfl) ?_
     refine aL_eff (q := false) rfl (e_call [1] [2] (by kernel_rfl) rfl rfl rfl rfl (con_same_res u t (hless.tab ht hu)) ?_)
     rintro _ _ _ ⟨rfl, rfl, rfl⟩
     refine aL_st (by (try simp only [nM, nN]); rfl) (by (try simp only [putB, place, Nat.reduceBEq, nA, if_true, if_false, reduceIte, nB, nC, nD, nE, nF, nG, nH, nI, Nat.reduceAdd, nJ, beq_self_eq_true, nK, nL, nM, nN]); rfl) ?_
     refine aL_s true rfl rfl (fun _ => q_and rfl rfl (fun _ => rfl)) (aL_s true rfl rfl (fun _ => q_assign rfl) (aL_nil (thn_n (awp_ret ?_))))
     refine fin1 [] [] rfl Try.results6 rfl ?_ (.inr rfl)
     rfl
end Go.Proofs.Ytnbochlghdkfkaa
namespace Go.Proofs.Ytnbochlghdkfkaa.liveDead
open Go.ChangeShapes Go.WideShapes Go.ChangeAt Go.RowKit
open Go.Lp Go.Sy
open Go.ChangeMaps (open_string shut_string)
theorem own : ownKnob Try.prog.godebug = none := by kernel_rfl
theorem laidOut : laidOutB Try.prog = true := by kernel_rfl
set_option maxRecDepth 100000 in
theorem lifted (os : Os) (started : os.Started) (H : Type) (enc : TypeId × Value → H) :
    ReturnsInHanded {} Try.checked os 6 .any (Rows.liveDeadSpec.pre6 enc Try.prog Try.f6 Rows.liveDeadRow.domain false) (Rows.liveDeadSpec.post enc Try.prog Try.f6 false true false false) := by
  refine returnsInHanded_of_change (C := Try.checked) own started (by kernel_rfl) Try.func6
    (ChangeSpec.witness6 (enc := enc) (C := Try.checked) false ⟨#[], #[.agg #[.string .empty, .bool false, .slice none 0 0, .slice none 0 0, .string .empty, .int .i64 0, .slice none 0 0], .slice none 0 0, .slice none 0 0, .slice none 0 0], []⟩ 12 (by kernel_rfl) (by kernel_rfl) (by kernel_rfl) (by kernel_rfl)) ?_
  intro W base args ds gs before hval0 hW hcnd _
  have hval : ∀ (j : Nat) t v, Try.f6.params[j]? = some t → args[j]? = some v → Value.okWide Try.prog W .any base t v := hval0
  have hW' := hW
  obtain ⟨p, q, hA0, hV, rfl, hfz, hnd⟩ := hW
  have hA : DataW.TrodAll enc Try.prog W 0 (fun _ => true) true Try.f6.params.toList args.toList ds p := hA0
  rw [Try.params6] at hA hval
  obtain ⟨v0, vs0, d0, ds0, p0, q0, hargs, rfl, rfl, h0, r0⟩ := trodAll_cons hA
  obtain ⟨v1, vs1, d1, ds1, p1, q1, rfl, rfl, rfl, h1, r1⟩ := trodAll_cons r0
  obtain ⟨v2, vs2, d2, ds2, p2, q2, rfl, rfl, rfl, h2, r2⟩ := trodAll_cons r1
  obtain ⟨v3, vs3, d3, ds3, p3, q3, rfl, rfl, rfl, h3, r3⟩ := trodAll_cons r2
  obtain ⟨rfl, rfl, rfl⟩ := trodAll_nil r3
  obtain rfl : args = #[v0, v1, v2, v3] := by cases args; simp_all
  obtain ⟨rfl, rfl⟩ := trodVars_none hV
  obtain ⟨cs0, rfl, hsz0⟩ := okWide_struct Try.underlying25 (hval 0 25 v0 rfl rfl)
  obtain ⟨a1, l1, c1, rfl⟩ := okWide_slice Try.underlying26 (hval 1 26 v1 rfl rfl)
  obtain ⟨a2, l2, c2, rfl⟩ := okWide_slice Try.underlying27 (hval 2 27 v2 rfl rfl)
  obtain ⟨a3, l3, c3, rfl⟩ := okWide_slice Try.underlying28 (hval 3 28 v3 rfl rfl)
  have k0 := h0; have k1 := h1; have k2 := h2; have k3 := h3
  have lt0 : ∀ x ∈ p0, x.block < W.heap.size := by obtain ⟨m, hm⟩ := k0; exact DataW.trod_lt m _ _ _ hm
  have lt1 : ∀ x ∈ p1, x.block < W.heap.size := by obtain ⟨m, hm⟩ := k1; exact DataW.trod_lt m _ _ _ hm
  have lt2 : ∀ x ∈ p2, x.block < W.heap.size := by obtain ⟨m, hm⟩ := k2; exact DataW.trod_lt m _ _ _ hm
  have lt3 : ∀ x ∈ p3, x.block < W.heap.size := by obtain ⟨m, hm⟩ := k3; exact DataW.trod_lt m _ _ _ hm
  obtain ⟨x, e0, e1, e2, e3, hok⟩ : ∃ x : GLink, Value.agg cs0 = x.r.val ∧ Value.slice a1 l1 c1 = x.objs.val ∧ Value.slice a2 l2 c2 = x.keep.val ∧ Value.slice a3 l3 c3 = x.choices.val ∧ x.ok.holds W (fun b => b < W.heap.size) := by
    obtain ⟨f0, g0⟩ := h0
    obtain ⟨f1, g1⟩ := h1
    obtain ⟨f2, g2⟩ := h2
    obtain ⟨f3, g3⟩ := h3
    exact link_in (by simpa [Value.cells] using g0) (by simpa [Value.cells] using g1) (by simpa [Value.cells] using g2) (by simpa [Value.cells] using g3)
  clear hA0 hval0
  have hc := (con_dead x).quiet1 (List.mem_singleton.2 rfl) (st_in (w := W) (ps := [x.ok]) fun p hp => by rw [List.mem_singleton.1 hp]; exact hok)
  rw [← e0, ← e1, ← e2, ← e3] at hc
  refine hc.mono fun e W' ⟨he, bel⟩ => ?_
  subst he
  exact ⟨_, rfl, _, _, _, [], _, [], hW', trodAll_mk1 (shut_bool Try.underlying4 _), (trodAll_cons_mk (Below.trod laidOut (by kernel_rfl) (of_decide_eq_true (by kernel_rfl)) k0 bel lt0) (trodAll_cons_mk (Below.trod laidOut (by kernel_rfl) (of_decide_eq_true (by kernel_rfl)) k1 bel lt1) (trodAll_cons_mk (Below.trod laidOut (by kernel_rfl) (of_decide_eq_true (by kernel_rfl)) k2 bel lt2) (trodAll_cons_mk (Below.trod laidOut (by kernel_rfl) (of_decide_eq_true (by kernel_rfl)) k3 bel lt3) trodAll_mk0)))), rfl, bel.frame _, fun h => by cases h⟩
theorem over : Rows.liveDeadRow.holds Try.pinned (OpenSpec.ofChange Rows.liveDeadSpec) :=
  OpenClaim.holds_of_wide 6 Try.f6 rfl rfl rfl rfl rfl rfl rfl ⟨rfl, rfl, rfl, rfl, rfl⟩ rfl rfl rfl rfl rfl (by kernel_rfl) Try.func6 (by kernel_rfl)
    (of_decide_eq_true (by kernel_rfl)) (by unfold Func.isWrapper; first | (rw [if_pos (by decide +kernel)]; kernel_rfl) | (rw [if_neg (by decide +kernel)]; exact ⟨rfl, rfl⟩))
    (fun os started H enc _ => lifted os started H enc)
theorem proved : Rows.LiveDeadSaid := over
end Go.Proofs.Ytnbochlghdkfkaa.liveDead
