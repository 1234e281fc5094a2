/- From the kit's reading of the arguments to records with their facts. No condition. -/
import Derived.Test.YtnbochlghdkfkaaBlG
import Derived.Test.YtnbochlghdkfkaaBlJ
import Derived.Test.YtnbochlghdkfkaaBlI
import Derived.Test.YtnbochlghdkfkaaBlE
import Derived.Deep.Slices
set_option linter.unusedVariables false
set_option linter.unusedSimpArgs false
set_option maxRecDepth 20000
namespace Go.Proofs.Ytnbochlghdkfkaa
open Go.RowKit Go.Lp Go.Sy Go.Lv
open Go.Proofs.Try
attribute [local irreducible] aL aB awp aC fwp
theorem num_inj {os : List GObject} {a b o s : Int} (h1 : (0 ≤ a ∧ a < os.length) ∧ 0 ≤ b ∧ b < (elt os a).secs.l.length) (h2 : (0 ≤ o ∧ o < os.length) ∧ 0 ≤ s ∧ s < (elt os o).secs.l.length) (h : numF os a b = numF os o s) : a = o ∧ b = s := by
  have key : ∀ {a b o s : Int}, (0 ≤ a ∧ a < os.length) → (0 ≤ b ∧ b < (elt os a).secs.l.length) → 0 ≤ s → a < o → numF os a b ≠ numF os o s := by
    intro a b o s ha hb hs hao
    have h1 : cntF os (a.toNat + 1) ≤ cntF os o.toNat := cnt_mono os (by omega)
    have h2 : cntF os (a.toNat + 1) = cntF os a.toNat + (elt os ((a.toNat : Nat) : Int)).secs.l.length := rfl
    rw [Int.toNat_of_nonneg ha.1] at h2
    unfold numF; omega
  rcases Int.lt_trichotomy a o with h3 | h3 | h3
  · exact (key h1.1 h1.2 h2.2.1 h3 h).elim
  · subst h3
    unfold numF at h
    exact ⟨rfl, by omega⟩
  · exact (key h2.1 h2.2 h1.2.1 h3 h.symm).elim
theorem kept_range {os : List GObject} {kp : List (Sl Bool)} {o s : Int} (h : keptF os kp o s = true) : (0 ≤ o ∧ o < os.length) ∧ 0 ≤ s ∧ s < (elt os o).secs.l.length := ⟨(keptF_iff h).1, (keptF_iff h).2.1⟩
theorem leads_iff {x : GLink} {o k a b : Int} : leadsF x o k a b = true ↔ (0 ≤ k ∧ k < (elt x.objs.l o).syms.l.length) ∧ refBad x o k = false ∧ (choiceF x.choices.l o k).obj = a ∧ secOf x o k = b ∧ keptF x.objs.l x.keep.l a b = true := by
  unfold leadsF refSec
  rw [Bool.and_eq_true, decide_eq_true_eq]
  refine and_congr Iff.rfl ?_
  by_cases hb : refBad x o k = true
  · rw [if_pos hb, hb]; simp
  · have hb' : refBad x o k = false := by simpa using hb
    rw [if_neg hb, hb']
    simp only [Bool.and_eq_true, decide_eq_true_eq]
    constructor
    · rintro ⟨⟨h1, h2⟩, h3⟩; exact ⟨trivial, h2, h3, by rw [← h2, ← h3]; exact h1⟩
    · rintro ⟨_, h2, h3, h1⟩; exact ⟨⟨by rw [h2, h3]; exact h1, h2⟩, h3⟩
section
variable {x : GLink} {ad : Option Addr} {cap : Nat}
theorem section_iff {o k z : Int} : sectionF (lkF x ad cap x.objs.l.length) o k = some z ↔ ∃ a b, leadsF x o k a b = true ∧ z = numF x.objs.l a b := by
  have hbad : secBad (lkF x ad cap x.objs.l.length) o k = false ↔ (0 ≤ k ∧ k < (elt x.objs.l o).syms.l.length) ∧ refBad x o k = false := by
    unfold secBad refBad
    simp only [indexF, Bool.or_eq_false_iff, Bool.not_eq_false', Bool.and_eq_true, decide_eq_true_eq, decide_eq_false_iff_not, ge_iff_le]
    constructor
    · rintro ⟨⟨⟨h1, h2⟩, h3⟩, h4⟩; exact ⟨h1, h2, h3.1, h3.2, h4.1, h4.2⟩
    · rintro ⟨h1, h2, h3, h4, h5, h6⟩; exact ⟨⟨⟨h1, h2⟩, h3, h4⟩, h5, h6⟩
  unfold sectionF
  by_cases hb : secBad (lkF x ad cap x.objs.l.length) o k = true
  · rw [if_pos hb]
    refine ⟨fun h => (by cases h), fun ⟨a, b, h1, _⟩ => ?_⟩
    have := leads_iff.1 h1
    rw [hbad.2 ⟨this.1, this.2.1⟩] at hb; cases hb
  · rw [if_neg hb]
    have hb' := hbad.1 (by simpa using hb)
    by_cases hk : keptF x.objs.l x.keep.l (choiceF x.choices.l o k).obj (secOf x o k) = true
    · rw [if_pos (show keptF (lkF x ad cap x.objs.l.length).objs.l (lkF x ad cap x.objs.l.length).keep.l (choiceF (lkF x ad cap x.objs.l.length).choices.l o k).obj (secOf (lkF x ad cap x.objs.l.length) o k) = true from hk)]
      have hfirst : elt (lkF x ad cap x.objs.l.length).first.l (choiceF (lkF x ad cap x.objs.l.length).choices.l o k).obj + secOf (lkF x ad cap x.objs.l.length) o k = numF x.objs.l (choiceF x.choices.l o k).obj (secOf x o k) := lk_first hk
      rw [hfirst]
      constructor
      · intro h
        simp only [Option.some.injEq] at h
        exact ⟨_, _, leads_iff.2 ⟨hb'.1, hb'.2, rfl, rfl, hk⟩, h.symm⟩
      · rintro ⟨a, b, h1, rfl⟩
        obtain ⟨_, _, rfl, rfl, _⟩ := leads_iff.1 h1
        rfl
    · rw [if_neg (show ¬ keptF (lkF x ad cap x.objs.l.length).objs.l (lkF x ad cap x.objs.l.length).keep.l (choiceF (lkF x ad cap x.objs.l.length).choices.l o k).obj (secOf (lkF x ad cap x.objs.l.length) o k) = true from hk)]
      refine ⟨fun h => (by cases h), fun ⟨a, b, h1, _⟩ => ?_⟩
      obtain ⟨_, _, rfl, rfl, h2⟩ := leads_iff.1 h1
      exact (hk h2).elim
theorem mem_section {o k z : Int} : z ∈ (sectionF (lkF x ad cap x.objs.l.length) o k).toList ↔ ∃ a b, leadsF x o k a b = true ∧ z = numF x.objs.l a b := by
  rw [← section_iff (ad := ad) (cap := cap), Option.mem_toList]
theorem mem_arcOf {o s k u v : Int} : (⟨u, v⟩ : GArc) ∈ arcOf (lkF x ad cap x.objs.l.length) o s k ↔ keptF x.objs.l x.keep.l o s = true ∧ u = numF x.objs.l o s ∧ ∃ a b, leadsF x o k a b = true ∧ v = numF x.objs.l a b := by
  unfold arcOf
  by_cases h : ((sectionF (lkF x ad cap x.objs.l.length) o k).isSome && keptF x.objs.l x.keep.l o s) = true
  · rw [if_pos (show ((sectionF (lkF x ad cap x.objs.l.length) o k).isSome && keptF (lkF x ad cap x.objs.l.length).objs.l (lkF x ad cap x.objs.l.length).keep.l o s) = true from h)]
    rw [Bool.and_eq_true] at h
    obtain ⟨z, hz⟩ := Option.isSome_iff_exists.1 h.1
    have hf : elt (lkF x ad cap x.objs.l.length).first.l o + s = numF x.objs.l o s := lk_first h.2
    rw [hf, hz, List.mem_singleton]
    simp only [Option.getD_some, GArc.mk.injEq]
    constructor
    · rintro ⟨h1, h2⟩; exact ⟨h.2, h1, section_iff.1 (by rw [hz, h2])⟩
    · rintro ⟨_, h1, h2⟩
      have h3 := (section_iff (ad := ad) (cap := cap)).2 h2
      rw [hz] at h3
      exact ⟨h1, (Option.some.inj h3).symm⟩
  · rw [if_neg (show ¬ ((sectionF (lkF x ad cap x.objs.l.length) o k).isSome && keptF (lkF x ad cap x.objs.l.length).objs.l (lkF x ad cap x.objs.l.length).keep.l o s) = true from h)]
    refine ⟨fun h => (by cases h), fun ⟨h1, _, h2⟩ => (h ?_).elim⟩
    rw [h1, (section_iff (ad := ad) (cap := cap)).2 h2]; rfl
theorem needs_iff {a b o s : Int} : needsF x a b o s = true ↔ keptF x.objs.l x.keep.l a b = true ∧ ((∃ r ∈ (elt x.objs.l a).rels.l, r.sec = b ∧ leadsF x a r.sym o s = true) ∨ ∃ c ∈ (elt x.objs.l a).converts.l, c.sec = b ∧ leadsF x a c.code o s = true) := by
  unfold needsF needsRel needsCv
  simp only [Bool.and_eq_true, Bool.or_eq_true, List.any_eq_true, decide_eq_true_eq]
theorem mem_arcs {u v : Int} : (⟨u, v⟩ : GArc) ∈ arcsF (lkF x ad cap x.objs.l.length) x.objs.l.length ↔ ∃ a b o s, needsF x a b o s = true ∧ u = numF x.objs.l a b ∧ v = numF x.objs.l o s := by
  unfold arcsF
  rw [List.mem_flatMap]
  constructor
  · rintro ⟨k, hk, h⟩
    unfold arcsOb at h
    rcases List.mem_append.1 h with h | h
    · unfold arcsRel at h
      obtain ⟨r, hr, h⟩ := List.mem_flatMap.1 h
      obtain ⟨h1, h2, o, s, h3, h4⟩ := mem_arcOf.1 h
      exact ⟨_, _, o, s, needs_iff.2 ⟨h1, .inl ⟨r, hr, rfl, h3⟩⟩, h2, h4⟩
    · unfold arcsCv at h
      obtain ⟨r, hr, h⟩ := List.mem_flatMap.1 h
      obtain ⟨h1, h2, o, s, h3, h4⟩ := mem_arcOf.1 h
      exact ⟨_, _, o, s, needs_iff.2 ⟨h1, .inr ⟨r, hr, rfl, h3⟩⟩, h2, h4⟩
  · rintro ⟨a, b, o, s, h, rfl, rfl⟩
    obtain ⟨hk, h⟩ := needs_iff.1 h
    have hkr := kept_range hk
    have ha : ((a.toNat : Nat) : Int) = a := Int.toNat_of_nonneg hkr.1.1
    refine ⟨a.toNat, List.mem_range.2 (by omega), ?_⟩
    unfold arcsOb
    rw [ha]
    rcases h with ⟨r, hr, rfl, hL⟩ | ⟨r, hr, rfl, hL⟩
    · refine List.mem_append_left _ ?_
      unfold arcsRel
      rw [ha]
      exact List.mem_flatMap.2 ⟨r, hr, mem_arcOf.2 ⟨hk, rfl, o, s, hL, rfl⟩⟩
    · refine List.mem_append_right _ ?_
      unfold arcsCv
      rw [ha]
      exact List.mem_flatMap.2 ⟨r, hr, mem_arcOf.2 ⟨hk, rfl, o, s, hL, rfl⟩⟩
theorem bytes_ext {a b : ByteArray} (h : a.toList = b.toList) : a = b := by
  rw [ByteArray.toList_eq, ByteArray.toList_eq] at h
  cases a; cases b; congr 1; exact Array.toList_inj.1 h
theorem hid_one (m : ByteArray → Option Bool) (nm : ByteArray) (y : GSymbol) : (hidOne m y nm).getD false = ((m nm).getD false || hiddenSym nm y) := by
  unfold hidOne hiddenSym
  by_cases h : y.bind ≠ 0 ∧ y.vis = 2
  · rw [if_pos h, decide_eq_true h.1, decide_eq_true h.2]
    unfold mput
    by_cases hn : nm = y.name
    · subst hn; rw [if_pos rfl]; simp
    · rw [if_neg hn, decide_eq_false (fun hh => hn (bytes_ext hh).symm)]; simp
  · rw [if_neg h]
    have : (decide (y.bind ≠ 0) && decide (y.vis = 2)) = false := by
      rw [← Bool.decide_and]; exact decide_eq_false h
    rw [Bool.and_assoc, this]; simp
theorem hid_syms (nm : ByteArray) : ∀ (l : List GSymbol) (m : ByteArray → Option Bool), (hidSyms m l nm).getD false = ((m nm).getD false || l.any (hiddenSym nm))
  | [], m => by simp [hidSyms]
  | y :: l, m => by
    show (hidSyms (hidOne m y) l nm).getD false = _
    rw [hid_syms nm l, hid_one, List.any_cons, Bool.or_assoc]
theorem hid_eq (nm : ByteArray) (os : List GObject) : (hidF os nm).getD false = hiddenF os nm := by
  have : ∀ (os : List GObject) (m : ByteArray → Option Bool), ((os.foldl (fun m o => hidSyms m o.syms.l) m) nm).getD false = ((m nm).getD false || hiddenF os nm) := by
    intro os
    induction os with
    | nil => intro m; simp [hiddenF]
    | cons o os ih => intro m; rw [List.foldl_cons, ih, hid_syms]; unfold hiddenF; rw [List.any_cons, Bool.or_assoc]
  unfold hidF
  rw [this]; rfl
theorem mem_symRoot {z : Int} {k j : Nat} {y : GSymbol} : z ∈ symRoot (lkF x ad cap x.objs.l.length) k j y ↔ ∃ a b, rootSymF x a b k j y = true ∧ z = numF x.objs.l a b := by
  have hcond : ((choiceF x.choices.l (k : Int) (j : Int)).kind = 2 ∧ (choiceF x.choices.l (k : Int) (j : Int)).obj = k ∧ (choiceF x.choices.l (k : Int) (j : Int)).sym = j ∧ (entryF x y = true ∨ (hidF x.objs.l y.name).getD false = false)) ↔ (chosenF x k j = true ∧ (entryF x y || !hiddenF x.objs.l y.name) = true) := by
    rw [hid_eq]
    unfold chosenF
    simp only [Bool.and_eq_true, decide_eq_true_eq, Bool.or_eq_true, Bool.not_eq_true']
    constructor
    · rintro ⟨h1, h2, h3, h4⟩; exact ⟨⟨⟨h1, h2⟩, h3⟩, h4⟩
    · rintro ⟨⟨⟨h1, h2⟩, h3⟩, h4⟩; exact ⟨h1, h2, h3, h4⟩
  have e : symRoot (lkF x ad cap x.objs.l.length) k j y = if ((choiceF x.choices.l (k : Int) (j : Int)).kind = 2 ∧ (choiceF x.choices.l (k : Int) (j : Int)).obj = k ∧ (choiceF x.choices.l (k : Int) (j : Int)).sym = j ∧ (entryF x y = true ∨ (hidF x.objs.l y.name).getD false = false)) then (sectionF (lkF x ad cap x.objs.l.length) k j).toList else [] := rfl
  rw [e]
  by_cases h : chosenF x k j = true ∧ (entryF x y || !hiddenF x.objs.l y.name) = true
  · rw [if_pos (hcond.2 h), mem_section]
    unfold rootSymF
    rw [h.1, h.2]
    simp
  · rw [if_neg (fun hh => h (hcond.1 hh))]
    refine ⟨fun h => (by cases h), fun ⟨a, b, h1, _⟩ => (h ?_).elim⟩
    unfold rootSymF at h1
    simp only [Bool.and_eq_true] at h1
    exact ⟨h1.1.1, h1.2⟩
theorem mem_kepts {p : GPlace} : p ∈ keptsF x x.objs.l.length ↔ keptF x.objs.l x.keep.l p.obj p.sec = true := by
  constructor
  · intro h
    obtain ⟨k, s, _, rfl, h2⟩ := keptsF_mem h
    exact h2
  · intro h
    have hr := kept_range h
    have ha : ((p.obj.toNat : Nat) : Int) = p.obj := Int.toNat_of_nonneg hr.1.1
    have hb : ((p.sec.toNat : Nat) : Int) = p.sec := Int.toNat_of_nonneg hr.2.1
    have := kepts_at x (k := p.obj.toNat) (j := p.sec.toNat) (by omega) (by rw [ha]; omega) (by rw [ha, hb]; exact h)
    have hm := List.mem_of_getElem? this
    rw [ha, hb] at hm
    exact hm
theorem mem_roots {z : Int} : z ∈ rootsF (lkF x ad cap x.objs.l.length) x.objs.l.length ↔ ∃ a b, rootF x a b = true ∧ z = numF x.objs.l a b := by
  have hroot : ∀ a b, rootF x a b = true ↔ keptF x.objs.l x.keep.l a b = true ∧ ((elt (elt x.objs.l a).secs.l b).keep = true ∨ ∃ i, i < x.objs.l.length ∧ ((∃ k, k < (elt x.objs.l (i : Int)).syms.l.length ∧ rootSymF x a b i k (elt (elt x.objs.l (i : Int)).syms.l (k : Int)) = true) ∨ ∃ z ∈ (elt x.objs.l (i : Int)).inits.l, leadsF x i z.sym a b = true)) := fun a b => by
    unfold rootF rootObs rootSyms rootInits
    simp only [Bool.and_eq_true, Bool.or_eq_true, List.any_eq_true, List.mem_range]
  unfold rootsF
  rw [List.mem_append]
  constructor
  · rintro (h | h)
    · unfold rootsK at h
      obtain ⟨p, hp, h⟩ := List.mem_flatMap.1 h
      have hk : keptF x.objs.l x.keep.l p.obj p.sec = true := mem_kepts.1 hp
      unfold rootK at h
      split at h
      · rename_i hkeep
        refine ⟨p.obj, p.sec, (hroot _ _).2 ⟨hk, .inl hkeep⟩, ?_⟩
        rw [List.mem_singleton.1 h]; exact lk_first hk
      · cases h
    · obtain ⟨i, hi, h⟩ := List.mem_flatMap.1 h
      have hi' := List.mem_range.1 hi
      unfold rootsOb at h
      rcases List.mem_append.1 h with h | h
      · unfold rootsSyms at h
        obtain ⟨k, hk, h⟩ := List.mem_flatMap.1 h
        obtain ⟨a, b, h1, h2⟩ := mem_symRoot.1 h
        have hkept : keptF x.objs.l x.keep.l a b = true := by
          unfold rootSymF at h1
          simp only [Bool.and_eq_true] at h1
          exact (leads_iff.1 h1.1.2).2.2.2.2
        exact ⟨a, b, (hroot _ _).2 ⟨hkept, .inr ⟨i, hi', .inl ⟨k, List.mem_range.1 hk, h1⟩⟩⟩, h2⟩
      · unfold rootsInits at h
        obtain ⟨t, ht, h⟩ := List.mem_flatMap.1 h
        obtain ⟨a, b, h1, h2⟩ := mem_section.1 h
        exact ⟨a, b, (hroot _ _).2 ⟨(leads_iff.1 h1).2.2.2.2, .inr ⟨i, hi', .inr ⟨t, ht, h1⟩⟩⟩, h2⟩
  · rintro ⟨a, b, h, rfl⟩
    obtain ⟨hk, h | ⟨i, hi, h⟩⟩ := (hroot _ _).1 h
    · refine .inl ?_
      unfold rootsK
      refine List.mem_flatMap.2 ⟨⟨a, b⟩, mem_kepts.2 hk, ?_⟩
      unfold rootK
      rw [if_pos h, List.mem_singleton]; exact (lk_first hk).symm
    · refine .inr (List.mem_flatMap.2 ⟨i, List.mem_range.2 hi, ?_⟩)
      unfold rootsOb
      rcases h with ⟨k, hk2, h⟩ | ⟨t, ht, h⟩
      · exact List.mem_append_left _ (List.mem_flatMap.2 ⟨k, List.mem_range.2 hk2, mem_symRoot.2 ⟨a, b, h, rfl⟩⟩)
      · exact List.mem_append_right _ (List.mem_flatMap.2 ⟨t, ht, mem_section.2 ⟨a, b, h, rfl⟩⟩)
/-- what the document calls live -/
inductive PRch (x : GLink) : Int → Int → Prop where
  | root {a b : Int} : rootF x a b = true → PRch x a b
  | needs {a b o s : Int} : PRch x a b → needsF x a b o s = true → PRch x o s
theorem needs_kept {a b o s : Int} (h : needsF x a b o s = true) : keptF x.objs.l x.keep.l a b = true ∧ keptF x.objs.l x.keep.l o s = true := by
  obtain ⟨h1, ⟨_, _, _, h2⟩ | ⟨_, _, _, h2⟩⟩ := needs_iff.1 h
  · exact ⟨h1, (leads_iff.1 h2).2.2.2.2⟩
  · exact ⟨h1, (leads_iff.1 h2).2.2.2.2⟩
theorem PRch.kept {a b : Int} (h : PRch x a b) : keptF x.objs.l x.keep.l a b = true := by
  cases h with
  | root h => unfold rootF at h; rw [Bool.and_eq_true] at h; exact h.1
  | needs _ h => exact (needs_kept h).2
theorem rch_iff {v : Int} : Rch (cntF x.objs.l x.objs.l.length) (nextF (cntF x.objs.l x.objs.l.length) (arcsF (lkF x ad cap x.objs.l.length) x.objs.l.length)) (uniqI (rootsF (lkF x ad cap x.objs.l.length) x.objs.l.length)) v ↔ ∃ a b, PRch x a b ∧ v = numF x.objs.l a b := by
  constructor
  · intro h
    induction h with
    | root h _ _ =>
      obtain ⟨a, b, h1, h2⟩ := mem_roots.1 (mem_uniqI.1 h)
      exact ⟨a, b, .root h1, h2⟩
    | @arc u v hu hv ih =>
      obtain ⟨a, b, h1, h2⟩ := ih
      have hlt := num_lt h1.kept
      obtain ⟨arc, harc, e1, e2⟩ := (mem_nextF arcs_ok (by rw [h2]; exact hlt)).1 hv
      obtain ⟨from_, to_⟩ := arc
      dsimp only at e1 e2
      subst e1; subst e2
      obtain ⟨a', b', o, s, h3, h4, h5⟩ := mem_arcs.1 harc
      obtain ⟨rfl, rfl⟩ := num_inj (kept_range h1.kept) (kept_range (needs_kept h3).1) (h2.symm.trans h4)
      exact ⟨o, s, .needs h1 h3, h5⟩
  · rintro ⟨a, b, h, rfl⟩
    induction h with
    | @root a b h =>
      have hk := (PRch.root h).kept
      exact .root (mem_uniqI.2 (mem_roots.2 ⟨a, b, h, rfl⟩)) (num_lt hk).1 (num_lt hk).2
    | @needs a b o s h1 h2 ih =>
      exact .arc ih ((mem_nextF arcs_ok (num_lt (needs_kept h2).1)).2 ⟨⟨numF x.objs.l a b, numF x.objs.l o s⟩, mem_arcs.2 ⟨a, b, o, s, h2, rfl, rfl⟩, rfl, rfl⟩)
end
end Go.Proofs.Ytnbochlghdkfkaa
namespace Go.Proofs.Ytnbochlghdkfkaa
open Go.RowKit Go.Lp Go.Sy Go.Lv
open Go.Proofs.Try
attribute [local irreducible] aL aB awp aC fwp
theorem mark_get (N : Nat) (l : List Int) (hl : ∀ v ∈ l, 0 ≤ v ∧ v < N) (j : Nat) (hj : j < N) : (markF N l)[j]? = some (decide ((j : Int) ∈ l)) := by
  have : ∀ (l : List Int) (b : List Bool), (∀ v ∈ l, 0 ≤ v ∧ v < (N : Int)) → b.length = N → (l.foldl (fun b v => b.set v.toNat true) b)[j]? = if (j : Int) ∈ l then some true else b[j]? := by
    intro l
    induction l with
    | nil => intro b _ _; simp
    | cons v l ih =>
      intro b hl hb
      have hv := hl v List.mem_cons_self
      rw [List.foldl_cons, ih _ (fun w hw => hl w (List.mem_cons_of_mem _ hw)) (by simpa using hb)]
      by_cases h : (j : Int) ∈ l
      · rw [if_pos h, if_pos (List.mem_cons_of_mem _ h)]
      · rw [if_neg h, List.getElem?_set]
        by_cases hjv : (j : Int) = v
        · rw [if_pos (by omega), if_pos (by omega), if_pos (by rw [hjv]; exact List.mem_cons_self)]
        · rw [if_neg (by omega), if_neg (fun hh => (List.mem_cons.1 hh).elim hjv h)]
  unfold markF
  rw [this l _ hl (by simp)]
  by_cases h : (j : Int) ∈ l
  · rw [if_pos h, decide_eq_true h]
  · rw [if_neg h, decide_eq_false h, List.getElem?_replicate, if_pos hj]
theorem mem_reachF {N : Nat} {b : List Int} {v : Int} : v ∈ reachF N b ↔ (0 ≤ v ∧ v < N) ∧ 0 ≤ elt b v := by
  unfold reachF
  rw [List.mem_map]
  constructor
  · rintro ⟨k, hk, rfl⟩
    obtain ⟨h1, h2⟩ := List.mem_filter.1 hk
    have := List.mem_range.1 h1
    exact ⟨by omega, of_decide_eq_true h2⟩
  · rintro ⟨⟨h0, h1⟩, h2⟩
    have e : ((v.toNat : Nat) : Int) = v := Int.toNat_of_nonneg h0
    exact ⟨v.toNat, List.mem_filter.2 ⟨List.mem_range.2 (by omega), decide_eq_true (by rw [e]; exact h2)⟩, e⟩
section
variable {x : GLink} {ad : Option Addr} {cap : Nat}
theorem mem_liveN {v : Int} : v ∈ liveN (lkF x ad cap x.objs.l.length) ↔ ∃ a b, PRch x a b ∧ v = numF x.objs.l a b := by
  unfold liveN
  rw [mem_reachF]
  constructor
  · rintro ⟨⟨h0, h1⟩, h2⟩
    exact rch_iff.1 ((search_nonneg (uniqI_nodup _) (outOk arcs_ok) h0 h1).1 h2)
  · rintro ⟨a, b, h, rfl⟩
    have hlt := num_lt h.kept
    exact ⟨hlt, (search_nonneg (uniqI_nodup _) (outOk arcs_ok) hlt.1 hlt.2).2 (rch_iff.2 ⟨a, b, h, rfl⟩)⟩
theorem live_row {i : Nat} (hi : i < x.objs.l.length) : (liveF (lkF x ad cap x.objs.l.length))[i]? = some (winF x.objs.l (markF (cntF x.objs.l x.objs.l.length) (liveN (lkF x ad cap x.objs.l.length))) i) := by
  unfold liveF; rw [List.getElem?_map, List.getElem?_range hi]; rfl
theorem live_len : (liveF (lkF x ad cap x.objs.l.length)).length = x.objs.l.length := by simp [liveF]
variable {t : Sl (Sl Bool)}
theorem tab_row (ht : tabL t = liveF (lkF x ad cap x.objs.l.length)) {i : Nat} (hi : i < x.objs.l.length) : (elt t.l (i : Int)).l = winF x.objs.l (markF (cntF x.objs.l x.objs.l.length) (liveN (lkF x ad cap x.objs.l.length))) i := by
  have hl : t.l.length = x.objs.l.length := by rw [← live_len (x := x) (ad := ad) (cap := cap), ← ht]; simp [tabL]
  have h1 : (tabL t)[i]? = some (elt t.l (i : Int)).l := by unfold tabL; rw [List.getElem?_map, elt_nat (l := t.l) (i := i) (by omega)]; rfl
  rw [ht, live_row hi] at h1
  exact (Option.some.inj h1).symm
theorem tab_fits (ht : tabL t = liveF (lkF x ad cap x.objs.l.length)) : fitsF t x.objs.l = true := by
  have hl : t.l.length = x.objs.l.length := by rw [← live_len (x := x) (ad := ad) (cap := cap), ← ht]; simp [tabL]
  exact fits_iff.2 ⟨hl, fun i hi => by rw [tab_row ht hi]; exact (win_len (mark_len _ _) hi).1⟩
/-- the table says what is live -/
theorem tab_live (ht : tabL t = liveF (lkF x ad cap x.objs.l.length)) {i k : Nat} (hi : i < x.objs.l.length) (hk : k < (elt x.objs.l (i : Int)).secs.l.length) : elt (elt t.l (i : Int)).l (k : Int) = true ↔ PRch x i k := by
  rw [tab_row ht hi]
  have hb := (win_len (mark_len (cntF x.objs.l x.objs.l.length) (liveN (lkF x ad cap x.objs.l.length))) hi).2
  rw [mark_len] at hb
  have hg : (winF x.objs.l (markF (cntF x.objs.l x.objs.l.length) (liveN (lkF x ad cap x.objs.l.length))) i)[k]? = some (decide (((cntF x.objs.l i + k : Nat) : Int) ∈ liveN (lkF x ad cap x.objs.l.length))) := by
    unfold winF
    rw [List.getElem?_take, if_pos hk, List.getElem?_drop]
    exact mark_get _ _ (fun v hv => mem_reach hv) _ (by omega)
  have he : elt (winF x.objs.l (markF (cntF x.objs.l x.objs.l.length) (liveN (lkF x ad cap x.objs.l.length))) i) (k : Int) = decide (((cntF x.objs.l i + k : Nat) : Int) ∈ liveN (lkF x ad cap x.objs.l.length)) := by
    unfold elt; rw [List.getD_eq_getElem?_getD, Int.toNat_natCast, hg]; rfl
  rw [he, decide_eq_true_eq, mem_liveN]
  have hn : ((cntF x.objs.l i + k : Nat) : Int) = numF x.objs.l (i : Int) (k : Int) := by unfold numF; rw [Int.toNat_natCast, Int.natCast_add]
  rw [hn]
  constructor
  · rintro ⟨a, b, h1, h2⟩
    obtain ⟨rfl, rfl⟩ := num_inj ⟨⟨by omega, by omega⟩, by omega, by omega⟩ (kept_range h1.kept) h2
    exact h1
  · intro h; exact ⟨_, _, h, rfl⟩
/-- the places of the numbers -/
theorem numbers_get {p : GPlace} (hp : keptF x.objs.l x.keep.l p.obj p.sec = true) : numbersF (lkF x ad cap x.objs.l.length) (keptsF (lkF x ad cap x.objs.l.length) x.objs.l.length) (numF x.objs.l p.obj p.sec) = some p := by
  have key : ∀ (L : List GPlace) (m : Int → Option GPlace), (∀ q ∈ L, keptF x.objs.l x.keep.l q.obj q.sec = true) → (p ∈ L ∨ m (numF x.objs.l p.obj p.sec) = some p) → (L.foldl (fun m q => mput m (numOf (lkF x ad cap x.objs.l.length) q) q) m) (numF x.objs.l p.obj p.sec) = some p := by
    intro L
    induction L with
    | nil => intro m _ h; exact h.elim (fun h => by cases h) id
    | cons q L ih =>
      intro m hL h
      have hq := hL q List.mem_cons_self
      have hnum : numOf (lkF x ad cap x.objs.l.length) q = numF x.objs.l q.obj q.sec := lk_first hq
      rw [List.foldl_cons]
      refine ih _ (fun r hr => hL r (List.mem_cons_of_mem _ hr)) ?_
      by_cases he : p = q
      · refine .inr ?_
        unfold mput; rw [hnum, he, if_pos rfl]
      · rcases h with h | h
        · exact .inl ((List.mem_cons.1 h).resolve_left he)
        · refine .inr ?_
          unfold mput
          rw [hnum, if_neg (fun hh => he ?_)]
          · exact h
          · obtain ⟨e1, e2⟩ := num_inj (kept_range hp) (kept_range hq) hh
            cases p; cases q; simp only at e1 e2; rw [e1, e2]
  unfold numbersF
  exact key _ _ (fun q hq => mem_kepts.1 hq) (.inl (mem_kepts.2 hp))
end
end Go.Proofs.Ytnbochlghdkfkaa
namespace Go.Proofs.Ytnbochlghdkfkaa
open Go.RowKit Go.Lp Go.Sy Go.Lv
open Go.Proofs.Try
attribute [local irreducible] aL aB awp aC fwp
theorem chain_ok {N : Nat} {out : List (List Int)} {rs : List Int} (hn : rs.Nodup) (ho : OutOk N out) : ∀ (f : Nat) (v : Int), Rch N out rs v → rank (waveF N out rs) v ≤ f →
    (∃ r, (chain (searchF N out rs) f v).getLast? = some r ∧ r ∈ rs ∧ 0 ≤ r ∧ r < N) ∧ (chain (searchF N out rs) f v).head? = some v ∧ (∀ z ∈ chain (searchF N out rs) f v, Rch N out rs z) ∧
    ∀ (n : Nat) (a b : Int), (chain (searchF N out rs) f v)[n]? = some b → (chain (searchF N out rs) f v)[n + 1]? = some a → b ∈ elt out a := by
  have hG := final_G (rs := rs) hn ho
  have one : ∀ v : Int, Rch N out rs v → elt (searchF N out rs) v = v → v ∈ rs := fun v hv he => by
    obtain ⟨j, hj⟩ := List.mem_iff_getElem?.1 ((mem_wave hn ho v).2 hv)
    rcases hG.par j v hj with h | ⟨i, u, h1, _, h3, h4, _⟩
    · exact h.2
    · have h4' : elt (searchF N out rs) v = u := h4
      rw [he] at h4'
      subst h4'
      have := rank_get hG.nodup h3
      rw [rank_get hG.nodup hj] at this
      omega
  have single : ∀ v : Int, Rch N out rs v → v ∈ rs → (∃ r, [v].getLast? = some r ∧ r ∈ rs ∧ 0 ≤ r ∧ r < (N : Int)) ∧ [v].head? = some v ∧ (∀ z ∈ [v], Rch N out rs z) ∧ ∀ (n : Nat) (a b : Int), [v][n]? = some b → [v][n + 1]? = some a → b ∈ elt out a := fun v hv hr =>
    ⟨⟨v, rfl, hr, rch_lt ho hv⟩, rfl, fun z hz => by rw [List.mem_singleton.1 hz]; exact hv, fun n a b _ h => by simp at h⟩
  intro f
  induction f with
  | zero =>
    intro v hv hr
    obtain ⟨j, hj⟩ := List.mem_iff_getElem?.1 ((mem_wave hn ho v).2 hv)
    have hrk : rank (waveF N out rs) v = j := rank_get hG.nodup hj
    have hj0 : j = 0 := by omega
    subst hj0
    rcases hG.par 0 v hj with h | ⟨i, u, h1, _⟩
    · exact single v hv h.2
    · omega
  | succ f ih =>
    intro v hv hr
    by_cases he : elt (searchF N out rs) v = v
    · rw [chain_end _ he]; exact single v hv (one v hv he)
    · have hc : chain (searchF N out rs) (f + 1) v = v :: chain (searchF N out rs) f (elt (searchF N out rs) v) := if_neg he
      rw [hc]
      obtain ⟨j, hj⟩ := List.mem_iff_getElem?.1 ((mem_wave hn ho v).2 hv)
      rcases hG.par j v hj with h | ⟨i, u, h1, _, h3, h4, h5, _⟩
      · exact (he h.1).elim
      · have h4' : elt (searchF N out rs) v = u := h4
        rw [h4']
        have hu := (mem_wave hn ho u).1 (List.mem_of_getElem? h3)
        have e1 : rank (waveF N out rs) u = i := rank_get hG.nodup h3
        have e2 : rank (waveF N out rs) v = j := rank_get hG.nodup hj
        obtain ⟨⟨r, k1, k2⟩, k3, k4, k5⟩ := ih u hu (by omega)
        refine ⟨⟨r, ?_, k2⟩, rfl, fun z hz => ?_, fun n a b hb ha => ?_⟩
        · rw [List.getLast?_cons, k1]; rfl
        · rcases List.mem_cons.1 hz with rfl | hz
          · exact hv
          · exact k4 z hz
        · cases n with
          | zero =>
            simp only [List.getElem?_cons_zero, Option.some.injEq] at hb
            rw [List.getElem?_cons_succ, ← List.head?_eq_getElem?, k3] at ha
            simp only [Option.some.injEq] at ha
            subst hb; subst ha; exact h5
          | succ n =>
            rw [List.getElem?_cons_succ] at hb ha
            exact k5 n a b hb ha
section
variable {x : GLink} {ad : Option Addr} {cap : Nat}
/-- the way to what is live -/
theorem way_live {a b : Int} (h : PRch x a b) : (∃ r, (wayF (lkF x ad cap x.objs.l.length) a b)[0]? = some r ∧ rootF x r.obj r.sec = true) ∧ (wayF (lkF x ad cap x.objs.l.length) a b).getLast? = some ⟨a, b⟩ ∧
    ∀ (n : Nat) (p q : GPlace), (wayF (lkF x ad cap x.objs.l.length) a b)[n]? = some p → (wayF (lkF x ad cap x.objs.l.length) a b)[n + 1]? = some q → needsF x p.obj p.sec q.obj q.sec = true := by
  have hk := h.kept
  have hlt := num_lt hk
  have hv := rch_iff (ad := ad) (cap := cap).2 ⟨a, b, h, rfl⟩
  obtain ⟨⟨r, c1, c2, c3⟩, c4, c5, c6⟩ := chain_ok (uniqI_nodup _) (outOk arcs_ok) _ (numF x.objs.l a b) hv (Nat.le_refl _)
  have hw : wayF (lkF x ad cap x.objs.l.length) a b = ((chain (graphF (cntF x.objs.l x.objs.l.length) (arcsF (lkF x ad cap x.objs.l.length) x.objs.l.length) (rootsF (lkF x ad cap x.objs.l.length) x.objs.l.length)) (rank (graphW (cntF x.objs.l x.objs.l.length) (arcsF (lkF x ad cap x.objs.l.length) x.objs.l.length) (rootsF (lkF x ad cap x.objs.l.length) x.objs.l.length)) (numF x.objs.l a b)) (numF x.objs.l a b)).reverse).map fun z => (numbersF (lkF x ad cap x.objs.l.length) (keptsF (lkF x ad cap x.objs.l.length) x.objs.l.length) z).getD default := by
    unfold wayF
    rw [if_pos (show keptF (lkF x ad cap x.objs.l.length).objs.l (lkF x ad cap x.objs.l.length).keep.l a b = true from hk)]
    have hf : elt (lkF x ad cap x.objs.l.length).first.l a + b = numF x.objs.l a b := lk_first hk
    rw [hf]
    unfold wayN trackF
    rw [if_neg]
    have := (search_nonneg (uniqI_nodup _) (outOk arcs_ok) hlt.1 hlt.2).2 hv
    exact Int.not_lt.2 this
  have hpl : ∀ p : GPlace, keptF x.objs.l x.keep.l p.obj p.sec = true → (numbersF (lkF x ad cap x.objs.l.length) (keptsF (lkF x ad cap x.objs.l.length) x.objs.l.length) (numF x.objs.l p.obj p.sec)).getD default = p := fun p hp => by rw [numbers_get hp]; rfl
  rw [hw]
  generalize hc : chain (graphF (cntF x.objs.l x.objs.l.length) (arcsF (lkF x ad cap x.objs.l.length) x.objs.l.length) (rootsF (lkF x ad cap x.objs.l.length) x.objs.l.length)) (rank (graphW (cntF x.objs.l x.objs.l.length) (arcsF (lkF x ad cap x.objs.l.length) x.objs.l.length) (rootsF (lkF x ad cap x.objs.l.length) x.objs.l.length)) (numF x.objs.l a b)) (numF x.objs.l a b) = c at *
  refine ⟨?_, ?_, fun n p q hp hq => ?_⟩
  · have c1' : c.getLast? = some r := c1
    obtain ⟨o, s, e1, e2⟩ := mem_roots.1 (mem_uniqI.1 c2)
    have hko : keptF x.objs.l x.keep.l o s = true := (PRch.root e1).kept
    refine ⟨⟨o, s⟩, ?_, e1⟩
    rw [List.getElem?_map, ← List.head?_eq_getElem?, List.head?_reverse, c1', Option.map_some, e2]
    exact congrArg some (hpl ⟨o, s⟩ hko)
  · have c4' : c.head? = some (numF x.objs.l a b) := c4
    rw [List.getLast?_map, List.getLast?_reverse, c4', Option.map_some]
    exact congrArg some (hpl ⟨a, b⟩ hk)
  · have c6' : ∀ (n : Nat) (a b : Int), c[n]? = some b → c[n + 1]? = some a → b ∈ elt (nextF (cntF x.objs.l x.objs.l.length) (arcsF (lkF x ad cap x.objs.l.length) x.objs.l.length)) a := c6
    have c5' : ∀ z ∈ c, ∃ o s, PRch x o s ∧ z = numF x.objs.l o s := fun z hz => rch_iff.1 (c5 z hz)
    rw [List.getElem?_map, Option.map_eq_some_iff] at hp hq
    obtain ⟨z1, h1, rfl⟩ := hp
    obtain ⟨z2, h2, rfl⟩ := hq
    have hl2 := (List.getElem?_eq_some_iff.1 h2).1
    rw [List.length_reverse] at hl2
    rw [List.getElem?_reverse (by omega)] at h1 h2
    have harc := c6' (c.length - 1 - (n + 1)) z1 z2 h2 (by rw [show c.length - 1 - (n + 1) + 1 = c.length - 1 - n by omega]; exact h1)
    obtain ⟨o, s, k1, rfl⟩ := c5' z1 (List.mem_of_getElem? h1)
    obtain ⟨arc, harc2, e1, e2⟩ := (mem_nextF arcs_ok (num_lt k1.kept)).1 harc
    obtain ⟨from_, to_⟩ := arc
    dsimp only at e1 e2
    subst e1; subst e2
    obtain ⟨a', b', o', s', n1, n2, n3⟩ := mem_arcs.1 harc2
    obtain ⟨rfl, rfl⟩ := num_inj (kept_range k1.kept) (kept_range (needs_kept n1).1) n2
    rw [hpl ⟨o, s⟩ k1.kept, n3, hpl ⟨o', s'⟩ (needs_kept n1).2]
    exact n1
theorem way_dead {a b : Int} (h : ¬ PRch x a b) : wayF (lkF x ad cap x.objs.l.length) a b = [] := by
  unfold wayF
  by_cases hk : keptF x.objs.l x.keep.l a b = true
  · rw [if_pos (show keptF (lkF x ad cap x.objs.l.length).objs.l (lkF x ad cap x.objs.l.length).keep.l a b = true from hk)]
    have hf : elt (lkF x ad cap x.objs.l.length).first.l a + b = numF x.objs.l a b := lk_first hk
    have hlt := num_lt hk
    rw [hf]
    unfold wayN trackF
    rw [if_pos]
    · rfl
    · refine Int.not_le.1 fun hle => h ?_
      obtain ⟨o, s, h1, h2⟩ := rch_iff.1 ((search_nonneg (uniqI_nodup _) (outOk arcs_ok) hlt.1 hlt.2).1 hle)
      obtain ⟨rfl, rfl⟩ := num_inj (kept_range hk) (kept_range h1.kept) h2
      exact h1
  · rw [if_neg (show ¬ keptF (lkF x ad cap x.objs.l.length).objs.l (lkF x ad cap x.objs.l.length).keep.l a b = true from hk)]
end
end Go.Proofs.Ytnbochlghdkfkaa
namespace Go.Proofs.Ytnbochlghdkfkaa
open Go.RowKit Go.Lp Go.Sy
open Go.Proofs.Try
attribute [local irreducible] aL aB awp aC fwp
def secsT (keep : Bool) : List GSection := [⟨⟨#[116, 101, 120, 116]⟩, 0, 8, 8, .empty, false⟩, ⟨⟨#[100, 97, 116, 97]⟩, 1, 8, 0, .empty, false⟩, ⟨⟨#[111, 108, 100]⟩, 2, 8, 0, .empty, keep⟩]
def symsT : List GSymbol := [⟨⟨#[109, 97, 105, 110]⟩, .empty, false, 1, 2, 0, 0, 0, 0, 0⟩, ⟨⟨#[118]⟩, .empty, false, 0, 0, 1, 1, 0, 0, 0⟩]
def relsT : List GRel := [⟨0, 0, 8, 1, 0⟩]
def threeO (a1 a2 a3 : Option Addr) (keep : Bool) : GObject := ⟨⟨#[97]⟩, ⟨a1, 3, secsT keep⟩, ⟨a2, 2, symsT⟩, ⟨a3, 1, relsT⟩, default, default, default, default, default, default, default⟩
theorem con_three : Con Try.prog 19 [] [] [] fun r ps hp => ps = [] ∧ ∃ a1 a2 a3, r = (threeO a1 a2 a3 false).val ∧ hp = [OwnS (.slice a1 3 3) 60 6 ((secsT false).map GSection.row), OwnS (.slice a2 2 2) 88 10 (symsT.map GSymbol.row), OwnS (.slice a3 1 1) 62 5 (relsT.map GRel.row)] := by
  refine Con.enter Try.func19 rfl (by simp [Try.ntmps19]) ?_
  show awp _ _ _ _ ⟨[], _, _⟩
  refine awp_seq (awp_region ?_)
  refine aL_eff (q := true) rfl (x_alloc (zs := [.string .empty, .slice none 0 0, .slice none 0 0, .slice none 0 0, .slice none 0 0, .slice none 0 0, .slice none 0 0, .slice none 0 0, .slice none 0 0, .slice none 0 0, .slice none 0 0]) (by kernel_rfl) rfl (fun b0_0 => ?_))
  refine aL_hp (by (try simp only [nM, nN]); rfl) ?_
  refine aL_nil (thn_n (awp_seq (awp_region ?_)))
  refine aL_s true rfl rfl (fun _ => q_bld (l := [(0, .const (.string ⟨#[116, 101, 120, 116]⟩)), (1, .const (.int .i64 0)), (2, .const (.int .i64 8)), (3, .const (.int .i64 8))]) (zs := [.string .empty, .int .i64 0, .int .i64 0, .int .i64 0, .string .empty, .bool false]) (pl := [(0, 1), (1, 1), (2, 1), (3, 1), (4, 1), (5, 1)]) (by kernel_rfl) (by kernel_rfl) (by kernel_rfl) rfl rfl rfl) ?_
  refine aL_s true rfl rfl (fun _ => q_bld (l := [(0, .const (.string ⟨#[100, 97, 116, 97]⟩)), (1, .const (.int .i64 1)), (2, .const (.int .i64 8))]) (zs := [.string .empty, .int .i64 0, .int .i64 0, .int .i64 0, .string .empty, .bool false]) (pl := [(0, 1), (1, 1), (2, 1), (3, 1), (4, 1), (5, 1)]) (by kernel_rfl) (by kernel_rfl) (by kernel_rfl) rfl rfl rfl) ?_
  refine aL_s true rfl rfl (fun _ => q_bld (l := [(0, .const (.string ⟨#[111, 108, 100]⟩)), (1, .const (.int .i64 2)), (2, .const (.int .i64 8))]) (zs := [.string .empty, .int .i64 0, .int .i64 0, .int .i64 0, .string .empty, .bool false]) (pl := [(0, 1), (1, 1), (2, 1), (3, 1), (4, 1), (5, 1)]) (by kernel_rfl) (by kernel_rfl) (by kernel_rfl) rfl rfl rfl) ?_
  refine aL_eff (q := true) rfl (w_lit (zs := [.string .empty, .int .i64 0, .int .i64 0, .int .i64 0, .string .empty, .bool false]) (l := [(0, .tmp 2), (1, .tmp 3), (2, .tmp 4)]) el42 (by kernel_rfl) (by decide) (by decide) (by decide) rfl rfl rfl (.more rfl (.v rfl (.v rfl (.v rfl (.v rfl (.v rfl (.v rfl .nil)))))) (.more rfl (.v rfl (.v rfl (.v rfl (.v rfl (.v rfl (.v rfl .nil)))))) (.more rfl (.v rfl (.v rfl (.v rfl (.v rfl (.v rfl (.v rfl .nil)))))) .nil))) rfl rfl (fun v1_3 => ?_))
  refine aL_hp (by (try simp only [nM, nN]); rfl) ?_
  refine aL_s true rfl rfl (fun _ => q_bld (l := [(0, .const (.string ⟨#[97]⟩)), (1, .tmp 5)]) (zs := [.string .empty, .slice none 0 0, .slice none 0 0, .slice none 0 0, .slice none 0 0, .slice none 0 0, .slice none 0 0, .slice none 0 0, .slice none 0 0, .slice none 0 0, .slice none 0 0]) (pl := [(0, 1), (1, 1), (2, 1), (3, 1), (4, 1), (5, 1), (6, 1), (7, 1), (8, 1), (9, 1), (10, 1)]) (by kernel_rfl) (by kernel_rfl) (by kernel_rfl) rfl rfl rfl) ?_
  refine aL_eff (q := true) rfl (x_alloc (zs := [.string .empty, .slice none 0 0, .slice none 0 0, .slice none 0 0, .slice none 0 0, .slice none 0 0, .slice none 0 0, .slice none 0 0, .slice none 0 0, .slice none 0 0, .slice none 0 0]) (by kernel_rfl) rfl (fun b1_5 => ?_))
  refine aL_hp (by (try simp only [nM, nN]); rfl) ?_
  refine aL_eff rfl (x_store 2 tk53 rfl rfl rfl rfl ?_)
  refine aL_hp (by simp only [nK, nL]; rfl) ?_
  refine aL_nil (thn_n (awp_seq (awp_region ?_)))
  refine aL_s true rfl rfl (fun _ => q_bld (l := [(0, .const (.string ⟨#[109, 97, 105, 110]⟩)), (3, .const (.int .i64 1)), (4, .const (.int .i64 2)), (6, .const (.int .i64 0))]) (zs := [.string .empty, .string .empty, .bool false, .int .i64 0, .int .i64 0, .int .i64 0, .int .i64 0, .int .i64 0, .int .i64 0, .int .i64 0]) (pl := [(0, 1), (1, 1), (2, 1), (3, 1), (4, 1), (5, 1), (6, 1), (7, 1), (8, 1), (9, 1)]) (by kernel_rfl) (by kernel_rfl) (by kernel_rfl) rfl rfl rfl) ?_
  refine aL_s true rfl rfl (fun _ => q_bld (l := [(0, .const (.string ⟨#[118]⟩)), (3, .const (.int .i64 0)), (5, .const (.int .i64 1)), (6, .const (.int .i64 1))]) (zs := [.string .empty, .string .empty, .bool false, .int .i64 0, .int .i64 0, .int .i64 0, .int .i64 0, .int .i64 0, .int .i64 0, .int .i64 0]) (pl := [(0, 1), (1, 1), (2, 1), (3, 1), (4, 1), (5, 1), (6, 1), (7, 1), (8, 1), (9, 1)]) (by kernel_rfl) (by kernel_rfl) (by kernel_rfl) rfl rfl rfl) ?_
  refine aL_eff (q := true) rfl (w_lit (zs := [.string .empty, .string .empty, .bool false, .int .i64 0, .int .i64 0, .int .i64 0, .int .i64 0, .int .i64 0, .int .i64 0, .int .i64 0]) (l := [(0, .tmp 7), (1, .tmp 8)]) el43 (by kernel_rfl) (by decide) (by decide) (by decide) rfl rfl rfl (.more rfl (.v rfl (.v rfl (.v rfl (.v rfl (.v rfl (.v rfl (.v rfl (.v rfl (.v rfl (.v rfl .nil)))))))))) (.more rfl (.v rfl (.v rfl (.v rfl (.v rfl (.v rfl (.v rfl (.v rfl (.v rfl (.v rfl (.v rfl .nil)))))))))) .nil)) rfl rfl (fun v2_2 => ?_))
  refine aL_hp (by (try simp only [nM, nN]); rfl) ?_
  refine aL_s true rfl rfl (fun _ => q_fieldAddr (off := 2) (by kernel_rfl) rfl) ?_
  refine aL_eff rfl (x_store 2 tk43 rfl rfl rfl rfl ?_)
  refine aL_hp (by simp only [nK, nL]; rfl) ?_
  refine aL_nil (thn_n (awp_seq (awp_region ?_)))
  refine aL_s true rfl rfl (fun _ => q_bld (l := [(0, .const (.int .i64 0)), (2, .const (.int .i64 8)), (3, .const (.int .i64 1))]) (zs := [.int .i64 0, .int .i64 0, .int .i64 0, .int .i64 0, .int .i64 0]) (pl := [(0, 1), (1, 1), (2, 1), (3, 1), (4, 1)]) (by kernel_rfl) (by kernel_rfl) (by kernel_rfl) rfl rfl rfl) ?_
  refine aL_eff (q := true) rfl (w_lit (zs := [.int .i64 0, .int .i64 0, .int .i64 0, .int .i64 0, .int .i64 0]) (l := [(0, .tmp 11)]) el44 (by kernel_rfl) (by decide) (by decide) (by decide) rfl rfl rfl (.more rfl (.v rfl (.v rfl (.v rfl (.v rfl (.v rfl .nil))))) .nil) rfl rfl (fun v3_1 => ?_))
  refine aL_hp (by (try simp only [nM, nN]); rfl) ?_
  refine aL_s true rfl rfl (fun _ => q_fieldAddr (off := 3) (by kernel_rfl) rfl) ?_
  refine aL_eff rfl (x_store 2 tk44 rfl rfl rfl rfl ?_)
  refine aL_hp (by simp only [nK, nL]; rfl) ?_
  refine aL_nil (thn_n (awp_seq (awp_region (aL_s true rfl rfl (fun _ => q_load 2 tk53 rfl rfl rfl) ?_))))
  refine aL_eff rfl (x_store 0 tk53 rfl rfl rfl rfl ?_)
  refine aL_hp (by simp only [nK, nL]; rfl) ?_
  refine aL_nil (thn_n (awp_ret ?_))
  refine finR1 [] [1, 3, 4] rfl Try.results19 (rv_cell 0 tk53 rfl rfl rfl) ?_ (.inr rfl)
  exact ⟨rfl, v1_3, v2_2, v3_1, rfl, rfl⟩
end Go.Proofs.Ytnbochlghdkfkaa
namespace Go.Proofs.Ytnbochlghdkfkaa
open Go.RowKit Go.Lp Go.Sy Go.Lv
open Go.Proofs.Try
attribute [local irreducible] aL aB awp aC fwp
def chT : List GChoice := [⟨2, 0, 0, 0, 0, false⟩, ⟨1, 0, 1, 0, 0, false⟩]
/-- the link of the small examples -/
def smL (lib keep : Bool) (a1 a2 a3 ao ak ak2 ac ac2 af : Option Addr) (cf : Nat) : GLink :=
  ⟨⟨.empty, lib, default, default, ⟨#[109, 97, 105, 110]⟩, 0, default⟩, ⟨ao, 1, [threeO a1 a2 a3 keep]⟩, ⟨ak2, 1, [⟨ak, 3, [true, true, true]⟩]⟩, ⟨ac2, 1, [⟨ac, 2, chT⟩]⟩, ⟨af, cf, [0]⟩, 3⟩
section
variable {a1 a2 a3 ao ak ak2 ac ac2 af : Option Addr} {cf : Nat} {lib keep : Bool}
theorem sm_arcs : arcsF (smL lib keep a1 a2 a3 ao ak ak2 ac ac2 af cf) 1 = [⟨0, 1⟩] := by rfl
theorem sm_cnt : cntF (smL lib keep a1 a2 a3 ao ak ak2 ac ac2 af cf).objs.l 1 = 3 := by rfl
theorem hid_main : hidF (smL lib keep a1 a2 a3 ao ak ak2 ac ac2 af cf).objs.l ⟨#[109, 97, 105, 110]⟩ = some true := by rfl
theorem kepts_sm : keptsF (smL lib keep a1 a2 a3 ao ak ak2 ac ac2 af cf) 1 = [⟨0, 0⟩, ⟨0, 1⟩, ⟨0, 2⟩] := by rfl
theorem rootsK_sm : rootsK (smL lib keep a1 a2 a3 ao ak ak2 ac ac2 af cf) [⟨0, 0⟩, ⟨0, 1⟩, ⟨0, 2⟩] = if keep then [2] else [] := by cases keep <;> rfl
theorem entry_sm : entryF (smL false keep a1 a2 a3 ao ak ak2 ac ac2 af cf) ⟨⟨#[109, 97, 105, 110]⟩, .empty, false, 1, 2, 0, 0, 0, 0, 0⟩ = true := by
  unfold entryF smL; simp
theorem sym0_sm : symRoot (smL lib keep a1 a2 a3 ao ak ak2 ac ac2 af cf) 0 0 ⟨⟨#[109, 97, 105, 110]⟩, .empty, false, 1, 2, 0, 0, 0, 0, 0⟩ = if lib then [] else [0] := by
  cases lib with
  | false => exact if_pos ⟨rfl, rfl, rfl, .inl entry_sm⟩
  | true =>
    refine if_neg ?_
    rintro ⟨_, _, _, h | h⟩
    · exact absurd h (show ¬ false = true by decide)
    · have h2 : (some true).getD false = false := (congrArg (fun o => Option.getD o false) hid_main.symm).trans h
      cases h2
theorem sym1_sm : symRoot (smL lib keep a1 a2 a3 ao ak ak2 ac ac2 af cf) 0 1 ⟨⟨#[118]⟩, .empty, false, 0, 0, 1, 1, 0, 0, 0⟩ = [] := if_neg fun h => by cases h.1
theorem roots_sm : rootsF (smL lib keep a1 a2 a3 ao ak ak2 ac ac2 af cf) 1 = (if keep then [2] else []) ++ if lib then [] else [0] := by
  have e : rootsF (smL lib keep a1 a2 a3 ao ak ak2 ac ac2 af cf) 1 = rootsK (smL lib keep a1 a2 a3 ao ak ak2 ac ac2 af cf) [⟨0, 0⟩, ⟨0, 1⟩, ⟨0, 2⟩] ++ (symRoot (smL lib keep a1 a2 a3 ao ak ak2 ac ac2 af cf) 0 0 ⟨⟨#[109, 97, 105, 110]⟩, .empty, false, 1, 2, 0, 0, 0, 0, 0⟩ ++ symRoot (smL lib keep a1 a2 a3 ao ak ak2 ac ac2 af cf) 0 1 ⟨⟨#[118]⟩, .empty, false, 0, 0, 1, 1, 0, 0, 0⟩) := by
    unfold rootsF
    rw [show keptsF (smL lib keep a1 a2 a3 ao ak ak2 ac ac2 af cf) (smL lib keep a1 a2 a3 ao ak ak2 ac ac2 af cf).objs.l.length = [⟨0, 0⟩, ⟨0, 1⟩, ⟨0, 2⟩] from kepts_sm]
    congr 1
    show (rootsOb _ 0 ++ []) = _
    rw [List.append_nil]
    show rootsSyms _ 0 _ 2 ++ [] = _
    rw [List.append_nil]
    show _ ++ (_ ++ []) = _
    rw [List.append_nil]; rfl
  rw [e, rootsK_sm, sym0_sm, sym1_sm, List.append_nil]
theorem live_sm : liveF (smL lib keep a1 a2 a3 ao ak ak2 ac ac2 af cf) = [[!lib, !lib, keep]] := by
  have e : liveN (smL lib keep a1 a2 a3 ao ak ak2 ac ac2 af cf) = reachF 3 (graphF 3 [⟨0, 1⟩] ((if keep then [2] else []) ++ if lib then [] else [0])) := by
    unfold liveN
    rw [show (smL lib keep a1 a2 a3 ao ak ak2 ac ac2 af cf).objs.l.length = 1 from rfl, sm_cnt, sm_arcs, roots_sm]
  have e2 : liveF (smL lib keep a1 a2 a3 ao ak ak2 ac ac2 af cf) = [(markF 3 (liveN (smL lib keep a1 a2 a3 ao ak ak2 ac ac2 af cf))).take 3] := rfl
  rw [e2, e, graphF_eq]
  cases lib <;> cases keep <;> decide +kernel
theorem way_sm : wayF (smL false false a1 a2 a3 ao ak ak2 ac ac2 af cf) 0 1 = [⟨0, 0⟩, ⟨0, 1⟩] := by
  have hk : keptF (smL false false a1 a2 a3 ao ak ak2 ac ac2 af cf).objs.l (smL false false a1 a2 a3 ao ak ak2 ac ac2 af cf).keep.l 0 1 = true := rfl
  unfold wayF
  rw [if_pos hk]
  have e : wayN (smL false false a1 a2 a3 ao ak ak2 ac ac2 af cf) (elt (smL false false a1 a2 a3 ao ak ak2 ac ac2 af cf).first.l 0 + 1) = [0, 1] := by
    unfold wayN
    rw [show (smL false false a1 a2 a3 ao ak ak2 ac ac2 af cf).objs.l.length = 1 from rfl, sm_cnt, sm_arcs, roots_sm, graphF_eq, graphW_eq]
    show trackF _ _ 1 = _
    decide +kernel
  rw [e]; rfl
end
end Go.Proofs.Ytnbochlghdkfkaa
namespace Go.Sy
open Go.RowKit Go.Lp
theorem st_lend {w : World} {S : Blks} {fp : Nat → Blks} {ps : List Per} {p : Per} {L : List Res} (hst : St w S fp ps L) (hp : p.holds w (fun b => S b ∨ tot fp L.length b)) :
    St w (fun b => S b ∨ tot fp L.length b) (fun _ _ => False) (p :: ps) [] :=
  ⟨fun q hq => by
      rcases List.mem_cons.1 hq with rfl | hq
      · exact hp
      · exact q.mono (hst.per q hq) (fun _ _ => rfl) (fun _ h => .inl h), fun i R hi => by simp at hi, fun i hi => by simp at hi, fun i j hi => by simp at hi, fun b hb => hb.elim (hst.slt b) fun ⟨i, hi, h⟩ => (hst.lt i hi b h).1⟩
theorem Con.borrowL {P : Program} {f : FuncId} {args : List Value} {ps : List Per} {p : Per} {R : Value → List Per → List Res → Prop} (h : Con P f args (p :: ps) [] R) (L : List Res)
    (hB : ∀ (w : World) (S : Blks) (fp : Nat → Blks), (∀ (i : Nat) (A : Res), L[i]? = some A → A.holds w S (fp i)) → p.holds w (fun b => S b ∨ tot fp L.length b)) (hR : ∀ v ps' hp', R v ps' hp' → ∀ r ∈ hp', Indep r) :
    Con P f args ps L (fun v ps' hp' => ps' = [] ∧ ∃ ps2 hp2, R v ps2 hp2 ∧ hp' = L ++ hp2) := fun w S fp hst => by
  have h2 := st_lend hst (hB w S fp hst.res)
  have h0 : ∀ b, ¬ tot (fun _ _ => False) ([] : List Res).length b := fun b ⟨j, hj, _⟩ => by simp at hj
  refine (h w _ _ h2).mono fun e w' ⟨v, ps', hp', S', fp', he, hR', hst', hE, hb⟩ => ?_
  have hFlt : ∀ b, tot fp L.length b → b < w.heap.size ∧ ¬ S b := fun b ⟨i, hi, h⟩ => hst.lt i hi b h
  have hsame : ∀ b, b < w.heap.size → w'.heap[b]? = w.heap[b]? := fun b hb' => hE.block b hb' (h0 b)
  have hfp : ∀ i, i < L.length → ∀ b, fp i b → tot fp L.length b := fun i hi b hb => ⟨i, hi, hb⟩
  refine ⟨v, [], L ++ hp', fun b => S' b ∧ ¬ tot fp L.length b, fun i => if i < L.length then fp i else fp' (i - L.length), he, ⟨rfl, ps', hp', hR', rfl⟩, ⟨fun q hq => (by cases hq), fun i A hi => ?_, fun i hi b hbi => ?_, fun i j hi hj hne b hbi hbj => ?_, fun b hb' => hst'.slt b hb'.1⟩, ⟨hE.os, hE.tape, hE.output, hE.size, fun b hb' _ => hsame b hb', fun b hb' => ⟨hE.more b (.inl hb'), fun hf => (hFlt b hf).2 hb'⟩, fun b hb' => ?_⟩, fun b ⟨i, hi, hbi⟩ => ?_⟩
  · by_cases hil : i < L.length
    · rw [if_pos hil]
      rw [List.getElem?_append_left hil] at hi
      exact A.mono (hst.res i A hi) (fun b hb' => hsame b (hFlt b (hfp i hil b hb')).1) (fun b hb' => hsame b (hst.slt b hb')) (fun b hb' => ⟨hE.more b (.inl hb'), fun hf => (hFlt b hf).2 hb'⟩)
    · rw [if_neg hil]
      rw [List.getElem?_append_right (by omega)] at hi
      exact hR v ps' hp' hR' A (List.mem_of_getElem? hi) _ _ _ _ (hst'.res _ A hi)
  · by_cases hil : i < L.length
    · rw [if_pos hil] at hbi
      exact ⟨Nat.lt_of_lt_of_le (hFlt b (hfp i hil b hbi)).1 hE.size, fun h => h.2 (hfp i hil b hbi)⟩
    · rw [if_neg hil] at hbi
      rw [List.length_append] at hi
      have := hst'.lt (i - L.length) (by omega) b hbi
      exact ⟨this.1, fun h => this.2 h.1⟩
  · rw [List.length_append] at hi hj
    by_cases hil : i < L.length
    · rw [if_pos hil] at hbi
      by_cases hjl : j < L.length
      · rw [if_pos hjl] at hbj; exact hst.dj i j hil hjl hne b hbi hbj
      · rw [if_neg hjl] at hbj; exact (hst'.lt (j - L.length) (by omega) b hbj).2 (hE.more b (.inr (hfp i hil b hbi)))
    · rw [if_neg hil] at hbi
      by_cases hjl : j < L.length
      · rw [if_pos hjl] at hbj; exact (hst'.lt (i - L.length) (by omega) b hbi).2 (hE.more b (.inr (hfp j hjl b hbj)))
      · rw [if_neg hjl] at hbj; exact hst'.dj (i - L.length) (j - L.length) (by omega) (by omega) (by omega) b hbi hbj
  · rcases hE.new b hb'.1 with (h | h) | h | h
    · exact .inl h
    · exact (hb'.2 h).elim
    · exact (h0 b h).elim
    · exact .inr (.inr h)
  · dsimp only at hbi
    by_cases hil : i < L.length
    · rw [if_pos hil] at hbi; exact .inl ⟨i, hil, hbi⟩
    · rw [if_neg hil] at hbi
      rw [List.length_append] at hi
      exact (hb b ⟨i - L.length, by omega, hbi⟩).elim (fun h => (h0 b h).elim) .inr
/-- a call that takes them as shared from there on -/
theorem Con.ofRes {P : Program} {f : FuncId} {args : List Value} {ps : List Per} {p : Per} {R : Value → List Per → List Res → Prop} (h : Con P f args (p :: ps) [] R) (L : List Res)
    (hB : ∀ (w : World) (S : Blks) (fp : Nat → Blks), (∀ (i : Nat) (A : Res), L[i]? = some A → A.holds w S (fp i)) → p.holds w (fun b => S b ∨ tot fp L.length b)) : Con P f args ps L R := fun w S fp hst => by
  have h2 := st_lend hst (hB w S fp hst.res)
  have h0 : ∀ b, ¬ tot (fun _ _ => False) ([] : List Res).length b := fun b ⟨j, hj, _⟩ => by simp at hj
  have hE : Evo w S (tot fp L.length) w (fun b => S b ∨ tot fp L.length b) := ⟨rfl, rfl, rfl, Nat.le_refl _, fun _ _ _ => rfl, fun _ h => .inl h, fun b hb => hb.elim .inl fun h => .inr (.inl h)⟩
  exact (h w _ _ h2).mono fun e w' ⟨u, ps', hp', S', fp', he, hR, hst', hE', hb⟩ => ⟨u, ps', hp', S', fp', he, hR, hst', hE.trans hE' (fun b hb => (h0 b hb).elim), fun b hb' => (hb b hb').elim (fun h => (h0 b h).elim) .inr⟩
/-- what is left over may be forgotten -/
theorem Con.clean {P : Program} {f : FuncId} {args : List Value} {ps : List Per} {hp : List Res} {R : Value → List Per → List Res → Prop} {φ : Value → Prop} (h : Con P f args ps hp R) (hR : ∀ v ps' hp', R v ps' hp' → φ v) : Con P f args ps hp (fun v ps' hp' => φ v ∧ ps' = [] ∧ hp' = []) := fun w S fp hst =>
  (h w S fp hst).mono fun e w' ⟨v, ps', hp', S', fp', he, hr, hst', hE, hb⟩ => ⟨v, [], [], S', fun _ _ => False, he, ⟨hR _ _ _ hr, rfl, rfl⟩, ⟨fun q hq => (by cases hq), fun i A hi => (by simp at hi), fun i hi => (by simp at hi), fun i j hi => (by simp at hi), hst'.slt⟩, hE, fun b ⟨i, hi, _⟩ => (by simp at hi)⟩
end Go.Sy
namespace Go.Proofs.Ytnbochlghdkfkaa
open Go.RowKit Go.Lp Go.Sy Go.Lv
open Go.Proofs.Try
attribute [local irreducible] aL aB awp aC fwp
abbrev smX (lib keep : Bool) (a1 a2 a3 ao ak ak2 ac ac2 : Option Addr) : GLink :=
  ⟨⟨.empty, lib, default, default, ⟨#[109, 97, 105, 110]⟩, 0, default⟩, ⟨ao, 1, [threeO a1 a2 a3 keep]⟩, ⟨ak2, 1, [⟨ak, 3, [true, true, true]⟩]⟩, ⟨ac2, 1, [⟨ac, 2, chT⟩]⟩, default, 0⟩
abbrev smRes (keep : Bool) (a1 a2 a3 ao ak ak2 ac ac2 : Option Addr) : List Res :=
  [OwnS (.slice ao 1 1) 53 11 [GObject.row (threeO a1 a2 a3 keep)], OwnS (.slice ak 3 3) 4 1 [[.v (.bool true)], [.v (.bool true)], [.v (.bool true)]], OwnS (.slice ak2 1 1) 54 1 [[.v (.slice ak 3 3)]],
   OwnS (.slice ac 2 2) 68 6 (chT.map GChoice.row), OwnS (.slice ac2 1 1) 69 1 [[.v (.slice ac 2 2)]], OwnS (.slice a1 3 3) 60 6 ((secsT keep).map GSection.row), OwnS (.slice a2 2 2) 88 10 (symsT.map GSymbol.row), OwnS (.slice a3 1 1) 62 5 (relsT.map GRel.row)]
theorem sm_ok {lib keep : Bool} {a1 a2 a3 ao ak ak2 ac ac2 : Option Addr} (w : World) (S : Blks) (fp : Nat → Blks) (h : ∀ (i : Nat) (A : Res), (smRes keep a1 a2 a3 ao ak ak2 ac ac2)[i]? = some A → A.holds w S (fp i)) :
    (smX lib keep a1 a2 a3 ao ak ak2 ac ac2).ok.holds w (fun b => S b ∨ tot fp (smRes keep a1 a2 a3 ao ak ak2 ac ac2).length b) := by
  have key : ∀ (i : Nat) (v : Value) (T : TypeId) (sz : Nat) (rows : List (List D)), (smRes keep a1 a2 a3 ao ak ak2 ac ac2)[i]? = some (OwnS v T sz rows) → RepD w (fun b => S b ∨ tot fp (smRes keep a1 a2 a3 ao ak ak2 ac ac2).length b) v (.sl rows) := fun i v T sz rows hi =>
    (own_rep (h i _ hi)).mono (fun _ _ => rfl) fun b hb => hb.imp id fun hf => ⟨i, (List.getElem?_eq_some_iff.1 hi).1, hf⟩
  have nil : ∀ S', RepD w S' (.slice none 0 0) (.sl []) := fun S' => .e _ _ (by unfold maxLen; omega)
  refine ⟨⟨nil _, nil _, nil _, fun y hy => by cases hy⟩, key 0 _ _ _ _ rfl, fun y hy => ?_, key 2 _ _ _ _ rfl, fun y hy => ?_, key 4 _ _ _ _ rfl, fun y hy => ?_, nil _⟩
  · rw [List.mem_singleton.1 hy]
    exact ⟨key 5 _ _ _ _ rfl, key 6 _ _ _ _ rfl, key 7 _ _ _ _ rfl, nil _, fun y hy => (by cases hy), nil _, nil _, nil _, nil _, nil _, nil _, fun y hy => by cases hy⟩
  · rw [List.mem_singleton.1 hy]; exact key 1 _ _ _ _ rfl
  · rw [List.mem_singleton.1 hy]; exact key 3 _ _ _ _ rfl
theorem sm_few {lib keep : Bool} {a1 a2 a3 ao ak ak2 ac ac2 : Option Addr} : FewL (smX lib keep a1 a2 a3 ao ak ak2 ac ac2).objs.l := ⟨show 1 ≤ 4 by decide, fun o ho => by rw [List.mem_singleton.1 ho]; exact ⟨show 3 ≤ 6 by decide, show 2 ≤ 14 by decide, show 1 ≤ 14 by decide, show 0 ≤ 6 by decide, show 0 ≤ 6 by decide⟩⟩
theorem con_sm_live (lib keep : Bool) (a1 a2 a3 ao ak ak2 ac ac2 : Option Addr) : Con Try.prog 12 [(smX lib keep a1 a2 a3 ao ak ak2 ac ac2).r.val, .slice ao 1 1, .slice ak2 1 1, .slice ac2 1 1] [] (smRes keep a1 a2 a3 ao ak ak2 ac ac2)
    fun r ps hp => ps = [] ∧ ∃ t : Sl (Sl Bool), r = t.val ∧ tabL t = [[!lib, !lib, keep]] ∧ hp = smRes keep a1 a2 a3 ao ak ak2 ac ac2 ++ [PrivR (TabF t)] := by
  refine (Con.borrowL (con_live (smX lib keep a1 a2 a3 ao ak ak2 ac ac2) sm_few) (smRes keep a1 a2 a3 ao ak ak2 ac ac2) sm_ok fun v ps' hp' ⟨_, t, _, _, _, _, e⟩ r hr => ?_).post fun v ps' hp' ⟨h1, ps2, hp2, ⟨_, t, ad, cap, h2, h3, h4⟩, h5⟩ => ⟨h1, t, h2, by rw [h3]; exact live_sm, by rw [h5, h4]⟩
  rw [e] at hr; rw [List.mem_singleton.1 hr]; exact indep_priv _
theorem con_sm_way (a1 a2 a3 ao ak ak2 ac ac2 : Option Addr) : Con Try.prog 9 [(smX false false a1 a2 a3 ao ak ak2 ac ac2).r.val, .slice ao 1 1, .slice ak2 1 1, .slice ac2 1 1, .int .i64 0, .int .i64 1] [] (smRes false a1 a2 a3 ao ak ak2 ac ac2)
    fun r ps hp => ps = [] ∧ ∃ (ad : Option Addr) (c : Nat), r = .slice ad 2 c ∧ hp = smRes false a1 a2 a3 ao ak ak2 ac ac2 ++ [OwnS (.slice ad 2 c) 36 2 [[.v (.int .i64 0), .v (.int .i64 0)], [.v (.int .i64 0), .v (.int .i64 1)]]] := by
  refine (Con.borrowL (con_lway (smX false false a1 a2 a3 ao ak ak2 ac ac2) sm_few 0 1) (smRes false a1 a2 a3 ao ak ak2 ac ac2) sm_ok fun v ps' hp' ⟨_, t, _, _, _, _, e⟩ r hr => ?_).post fun v ps' hp' ⟨h1, ps2, hp2, ⟨_, t, ad, cap, h2, h3, h4⟩, h5⟩ => ?_
  · rw [e] at hr; rw [List.mem_singleton.1 hr]
    exact indep_own fun r hr d hd => by
      obtain ⟨p, _, rfl⟩ := List.mem_map.1 hr
      simp only [GPlace.row, List.mem_cons, List.not_mem_nil, or_false] at hd
      rcases hd with rfl | rfl <;> exact ⟨_, rfl⟩
  · have e : t.l = [⟨0, 0⟩, ⟨0, 1⟩] := by rw [h3]; exact way_sm
    obtain ⟨ta, tc, tl⟩ := t
    dsimp only at e
    subst e
    exact ⟨h1, ta, tc, h2, by rw [h5, h4]; rfl⟩
theorem con_sm_same (a : Sl (Sl Bool)) (b0 b1 b2 : Bool) (h : tabL a = [[b0, b1, b2]]) (ai ao : Option Addr) : Con Try.prog 11 [a.val, .slice ao 1 1] [TabF a] [OwnS (.slice ai 3 3) 4 1 [[.v (.bool b0)], [.v (.bool b1)], [.v (.bool b2)]], OwnS (.slice ao 1 1) 54 1 [[.v (.slice ai 3 3)]]]
    fun r ps hp => r = .bool true ∧ ps = [] ∧ hp = [] := by
  refine Con.clean (φ := fun r => r = .bool true) (R := fun r _ _ => r = .bool true) ?_ fun _ _ _ h => h
  refine Con.ofRes (p := TabF ⟨ao, 1, [⟨ai, 3, [b0, b1, b2]⟩]⟩) (((con_same a ⟨ao, 1, [⟨ai, 3, [b0, b1, b2]⟩]⟩).pre fun p hp => ?_).post fun v _ _ hv => ?_) _ fun w S fp hres => ?_
  · simp only [List.mem_cons, List.not_mem_nil, or_false] at hp
    rcases hp with rfl | rfl
    · exact .of (by simp)
    · exact .of (by simp)
  · rw [hv, h, show sameF [[b0, b1, b2]] (tabL ⟨ao, 1, [⟨ai, 3, [b0, b1, b2]⟩]⟩) = true from decide_eq_true rfl]
  · have key : ∀ (i : Nat) (v : Value) (T : TypeId) (sz : Nat) (rows : List (List D)), ([OwnS (.slice ai 3 3) 4 1 [[.v (.bool b0)], [.v (.bool b1)], [.v (.bool b2)]], OwnS (.slice ao 1 1) 54 1 [[.v (.slice ai 3 3)]]] : List Res)[i]? = some (OwnS v T sz rows) → RepD w (fun b => S b ∨ tot fp 2 b) v (.sl rows) := fun i v T sz rows hi =>
      (own_rep (hres i _ hi)).mono (fun _ _ => rfl) fun b hb => hb.imp id fun hf => ⟨i, (List.getElem?_eq_some_iff.1 hi).1, hf⟩
    exact ⟨key 1 _ _ _ _ rfl, fun y hy => by rw [List.mem_singleton.1 hy]; exact key 0 _ _ _ _ rfl⟩
end Go.Proofs.Ytnbochlghdkfkaa
namespace Go.Proofs.Ytnbochlghdkfkaa
open Go.RowKit Go.Lp Go.Sy Go.Lv
open Go.Proofs.Try
attribute [local irreducible] aL aB awp aC fwp
theorem con_small : Con Try.prog 7 [] [] [] fun r ps hp => r = .bool true ∧ ps = [] ∧ hp = [] := by
  refine Con.clean (φ := fun r => r = .bool true) (R := fun r _ _ => r = .bool true) ?_ fun _ _ _ h => h
  refine Con.enter Try.func7 rfl (by simp [Try.ntmps7]) ?_
  show awp _ _ _ _ ⟨[], _, _⟩
  refine awp_seq (awp_region (aL_s true rfl rfl (fun _ => q_assign rfl) (aL_nil (thn_n (awp_seq (awp_region ?_))))))
  refine aL_eff (q := true) rfl (e_call [] [] (by kernel_rfl) rfl rfl rfl rfl (con_three) ?_)
  rintro _ _ _ ⟨rfl, a1, a2, a3, rfl, rfl⟩
  refine aL_st (by (try simp only [nM, nN]); rfl) (by (try simp only [putB, place, Nat.reduceBEq, nA, if_true, if_false, reduceIte, nB, nC, nD, nE, nF, nG, nH, nI, Nat.reduceAdd, nJ, beq_self_eq_true, nK, nL, nM, nN]); rfl) ?_
  refine aL_eff (q := true) rfl (x_alloc (zs := [.string .empty, .slice none 0 0, .slice none 0 0, .slice none 0 0, .slice none 0 0, .slice none 0 0, .slice none 0 0, .slice none 0 0, .slice none 0 0, .slice none 0 0, .slice none 0 0]) (by kernel_rfl) rfl (fun b1_1 => ?_))
  refine aL_hp (by (try simp only [nM, nN]); rfl) ?_
  refine aL_eff rfl (x_store 3 tk53 rfl rfl rfl rfl ?_)
  refine aL_hp (by simp only [nK, nL]; rfl) ?_
  refine aL_nil (thn_n (awp_seq (awp_region ?_)))
  refine aL_eff (q := true) rfl (w_lit (zs := [.bool false]) (l := [(0, .const (.bool true)), (1, .const (.bool true)), (2, .const (.bool true))]) el54 (by kernel_rfl) (by decide) (by decide) (by decide) rfl rfl rfl (.more rfl (.v rfl .nil) (.more rfl (.v rfl .nil) (.more rfl (.v rfl .nil) .nil))) rfl rfl (fun v2_0 => ?_))
  refine aL_hp (by (try simp only [nM, nN]); rfl) ?_
  refine aL_eff (q := true) rfl (w_lit (zs := [.slice none 0 0]) (l := [(0, .tmp 10)]) el27 (by kernel_rfl) (by decide) (by decide) (by decide) rfl rfl rfl (.more rfl (.v rfl .nil) .nil) rfl rfl (fun v2_1 => ?_))
  refine aL_hp (by (try simp only [nM, nN]); rfl) ?_
  refine aL_s true rfl rfl (fun _ => q_assign rfl) (aL_nil (thn_n (awp_seq (awp_region ?_))))
  refine aL_s true rfl rfl (fun _ => q_bld (l := [(0, .const (.int .i64 2))]) (zs := [.int .i64 0, .int .i64 0, .int .i64 0, .int .i64 0, .int .i64 0, .bool false]) (pl := [(0, 1), (1, 1), (2, 1), (3, 1), (4, 1), (5, 1)]) (by kernel_rfl) (by kernel_rfl) (by kernel_rfl) rfl rfl rfl) ?_
  refine aL_s true rfl rfl (fun _ => q_bld (l := [(0, .const (.int .i64 1)), (2, .const (.int .i64 1))]) (zs := [.int .i64 0, .int .i64 0, .int .i64 0, .int .i64 0, .int .i64 0, .bool false]) (pl := [(0, 1), (1, 1), (2, 1), (3, 1), (4, 1), (5, 1)]) (by kernel_rfl) (by kernel_rfl) (by kernel_rfl) rfl rfl rfl) ?_
  refine aL_eff (q := true) rfl (w_lit (zs := [.int .i64 0, .int .i64 0, .int .i64 0, .int .i64 0, .int .i64 0, .bool false]) (l := [(0, .tmp 12), (1, .tmp 13)]) el69 (by kernel_rfl) (by decide) (by decide) (by decide) rfl rfl rfl (.more rfl (.v rfl (.v rfl (.v rfl (.v rfl (.v rfl (.v rfl .nil)))))) (.more rfl (.v rfl (.v rfl (.v rfl (.v rfl (.v rfl (.v rfl .nil)))))) .nil)) rfl rfl (fun v3_2 => ?_))
  refine aL_hp (by (try simp only [nM, nN]); rfl) ?_
  refine aL_eff (q := true) rfl (w_lit (zs := [.slice none 0 0]) (l := [(0, .tmp 14)]) el28 (by kernel_rfl) (by decide) (by decide) (by decide) rfl rfl rfl (.more rfl (.v rfl .nil) .nil) rfl rfl (fun v3_3 => ?_))
  refine aL_hp (by (try simp only [nM, nN]); rfl) ?_
  refine aL_s true rfl rfl (fun _ => q_assign rfl) (aL_nil (thn_n (awp_seq (awp_region ?_))))
  refine aL_s true rfl rfl (fun _ => q_bld (l := [(4, .const (.string ⟨#[109, 97, 105, 110]⟩))]) (zs := [.string .empty, .bool false, .slice none 0 0, .slice none 0 0, .string .empty, .int .i64 0, .slice none 0 0]) (pl := [(0, 1), (1, 1), (2, 1), (3, 1), (4, 1), (5, 1), (6, 1)]) (by kernel_rfl) (by kernel_rfl) (by kernel_rfl) rfl rfl rfl) ?_
  refine aL_eff (q := true) rfl (x_alloc (zs := [.string .empty, .bool false, .slice none 0 0, .slice none 0 0, .string .empty, .int .i64 0, .slice none 0 0]) (by kernel_rfl) rfl (fun b4_1 => ?_))
  refine aL_hp (by (try simp only [nM, nN]); rfl) ?_
  refine aL_eff rfl (x_store 8 tk25 rfl rfl rfl rfl ?_)
  refine aL_hp (by simp only [nK, nL]; rfl) ?_
  refine aL_nil (thn_n (awp_seq (awp_region (aL_s true rfl rfl (fun _ => q_load 8 tk25 rfl rfl rfl) (aL_s true rfl rfl (fun _ => q_load 3 tk53 rfl rfl rfl) ?_)))))
  refine aL_eff (q := true) rfl (w_lit (zs := [.string .empty, .slice none 0 0, .slice none 0 0, .slice none 0 0, .slice none 0 0, .slice none 0 0, .slice none 0 0, .slice none 0 0, .slice none 0 0, .slice none 0 0, .slice none 0 0]) (l := [(0, .tmp 18)]) el26 (by kernel_rfl) (by decide) (by decide) (by decide) rfl rfl rfl (.more rfl (.v rfl (.v rfl (.v rfl (.v rfl (.v rfl (.v rfl (.v rfl (.v rfl (.v rfl (.v rfl (.v rfl .nil))))))))))) .nil) rfl rfl (fun v5_2 => ?_))
  refine aL_hp (by (try simp only [nM, nN]); rfl) ?_
  refine aL_s true rfl rfl (fun _ => q_move rfl) (aL_s true rfl rfl (fun _ => q_move rfl) ?_)
  refine aL_eff (q := false) rfl (e_call [] [9, 4, 5, 6, 7, 0, 1, 2] (by kernel_rfl) rfl rfl rfl rfl (con_sm_live false false a1 a2 a3 v5_2 v2_0 v2_1 v3_2 v3_3) ?_)
  rintro _ _ _ ⟨rfl, ta, rfl, hta, rfl⟩
  refine aL_st (by (try simp only [nM, nN]); rfl) (by (try simp only [putB, place, Nat.reduceBEq, nA, if_true, if_false, reduceIte, nB, nC, nD, nE, nF, nG, nH, nI, Nat.reduceAdd, nJ, beq_self_eq_true, nK, nL, nM, nN]); rfl) ?_
  refine aL_s true rfl rfl (fun _ => q_assign rfl) (aL_nil (thn_n (awp_seq (awp_region (aL_s true rfl rfl (fun _ => q_load 8 tk25 rfl rfl rfl) (aL_s true rfl rfl (fun _ => q_load 3 tk53 rfl rfl rfl) ?_))))))
  refine aL_eff (q := true) rfl (w_lit (zs := [.string .empty, .slice none 0 0, .slice none 0 0, .slice none 0 0, .slice none 0 0, .slice none 0 0, .slice none 0 0, .slice none 0 0, .slice none 0 0, .slice none 0 0, .slice none 0 0]) (l := [(0, .tmp 24)]) el26 (by kernel_rfl) (by decide) (by decide) (by decide) rfl rfl rfl (.more rfl (.v rfl (.v rfl (.v rfl (.v rfl (.v rfl (.v rfl (.v rfl (.v rfl (.v rfl (.v rfl (.v rfl .nil))))))))))) .nil) rfl rfl (fun v6_2 => ?_))
  refine aL_hp (by (try simp only [nM, nN]); rfl) ?_
  refine aL_s true rfl rfl (fun _ => q_move rfl) (aL_s true rfl rfl (fun _ => q_move rfl) ?_)
  refine aL_eff (q := false) rfl (e_call [] [11, 4, 5, 6, 7, 0, 1, 2] (by kernel_rfl) rfl rfl rfl rfl (con_sm_way a1 a2 a3 v6_2 v2_0 v2_1 v3_2 v3_3) ?_)
  rintro _ _ _ ⟨rfl, aw, cw, rfl, rfl⟩
  refine aL_st (by (try simp only [nM, nN]); rfl) (by (try simp only [putB, place, Nat.reduceBEq, nA, if_true, if_false, reduceIte, nB, nC, nD, nE, nF, nG, nH, nI, Nat.reduceAdd, nJ, beq_self_eq_true, nK, nL, nM, nN]); rfl) ?_
  refine aL_s true rfl rfl (fun _ => q_assign rfl) (aL_nil (thn_n (awp_seq (awp_region ?_))))
  refine aL_s true rfl rfl (fun _ => q_bld (l := [(1, .const (.bool true)), (4, .const (.string ⟨#[109, 97, 105, 110]⟩))]) (zs := [.string .empty, .bool false, .slice none 0 0, .slice none 0 0, .string .empty, .int .i64 0, .slice none 0 0]) (pl := [(0, 1), (1, 1), (2, 1), (3, 1), (4, 1), (5, 1), (6, 1)]) (by kernel_rfl) (by kernel_rfl) (by kernel_rfl) rfl rfl rfl) ?_
  refine aL_s true rfl rfl (fun _ => q_load 3 tk53 rfl rfl rfl) ?_
  refine aL_eff (q := true) rfl (w_lit (zs := [.string .empty, .slice none 0 0, .slice none 0 0, .slice none 0 0, .slice none 0 0, .slice none 0 0, .slice none 0 0, .slice none 0 0, .slice none 0 0, .slice none 0 0, .slice none 0 0]) (l := [(0, .tmp 30)]) el26 (by kernel_rfl) (by decide) (by decide) (by decide) rfl rfl rfl (.more rfl (.v rfl (.v rfl (.v rfl (.v rfl (.v rfl (.v rfl (.v rfl (.v rfl (.v rfl (.v rfl (.v rfl .nil))))))))))) .nil) rfl rfl (fun v7_2 => ?_))
  refine aL_hp (by (try simp only [nM, nN]); rfl) ?_
  refine aL_s true rfl rfl (fun _ => q_move rfl) (aL_s true rfl rfl (fun _ => q_move rfl) ?_)
  refine aL_eff (q := false) rfl (e_call [] [13, 4, 5, 6, 7, 0, 1, 2] (by kernel_rfl) rfl rfl rfl rfl (con_sm_live true false a1 a2 a3 v7_2 v2_0 v2_1 v3_2 v3_3) ?_)
  rintro _ _ _ ⟨rfl, tl, rfl, htl, rfl⟩
  refine aL_st (by (try simp only [nM, nN]); rfl) (by (try simp only [putB, place, Nat.reduceBEq, nA, if_true, if_false, reduceIte, nB, nC, nD, nE, nF, nG, nH, nI, Nat.reduceAdd, nJ, beq_self_eq_true, nK, nL, nM, nN]); rfl) ?_
  refine aL_s true rfl rfl (fun _ => q_assign rfl) (aL_nil (thn_n (awp_seq ?_)))
  refine awp_formO 0 rfl (by decide) (fun B cpo hvo => ?_)
  obtain ⟨rfl, _⟩ : a1 = some ⟨B, 0, none⟩ ∧ 3 = cpo := by simp at hvo; exact ⟨hvo.1, hvo.2.2⟩
  refine awp_region ?_
  refine aL_s true rfl rfl (fun _ => q_fieldAddr (off := 1) (by kernel_rfl) rfl) ?_
  refine aL_s true rfl rfl (fun _ => q_load 3 tk42 rfl rfl rfl) ?_
  refine aL_s true rfl rfl (fun _ => q_idxV 2 el42 rfl rfl rfl (show 2 < 3 by decide)) ?_
  refine aL_s true rfl rfl (fun _ => q_fieldAddr (off := 5) (by kernel_rfl) rfl) ?_
  refine aL_eff (q := false) rfl (e_storeO 0 2 5 tk4 rfl rfl rfl rfl rfl (.v rfl .nil) rfl (by decide) ?_)
  refine aL_nil (thn_n (awp_seq (aw_hp (hp' := OwnS (.slice (some ⟨B, 0, none⟩) 3 3) 60 6 ((secsT true).map GSection.row) :: _) rfl (awp_region (aL_s true rfl rfl (fun _ => q_load 8 tk25 rfl rfl rfl) (aL_s true rfl rfl (fun _ => q_load 3 tk53 rfl rfl rfl) ?_))))))
  refine aL_eff (q := true) rfl (w_lit (zs := [.string .empty, .slice none 0 0, .slice none 0 0, .slice none 0 0, .slice none 0 0, .slice none 0 0, .slice none 0 0, .slice none 0 0, .slice none 0 0, .slice none 0 0, .slice none 0 0]) (l := [(0, .tmp 40)]) el26 (by kernel_rfl) (by decide) (by decide) (by decide) rfl rfl rfl (.more rfl (.v rfl (.v rfl (.v rfl (.v rfl (.v rfl (.v rfl (.v rfl (.v rfl (.v rfl (.v rfl (.v rfl .nil))))))))))) .nil) rfl rfl (fun v9_2 => ?_))
  refine aL_hp (by (try simp only [nM, nN]); rfl) ?_
  refine aL_s true rfl rfl (fun _ => q_move rfl) (aL_s true rfl rfl (fun _ => q_move rfl) ?_)
  refine aL_eff (q := false) rfl (e_call [] [15, 4, 5, 6, 7, 0, 1, 2] (by kernel_rfl) rfl rfl rfl rfl (con_sm_live false true (some ⟨B, 0, none⟩) a2 a3 v9_2 v2_0 v2_1 v3_2 v3_3) ?_)
  rintro _ _ _ ⟨rfl, tb, rfl, htb, rfl⟩
  refine aL_st (by (try simp only [nM, nN]); rfl) (by (try simp only [putB, place, Nat.reduceBEq, nA, if_true, if_false, reduceIte, nB, nC, nD, nE, nF, nG, nH, nI, Nat.reduceAdd, nJ, beq_self_eq_true, nK, nL, nM, nN]); rfl) ?_
  refine aL_s true rfl rfl (fun _ => q_assign rfl) (aL_nil (thn_n (awp_seq (awp_seq (awp_share 12 rfl (awp_shareR 10 (TabF ta) rfl (fun w S F h => (TabF ta).mono h (fun _ _ => rfl) (fun b hb => .inr hb)) (awp_shareR 14 (TabF tl) rfl (fun w S F h => (TabF tl).mono h (fun _ _ => rfl) (fun b hb => .inr hb)) ?_)))))))
  refine awp_shareR 16 (TabF tb) rfl (fun w S F h => (TabF tb).mono h (fun _ _ => rfl) (fun b hb => .inr hb)) (awp_region (aL_s true rfl rfl (fun _ => q_move rfl) (aL_s true rfl rfl (fun _ => q_lenS Try.underlying31 rfl) (aL_s true rfl rfl (fun _ => q_neq rfl rfl) (aL_s true rfl rfl (fun _ => q_move rfl) (aL_s _ rfl rfl (fun hc => q_move rfl) ?_))))))
  refine aL_E _ rfl rfl (fun hc => q_indexAddrG Try.underlying31 tk36 (ev_yes rfl hc) ((.of (psAt 3 rfl))) rfl (show _ = some [D.v (.int .i64 0), D.v (.int .i64 0)] from rfl) rfl rfl) (fun _ => ⟨(0, 0)⟩) (fun ⟨b10_5, o10_5⟩ => ?_)
  refine aL_s _ rfl rfl (fun hc => q_loadD (o := 0) tk36 (ev_yes rfl hc) (psAt 0 rfl) hc rfl) ?_
  refine aL_s _ rfl rfl (fun hc => q_bld (l := []) (zs := [.int .i64 0, .int .i64 0]) (pl := [(0, 1), (1, 1)]) (by kernel_rfl) (by kernel_rfl) (by kernel_rfl) rfl rfl rfl) ?_
  refine aL_s _ rfl rfl (fun hc => qa_neq (by kernel_rfl) (by kernel_rfl) (by kernel_rfl) (fun w => eqFields_ints 9998 _ _ _ w (by kernel_rfl) rfl rfl) (ev_yes rfl hc) (ev_yes rfl hc)) ?_
  refine aL_s true rfl rfl (fun _ => q_or rfl rfl (fun h => gf rfl h)) (aL_s true rfl rfl (fun _ => q_move rfl) (aL_s _ rfl rfl (fun hc => q_move rfl) ?_))
  refine aL_E _ rfl rfl (fun hc => q_indexAddrG Try.underlying31 tk36 (ev_yes rfl hc) ((.of (psAt 4 rfl))) rfl (show _ = some [D.v (.int .i64 0), D.v (.int .i64 1)] from rfl) rfl rfl) (fun _ => ⟨(0, 0)⟩) (fun ⟨b10_12, o10_12⟩ => ?_)
  refine aL_s _ rfl rfl (fun hc => q_loadD (o := 0) tk36 (ev_yes rfl hc) (psAt 0 rfl) hc rfl) ?_
  refine aL_s _ rfl rfl (fun hc => q_bld (l := [(1, .const (.int .i64 1))]) (zs := [.int .i64 0, .int .i64 0]) (pl := [(0, 1), (1, 1)]) (by kernel_rfl) (by kernel_rfl) (by kernel_rfl) rfl rfl rfl) ?_
  refine aL_s _ rfl rfl (fun hc => qa_neq (by kernel_rfl) (by kernel_rfl) (by kernel_rfl) (fun w => eqFields_ints 9998 _ _ _ w (by kernel_rfl) rfl rfl) (ev_yes rfl hc) (ev_yes rfl hc)) ?_
  refine aL_s true rfl rfl (fun _ => q_or rfl rfl (fun h => gf rfl h)) (aL_nil (thn_n ?_))
  refine awp_cond _ rfl (fun h1 => ?_) (fun h1 => ?_)
  ·skip
   exact absurd h1 (by decide)
  ·skip
   refine awp_skip (thn_n (awp_seq (awp_region (aL_s true rfl rfl (fun _ => q_move rfl) ?_))))
   refine aL_eff (q := true) rfl (w_lit (zs := [.bool false]) (l := [(0, .const (.bool true)), (1, .const (.bool true)), (2, .const (.bool false))]) el54 (by kernel_rfl) (by decide) (by decide) (by decide) rfl rfl rfl (.more rfl (.v rfl .nil) (.more rfl (.v rfl .nil) (.more rfl (.v rfl .nil) .nil))) rfl rfl (fun v12_1 => ?_))
   refine aL_hp (by (try simp only [nM, nN]); rfl) ?_
   refine aL_eff (q := true) rfl (w_lit (zs := [.slice none 0 0]) (l := [(0, .tmp 63)]) el27 (by kernel_rfl) (by decide) (by decide) (by decide) rfl rfl rfl (.more rfl (.v rfl .nil) .nil) rfl rfl (fun v12_2 => ?_))
   refine aL_hp (by (try simp only [nM, nN]); rfl) ?_
   refine aL_eff (q := false) rfl (e_call [1] [17, 18] (by kernel_rfl) rfl rfl rfl rfl (con_sm_same ta true true false hta v12_1 v12_2) ?_)
   rintro _ _ _ ⟨rfl, rfl, rfl⟩
   refine aL_st (by (try simp only [nM, nN]); rfl) (by (try simp only [putB, place, Nat.reduceBEq, nA, if_true, if_false, reduceIte, nB, nC, nD, nE, nF, nG, nH, nI, Nat.reduceAdd, nJ, beq_self_eq_true, nK, nL, nM, nN]); rfl) ?_
   refine aL_s true rfl rfl (fun _ => q_move rfl) (aL_s true rfl rfl (fun _ => q_move rfl) ?_)
   refine aL_eff (q := true) rfl (w_lit (zs := [.bool false]) (l := [(0, .const (.bool true)), (1, .const (.bool true)), (2, .const (.bool true))]) el54 (by kernel_rfl) (by decide) (by decide) (by decide) rfl rfl rfl (.more rfl (.v rfl .nil) (.more rfl (.v rfl .nil) (.more rfl (.v rfl .nil) .nil))) rfl rfl (fun v12_6 => ?_))
   refine aL_hp (by (try simp only [nM, nN]); rfl) ?_
   refine aL_eff (q := true) rfl (w_lit (zs := [.slice none 0 0]) (l := [(0, .tmp 68)]) el27 (by kernel_rfl) (by decide) (by decide) (by decide) rfl rfl rfl (.more rfl (.v rfl .nil) .nil) rfl rfl (fun v12_7 => ?_))
   refine aL_hp (by (try simp only [nM, nN]); rfl) ?_
   refine aL_eff (q := false) rfl (e_call [3] [19, 20] (by kernel_rfl) rfl rfl rfl rfl (con_sm_same tb true true true htb v12_6 v12_7) ?_)
   rintro _ _ _ ⟨rfl, rfl, rfl⟩
   refine aL_st (by (try simp only [nM, nN]); rfl) (by (try simp only [putB, place, Nat.reduceBEq, nA, if_true, if_false, reduceIte, nB, nC, nD, nE, nF, nG, nH, nI, Nat.reduceAdd, nJ, beq_self_eq_true, nK, nL, nM, nN]); rfl) ?_
   refine aL_s true rfl rfl (fun _ => q_and rfl rfl (fun _ => rfl)) (aL_s true rfl rfl (fun _ => q_move rfl) (aL_s true rfl rfl (fun _ => q_move rfl) ?_))
   refine aL_eff (q := true) rfl (w_lit (zs := [.bool false]) (l := [(0, .const (.bool false)), (1, .const (.bool false)), (2, .const (.bool false))]) el54 (by kernel_rfl) (by decide) (by decide) (by decide) rfl rfl rfl (.more rfl (.v rfl .nil) (.more rfl (.v rfl .nil) (.more rfl (.v rfl .nil) .nil))) rfl rfl (fun v12_12 => ?_))
   refine aL_hp (by (try simp only [nM, nN]); rfl) ?_
   refine aL_eff (q := true) rfl (w_lit (zs := [.slice none 0 0]) (l := [(0, .tmp 74)]) el27 (by kernel_rfl) (by decide) (by decide) (by decide) rfl rfl rfl (.more rfl (.v rfl .nil) .nil) rfl rfl (fun v12_13 => ?_))
   refine aL_hp (by (try simp only [nM, nN]); rfl) ?_
   refine aL_eff (q := false) rfl (e_call [2] [21, 22] (by kernel_rfl) rfl rfl rfl rfl (con_sm_same tl false false false htl v12_12 v12_13) ?_)
   rintro _ _ _ ⟨rfl, rfl, rfl⟩
   refine aL_st (by (try simp only [nM, nN]); rfl) (by (try simp only [putB, place, Nat.reduceBEq, nA, if_true, if_false, reduceIte, nB, nC, nD, nE, nF, nG, nH, nI, Nat.reduceAdd, nJ, beq_self_eq_true, nK, nL, nM, nN]); rfl) ?_
   refine aL_s true rfl rfl (fun _ => q_and rfl rfl (fun _ => rfl)) (aL_s true rfl rfl (fun _ => q_assign rfl) (aL_nil (thn_n (awp_ret ?_))))
   refine fin1 [] [] rfl Try.results7 rfl ?_ (.inr rfl)
   rfl
end Go.Proofs.Ytnbochlghdkfkaa
namespace Go.Sy
open Go.RowKit Go.Deep
section
variable (P : Program)
def consB : Nat → List Field → Nat → Bool
  | off, [], tot => off == tot
  | off, f :: fs, tot => f.offset == off && decide (off + P.cellsOf f.type ≤ tot) && consB (off + P.cellsOf f.type) fs tot
/-- a type of plain data -/
def rdT : Nat → TypeId → Bool
  | 0, _ => false
  | k + 1, t => match P.underlying t with
    | some .bool => true
    | some (.int _) => true
    | some .string => true
    | some (.slice e) => decide (0 < P.cellsOf e) && rdT k e
    | some (.struct fs) => consB P 0 fs.toList (P.cellsOf t) && fs.toList.all (fun f => rdT k f.type)
    | _ => false
def okF (ok : TypeId → List D → Prop) : List Field → List D → Prop
  | [], ds => ds = []
  | f :: fs, ds => ∃ d1 d2, ds = d1 ++ d2 ∧ ok f.type d1 ∧ okF ok fs d2
/-- data of a type -/
def okD : Nat → TypeId → List D → Prop
  | 0, _, _ => False
  | k + 1, t, ds => match P.underlying t with
    | some .bool => ∃ b, ds = [.v (.bool b)]
    | some (.int i) => ∃ n, ds = [.v (.int i n)] ∧ (Lit.int i n).wf = true
    | some .string => ∃ s, ds = [.v (.string s)] ∧ s.size ≤ maxLen
    | some (.slice e) => ∃ rows, ds = [.sl rows] ∧ rows.length ≤ maxLen ∧ ∀ r ∈ rows, okD k e r
    | some (.struct fs) => okF (okD k) fs.toList ds
    | _ => False
end
variable {P : Program} {H : Type} {enc : TypeId × Value → H} {w : World} {base : Nat} {spare : Nat → Bool} {held : Bool}
/-- cells that read as data -/
def Rds (w : World) (cs : List Value) (off : Nat) (ds : List D) : Prop := ∀ (j : Nat) (d : D), ds[j]? = some d → ∃ u, cs[off + j]? = some u ∧ u.oneCell' = true ∧ RepD w (fun b => b < w.heap.size) u d
section
theorem one_rds {u : Value} {d : D} (h1 : u.oneCell' = true) (h : RepD w (fun b => b < w.heap.size) u d) : Rds w [u] 0 [d] := fun j e hj => by
  cases j with
  | zero => simp at hj; subst hj; exact ⟨u, rfl, h1, h⟩
  | succ j => simp at hj
theorem struct_rep {k fuel : Nat} {cs : List Value} {tot : Nat} (hcs : cs.length = tot)
    (ih : ∀ (t : TypeId) (cs : List Value) (x : DataW H × List MemPlace), rdT P k t = true → DataW.trod enc P w base spare held fuel t cs = some x → ∃ ds, ds.length = cs.length ∧ okD P k t ds ∧ Rds w cs 0 ds) :
    ∀ (fs : List Field) (off : Nat), consB P off fs tot = true → fs.all (fun f => rdT P k f.type) = true →
      (∀ f ∈ fs, ∃ y, DataW.trod enc P w base spare held fuel f.type ((cs.drop f.offset).take (P.cellsOf f.type)) = some y) → ∃ ds, off + ds.length = tot ∧ okF (okD P k) fs ds ∧ Rds w cs off ds
  | [], off, hc, _, _ => ⟨[], by simpa [consB] using hc, rfl, fun j d hj => by cases hj⟩
  | f :: fs, off, hc, hr, ht => by
    simp only [consB, Bool.and_eq_true, beq_iff_eq, decide_eq_true_eq] at hc
    obtain ⟨⟨hc1, hc2⟩, hc3⟩ := hc
    simp only [List.all_cons, Bool.and_eq_true] at hr
    obtain ⟨y, hy⟩ := ht f (List.mem_cons_self ..)
    obtain ⟨d1, l1, o1, r1⟩ := ih _ _ _ hr.1 hy
    obtain ⟨d2, l2, o2, r2⟩ := struct_rep hcs ih fs _ hc3 hr.2 (fun g hg => ht g (List.mem_cons_of_mem _ hg))
    rw [List.length_take, List.length_drop, hc1, hcs] at l1
    have l1 : d1.length = P.cellsOf f.type := by omega
    refine ⟨d1 ++ d2, by rw [List.length_append]; omega, ⟨d1, d2, rfl, o1, o2⟩, fun j d hj => ?_⟩
    by_cases hjl : j < d1.length
    · rw [List.getElem?_append_left hjl] at hj
      obtain ⟨u, hu, h1, h2⟩ := r1 j d hj
      rw [Nat.zero_add, List.getElem?_take, if_pos (by omega), List.getElem?_drop, hc1] at hu
      exact ⟨u, hu, h1, h2⟩
    · rw [List.getElem?_append_right (by omega)] at hj
      obtain ⟨u, hu, h1, h2⟩ := r2 _ d hj
      rw [show off + P.cellsOf f.type + (j - d1.length) = off + j by omega] at hu
      exact ⟨u, hu, h1, h2⟩
theorem spot_none {a : Addr} {u : Value} (h : w.cell? a = some u) : a = ⟨a.block, a.off, none⟩ ∧ a.block < w.heap.size := by
  obtain ⟨b, o, sp⟩ := a
  unfold World.cell? at h
  split at h
  · rename_i hb
    refine ⟨?_, (Array.getElem?_eq_some_iff.1 hb).1⟩
    cases sp with
    | none => rfl
    | some z => simp at h
  · cases h
theorem trod_rep : ∀ (k fuel : Nat) (t : TypeId) (cs : List Value) (x : DataW H × List MemPlace), rdT P k t = true → DataW.trod enc P w base spare held fuel t cs = some x → ∃ ds, ds.length = cs.length ∧ okD P k t ds ∧ Rds w cs 0 ds
  | 0, _, _, _, _, h, _ => by cases h
  | k + 1, fuel, t, cs, x, hr, h => by
    unfold rdT at hr
    unfold okD
    split at hr
    · rename_i hu
      obtain ⟨b, rfl, _⟩ := DataW.trod_bool hu h
      exact ⟨[.v (.bool b)], rfl, ⟨b, rfl⟩, one_rds rfl (.v _)⟩
    · rename_i i hu
      obtain ⟨n, rfl, _, hw⟩ := DataW.trod_int hu h
      exact ⟨[.v (.int i n)], rfl, ⟨n, rfl, hw⟩, one_rds rfl (.v _)⟩
    · rename_i hu
      obtain ⟨s, rfl, _, hs⟩ := DataW.trod_string hu h
      exact ⟨[.v (.string s)], rfl, ⟨s, rfl, hs⟩, one_rds rfl (.v _)⟩
    · rename_i e hu
      rw [Bool.and_eq_true, decide_eq_true_eq] at hr
      obtain ⟨hp, hr⟩ := hr
      rcases open_slice hu h with ⟨rfl, _⟩ | ⟨a, len, cap, m, n, _, _, rfl, _, hl, hm, hmm, _, hx⟩
      · exact ⟨[.sl []], rfl, ⟨[], rfl, by simp, fun r hr => by cases hr⟩, one_rds rfl (.e none 0 (by simp))⟩
      · have hlm : len ≤ m := by rw [hmm]; split <;> omega
        by_cases hl0 : len = 0
        · subst hl0
          exact ⟨[.sl []], rfl, ⟨[], rfl, by simp, fun r hr => by cases hr⟩, one_rds rfl (.e (some a) cap hm)⟩
        · have each : ∀ i, ∃ r : List D, i < len → r.length = P.cellsOf e ∧ okD P k e r ∧ ∀ (j : Nat) (d : D), r[j]? = some d → ∃ u, w.cell? ((a.add (i * P.cellsOf e)).add j) = some u ∧ u.oneCell' = true ∧ RepD w (fun b => b < w.heap.size) u d := fun i => by
            by_cases hi : i < len
            · obtain ⟨cs', h1, h2⟩ := hx i (by omega)
              obtain ⟨ds, l1, o1, r1⟩ := trod_rep k _ _ _ _ hr h2
              obtain ⟨_, hcl, hc⟩ := World.cells?_some h1
              refine ⟨ds, fun _ => ⟨by omega, o1, fun j d hj => ?_⟩⟩
              obtain ⟨u, hu, q1, q2⟩ := r1 j d hj
              have := (List.getElem?_eq_some_iff.1 hj).1
              rw [hc j (by omega)]
              exact ⟨u, by rw [← hu, Nat.zero_add], q1, q2⟩
            · exact ⟨[], fun h => absurd h hi⟩
          obtain ⟨R, hR⟩ := Classical.skolem.1 each
          have ha : a = ⟨a.block, a.off, none⟩ ∧ a.block < w.heap.size := by
            obtain ⟨e1, _, e3⟩ := hR 0 (by omega)
            obtain ⟨d, hd⟩ : ∃ d, (R 0)[0]? = some d := ⟨(R 0)[0]'(by omega), by simp⟩
            obtain ⟨u, hu, _⟩ := e3 0 d hd
            have : (a.add (0 * P.cellsOf e)).add 0 = a := by simp [Addr.add]
            rw [this] at hu
            exact spot_none hu
          obtain ⟨ha, hb⟩ := ha
          have hadd : ∀ i j, (a.add (i * P.cellsOf e)).add j = ⟨a.block, a.off + i * P.cellsOf e + j, none⟩ := fun i j => by
            rw [ha]; unfold Addr.add
            by_cases h1 : i * P.cellsOf e = 0 <;> by_cases h2 : j = 0 <;> simp [h1, h2]
          have hrow : ∀ (i : Nat) (r : List D), ((List.range len).map R)[i]? = some r → i < len ∧ r = R i := fun i r hi => by
            have := (List.getElem?_eq_some_iff.1 hi).1
            simp at this
            rw [List.getElem?_map, List.getElem?_range this] at hi
            exact ⟨this, by simpa using hi.symm⟩
          refine ⟨[.sl ((List.range len).map R)], rfl, ⟨_, rfl, by simp; omega, fun r hr => ?_⟩, one_rds rfl ?_⟩
          · obtain ⟨i, hi, rfl⟩ := List.mem_map.1 hr
            exact (hR i (List.mem_range.1 hi)).2.1
          · have := RepD.sl (w := w) (S := fun b => b < w.heap.size) a.block a.off cap (P.cellsOf e) ((List.range len).map R) (fun i j => (w.cell? ⟨a.block, a.off + i * P.cellsOf e + j, none⟩).getD (.bool false)) hb (by simpa using hl) hm
              (fun i r hi => by obtain ⟨h1, rfl⟩ := hrow i r hi; exact (hR i h1).1)
              (fun i j r d hi hj => by
                obtain ⟨h1, rfl⟩ := hrow i r hi
                obtain ⟨u, hu, q1, q2⟩ := (hR i h1).2.2 j d hj
                rw [hadd] at hu
                rw [hu]; exact ⟨rfl, q1⟩)
              (fun i j r d hi hj => by
                obtain ⟨h1, rfl⟩ := hrow i r hi
                obtain ⟨u, hu, q1, q2⟩ := (hR i h1).2.2 j d hj
                rw [hadd] at hu
                rw [hu]; exact q2)
            rw [← ha] at this
            simpa using this
    · rename_i fs hu
      rw [Bool.and_eq_true] at hr
      obtain ⟨xs, n, _, _, hcl, hxl, hf⟩ := DataW.trod_struct hu h
      obtain ⟨ds, l1, o1, r1⟩ := struct_rep (tot := P.cellsOf t) hcl (fun t cs x h1 h2 => trod_rep k n t cs x h1 h2) fs.toList 0 hr.1 hr.2 (fun f hff => by
        obtain ⟨i, hi, rfl⟩ := List.getElem_of_mem hff
        rw [hf i _ (by simp at hi ⊢)]
        simp at hi
        exact ⟨xs[i]'(by omega), by simp [hxl, hi]⟩)
      exact ⟨ds, by omega, o1, r1⟩
    · cases hr
theorem okD_int {k : Nat} {t : TypeId} {ds : List D} {i : IntKind} (hu : P.underlying t = some (.int i)) (h : okD P (k + 1) t ds) : ∃ n, ds = [.v (.int i n)] ∧ (Lit.int i n).wf = true := by unfold okD at h; rw [hu] at h; exact h
theorem okD_bool {k : Nat} {t : TypeId} {ds : List D} (hu : P.underlying t = some .bool) (h : okD P (k + 1) t ds) : ∃ b, ds = [.v (.bool b)] := by unfold okD at h; rw [hu] at h; exact h
theorem okD_string {k : Nat} {t : TypeId} {ds : List D} (hu : P.underlying t = some .string) (h : okD P (k + 1) t ds) : ∃ s, ds = [.v (.string s)] ∧ s.size ≤ maxLen := by unfold okD at h; rw [hu] at h; exact h
theorem okD_slice {k : Nat} {t e : TypeId} {ds : List D} (hu : P.underlying t = some (.slice e)) (h : okD P (k + 1) t ds) : ∃ rows, ds = [.sl rows] ∧ rows.length ≤ maxLen ∧ ∀ r ∈ rows, okD P k e r := by unfold okD at h; rw [hu] at h; exact h
theorem okD_struct {k : Nat} {t : TypeId} {ds : List D} {fs : Array Field} (hu : P.underlying t = some (.struct fs)) (h : okD P (k + 1) t ds) : okF (okD P k) fs.toList ds := by unfold okD at h; rw [hu] at h; exact h
/-- the fields that are integers, one after the other -/
theorem okF_one {ok : TypeId → List D → Prop} {f : Field} {fs : List Field} {ds : List D} (h : okF ok (f :: fs) ds) : ∃ d1 d2, ds = d1 ++ d2 ∧ ok f.type d1 ∧ okF ok fs d2 := h
theorem wf64 {n : Int} (h : (Lit.int .i64 n).wf = true) : -9223372036854775808 ≤ n ∧ n ≤ 9223372036854775807 := by
  simp only [Lit.wf, Bool.and_eq_true, decide_eq_true_eq] at h
  have e1 : IntKind.i64.min = -9223372036854775808 := by decide +kernel
  have e2 : IntKind.i64.max = 9223372036854775807 := by decide +kernel
  rw [e1, e2] at h
  exact h
/-- rows of a kind -/
theorem rows_of {α : Type} {f : α → List D} {Q : α → Prop} : ∀ {rows : List (List D)}, (∀ r ∈ rows, ∃ d, r = f d ∧ Q d) → ∃ l : List α, rows = l.map f ∧ ∀ d ∈ l, Q d
  | [], _ => ⟨[], rfl, fun d hd => by cases hd⟩
  | r :: rows, h => by
    obtain ⟨d, rfl, hd⟩ := h r (List.mem_cons_self ..)
    obtain ⟨l, rfl, hl⟩ := rows_of fun r hr => h r (List.mem_cons_of_mem _ hr)
    exact ⟨d :: l, rfl, fun x hx => by
      rcases List.mem_cons.1 hx with rfl | hx
      · exact hd
      · exact hl x hx⟩
/-- a slice that came in, of elements of a kind -/
theorem slice_in {α : Type} {f : α → List D} {Q : α → Prop} {t e : TypeId} {k fuel len cap : Nat} {a : Option Addr} {x : DataW H × List MemPlace} (hu : P.underlying t = some (.slice e)) (hr : rdT P (k + 1) t = true)
    (hf : ∀ r, okD P k e r → ∃ d, r = f d ∧ Q d) (h : DataW.trod enc P w base spare held fuel t [.slice a len cap] = some x) :
    ∃ l : List α, len = l.length ∧ (∀ d ∈ l, Q d) ∧ RepD w (fun b => b < w.heap.size) (.slice a l.length cap) (.sl (l.map f)) := by
  obtain ⟨ds, _, ho, hR⟩ := trod_rep (k + 1) fuel t _ x hr h
  obtain ⟨rows, rfl, _, hrows⟩ := okD_slice hu ho
  obtain ⟨l, rfl, hl⟩ := rows_of fun r hr => hf r (hrows r hr)
  obtain ⟨u, hu, _, hrep⟩ := hR 0 _ rfl
  simp at hu
  subst hu
  have e : len = l.length := by
    rw [← List.length_map (f := f)]
    generalize l.map f = rows at hrep
    cases hrep with
    | e a c hc => rfl
    | sl => rfl
  subst e
  exact ⟨l, rfl, hl, hrep⟩
/-- a world that has what came in -/
theorem st_in {ps : List Per} (h : ∀ p ∈ ps, p.holds w fun b => b < w.heap.size) : St w (fun b => b < w.heap.size) (fun _ _ => False) ps [] :=
  ⟨h, fun i R hR => by simp at hR, fun i hi => by simp at hi, fun i j hi => by simp at hi, fun _ h => h⟩
end
end Go.Sy
namespace Go.Sy
open Go.RowKit Go.Lp
/-- values that stand for data -/
def RdsU (w : World) (S : Blks) (us : List Value) (ds : List D) : Prop := us.length = ds.length ∧ ∀ (j : Nat) (d : D), ds[j]? = some d → ∃ u, us[j]? = some u ∧ RepD w S u d
theorem RdsU.nil {w : World} {S : Blks} {us : List Value} (h : RdsU w S us []) : us = [] := List.eq_nil_of_length_eq_zero h.1
theorem RdsU.cons {w : World} {S : Blks} {us : List Value} {d : D} {ds : List D} (h : RdsU w S us (d :: ds)) : ∃ u us', us = u :: us' ∧ RepD w S u d ∧ RdsU w S us' ds := by
  cases us with
  | nil => have := h.1; simp at this
  | cons u us =>
    obtain ⟨u', h1, h2⟩ := h.2 0 d rfl
    simp only [List.getElem?_cons_zero, Option.some.injEq] at h1
    subst h1
    exact ⟨u, us, rfl, h2, by simpa using h.1, fun j e hj => by have := h.2 (j + 1) e (by simpa using hj); simpa using this⟩
theorem rds_of {w : World} {cs : List Value} {ds : List D} (hl : ds.length = cs.length) (h : Rds w cs 0 ds) : RdsU w (fun b => b < w.heap.size) cs ds := ⟨hl.symm, fun j d hj => by
  obtain ⟨u, h1, _, h2⟩ := h j d hj
  rw [Nat.zero_add] at h1
  exact ⟨u, h1, h2⟩⟩
theorem flat_sl {α : Type} [Inhabited α] {row : α → List D} {ok : α → Per} {w : World} {S : Blks} {v : Value} {rows : List (List D)} (h : RepD w S v (.sl rows))
    (hf : ∀ r ∈ rows, ∀ us : List Value, RdsU w S us r → ∃ y : α, row y = us.map D.v ∧ (ok y).holds w S) : ∃ s : Sl α, v = s.val ∧ (ShF row s).holds w S ∧ (AllF ok s.l).holds w S := by
  cases h with
  | e a c hc => exact ⟨⟨a, c, []⟩, rfl, .e a c hc, fun y hy => by cases hy⟩
  | sl b o c sz _ us hb hn hc hrl hcell hd =>
    have each : ∀ i : Nat, ∃ y : α, i < rows.length → row y = ((List.range sz).map fun j => us i j).map D.v ∧ (ok y).holds w S := fun i => by
      by_cases hi : i < rows.length
      · obtain ⟨r, hr⟩ : ∃ r, rows[i]? = some r := ⟨_, List.getElem?_eq_getElem hi⟩
        obtain ⟨y, h1, h2⟩ := hf r (List.mem_of_getElem? hr) ((List.range sz).map fun j => us i j) ⟨by simp [hrl i r hr], fun j d hj => by
          have hjl := (List.getElem?_eq_some_iff.1 hj).1
          rw [hrl i r hr] at hjl
          exact ⟨us i j, by rw [List.getElem?_map, List.getElem?_range hjl]; rfl, hd i j r d hr hj⟩⟩
        exact ⟨y, fun _ => ⟨h1, h2⟩⟩
      · exact ⟨default, fun h => absurd h hi⟩
    obtain ⟨Y, hY⟩ := Classical.skolem.1 each
    have hget : ∀ (i : Nat) (r : List D), (((List.range rows.length).map Y).map row)[i]? = some r → i < rows.length ∧ r = ((List.range sz).map fun j => us i j).map D.v := fun i r hi => by
      rw [List.getElem?_map, List.getElem?_map] at hi
      by_cases hil : i < rows.length
      · rw [List.getElem?_range hil] at hi
        simp only [Option.map_some, Option.some.injEq] at hi
        exact ⟨hil, by rw [← hi]; exact (hY i hil).1⟩
      · rw [List.getElem?_eq_none (by simpa using hil)] at hi; cases hi
    have hcl : ∀ (i j : Nat) (r : List D) (d : D), (((List.range rows.length).map Y).map row)[i]? = some r → r[j]? = some d → ∃ r0 d0, rows[i]? = some r0 ∧ r0[j]? = some d0 ∧ d = .v (us i j) := fun i j r d hi hj => by
      obtain ⟨hil, rfl⟩ := hget i r hi
      obtain ⟨r0, hr0⟩ : ∃ r, rows[i]? = some r := ⟨_, List.getElem?_eq_getElem hil⟩
      have hjl := (List.getElem?_eq_some_iff.1 hj).1
      rw [List.length_map, List.length_map, List.length_range] at hjl
      rw [List.getElem?_map, List.getElem?_map, List.getElem?_range hjl] at hj
      simp only [Option.map_some, Option.some.injEq] at hj
      exact ⟨r0, _, hr0, List.getElem?_eq_getElem (by rw [hrl i r0 hr0]; exact hjl), hj.symm⟩
    refine ⟨⟨some ⟨b, o, none⟩, c, (List.range rows.length).map Y⟩, by simp [Sl.val], ?_, fun y hy => ?_⟩
    · have h := RepD.sl (w := w) (S := S) b o c sz (((List.range rows.length).map Y).map row) us hb (by simpa using hn) hc (fun i r hi => by obtain ⟨_, rfl⟩ := hget i r hi; simp)
        (fun i j r d hi hj => by obtain ⟨r0, d0, h1, h2, _⟩ := hcl i j r d hi hj; exact hcell i j r0 d0 h1 h2) (fun i j r d hi hj => by obtain ⟨_, _, _, _, rfl⟩ := hcl i j r d hi hj; exact .v _)
      rw [List.length_map, List.length_map, List.length_range] at h
      show RepD w S (.slice (some ⟨b, o, none⟩) ((List.range rows.length).map Y).length c) (.sl (((List.range rows.length).map Y).map row))
      rw [List.length_map, List.length_range]; exact h
    · obtain ⟨i, hi, rfl⟩ := List.mem_map.1 hy
      exact (hY i (List.mem_range.1 hi)).2
section
variable {P : Program} {k : Nat} {t e : TypeId} {w : World} {S : Blks} {us : List Value} {ds : List D}
theorem rd_int (hu : P.underlying t = some (.int .i64)) (h : okD P (k + 1) t ds) (hr : RdsU w S us ds) : ∃ z : Int, [D.v (.int .i64 z)] = us.map D.v ∧ (Fa True).holds w S := by
  obtain ⟨n, rfl, _⟩ := okD_int hu h
  obtain ⟨u, _, rfl, r, hr⟩ := hr.cons
  obtain rfl := hr.nil; obtain rfl := repD_v r
  exact ⟨n, rfl, trivial⟩
theorem rd_bool (hu : P.underlying t = some .bool) (h : okD P (k + 1) t ds) (hr : RdsU w S us ds) : ∃ b : Bool, [D.v (.bool b)] = us.map D.v ∧ (Fa True).holds w S := by
  obtain ⟨n, rfl⟩ := okD_bool hu h
  obtain ⟨u, _, rfl, r, hr⟩ := hr.cons
  obtain rfl := hr.nil; obtain rfl := repD_v r
  exact ⟨n, rfl, trivial⟩
theorem rd_str (hu : P.underlying t = some .string) (h : okD P (k + 1) t ds) (hr : RdsU w S us ds) : ∃ s : ByteArray, [D.v (.string s)] = us.map D.v ∧ (Fa True).holds w S := by
  obtain ⟨n, rfl, _⟩ := okD_string hu h
  obtain ⟨u, _, rfl, r, hr⟩ := hr.cons
  obtain rfl := hr.nil; obtain rfl := repD_v r
  exact ⟨n, rfl, trivial⟩
/-- a slice, of elements that are read -/
theorem rd_sl {α : Type} [Inhabited α] {row : α → List D} {ok : α → Per} (hu : P.underlying t = some (.slice e)) (h : okD P (k + 1) t ds) (hr : RdsU w S us ds) (hf : ∀ r, okD P k e r → ∀ us, RdsU w S us r → ∃ y : α, row y = us.map D.v ∧ (ok y).holds w S) :
    ∃ s : Sl α, [D.v s.val] = us.map D.v ∧ (AndP (ShF row s) (AllF ok s.l)).holds w S := by
  obtain ⟨rows, rfl, _, hrows⟩ := okD_slice hu h
  obtain ⟨u, _, rfl, r, hr⟩ := hr.cons
  obtain rfl := hr.nil
  obtain ⟨s, rfl, h1, h2⟩ := flat_sl (row := row) (ok := ok) r fun r hr us hu => hf r (hrows r hr) us hu
  exact ⟨s, rfl, h1, h2⟩
theorem vs_inj {a b : List Value} (h : a.map D.v = b.map D.v) : a = b := by
  induction a generalizing b with
  | nil => cases b with
    | nil => rfl
    | cons => simp at h
  | cons x a ih => cases b with
    | nil => simp at h
    | cons y b =>
      simp only [List.map_cons, List.cons.injEq, D.v.injEq] at h
      rw [h.1, ih h.2]
end
end Go.Sy
