/- Proved: for every recipe, objects, kept sections, choices and place the law LiveGrows of the given program answers true and leaves what it was handed as it was. Conditions: none but those in the given statement itself. -/
import Derived.Test.YtnbochlghdkfkaaBlK
import Derived.Test.YtnbochlghdkfkaaRows
import Derived.Test.YtnbochlghdkfkaaBlL
import Derived.WalkKit
import Derived.ProofKit
import Derived.OpenShut
import Derived.ShutString
import Derived.ChangeOld
import Derived.Below
set_option linter.unusedVariables false
set_option linter.unusedSimpArgs false
set_option maxRecDepth 20000
namespace Go.Proofs.Ytnbochlghdkfkaa
open Go.RowKit Go.Lp Go.Sy Go.Lv
open Go.Proofs.Try
attribute [local irreducible] aL aB awp aC fwp
structure Like (x y : GLink) : Prop where
  r : x.r = y.r
  keep : x.keep.l = y.keep.l
  choices : x.choices.l = y.choices.l
  len : x.objs.l.length = y.objs.l.length
  secs : ∀ i : Int, (elt x.objs.l i).secs.l.length = (elt y.objs.l i).secs.l.length
  syms : ∀ i : Int, (elt x.objs.l i).syms.l = (elt y.objs.l i).syms.l
  inits : ∀ i : Int, (elt x.objs.l i).inits.l = (elt y.objs.l i).inits.l
theorem list_elt {α : Type} [Inhabited α] {l m : List α} (h : l.length = m.length) (he : ∀ i : Nat, elt l (i : Int) = elt m (i : Int)) : l = m := by
  refine List.ext_getElem? fun i => ?_
  by_cases hi : i < l.length
  · rw [elt_nat hi, elt_nat (by omega), he]
  · rw [List.getElem?_eq_none (by omega), List.getElem?_eq_none (by omega)]
section
variable {x y : GLink} (h : Like x y)
include h
theorem Like.kept (a b : Int) : keptF x.objs.l x.keep.l a b = keptF y.objs.l y.keep.l a b := by unfold keptF; rw [h.len, h.secs, h.keep]
theorem Like.secOf (o k : Int) : secOf x o k = secOf y o k := by unfold Go.Proofs.Ytnbochlghdkfkaa.secOf; rw [h.choices, h.syms]
theorem Like.bad (o k : Int) : refBad x o k = refBad y o k := by unfold refBad; rw [h.choices, h.len, h.syms]
theorem Like.leads (o k a b : Int) : leadsF x o k a b = leadsF y o k a b := by
  rw [Bool.eq_iff_iff, leads_iff, leads_iff, h.bad, h.choices, h.secOf, h.kept, h.syms]
theorem Like.chosen (o k : Int) : chosenF x o k = chosenF y o k := by unfold chosenF; rw [h.choices]
theorem Like.hidden (nm : ByteArray) : hiddenF x.objs.l nm = hiddenF y.objs.l nm := by
  have e : ∀ os : List GObject, hiddenF os nm = (os.map fun o => o.syms.l).any fun l => l.any (hiddenSym nm) := fun os => by unfold hiddenF; rw [List.any_map]; rfl
  rw [e, e]
  have : (x.objs.l.map fun o => o.syms.l) = y.objs.l.map fun o => o.syms.l := by
    refine List.ext_getElem? fun i => ?_
    by_cases hi : i < x.objs.l.length
    · have hi' : i < y.objs.l.length := by rw [← h.len]; exact hi
      rw [List.getElem?_map, List.getElem?_map, elt_nat hi, elt_nat hi', Option.map_some, Option.map_some, h.syms]
    · rw [List.getElem?_eq_none (by simpa using hi), List.getElem?_eq_none (by rw [List.length_map, ← h.len]; omega)]
  rw [this]
theorem Like.rootSym (a b : Int) (i k : Nat) (s : GSymbol) : rootSymF x a b i k s = rootSymF y a b i k s := by unfold rootSymF entryF; rw [h.chosen, h.leads, h.hidden, h.r]
theorem Like.rootObs (a b : Int) (n : Nat) : rootObs x a b n = rootObs y a b n := by
  have e1 : ∀ (i : Nat) (l : List GSymbol) (n : Nat), rootSyms x a b i l n = rootSyms y a b i l n := fun i l n => by
    unfold rootSyms; congr 1; funext k; exact h.rootSym a b i k _
  have e2 : ∀ (i : Nat) (l : List GInit), rootInits x a b i l = rootInits y a b i l := fun i l => by
    unfold rootInits; congr 1; funext z; exact h.leads _ _ _ _
  unfold Go.Proofs.Ytnbochlghdkfkaa.rootObs
  congr 1; funext i
  rw [e1, e2, h.syms, h.inits]
end
/-- one more section is to be kept -/
def moreX (x : GLink) (am as_ : Option Addr) (cm cs : Nat) (j s : Nat) : GLink :=
  ⟨x.r, ⟨am, cm, x.objs.l.set j { elt x.objs.l (j : Int) with secs := ⟨as_, cs, (elt x.objs.l (j : Int)).secs.l.set s { elt (elt x.objs.l (j : Int)).secs.l (s : Int) with keep := true }⟩ }⟩, x.keep, x.choices, x.first, x.count⟩
theorem elt_set' {α : Type} [Inhabited α] {l : List α} {j : Nat} {v : α} (hj : j < l.length) (i : Int) : elt (l.set j v) i = if i.toNat = j then v else elt l i := by
  unfold elt
  rw [List.getD_eq_getElem?_getD, List.getD_eq_getElem?_getD, List.getElem?_set]
  by_cases hi : i.toNat = j
  · rw [if_pos hi.symm, if_pos hj, if_pos hi]; rfl
  · rw [if_neg (fun h => hi h.symm), if_neg hi]
section
variable {x : GLink} {am as_ : Option Addr} {cm cs j s : Nat}
theorem elt_toNat {α : Type} [Inhabited α] {l : List α} {i : Int} {j : Nat} (h : i.toNat = j) : elt l i = elt l (j : Int) := by unfold elt; rw [h, Int.toNat_natCast]
theorem more_like (hj : j < x.objs.l.length) : Like x (moreX x am as_ cm cs j s) where
  r := rfl
  keep := rfl
  choices := rfl
  len := by simp [moreX]
  secs i := by
    show _ = (elt (x.objs.l.set j _) i).secs.l.length
    rw [elt_set' hj]; split
    · rename_i h; rw [elt_toNat h]; simp
    · rfl
  syms i := by
    show _ = (elt (x.objs.l.set j _) i).syms.l
    rw [elt_set' hj]; split
    · rename_i h; rw [elt_toNat h]
    · rfl
  inits i := by
    show _ = (elt (x.objs.l.set j _) i).inits.l
    rw [elt_set' hj]; split
    · rename_i h; rw [elt_toNat h]
    · rfl
theorem more_needs (hj : j < x.objs.l.length) (a b o t : Int) : needsF x a b o t = needsF (moreX x am as_ cm cs j s) a b o t := by
  have hl := more_like (x := x) (am := am) (as_ := as_) (cm := cm) (cs := cs) (s := s) hj
  have e1 : ∀ i : Int, (elt x.objs.l i).rels.l = (elt (moreX x am as_ cm cs j s).objs.l i).rels.l := fun i => by
    show _ = (elt (x.objs.l.set j _) i).rels.l
    rw [elt_set' hj]; split
    · rename_i h; rw [elt_toNat h]
    · rfl
  have e2 : ∀ i : Int, (elt x.objs.l i).converts.l = (elt (moreX x am as_ cm cs j s).objs.l i).converts.l := fun i => by
    show _ = (elt (x.objs.l.set j _) i).converts.l
    rw [elt_set' hj]; split
    · rename_i h; rw [elt_toNat h]
    · rfl
  rw [Bool.eq_iff_iff, needs_iff, needs_iff, hl.kept, e1, e2]
  simp only [hl.leads]
theorem more_root (hj : j < x.objs.l.length) (hs : s < (elt x.objs.l (j : Int)).secs.l.length) {a b : Int} (h : rootF x a b = true) : rootF (moreX x am as_ cm cs j s) a b = true := by
  have hl := more_like (x := x) (am := am) (as_ := as_) (cm := cm) (cs := cs) (s := s) hj
  unfold rootF at h ⊢
  rw [← hl.kept, ← hl.rootObs, ← hl.len]
  rw [Bool.and_eq_true, Bool.or_eq_true] at h ⊢
  refine ⟨h.1, h.2.imp (fun hk => ?_) id⟩
  show (elt (elt (x.objs.l.set j _) a).secs.l b).keep = true
  rw [elt_set' hj]
  split
  · rename_i ha
    show (elt ((elt x.objs.l (j : Int)).secs.l.set s _) b).keep = true
    rw [elt_set' hs]
    split
    · rfl
    · rw [elt_toNat ha] at hk; exact hk
  · exact hk
theorem more_rch (hj : j < x.objs.l.length) (hs : s < (elt x.objs.l (j : Int)).secs.l.length) {a b : Int} (h : PRch x a b) : PRch (moreX x am as_ cm cs j s) a b := by
  induction h with
  | root h => exact .root (more_root hj hs h)
  | needs _ h ih => exact .needs ih (by rw [← more_needs hj]; exact h)
theorem more_this (hj : j < x.objs.l.length) (hs : s < (elt x.objs.l (j : Int)).secs.l.length) : PRch (moreX x am as_ cm cs j s) (j : Int) (s : Int) ↔ keptF x.objs.l x.keep.l (j : Int) (s : Int) = true := by
  have hl := more_like (x := x) (am := am) (as_ := as_) (cm := cm) (cs := cs) (s := s) hj
  constructor
  · intro h; rw [hl.kept]; exact h.kept
  · intro h
    refine .root ?_
    unfold rootF
    rw [← hl.kept, h, Bool.true_and, Bool.or_eq_true]
    refine .inl ?_
    show (elt (elt (x.objs.l.set j _) (j : Int)).secs.l (s : Int)).keep = true
    rw [elt_set' hj, if_pos (Int.toNat_natCast j)]
    show (elt ((elt x.objs.l (j : Int)).secs.l.set s _) (s : Int)).keep = true
    rw [elt_set' hs, if_pos (Int.toNat_natCast s)]
theorem more_few (hj : j < x.objs.l.length) (hf : FewL x.objs.l) : FewL (moreX x am as_ cm cs j s).objs.l := by
  refine ⟨by show (x.objs.l.set j _).length ≤ 4; rw [List.length_set]; exact hf.n, fun o ho => ?_⟩
  rcases List.mem_or_eq_of_mem_set ho with h | rfl
  · exact hf.of o h
  · have := hf.of _ (List.mem_of_getElem? (elt_nat hj))
    simpa using this
end
end Go.Proofs.Ytnbochlghdkfkaa
namespace Go.Proofs.Ytnbochlghdkfkaa
open Go.RowKit Go.Lp Go.Sy Go.Lv
open Go.Proofs.Try
attribute [local irreducible] aL aB awp aC fwp
theorem more_ok {x : GLink} {am as_ : Option Addr} {cm cs j s : Nat} {w : World} {S : Blks} (h : x.ok.holds w S) (hj : j < x.objs.l.length) (h1 : (ShF GObject.row (moreX x am as_ cm cs j s).objs).holds w S)
    (h2 : (ShF GSection.row ⟨as_, cs, (elt x.objs.l (j : Int)).secs.l.set s { elt (elt x.objs.l (j : Int)).secs.l (s : Int) with keep := true }⟩).holds w S) : (moreX x am as_ cm cs j s).ok.holds w S := by
  refine ⟨h.1, h1, fun o ho => ?_, h.2.2.2⟩
  rcases List.mem_or_eq_of_mem_set ho with ho | rfl
  · exact h.2.2.1 o ho
  · have := h.2.2.1 _ (List.mem_of_getElem? (elt_nat hj))
    exact ⟨h2, this.2⟩
theorem bad2 {v c : Bool} (h1 : v = true → c = true) (h : (v && !c) = true) : False := by cases v <;> cases c <;> simp_all
theorem con_live_more (x : GLink) (am as_ : Option Addr) (cm cs j s : Nat) (hj : j < x.objs.l.length) (hf : FewL x.objs.l) : Con Try.prog 12 [x.r.val, .slice am x.objs.l.length cm, x.keep.val, x.choices.val] [(moreX x am as_ cm cs j s).ok] []
    fun r ps hp => ps = [] ∧ ∃ (t : Sl (Sl Bool)) (ad : Option Addr) (cap : Nat), r = t.val ∧ tabL t = liveF (lkF (moreX x am as_ cm cs j s) ad cap (moreX x am as_ cm cs j s).objs.l.length) ∧ hp = [PrivR (TabF t)] := by
  have h := con_live (moreX x am as_ cm cs j s) (more_few hj hf)
  rwa [show (moreX x am as_ cm cs j s).objs.val = .slice am x.objs.l.length cm by simp [moreX, Sl.val]] at h
theorem rows_set {α : Type} (row : α → List D) (l : List α) (i : Nat) (v : α) : (l.set i v).map row = (l.map row).set i (row v) := by rw [List.map_set]
theorem fits_more {x : GLink} {am as_ : Option Addr} {cm cs j s : Nat} {t : Sl (Sl Bool)} (hj : j < x.objs.l.length) : fitsF t (moreX x am as_ cm cs j s).objs.l = fitsF t x.objs.l := by
  have hl := more_like (x := x) (am := am) (as_ := as_) (cm := cm) (cs := cs) (s := s) hj
  rw [Bool.eq_iff_iff, fits_iff, fits_iff, hl.len]
  simp only [hl.secs]
set_option maxHeartbeats 1000000 in
theorem con_grows (x : GLink) (a b : Int) : Con Try.prog 5 [x.r.val, x.objs.val, x.keep.val, x.choices.val, .int .i64 a, .int .i64 b] [x.ok] [] fun r _ _ => r = .bool true := by
  refine Con.enter Try.func5 rfl (by simp [Try.ntmps5]) ?_
  show awp _ _ _ _ ⟨[(0, true, _), (1, true, _), (2, true, _), (3, true, _), (4, true, _), (5, true, _)], _, _⟩
  refine awp_lenE (GLink.f_objs (.of (psAt 0 rfl))) (fun hlen => ?_)
  refine awp_seq (awp_region ?_)
  refine aL_eff (q := true) rfl (x_box rfl rfl rfl (fun b0_0 => ?_))
  refine aL_hp (by (try simp only [nM, nN]); rfl) ?_
  refine aL_s true rfl rfl (fun _ => q_assign rfl) (aL_nil (thn_n (awp_seq (awp_region ?_))))
  refine aL_eff (q := true) rfl (e_call [] [] (by kernel_rfl) rfl rfl rfl rfl (con_small) ?_)
  rintro _ _ _ ⟨rfl, rfl, rfl⟩
  refine aL_st (by (try simp only [nM, nN]); rfl) (by (try simp only [putB, place, Nat.reduceBEq, nA, if_true, if_false, reduceIte, nB, nC, nD, nE, nF, nG, nH, nI, Nat.reduceAdd, nJ, beq_self_eq_true, nK, nL, nM, nN]); rfl) ?_
  refine aL_s true rfl rfl (fun _ => q_assign rfl) (aL_nil (thn_n (awp_seq (awp_seq (awp_region (aL_s true rfl rfl (fun _ => q_move rfl) (aL_s true rfl rfl (fun _ => q_move rfl) ?_)))))))
  refine aL_s true rfl rfl (fun _ => q_move rfl) ?_
  refine aL_s true rfl rfl (fun _ => q_call (by kernel_rfl) rfl (fun w S fp hst => (con_few x).quiet1 (psAt 0 rfl) hst)) ?_
  refine aL_s true rfl rfl (fun _ => q_not rfl) (aL_s true rfl rfl (fun _ => q_move rfl) (aL_s _ rfl rfl (fun hc => q_move rfl) (aL_s _ rfl rfl (fun hc => q_lss (ev_yes rfl hc) rfl) (aL_s true rfl rfl (fun _ => q_or rfl rfl (fun h => gf rfl h)) (aL_s true rfl rfl (fun _ => q_move rfl) (aL_s _ rfl rfl (fun hc => q_move rfl) (aL_s _ rfl rfl (fun hc => q_move rfl) ?_)))))))
  refine aL_s _ rfl rfl (fun hc => q_lenS Try.underlying26 (ev_yes rfl hc)) (aL_s _ rfl rfl (fun hc => q_geq (ev_yes rfl hc) (ev_yes rfl hc)) (aL_s true rfl rfl (fun _ => q_or rfl rfl (fun h => gf rfl h)) (aL_s true rfl rfl (fun _ => q_move rfl) (aL_s _ rfl rfl (fun hc => q_move rfl) (aL_s _ rfl rfl (fun hc => q_lss (ev_yes rfl hc) rfl) (aL_s true rfl rfl (fun _ => q_or rfl rfl (fun h => gf rfl h)) (aL_s true rfl rfl (fun _ => q_move rfl) ?_)))))))
  refine aL_s _ rfl rfl (fun hc => q_move rfl) (aL_s _ rfl rfl (fun hc => q_move rfl) (aL_s _ rfl rfl (fun hc => q_move rfl) ?_))
  refine aL_E _ rfl rfl (fun hc => q_indexAddrG Try.underlying26 tk53 (ev_yes rfl hc) ((GLink.f_objs (.of (psAt 0 rfl)))) (ev_yes rfl hc) (rows_elt (i := a) (by simp at hc; omega) (by simp at hc; omega)) (by simp at hc; omega) rfl) (fun _ => ⟨(0, 0)⟩) (fun ⟨b2_23, o2_23⟩ => ?_)
  refine aL_s _ rfl rfl (fun hc => q_fieldAddr (off := 1) (by kernel_rfl) (ev_yes rfl hc)) ?_
  refine aL_s _ rfl rfl (fun hc => q_loadD (o := 1) tk42 (ev_yes rfl hc) (psAt 0 rfl) hc rfl) (aL_s _ rfl rfl (fun hc => q_lenS Try.underlying42 (ev_yes rfl hc)) (aL_s _ rfl rfl (fun hc => q_geq (ev_yes rfl hc) (ev_yes rfl hc)) (aL_s true rfl rfl (fun _ => q_or rfl rfl (fun h => gf rfl h)) (aL_nil (thn_n ?_)))))
  refine awp_cond _ rfl (fun h1 => ?_) (fun h1 => ?_)
  ·skip
   refine awp_seq (awp_region (aL_s true rfl rfl (fun _ => q_move rfl) (aL_s true rfl rfl (fun _ => q_assign rfl) (aL_nil (thn_n (awp_ret (thn_r ?_)))))))
   refine fin1 [] [] rfl Try.results5 rfl ?_ (.inr rfl)
   rfl
  ·skip
   have hF : FewL x.objs.l := few_of (x := x) (by simp at h1; exact h1.1.1.1.1)
   have hab : (0 ≤ a ∧ a < x.objs.l.length) ∧ 0 ≤ b ∧ b < (elt x.objs.l a).secs.l.length := by simp at h1; omega
   obtain ⟨j, hj⟩ : ∃ j : Nat, a = j := ⟨a.toNat, by omega⟩
   obtain ⟨s, hs⟩ : ∃ s : Nat, b = s := ⟨b.toNat, by omega⟩
   subst hj; subst hs
   have hjn : j < x.objs.l.length := by omega
   have hsn : s < (elt x.objs.l (j : Int)).secs.l.length := by omega
   have ho := elt_nat hjn
   have hos := elt_nat hsn
   have hn4 := hF.n
   have hsec := (hF.of _ (List.mem_of_getElem? ho)).1
   refine awp_skip (thn_n (awp_seq (awp_region (aL_s true rfl rfl (fun _ => q_load 0 tk25 rfl rfl rfl) (aL_s true rfl rfl (fun _ => q_move rfl) (aL_s true rfl rfl (fun _ => q_move rfl) (aL_s true rfl rfl (fun _ => q_move rfl) ?_)))))))
   refine aL_eff (q := true) rfl (e_call [0] [] (by kernel_rfl) rfl rfl rfl rfl (con_live x hF) ?_)
   rintro _ _ _ ⟨rfl, t, ad, cap, rfl, ht, rfl⟩
   refine aL_st (by (try simp only [nM, nN]); rfl) (by (try simp only [putB, place, Nat.reduceBEq, nA, if_true, if_false, reduceIte, nB, nC, nD, nE, nF, nG, nH, nI, Nat.reduceAdd, nJ, beq_self_eq_true, nK, nL, nM, nN]); rfl) ?_
   refine aL_s true rfl rfl (fun _ => q_assign rfl) (aL_nil (thn_n (awp_seq (awp_shareR 1 (TabF t) rfl (fun w S F h => (TabF t).mono h (fun _ _ => rfl) (fun b hb => .inr hb)) ?_))))
   have hfit := tab_fits ht
   have hft := fits_iff.1 hfit
   refine awp_fact (ShF GObject.row x.objs) (fun w S hps => (hps x.ok (by simp)).2.1) ?_
   refine awp_fact (ShF GSection.row (elt x.objs.l (j : Int)).secs) (fun w S hps => ((hps x.ok (by simp)).2.2.1 _ (List.mem_of_getElem? ho)).1) ?_
   refine awp_region ?_
   refine aL_eff (q := true) rfl (w_lit0 el26 rfl (fun v5_0 => ?_))
   refine aL_hp (by (try simp only [nM, nN]); rfl) ?_
   refine aL_s true rfl rfl (fun _ => q_move rfl) ?_
   refine aL_eff (q := true) rfl (w_appendQ 2 el26 el26 rfl rfl rfl rfl (psAt 1 rfl) ((fun r hr => by obtain ⟨o, _, rfl⟩ := List.mem_map.1 hr; rfl)) (by simp; omega) (x.objs.l.length) (by simp; try omega) (fun v5_2 c5_2 => ?_))
   refine aL_hp (by simp only [nK, nL]; rfl) ?_
   refine aL_s true rfl rfl (fun _ => q_assign rfl) (aL_nil (thn_n (awp_seq ?_)))
   refine awp_formO 2 rfl (fun h0 => by have := congrArg List.length h0; simp at this; rw [this] at hjn; simp at hjn) (fun B cpb hvb => ?_)
   obtain ⟨rfl, rfl⟩ : v5_2 = some ⟨B, 0, none⟩ ∧ c5_2 = cpb := by simp at hvb; exact ⟨hvb.1, hvb.2⟩
   refine awp_region (aL_s true rfl rfl (fun _ => q_move rfl) (aL_s true rfl rfl (fun _ => q_move rfl) ?_))
   refine aL_eff (q := true) rfl (w_lit0 el42 rfl (fun v6_2 => ?_))
   refine aL_hp (by (try simp only [nM, nN]); rfl) ?_
   refine aL_s true rfl rfl (fun _ => q_move rfl) (aL_s true rfl rfl (fun _ => q_move rfl) ?_)
   refine aL_E true rfl rfl (fun _ => q_indexAddrG Try.underlying26 tk53 rfl ((GLink.f_objs (.of (psAt 4 rfl)))) rfl (rows_get ho) rfl rfl) (fun h => absurd h (by decide)) (fun ⟨b6_5, o6_5⟩ => ?_)
   refine aL_s true rfl rfl (fun _ => q_fieldAddr (off := 1) (by kernel_rfl) rfl) ?_
   refine aL_s true rfl rfl (fun _ => q_loadD (o := 1) tk42 rfl (psAt 0 rfl) rfl rfl) ?_
   refine aL_eff (q := true) rfl (w_appendQ 3 el42 el42 rfl rfl rfl rfl (psAt 1 rfl) ((fun r hr => by obtain ⟨o, _, rfl⟩ := List.mem_map.1 hr; rfl)) (by simp; omega) ((elt x.objs.l (j : Int)).secs.l.length) (by simp; try omega) (fun v6_8 c6_8 => ?_))
   refine aL_hp (by simp only [nK, nL]; rfl) ?_
   refine aL_s true rfl rfl (fun _ => q_idxV j el26 rfl rfl rfl hjn) ?_
   refine aL_s true rfl rfl (fun _ => q_fieldAddr (off := 1) (by kernel_rfl) rfl) ?_
   refine aL_eff (q := false) rfl (e_storeO 2 j 1 tk42 rfl rfl rfl (rows_get ho) rfl (.v rfl .nil) rfl (by decide) ?_)
   refine aL_nil (thn_n (awp_seq ?_))
   refine awp_formO 3 rfl (fun h0 => by have := congrArg List.length h0; simp at this; rw [this] at hsn; simp at hsn) (fun B2 cpb2 hvb2 => ?_)
   obtain ⟨rfl, rfl⟩ : v6_8 = some ⟨B2, 0, none⟩ ∧ c6_8 = cpb2 := by simp at hvb2; exact ⟨hvb2.1, hvb2.2⟩
   have hrow2 : ((x.objs.l.map GObject.row).set j (setD (GObject.row (elt x.objs.l (j : Int))) 1 [D.v (.slice (some ⟨B2, 0, none⟩) (elt x.objs.l (j : Int)).secs.l.length c6_8)]))[j]? = some (setD (GObject.row (elt x.objs.l (j : Int))) 1 [D.v (.slice (some ⟨B2, 0, none⟩) (elt x.objs.l (j : Int)).secs.l.length c6_8)]) := List.getElem?_set_self (by simpa using hjn)
   refine awp_region (aL_s true rfl rfl (fun _ => q_move rfl) (aL_s true rfl rfl (fun _ => q_move rfl) (aL_s true rfl rfl (fun _ => q_idxV j el26 rfl rfl rfl hjn) ?_)))
   refine aL_s true rfl rfl (fun _ => q_fieldAddr (off := 1) (by kernel_rfl) rfl) ?_
   refine aL_s true rfl rfl (fun _ => q_loadO (v := .slice (some ⟨B, 0, none⟩) x.objs.l.length c5_2) (u := .slice (some ⟨B2, 0, none⟩) (elt x.objs.l (j : Int)).secs.l.length c6_8) 2 j 1 tk42 rfl rfl hrow2 rfl rfl) (aL_s true rfl rfl (fun _ => q_move rfl) (aL_s true rfl rfl (fun _ => q_idxV s el42 rfl rfl rfl hsn) ?_))
   refine aL_s true rfl rfl (fun _ => q_fieldAddr (off := 5) (by kernel_rfl) rfl) ?_
   refine aL_eff (q := false) rfl (e_storeO 3 s 5 tk4 rfl rfl rfl (rows_get hos) rfl (.v rfl .nil) rfl (by decide) ?_)
   refine aL_nil (thn_n (awp_seq ?_))
   refine aw_hp (hp' := [_, _, OwnS (.slice (some ⟨B, 0, none⟩) x.objs.l.length c5_2) 53 11 ((moreX x (some ⟨B, 0, none⟩) (some ⟨B2, 0, none⟩) c5_2 c6_8 j s).objs.l.map GObject.row), OwnS (.slice (some ⟨B2, 0, none⟩) (elt x.objs.l (j : Int)).secs.l.length c6_8) 60 6 (((elt x.objs.l (j : Int)).secs.l.set s { elt (elt x.objs.l (j : Int)).secs.l (s : Int) with keep := true }).map GSection.row)]) (by
     show _ = [_, _, OwnS _ _ _ ((x.objs.l.set j _).map GObject.row), OwnS _ _ _ (((elt x.objs.l (j : Int)).secs.l.set s _).map GSection.row)]
     rw [rows_set, rows_set]
     show _ = [_, _, OwnS _ _ _ ((x.objs.l.map GObject.row).set j [_, D.v (.slice _ ((elt x.objs.l (j : Int)).secs.l.set s _).length _), _, _, _, _, _, _, _, _, _]), _]
     rw [List.length_set]; rfl) ?_
   refine awp_share 2 rfl (awp_share 3 rfl ?_)
   refine awp_fact (moreX x (some ⟨B, 0, none⟩) (some ⟨B2, 0, none⟩) c5_2 c6_8 j s).ok (fun w S hps => more_ok (hps x.ok (by simp)) hjn (by have h := hps (Sh (.slice (some ⟨B, 0, none⟩) x.objs.l.length c5_2) (.sl ((moreX x (some ⟨B, 0, none⟩) (some ⟨B2, 0, none⟩) c5_2 c6_8 j s).objs.l.map GObject.row))) (by simp); show RepD w S (.slice _ (x.objs.l.set j _).length _) _; rw [List.length_set]; exact h) (by have h := hps (Sh (.slice (some ⟨B2, 0, none⟩) (elt x.objs.l (j : Int)).secs.l.length c6_8) (.sl (((elt x.objs.l (j : Int)).secs.l.set s { elt (elt x.objs.l (j : Int)).secs.l (s : Int) with keep := true }).map GSection.row))) (by simp); show RepD w S (.slice _ ((elt x.objs.l (j : Int)).secs.l.set s _).length _) _; rw [List.length_set]; exact h)) ?_
   refine awp_region (aL_s true rfl rfl (fun _ => q_load 0 tk25 rfl rfl rfl) (aL_s true rfl rfl (fun _ => q_move rfl) (aL_s true rfl rfl (fun _ => q_move rfl) (aL_s true rfl rfl (fun _ => q_move rfl) ?_))))
   refine aL_eff (q := true) rfl (e_call [8] [] (by kernel_rfl) rfl rfl rfl rfl (con_live_more x (some ⟨B, 0, none⟩) (some ⟨B2, 0, none⟩) c5_2 c6_8 j s hjn hF) ?_)
   rintro _ _ _ ⟨rfl, u, ad2, cap2, rfl, hu, rfl⟩
   refine aL_st (by (try simp only [nM, nN]); rfl) (by (try simp only [putB, place, Nat.reduceBEq, nA, if_true, if_false, reduceIte, nB, nC, nD, nE, nF, nG, nH, nI, Nat.reduceAdd, nJ, beq_self_eq_true, nK, nL, nM, nN]); rfl) ?_
   refine aL_s true rfl rfl (fun _ => q_assign rfl) (aL_nil (thn_n (awp_seq (awp_seq (awp_shareR 4 (TabF u) rfl (fun w S F h => (TabF u).mono h (fun _ _ => rfl) (fun b hb => .inr hb)) ?_)))))
   have hl := more_like (x := x) (am := some ⟨B, 0, none⟩) (as_ := some ⟨B2, 0, none⟩) (cm := c5_2) (cs := c6_8) (s := s) hjn
   have hfu : fitsF u x.objs.l = true := by rw [← fits_more (am := some ⟨B, 0, none⟩) (as_ := some ⟨B2, 0, none⟩) (cm := c5_2) (cs := c6_8) (s := s) hjn]; exact tab_fits hu
   have hft2 := fits_iff.1 hfu
   have hlu : ∀ {i k : Nat}, i < x.objs.l.length → k < (elt x.objs.l (i : Int)).secs.l.length → (elt (elt u.l (i : Int)).l (k : Int) = true ↔ PRch (moreX x (some ⟨B, 0, none⟩) (some ⟨B2, 0, none⟩) c5_2 c6_8 j s) i k) := fun hi hk => tab_live hu (by rw [← hl.len]; exact hi) (by rw [← hl.secs]; exact hk)
   refine awp_region (aL_s true rfl rfl (fun _ => q_move rfl) (aL_s true rfl rfl (fun _ => q_move rfl) ?_))
   refine aL_s true rfl rfl (fun _ => q_call (by kernel_rfl) rfl (fun w S fp hst => (con_fits x t).quiet2 (psAt 7 rfl) (psAt 9 rfl) hst)) ?_
   refine aL_s true rfl rfl (fun _ => q_not rfl) (aL_s true rfl rfl (fun _ => q_move rfl) (aL_s _ rfl rfl (fun hc => q_move rfl) (aL_s _ rfl rfl (fun hc => q_move rfl) ?_)))
   refine aL_s _ rfl rfl (fun hc => q_call (by kernel_rfl) (evs_cons (ev_yes rfl hc) (evs_cons (ev_yes rfl hc) rfl)) (fun w S fp hst => (con_fits x u).quiet2 (psAt 0 rfl) (psAt 9 rfl) hst)) ?_
   refine aL_s _ rfl rfl (fun hc => q_not (ev_yes rfl hc)) (aL_s true rfl rfl (fun _ => q_or rfl rfl (fun h => gf rfl h)) (aL_nil (thn_n ?_)))
   refine awp_cond _ rfl (fun h2 => ?_) (fun h2 => ?_)
   ·skip
    exact absurd h2 (by rw [hfit, hfu]; decide)
   ·skip
    refine awp_skip (thn_n (awp_seq (awp_seq (awp_region (aL_s true rfl rfl (fun _ => q_assign rfl) (aL_nil (thn_n ?_)))))))
    refine awp_block (awp_loopK [1, 2, 4, 5, 12, 13, 14, 16, 17] [9, 2, 0] [] (fun (i : Nat) st => i ≤ x.objs.l.length ∧ st = ⟨[(1, true, x.objs.val), (2, true, x.keep.val), (4, true, .int .i64 j), (5, true, .int .i64 s), (12, true, .bool false), (13, true, .bool true), (14, true, t.val), (16, true, u.val), (17, true, .int .i64 i)], [TabF u, TabF t, x.ok], []⟩) (fun i => x.objs.l.length - i) rfl (⟨0, Nat.zero_le _, rfl⟩) ?_)
    rintro i st ⟨hi, rfl⟩
    refine awp_seq (awp_seq (awp_region (aL_s true rfl rfl (fun _ => q_move rfl) (aL_s true rfl rfl (fun _ => q_move rfl) (aL_s true rfl rfl (fun _ => q_lenS Try.underlying27 rfl) (aL_s true rfl rfl (fun _ => q_lss rfl rfl) (aL_nil ?_)))))))
    refine thn_n ?_
    refine awp_cond _ rfl (fun h3 => ?_) (fun h3 => ?_)
    ·skip
     have hi' : i < x.objs.l.length := by simp at h3; omega
     have hti := elt_nat (l := t.l) (i := i) (by omega)
     have hui := elt_nat (l := u.l) (i := i) (by omega)
     have hfti := hft.2 i hi'
     have hfui := hft2.2 i hi'
     refine awp_lenE (Ent.all (f := ShF fun b : Bool => [.v (.bool b)]) (Ent.right (.of (psAt 1 rfl))) hti) (fun hlen2 => ?_)
     refine awp_skip (thn_n (awp_seq (awp_block (awp_seq (awp_region (aL_s true rfl rfl (fun _ => q_assign rfl) (aL_nil ?_)))))))
     refine thn_n (awp_block (awp_loopK [1, 2, 4, 5, 12, 13, 14, 16, 17, 18] [2, 1, 0] [] (fun (k : Nat) st => k ≤ (elt x.objs.l (i : Int)).secs.l.length ∧ st = ⟨[(1, true, x.objs.val), (2, true, x.keep.val), (4, true, .int .i64 j), (5, true, .int .i64 s), (12, true, .bool false), (13, true, .bool true), (14, true, t.val), (16, true, u.val), (17, true, .int .i64 i), (18, true, .int .i64 k)], [TabF u, TabF t, x.ok], []⟩) (fun k => (elt x.objs.l (i : Int)).secs.l.length - k) rfl (⟨0, Nat.zero_le _, rfl⟩) ?_))
     rintro k st ⟨hk, rfl⟩
     refine awp_seq (awp_seq (awp_region (aL_s true rfl rfl (fun _ => q_move rfl) (aL_s true rfl rfl (fun _ => q_move rfl) (aL_s true rfl rfl (fun _ => q_move rfl) ?_)))))
     refine aL_E true rfl rfl (fun _ => q_indexAddrG Try.underlying27 tk54 rfl ((.left (.of (psAt 1 rfl)))) rfl (rows_get hti) rfl rfl) (fun h => absurd h (by decide)) (fun ⟨b15_3, o15_3⟩ => ?_)
     refine aL_s true rfl rfl (fun _ => q_loadD (o := 0) tk54 rfl (psAt 0 rfl) rfl rfl) (aL_s true rfl rfl (fun _ => q_lenS Try.underlying54 rfl) (aL_s true rfl rfl (fun _ => q_lss rfl rfl) (aL_nil (thn_n ?_))))
     refine awp_cond _ rfl (fun h4 => ?_) (fun h4 => ?_)
     ·skip
      have hk' : k < (elt x.objs.l (i : Int)).secs.l.length := by simp at h4; omega
      have htk := elt_nat (l := (elt t.l (i : Int)).l) (i := k) (by omega)
      have huk := elt_nat (l := (elt u.l (i : Int)).l) (i := k) (by omega)
      refine awp_skip (thn_n (awp_seq (awp_block (awp_seq (awp_region (aL_s true rfl rfl (fun _ => q_move rfl) (aL_s true rfl rfl (fun _ => q_move rfl) ?_)))))))
      refine aL_E true rfl rfl (fun _ => q_indexAddrG Try.underlying27 tk54 rfl ((.left (.of (psAt 2 rfl)))) rfl (rows_get hti) rfl rfl) (fun h => absurd h (by decide)) (fun ⟨b17_2, o17_2⟩ => ?_)
      refine aL_s true rfl rfl (fun _ => q_loadD (o := 0) tk54 rfl (psAt 0 rfl) rfl rfl) (aL_s true rfl rfl (fun _ => q_move rfl) ?_)
      refine aL_E true rfl rfl (fun _ => q_indexAddrG Try.underlying54 tk4 rfl ((Ent.all (f := ShF fun b : Bool => [.v (.bool b)]) (Ent.right (.of (psAt 3 rfl))) hti)) rfl (rows_get htk) rfl rfl) (fun h => absurd h (by decide)) (fun ⟨b17_5, o17_5⟩ => ?_)
      refine aL_s true rfl rfl (fun _ => q_loadD (o := 0) tk4 rfl (psAt 0 rfl) rfl rfl) (aL_s true rfl rfl (fun _ => q_move rfl) (aL_s _ rfl rfl (fun hc => q_move rfl) (aL_s _ rfl rfl (fun hc => q_move rfl) ?_)))
      refine aL_E _ rfl rfl (fun hc => q_indexAddrG Try.underlying27 tk54 (ev_yes rfl hc) ((.left (.of (psAt 3 rfl)))) (ev_yes rfl hc) (rows_get hui) rfl rfl) (fun _ => ⟨(0, 0)⟩) (fun ⟨b17_10, o17_10⟩ => ?_)
      refine aL_s _ rfl rfl (fun hc => q_loadD (o := 0) tk54 (ev_yes rfl hc) (psAt 0 rfl) hc rfl) (aL_s _ rfl rfl (fun hc => q_move rfl) ?_)
      refine aL_E _ rfl rfl (fun hc => q_indexAddrG Try.underlying54 tk4 (ev_yes rfl hc) ((Ent.all (f := ShF fun b : Bool => [.v (.bool b)]) (Ent.right (.of (psAt 4 rfl))) hui)) (ev_yes rfl hc) (rows_get huk) rfl rfl) (fun _ => ⟨(0, 0)⟩) (fun ⟨b17_13, o17_13⟩ => ?_)
      refine aL_s _ rfl rfl (fun hc => q_loadD (o := 0) tk4 (ev_yes rfl hc) (psAt 0 rfl) hc rfl) (aL_s _ rfl rfl (fun hc => q_not (ev_yes rfl hc)) (aL_s true rfl rfl (fun _ => q_and rfl rfl (fun h => gt rfl h)) (aL_nil (thn_n ?_))))
      refine awp_cond _ rfl (fun h5 => ?_) (fun h5 => ?_)
      ·skip
       exact (bad2 (fun h => (hlu hi' hk').2 (more_rch hjn hsn ((tab_live ht hi' hk').1 h))) h5).elim
      ·skip
       refine awp_skip (blk_n (thn_n (awp_region (aL_s true rfl rfl (fun _ => q_move rfl) ?_))))
       refine aL_s true rfl rfl (fun _ => q_addi rfl rfl (by omega)) ?_
       refine aL_s true rfl rfl (fun _ => q_assign rfl) (aL_nil (thn_n ?_))
       refine ⟨[1, 2, 4, 5, 12, 13, 14, 16, 17, 18], [2, 1, 0], [], rfl, ?_⟩
       exact ⟨k + 1, ⟨by omega, rfl⟩, by omega⟩
     ·skip
      refine awp_exit (thn_e (thn_e (blk_hit (blk_n (thn_n (awp_region (aL_s true rfl rfl (fun _ => q_move rfl) ?_)))))))
      refine aL_s true rfl rfl (fun _ => q_addi rfl rfl (by omega)) ?_
      refine aL_s true rfl rfl (fun _ => q_assign rfl) (aL_nil (thn_n ?_))
      refine ⟨[1, 2, 4, 5, 12, 13, 14, 16, 17], [2, 1, 0], [], rfl, ?_⟩
      exact ⟨i + 1, ⟨by omega, rfl⟩, by omega⟩
    ·skip
     refine awp_exit (thn_e (thn_e (blk_hit (thn_n (awp_seq ?_)))))
     have huj := elt_nat (l := u.l) (i := j) (by omega)
     have hfuj := hft2.2 j hjn
     have hus := elt_nat (l := (elt u.l (j : Int)).l) (i := s) (by omega)
     refine awp_drawn [] (by kernel_rfl) ?_
     show aB _ _ _ _ _ 17 #[false, false, false, false, false, false, false, false, false, false, false, false, false, false, false, false, false] _
     refine aB_s 0 rfl (by kernel_rfl) true rfl rfl (fun _ => q_move rfl) ?_
     refine aB_hp (by simp only [nO, nK, nL]; rfl) rfl ?_
     refine aB_s 1 rfl (by kernel_rfl) true rfl rfl (fun _ => q_move rfl) ?_
     refine aB_hp (by simp only [nO, nK, nL]; rfl) rfl ?_
     refine aB_s 2 rfl (by kernel_rfl) _ rfl rfl (fun hc => q_move rfl) ?_
     refine aB_hp (by simp only [nO, nK, nL]; rfl) rfl ?_
     refine aB_s 3 rfl (by kernel_rfl) _ rfl rfl (fun hc => q_move rfl) ?_
     refine aB_hp (by simp only [nO, nK, nL]; rfl) rfl ?_
     refine aB_E 4 rfl (by kernel_rfl) _ rfl rfl (fun hc => q_indexAddrG Try.underlying27 tk54 (ev_yes rfl hc) ((.left (.of (psAt 0 rfl)))) (ev_yes rfl hc) (rows_get huj) rfl rfl) (fun _ => ⟨(0, 0)⟩) (fun ⟨b19_4, o19_4⟩ => ?_)
     refine aB_hp (by simp only [nO, nK, nL]; rfl) rfl ?_
     refine aB_s 5 rfl (by kernel_rfl) _ rfl rfl (fun hc => q_loadD (o := 0) tk54 (ev_yes rfl hc) (psAt 0 rfl) hc rfl) ?_
     refine aB_hp (by simp only [nO, nK, nL]; rfl) rfl ?_
     refine aB_s 6 rfl (by kernel_rfl) _ rfl rfl (fun hc => q_move rfl) ?_
     refine aB_hp (by simp only [nO, nK, nL]; rfl) rfl ?_
     refine aB_E 7 rfl (by kernel_rfl) _ rfl rfl (fun hc => q_indexAddrG Try.underlying54 tk4 (ev_yes rfl hc) ((Ent.all (f := ShF fun b : Bool => [.v (.bool b)]) (Ent.right (.of (psAt 1 rfl))) huj)) (ev_yes rfl hc) (rows_get hus) rfl rfl) (fun _ => ⟨(0, 0)⟩) (fun ⟨b19_7, o19_7⟩ => ?_)
     refine aB_hp (by simp only [nO, nK, nL]; rfl) rfl ?_
     refine aB_s 8 rfl (by kernel_rfl) _ rfl rfl (fun hc => q_loadD (o := 0) tk4 (ev_yes rfl hc) (psAt 0 rfl) hc rfl) ?_
     refine aB_hp (by simp only [nO, nK, nL]; rfl) rfl ?_
     refine aB_s 9 rfl (by kernel_rfl) _ rfl rfl (fun hc => q_move rfl) ?_
     refine aB_hp (by simp only [nO, nK, nL]; rfl) rfl ?_
     refine aB_s 10 rfl (by kernel_rfl) _ rfl rfl (fun hc => q_move rfl) ?_
     refine aB_hp (by simp only [nO, nK, nL]; rfl) rfl ?_
     refine aB_s 11 rfl (by kernel_rfl) _ rfl rfl (fun hc => q_move rfl) ?_
     refine aB_hp (by simp only [nO, nK, nL]; rfl) rfl ?_
     refine aB_s 12 rfl (by kernel_rfl) _ rfl rfl (fun hc => q_move rfl) ?_
     refine aB_hp (by simp only [nO, nK, nL]; rfl) rfl ?_
     refine aB_s 13 rfl (by kernel_rfl) _ rfl rfl (fun hc => q_call (by kernel_rfl) (evs_cons (ev_yes rfl hc) (evs_cons (ev_yes rfl hc) (evs_cons (ev_yes rfl hc) (evs_cons (ev_yes rfl hc) rfl)))) (fun w S fp hst => (con_rkept x _ _).quiet1 (psAt 4 rfl) hst)) ?_
     refine aB_hp (by simp only [nO, nK, nL]; rfl) rfl ?_
     refine aB_s 14 rfl (by kernel_rfl) _ rfl rfl (fun hc => qb_eql (by kernel_rfl) (ev_yes rfl hc) (ev_yes rfl hc)) ?_
     refine aB_hp (by simp only [nO, nK, nL]; rfl) rfl ?_
     refine aB_s 15 rfl (by kernel_rfl) true rfl rfl (fun _ => q_and rfl rfl (fun h => gt rfl h)) ?_
     refine aB_hp (by simp only [nO, nK, nL]; rfl) rfl ?_
     refine aB_s 16 rfl (by kernel_rfl) true rfl rfl (fun _ => q_assign rfl) ?_
     refine aB_hp (by simp only [nO, nK, nL]; rfl) rfl ?_
     refine aB_nil (by kernel_rfl) ?_
     refine thn_n (awp_ret ?_)
     refine fin1 [] [] rfl Try.results5 rfl ?_ (.inr rfl)
     have h1 := hlu hjn hsn
     have h2 := more_this (am := some ⟨B, 0, none⟩) (as_ := some ⟨B2, 0, none⟩) (cm := c5_2) (cs := c6_8) hjn hsn
     rw [show elt (elt u.l (j : Int)).l (s : Int) = keptF x.objs.l x.keep.l (j : Int) (s : Int) from Bool.eq_iff_iff.2 (h1.trans h2)]
     simp
end Go.Proofs.Ytnbochlghdkfkaa
namespace Go.Proofs.Ytnbochlghdkfkaa.liveGrows
open Go.ChangeShapes Go.WideShapes Go.ChangeAt Go.RowKit
open Go.Lp Go.Sy
open Go.ChangeMaps (open_string shut_string)
theorem own : ownKnob Try.prog.godebug = none := by kernel_rfl
theorem laidOut : laidOutB Try.prog = true := by kernel_rfl
set_option maxRecDepth 100000 in
theorem lifted (os : Os) (started : os.Started) (H : Type) (enc : TypeId × Value → H) :
    ReturnsInHanded {} Try.checked os 5 .any (Rows.liveGrowsSpec.pre6 enc Try.prog Try.f5 Rows.liveGrowsRow.domain false) (Rows.liveGrowsSpec.post enc Try.prog Try.f5 false true false false) := by
  refine returnsInHanded_of_change (C := Try.checked) own started (by kernel_rfl) Try.func5
    (ChangeSpec.witness6 (enc := enc) (C := Try.checked) false ⟨#[], #[.agg #[.string .empty, .bool false, .slice none 0 0, .slice none 0 0, .string .empty, .int .i64 0, .slice none 0 0], .slice none 0 0, .slice none 0 0, .slice none 0 0, .int .i64 0, .int .i64 0], []⟩ 12 (by kernel_rfl) (by kernel_rfl) (by kernel_rfl) (by kernel_rfl)) ?_
  intro W base args ds gs before hval0 hW hcnd _
  have hval : ∀ (j : Nat) t v, Try.f5.params[j]? = some t → args[j]? = some v → Value.okWide Try.prog W .any base t v := hval0
  have hW' := hW
  obtain ⟨p, q, hA0, hV, rfl, hfz, hnd⟩ := hW
  have hA : DataW.TrodAll enc Try.prog W 0 (fun _ => true) true Try.f5.params.toList args.toList ds p := hA0
  rw [Try.params5] at hA hval
  obtain ⟨v0, vs0, d0, ds0, p0, q0, hargs, rfl, rfl, h0, r0⟩ := trodAll_cons hA
  obtain ⟨v1, vs1, d1, ds1, p1, q1, rfl, rfl, rfl, h1, r1⟩ := trodAll_cons r0
  obtain ⟨v2, vs2, d2, ds2, p2, q2, rfl, rfl, rfl, h2, r2⟩ := trodAll_cons r1
  obtain ⟨v3, vs3, d3, ds3, p3, q3, rfl, rfl, rfl, h3, r3⟩ := trodAll_cons r2
  obtain ⟨v4, vs4, d4, ds4, p4, q4, rfl, rfl, rfl, h4, r4⟩ := trodAll_cons r3
  obtain ⟨v5, vs5, d5, ds5, p5, q5, rfl, rfl, rfl, h5, r5⟩ := trodAll_cons r4
  obtain ⟨rfl, rfl, rfl⟩ := trodAll_nil r5
  obtain rfl : args = #[v0, v1, v2, v3, v4, v5] := by cases args; simp_all
  obtain ⟨rfl, rfl⟩ := trodVars_none hV
  obtain ⟨cs0, rfl, hsz0⟩ := okWide_struct Try.underlying25 (hval 0 25 v0 rfl rfl)
  obtain ⟨a1, l1, c1, rfl⟩ := okWide_slice Try.underlying26 (hval 1 26 v1 rfl rfl)
  obtain ⟨a2, l2, c2, rfl⟩ := okWide_slice Try.underlying27 (hval 2 27 v2 rfl rfl)
  obtain ⟨a3, l3, c3, rfl⟩ := okWide_slice Try.underlying28 (hval 3 28 v3 rfl rfl)
  have k0 := h0; have k1 := h1; have k2 := h2; have k3 := h3
  have lt0 : ∀ x ∈ p0, x.block < W.heap.size := by obtain ⟨m, hm⟩ := k0; exact DataW.trod_lt m _ _ _ hm
  have lt1 : ∀ x ∈ p1, x.block < W.heap.size := by obtain ⟨m, hm⟩ := k1; exact DataW.trod_lt m _ _ _ hm
  have lt2 : ∀ x ∈ p2, x.block < W.heap.size := by obtain ⟨m, hm⟩ := k2; exact DataW.trod_lt m _ _ _ hm
  have lt3 : ∀ x ∈ p3, x.block < W.heap.size := by obtain ⟨m, hm⟩ := k3; exact DataW.trod_lt m _ _ _ hm
  obtain ⟨x, e0, e1, e2, e3, hok⟩ : ∃ x : GLink, Value.agg cs0 = x.r.val ∧ Value.slice a1 l1 c1 = x.objs.val ∧ Value.slice a2 l2 c2 = x.keep.val ∧ Value.slice a3 l3 c3 = x.choices.val ∧ x.ok.holds W (fun b => b < W.heap.size) := by
    obtain ⟨f0, g0⟩ := h0
    obtain ⟨f1, g1⟩ := h1
    obtain ⟨f2, g2⟩ := h2
    obtain ⟨f3, g3⟩ := h3
    exact link_in (by simpa [Value.cells] using g0) (by simpa [Value.cells] using g1) (by simpa [Value.cells] using g2) (by simpa [Value.cells] using g3)
  obtain ⟨n4, rfl, rfl, rfl, w4⟩ := open_int Try.underlying3 (hval 4 3 v4 rfl rfl) h4
  obtain ⟨n5, rfl, rfl, rfl, w5⟩ := open_int Try.underlying3 (hval 5 3 v5 rfl rfl) h5
  clear hA0 hval0
  have hc := (con_grows x n4 n5).quiet1 (List.mem_singleton.2 rfl) (st_in (w := W) (ps := [x.ok]) fun p hp => by rw [List.mem_singleton.1 hp]; exact hok)
  rw [← e0, ← e1, ← e2, ← e3] at hc
  refine hc.mono fun e W' ⟨he, bel⟩ => ?_
  subst he
  exact ⟨_, rfl, _, _, _, [], _, [], hW', trodAll_mk1 (shut_bool Try.underlying4 _), (trodAll_cons_mk (Below.trod laidOut (by kernel_rfl) (of_decide_eq_true (by kernel_rfl)) k0 bel lt0) (trodAll_cons_mk (Below.trod laidOut (by kernel_rfl) (of_decide_eq_true (by kernel_rfl)) k1 bel lt1) (trodAll_cons_mk (Below.trod laidOut (by kernel_rfl) (of_decide_eq_true (by kernel_rfl)) k2 bel lt2) (trodAll_cons_mk (Below.trod laidOut (by kernel_rfl) (of_decide_eq_true (by kernel_rfl)) k3 bel lt3) (trodAll_cons_mk (shut_int Try.underlying3 w4) (trodAll_cons_mk (shut_int Try.underlying3 w5) trodAll_mk0)))))), rfl, bel.frame _, fun h => by cases h⟩
theorem over : Rows.liveGrowsRow.holds Try.pinned (OpenSpec.ofChange Rows.liveGrowsSpec) :=
  OpenClaim.holds_of_wide 5 Try.f5 rfl rfl rfl rfl rfl rfl rfl ⟨rfl, rfl, rfl, rfl, rfl⟩ rfl rfl rfl rfl rfl (by kernel_rfl) Try.func5 (by kernel_rfl)
    (of_decide_eq_true (by kernel_rfl)) (by unfold Func.isWrapper; first | (rw [if_pos (by decide +kernel)]; kernel_rfl) | (rw [if_neg (by decide +kernel)]; exact ⟨rfl, rfl⟩))
    (fun os started H enc _ => lifted os started H enc)
theorem proved : Rows.LiveGrowsSaid := over
end Go.Proofs.Ytnbochlghdkfkaa.liveGrows
