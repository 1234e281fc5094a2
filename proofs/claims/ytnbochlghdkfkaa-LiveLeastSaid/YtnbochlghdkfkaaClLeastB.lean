/- Proved: for every recipe, objects, kept sections and choices the law LiveLeast of the given program answers true and leaves what it was handed as it was. Conditions: none but those in the given statement itself. -/
import Derived.Test.YtnbochlghdkfkaaBlK
import Derived.Test.YtnbochlghdkfkaaRows
import Derived.Test.YtnbochlghdkfkaaBlL
import Derived.WalkKit
import Derived.ProofKit
import Derived.OpenShut
import Derived.ShutString
import Derived.ChangeOld
import Derived.Below
set_option linter.unusedVariables false
set_option linter.unusedSimpArgs false
set_option maxRecDepth 20000
namespace Go.Proofs.Ytnbochlghdkfkaa
open Go.RowKit Go.Lp Go.Sy Go.Lv
open Go.Proofs.Try
attribute [local irreducible] aL aB awp aC fwp
theorem bad1 {r v k : Bool} (h1 : r = true → v = true) (h2 : v = true → k = true) (h : (r && !v || v && !k) = true) : False := by cases r <;> cases v <;> cases k <;> simp_all
theorem bad2 {v c : Bool} (h1 : v = true → c = true) (h : (v && !c) = true) : False := by cases v <;> cases c <;> simp_all
theorem closed_live {x : GLink} {t : Sl (Sl Bool)} {ad : Option Addr} {cap : Nat} (ht : tabL t = liveF (lkF x ad cap x.objs.l.length)) {a b : Int} (h : PRch x a b) : closedF x t a b x.objs.l.length = true := by
  unfold closedF closedR
  rw [List.all_eq_true]
  intro i hi
  rw [List.all_eq_true]
  intro k hk
  have hi' := List.mem_range.1 hi
  have hk' := List.mem_range.1 hk
  by_cases hn : needsF x a b (i : Int) (k : Int) = true
  · rw [(tab_live ht hi' hk').2 (.needs h hn)]; rfl
  · rw [show needsF x a b (i : Int) (k : Int) = false by simpa using hn]; simp
theorem bad3 {b v : Bool} (h1 : b = true ↔ v = true) (h : (!(b == v)) = true) : False := by cases b <;> cases v <;> simp_all
theorem way_len {x : GLink} {ad : Option Addr} {cap : Nat} {a b : Int} : 0 < (wayF (lkF x ad cap x.objs.l.length) a b).length ↔ PRch x a b := by
  constructor
  · intro h
    by_cases hp : PRch x a b
    · exact hp
    · rw [way_dead hp] at h; simp at h
  · intro h
    obtain ⟨⟨r, h1, _⟩, _⟩ := way_live (ad := ad) (cap := cap) h
    exact (List.getElem?_eq_some_iff.1 h1).1
theorem way_ends {x : GLink} {ad : Option Addr} {cap : Nat} {a b : Int} (h : PRch x a b) : elt (wayF (lkF x ad cap x.objs.l.length) a b) (((wayF (lkF x ad cap x.objs.l.length) a b).length : Int) - 1) = ⟨a, b⟩ ∧ rootF x (elt (wayF (lkF x ad cap x.objs.l.length) a b) 0).obj (elt (wayF (lkF x ad cap x.objs.l.length) a b) 0).sec = true := by
  obtain ⟨⟨r, h1, h2⟩, h3, _⟩ := way_live (ad := ad) (cap := cap) h
  have hl := (List.getElem?_eq_some_iff.1 h1).1
  refine ⟨?_, ?_⟩
  · unfold elt
    rw [List.getD_eq_getElem?_getD, show (((wayF (lkF x ad cap x.objs.l.length) a b).length : Int) - 1).toNat = (wayF (lkF x ad cap x.objs.l.length) a b).length - 1 by omega, ← List.getLast?_eq_getElem?, h3]; rfl
  · have : elt (wayF (lkF x ad cap x.objs.l.length) a b) 0 = r := by
      unfold elt; rw [List.getD_eq_getElem?_getD]; show (wayF (lkF x ad cap x.objs.l.length) a b)[0]?.getD default = r; rw [h1]; rfl
    rw [this]; exact h2
set_option maxHeartbeats 1000000 in
theorem con_least (x : GLink) : Con Try.prog 4 [x.r.val, x.objs.val, x.keep.val, x.choices.val] [x.ok] [] fun r _ _ => r = .bool true := by
  refine Con.enter Try.func4 rfl (by simp [Try.ntmps4]) ?_
  show awp _ _ _ _ ⟨[(0, true, _), (1, true, _), (2, true, _), (3, true, _)], _, _⟩
  refine awp_lenE (GLink.f_objs (.of (psAt 0 rfl))) (fun hlen => ?_)
  refine awp_seq (awp_region ?_)
  refine aL_eff (q := true) rfl (x_box rfl rfl rfl (fun b0_0 => ?_))
  refine aL_hp (by (try simp only [nM, nN]); rfl) ?_
  refine aL_s true rfl rfl (fun _ => q_assign rfl) (aL_nil (thn_n (awp_seq (awp_region ?_))))
  refine aL_eff (q := true) rfl (e_call [] [] (by kernel_rfl) rfl rfl rfl rfl (con_small) ?_)
  rintro _ _ _ ⟨rfl, rfl, rfl⟩
  refine aL_st (by (try simp only [nM, nN]); rfl) (by (try simp only [putB, place, Nat.reduceBEq, nA, if_true, if_false, reduceIte, nB, nC, nD, nE, nF, nG, nH, nI, Nat.reduceAdd, nJ, beq_self_eq_true, nK, nL, nM, nN]); rfl) ?_
  refine aL_s true rfl rfl (fun _ => q_assign rfl) (aL_nil (thn_n (awp_seq (awp_seq (awp_region (aL_s true rfl rfl (fun _ => q_move rfl) (aL_s true rfl rfl (fun _ => q_move rfl) ?_)))))))
  refine aL_s true rfl rfl (fun _ => q_move rfl) ?_
  refine aL_s true rfl rfl (fun _ => q_call (by kernel_rfl) rfl (fun w S fp hst => (con_few x).quiet1 (psAt 0 rfl) hst)) ?_
  refine aL_s true rfl rfl (fun _ => q_not rfl) (aL_nil (thn_n ?_))
  refine awp_cond _ rfl (fun h1 => ?_) (fun h1 => ?_)
  ·skip
   refine awp_seq (awp_region (aL_s true rfl rfl (fun _ => q_move rfl) (aL_s true rfl rfl (fun _ => q_assign rfl) (aL_nil (thn_n (awp_ret (thn_r ?_)))))))
   refine fin1 [] [] rfl Try.results4 rfl ?_ (.inr rfl)
   rfl
  ·skip
   have hF := few_of (x := x) (by simpa using h1)
   refine awp_skip (thn_n (awp_seq (awp_region (aL_s true rfl rfl (fun _ => q_load 0 tk25 rfl rfl rfl) (aL_s true rfl rfl (fun _ => q_move rfl) (aL_s true rfl rfl (fun _ => q_move rfl) (aL_s true rfl rfl (fun _ => q_move rfl) ?_)))))))
   refine aL_eff (q := true) rfl (e_call [0] [] (by kernel_rfl) rfl rfl rfl rfl (con_live x hF) ?_)
   rintro _ _ _ ⟨rfl, t, ad, cap, rfl, ht, rfl⟩
   refine aL_st (by (try simp only [nM, nN]); rfl) (by (try simp only [putB, place, Nat.reduceBEq, nA, if_true, if_false, reduceIte, nB, nC, nD, nE, nF, nG, nH, nI, Nat.reduceAdd, nJ, beq_self_eq_true, nK, nL, nM, nN]); rfl) ?_
   refine aL_s true rfl rfl (fun _ => q_assign rfl) (aL_nil (thn_n (awp_seq (awp_seq (awp_shareR 1 (TabF t) rfl (fun w S F h => (TabF t).mono h (fun _ _ => rfl) (fun b hb => .inr hb)) ?_)))))
   have hfit := tab_fits ht
   have hft := fits_iff.1 hfit
   refine awp_region (aL_s true rfl rfl (fun _ => q_move rfl) (aL_s true rfl rfl (fun _ => q_move rfl) ?_))
   refine aL_s true rfl rfl (fun _ => q_call (by kernel_rfl) rfl (fun w S fp hst => (con_fits x t).quiet2 (psAt 0 rfl) (psAt 1 rfl) hst)) ?_
   refine aL_s true rfl rfl (fun _ => q_not rfl) (aL_nil (thn_n ?_))
   refine awp_cond _ rfl (fun h2 => ?_) (fun h2 => ?_)
   ·skip
    exact absurd h2 (by rw [hfit]; decide)
   ·skip
    refine awp_skip (thn_n (awp_seq (awp_seq (awp_region (aL_s true rfl rfl (fun _ => q_assign rfl) (aL_nil (thn_n ?_)))))))
    refine awp_block (awp_loopK [1, 2, 3, 4, 8, 9, 10, 11] [1, 0] [0] (fun (i : Nat) st => i ≤ x.objs.l.length ∧ st = ⟨[(1, true, x.objs.val), (2, true, x.keep.val), (3, true, x.choices.val), (4, true, .pointer (some ⟨b0_0, 0, none⟩)), (8, true, .bool false), (9, true, .bool true), (10, true, t.val), (11, true, .int .i64 i)], [TabF t, x.ok], [Box b0_0 25 x.r.vs]⟩) (fun i => x.objs.l.length - i) rfl (⟨0, Nat.zero_le _, rfl⟩) ?_)
    rintro i st ⟨hi, rfl⟩
    refine awp_seq (awp_seq (awp_region (aL_s true rfl rfl (fun _ => q_move rfl) (aL_s true rfl rfl (fun _ => q_move rfl) (aL_s true rfl rfl (fun _ => q_lenS Try.underlying26 rfl) (aL_s true rfl rfl (fun _ => q_lss rfl rfl) (aL_nil ?_)))))))
    refine thn_n ?_
    refine awp_cond _ rfl (fun h3 => ?_) (fun h3 => ?_)
    ·skip
     have hi' : i < x.objs.l.length := by simp at h3; omega
     have ho := elt_nat hi'
     have hti := elt_nat (l := t.l) (i := i) (by omega)
     have hfti := hft.2 i hi'
     refine awp_lenE (GObject.f_secs ((GLink.f_objsA (.of (psAt 1 rfl))).all ho)) (fun hlen2 => ?_)
     refine awp_skip (thn_n (awp_seq (awp_block (awp_seq (awp_region (aL_s true rfl rfl (fun _ => q_assign rfl) (aL_nil ?_)))))))
     refine thn_n (awp_block (awp_loopK [1, 2, 3, 4, 8, 9, 10, 11, 12] [1, 0] [0] (fun (k : Nat) st => k ≤ (elt x.objs.l (i : Int)).secs.l.length ∧ st = ⟨[(1, true, x.objs.val), (2, true, x.keep.val), (3, true, x.choices.val), (4, true, .pointer (some ⟨b0_0, 0, none⟩)), (8, true, .bool false), (9, true, .bool true), (10, true, t.val), (11, true, .int .i64 i), (12, true, .int .i64 k)], [TabF t, x.ok], [Box b0_0 25 x.r.vs]⟩) (fun k => (elt x.objs.l (i : Int)).secs.l.length - k) rfl (⟨0, Nat.zero_le _, rfl⟩) ?_))
     rintro k st ⟨hk, rfl⟩
     refine awp_seq (awp_seq (awp_region (aL_s true rfl rfl (fun _ => q_move rfl) (aL_s true rfl rfl (fun _ => q_move rfl) (aL_s true rfl rfl (fun _ => q_move rfl) ?_)))))
     refine aL_E true rfl rfl (fun _ => q_indexAddrG Try.underlying26 tk53 rfl ((GLink.f_objs (.of (psAt 1 rfl)))) rfl (rows_get ho) rfl rfl) (fun h => absurd h (by decide)) (fun ⟨b11_3, o11_3⟩ => ?_)
     refine aL_s true rfl rfl (fun _ => q_fieldAddr (off := 1) (by kernel_rfl) rfl) ?_
     refine aL_s true rfl rfl (fun _ => q_loadD (o := 1) tk42 rfl (psAt 0 rfl) rfl rfl) (aL_s true rfl rfl (fun _ => q_lenS Try.underlying42 rfl) (aL_s true rfl rfl (fun _ => q_lss rfl rfl) (aL_nil (thn_n ?_))))
     refine awp_cond _ rfl (fun h4 => ?_) (fun h4 => ?_)
     ·skip
      have hk' : k < (elt x.objs.l (i : Int)).secs.l.length := by simp at h4; omega
      have htk := elt_nat (l := (elt t.l (i : Int)).l) (i := k) (by omega)
      have hlive := tab_live ht hi' hk'
      have hTR : Ent [TabF t, x.ok] (ShF (fun b : Bool => [.v (.bool b)]) (elt t.l (i : Int))) := Ent.all (f := ShF fun b : Bool => [.v (.bool b)]) (Ent.right (.of (psAt 0 rfl))) hti
      refine awp_skip (thn_n (awp_seq (awp_block (awp_seq (awp_seq (awp_region (aL_s true rfl rfl (fun _ => q_load 0 tk25 rfl rfl rfl) ?_)))))))
      refine aL_s true rfl rfl (fun _ => q_move rfl) (aL_s true rfl rfl (fun _ => q_move rfl) (aL_s true rfl rfl (fun _ => q_move rfl) (aL_s true rfl rfl (fun _ => q_move rfl) (aL_s true rfl rfl (fun _ => q_move rfl) ?_))))
      refine aL_s true rfl rfl (fun _ => q_call (by kernel_rfl) rfl (fun w S fp hst => (con_root x _ _).quiet1 (psAt 2 rfl) hst)) ?_
      refine aL_s true rfl rfl (fun _ => q_move rfl) (aL_s _ rfl rfl (fun hc => q_move rfl) (aL_s _ rfl rfl (fun hc => q_move rfl) ?_))
      refine aL_E _ rfl rfl (fun hc => q_indexAddrG Try.underlying27 tk54 (ev_yes rfl hc) ((.left (.of (psAt 1 rfl)))) (ev_yes rfl hc) (rows_get hti) rfl rfl) (fun _ => ⟨(0, 0)⟩) (fun ⟨b13_10, o13_10⟩ => ?_)
      refine aL_s _ rfl rfl (fun hc => q_loadD (o := 0) tk54 (ev_yes rfl hc) (psAt 0 rfl) hc rfl) (aL_s _ rfl rfl (fun hc => q_move rfl) ?_)
      refine aL_E _ rfl rfl (fun hc => q_indexAddrG Try.underlying54 tk4 (ev_yes rfl hc) ((Ent.all (f := ShF fun b : Bool => [.v (.bool b)]) (Ent.right (.of (psAt 2 rfl))) hti)) (ev_yes rfl hc) (rows_get htk) rfl rfl) (fun _ => ⟨(0, 0)⟩) (fun ⟨b13_13, o13_13⟩ => ?_)
      refine aL_s _ rfl rfl (fun hc => q_loadD (o := 0) tk4 (ev_yes rfl hc) (psAt 0 rfl) hc rfl) (aL_s _ rfl rfl (fun hc => q_not (ev_yes rfl hc)) (aL_s true rfl rfl (fun _ => q_and rfl rfl (fun h => gt rfl h)) (aL_s true rfl rfl (fun _ => q_move rfl) (aL_s _ rfl rfl (fun hc => q_move rfl) (aL_s _ rfl rfl (fun hc => q_move rfl) ?_)))))
      refine aL_E _ rfl rfl (fun hc => q_indexAddrG Try.underlying27 tk54 (ev_yes rfl hc) ((.left (.of (psAt 3 rfl)))) (ev_yes rfl hc) (rows_get hti) rfl rfl) (fun _ => ⟨(0, 0)⟩) (fun ⟨b13_20, o13_20⟩ => ?_)
      refine aL_s _ rfl rfl (fun hc => q_loadD (o := 0) tk54 (ev_yes rfl hc) (psAt 0 rfl) hc rfl) (aL_s _ rfl rfl (fun hc => q_move rfl) ?_)
      refine aL_E _ rfl rfl (fun hc => q_indexAddrG Try.underlying54 tk4 (ev_yes rfl hc) ((Ent.all (f := ShF fun b : Bool => [.v (.bool b)]) (Ent.right (.of (psAt 4 rfl))) hti)) (ev_yes rfl hc) (rows_get htk) rfl rfl) (fun _ => ⟨(0, 0)⟩) (fun ⟨b13_23, o13_23⟩ => ?_)
      refine aL_s _ rfl rfl (fun hc => q_loadD (o := 0) tk4 (ev_yes rfl hc) (psAt 0 rfl) hc rfl) (aL_s _ rfl rfl (fun hc => q_move (ev_yes rfl hc)) (aL_s _ rfl rfl (fun hc => q_move rfl) (aL_s _ rfl rfl (fun hc => q_move rfl) (aL_s _ rfl rfl (fun hc => q_move rfl) (aL_s _ rfl rfl (fun hc => q_move rfl) ?_)))))
      refine aL_s _ rfl rfl (fun hc => q_call (by kernel_rfl) (evs_cons (ev_yes rfl hc) (evs_cons (ev_yes rfl hc) (evs_cons (ev_yes rfl hc) (evs_cons (ev_yes rfl hc) rfl)))) (fun w S fp hst => (con_rkept x _ _).quiet1 (psAt 6 rfl) hst)) ?_
      refine aL_s _ rfl rfl (fun hc => q_not (ev_yes rfl hc)) (aL_s _ rfl rfl (fun hc => q_and (ev_yes rfl hc) rfl (fun h => gt hc h)) (aL_s true rfl rfl (fun _ => q_or rfl rfl (fun h => gf rfl h)) (aL_nil (thn_n ?_))))
      refine awp_cond _ rfl (fun h5 => ?_) (fun h5 => ?_)
      ·skip
       exact (bad1 (fun h => hlive.2 (.root h)) (fun h => (hlive.1 h).kept) h5).elim
      ·skip
       refine awp_skip (thn_n (awp_seq (awp_seq (awp_region (aL_s true rfl rfl (fun _ => q_move rfl) (aL_s true rfl rfl (fun _ => q_move rfl) ?_))))))
       refine aL_E true rfl rfl (fun _ => q_indexAddrG Try.underlying27 tk54 rfl ((.left (.of (psAt 5 rfl)))) rfl (rows_get hti) rfl rfl) (fun h => absurd h (by decide)) (fun ⟨b15_2, o15_2⟩ => ?_)
       refine aL_s true rfl rfl (fun _ => q_loadD (o := 0) tk54 rfl (psAt 0 rfl) rfl rfl) (aL_s true rfl rfl (fun _ => q_move rfl) ?_)
       refine aL_E true rfl rfl (fun _ => q_indexAddrG Try.underlying54 tk4 rfl ((Ent.all (f := ShF fun b : Bool => [.v (.bool b)]) (Ent.right (.of (psAt 6 rfl))) hti)) rfl (rows_get htk) rfl rfl) (fun h => absurd h (by decide)) (fun ⟨b15_5, o15_5⟩ => ?_)
       refine aL_s true rfl rfl (fun _ => q_loadD (o := 0) tk4 rfl (psAt 0 rfl) rfl rfl) (aL_s true rfl rfl (fun _ => q_move rfl) (aL_s _ rfl rfl (fun hc => q_move rfl) (aL_s _ rfl rfl (fun hc => q_move rfl) (aL_s _ rfl rfl (fun hc => q_move rfl) (aL_s _ rfl rfl (fun hc => q_move rfl) (aL_s _ rfl rfl (fun hc => q_move rfl) (aL_s _ rfl rfl (fun hc => q_move rfl) ?_)))))))
       refine aL_s _ rfl rfl (fun hc => q_call (by kernel_rfl) (evs_cons (ev_yes rfl hc) (evs_cons (ev_yes rfl hc) (evs_cons (ev_yes rfl hc) (evs_cons (ev_yes rfl hc) (evs_cons (ev_yes rfl hc) (evs_cons (ev_yes rfl hc) rfl)))))) (fun w S fp hst => (con_closed x t hfit _ _).quiet2 (psAt 7 rfl) (psAt 8 rfl) hst)) ?_
       refine aL_s _ rfl rfl (fun hc => q_not (ev_yes rfl hc)) (aL_s true rfl rfl (fun _ => q_and rfl rfl (fun h => gt rfl h)) (aL_nil (thn_n ?_)))
       refine awp_cond _ rfl (fun h6 => ?_) (fun h6 => ?_)
       ·skip
        exact (bad2 (fun h => closed_live ht (hlive.1 h)) h6).elim
       ·skip
        refine awp_skip (thn_n (awp_seq (awp_region (aL_s true rfl rfl (fun _ => q_load 0 tk25 rfl rfl rfl) (aL_s true rfl rfl (fun _ => q_move rfl) (aL_s true rfl rfl (fun _ => q_move rfl) (aL_s true rfl rfl (fun _ => q_move rfl) ?_)))))))
        refine aL_s true rfl rfl (fun _ => q_move rfl) (aL_s true rfl rfl (fun _ => q_move rfl) ?_)
        refine aL_eff (q := true) rfl (e_call [0] [] (by kernel_rfl) rfl rfl rfl rfl (con_lway x hF i k) ?_)
        rintro _ _ _ ⟨rfl, w, ad2, cap2, rfl, hw, rfl⟩
        refine aL_st (by (try simp only [nM, nN]); rfl) (by (try simp only [putB, place, Nat.reduceBEq, nA, if_true, if_false, reduceIte, nB, nC, nD, nE, nF, nG, nH, nI, Nat.reduceAdd, nJ, beq_self_eq_true, nK, nL, nM, nN]); rfl) ?_
        refine aL_s true rfl rfl (fun _ => q_assign rfl) (aL_nil (thn_n (awp_seq (awp_seq (awp_share 1 rfl ?_)))))
        refine awp_lenE (.of (psAt 0 rfl)) (fun hlenw => ?_)
        have hwl : 0 < w.l.length ↔ elt (elt t.l (i : Int)).l (k : Int) = true := by rw [hw, way_len, hlive]
        refine awp_region (aL_s true rfl rfl (fun _ => q_move rfl) (aL_s true rfl rfl (fun _ => q_lenS Try.underlying31 rfl) (aL_s true rfl rfl (fun _ => q_gtr rfl rfl) (aL_s true rfl rfl (fun _ => q_move rfl) (aL_s true rfl rfl (fun _ => q_move rfl) ?_)))))
        refine aL_E true rfl rfl (fun _ => q_indexAddrG Try.underlying27 tk54 rfl ((.left (.of (psAt 8 rfl)))) rfl (rows_get hti) rfl rfl) (fun h => absurd h (by decide)) (fun ⟨b18_5, o18_5⟩ => ?_)
        refine aL_s true rfl rfl (fun _ => q_loadD (o := 0) tk54 rfl (psAt 0 rfl) rfl rfl) (aL_s true rfl rfl (fun _ => q_move rfl) ?_)
        refine aL_E true rfl rfl (fun _ => q_indexAddrG Try.underlying54 tk4 rfl ((Ent.all (f := ShF fun b : Bool => [.v (.bool b)]) (Ent.right (.of (psAt 9 rfl))) hti)) rfl (rows_get htk) rfl rfl) (fun h => absurd h (by decide)) (fun ⟨b18_8, o18_8⟩ => ?_)
        refine aL_s true rfl rfl (fun _ => q_loadD (o := 0) tk4 rfl (psAt 0 rfl) rfl rfl) ?_
        refine aL_s true rfl rfl (fun _ => qb_neq (by kernel_rfl) rfl rfl) ?_
        refine aL_nil (thn_n ?_)
        refine awp_cond _ rfl (fun h7 => ?_) (fun h7 => ?_)
        ·skip
         exact (bad3 (by rw [← hwl]; simp) h7).elim
        ·skip
         refine awp_skip (thn_n (awp_seq (awp_seq ?_)))
         refine awp_drawnC [] [] [b0_0] (by kernel_rfl) ?_
         show aC _ _ _ _ _ _ _ 31 #[false, false, false, false, false, false, false, false, false, false, false, false, false, false, false, false, false, false, false, false, false, false, false, false, false, false, false, false, false, false, false] _
         refine aC_f 0 rfl (by kernel_rfl) true rfl rfl (fun _ => q_move rfl) ?_
         refine aC_f 1 rfl (by kernel_rfl) true rfl rfl (fun _ => q_lenS Try.underlying31 rfl) ?_
         refine aC_f 2 rfl (by kernel_rfl) true rfl rfl (fun _ => q_gtr rfl rfl) ?_
         refine aC_f 3 rfl (by kernel_rfl) true rfl rfl (fun _ => q_move rfl) ?_
         refine aC_f 4 rfl (by kernel_rfl) _ rfl rfl (fun hc => q_move rfl) ?_
         refine aC_f 5 rfl (by kernel_rfl) _ rfl rfl (fun hc => q_move rfl) ?_
         refine aC_f 6 rfl (by kernel_rfl) _ rfl rfl (fun hc => q_lenS Try.underlying31 (ev_yes rfl hc)) ?_
         refine aC_f 7 rfl (by kernel_rfl) _ rfl rfl (fun hc => q_subi (ev_yes rfl hc) rfl (by (first | omega | (simp at hc; omega)))) ?_
         refine aC_R 8 rfl (by kernel_rfl) _ rfl rfl (fun hc => q_indexAddrGR Try.underlying31 tk36 (ev_yes rfl hc) ((.of (psAt 2 rfl))) (ev_yes rfl hc) (rows_elt (i := (w.l.length : Int) - 1) (by simp at hc; omega) (by simp at hc; omega)) (by simp at hc; omega) rfl) (fun _ => ⟨(0, 0)⟩) (fun ⟨b20_8, o20_8⟩ => ?_)
         refine aC_f 9 rfl (by kernel_rfl) _ rfl rfl (fun hc => q_loadD (o := 0) tk36 (ev_yes rfl hc) (psAt 0 rfl) hc rfl) ?_
         refine aC_f 10 rfl (by kernel_rfl) _ rfl rfl (fun hc => q_move rfl) ?_
         refine aC_f 11 rfl (by kernel_rfl) _ rfl rfl (fun hc => q_move rfl) ?_
         refine aC_f 12 rfl (by kernel_rfl) _ rfl rfl (fun hc => q_bld (l := [(0, .tmp 126), (1, .tmp 127)]) (zs := [.int .i64 0, .int .i64 0]) (pl := [(0, 1), (1, 1)]) (by kernel_rfl) (by kernel_rfl) (by kernel_rfl) rfl (evs_cons (ev_yes rfl hc) (evs_cons (ev_yes rfl hc) rfl)) rfl) ?_
         refine aC_f 13 rfl (by kernel_rfl) _ rfl rfl (fun hc => qa_neq (by kernel_rfl) (by kernel_rfl) (by kernel_rfl) (fun w => eqFields_ints 9998 _ _ _ w (by kernel_rfl) rfl rfl) (ev_yes rfl hc) (ev_yes rfl hc)) ?_
         refine aC_f 14 rfl (by kernel_rfl) _ rfl rfl (fun hc => q_move (ev_yes rfl hc)) ?_
         refine aC_box 15 0 rfl (by kernel_rfl) _ rfl rfl (by simp) tk25 (fun hc => rfl) rfl rfl ?_
         refine aC_f 16 rfl (by kernel_rfl) _ rfl rfl (fun hc => q_move rfl) ?_
         refine aC_f 17 rfl (by kernel_rfl) _ rfl rfl (fun hc => q_move rfl) ?_
         refine aC_f 18 rfl (by kernel_rfl) _ rfl rfl (fun hc => q_move rfl) ?_
         refine aC_f 19 rfl (by kernel_rfl) _ rfl rfl (fun hc => q_move rfl) ?_
         refine aC_R 20 rfl (by kernel_rfl) _ rfl rfl (fun hc => q_indexAddrGR Try.underlying31 tk36 (ev_yes rfl hc) ((.of (psAt 3 rfl))) rfl (rows_elt (i := 0) (by simp at hc; omega) (by simp at hc; omega)) (by simp at hc; omega) rfl) (fun _ => ⟨(0, 0)⟩) (fun ⟨b20_20, o20_20⟩ => ?_)
         refine aC_f 21 rfl (by kernel_rfl) _ rfl rfl (fun hc => q_fieldAddr (off := 0) (by kernel_rfl) (ev_yes rfl hc)) ?_
         refine aC_f 22 rfl (by kernel_rfl) _ rfl rfl (fun hc => q_loadD (o := 0) tk3 (ev_yes rfl hc) (psAt 0 rfl) hc rfl) ?_
         refine aC_f 23 rfl (by kernel_rfl) _ rfl rfl (fun hc => q_move rfl) ?_
         refine aC_R 24 rfl (by kernel_rfl) _ rfl rfl (fun hc => q_indexAddrGR Try.underlying31 tk36 (ev_yes rfl hc) ((.of (psAt 4 rfl))) rfl (rows_elt (i := 0) (by simp at hc; omega) (by simp at hc; omega)) (by simp at hc; omega) rfl) (fun _ => ⟨(0, 0)⟩) (fun ⟨b20_24, o20_24⟩ => ?_)
         refine aC_f 25 rfl (by kernel_rfl) _ rfl rfl (fun hc => q_fieldAddr (off := 1) (by kernel_rfl) (ev_yes rfl hc)) ?_
         refine aC_f 26 rfl (by kernel_rfl) _ rfl rfl (fun hc => q_loadD (o := 1) tk3 (ev_yes rfl hc) (psAt 0 rfl) hc rfl) ?_
         refine aC_f 27 rfl (by kernel_rfl) _ rfl rfl (fun hc => q_call (by kernel_rfl) (evs_cons (ev_yes rfl hc) (evs_cons (ev_yes rfl hc) (evs_cons (ev_yes rfl hc) (evs_cons (ev_yes rfl hc) (evs_cons (ev_yes rfl hc) (evs_cons (ev_yes rfl hc) rfl)))))) (fun w S fp hst => (con_root x _ _).quiet1 (psAt 14 rfl) hst)) ?_
         refine aC_f 28 rfl (by kernel_rfl) _ rfl rfl (fun hc => q_not (ev_yes rfl hc)) ?_
         refine aC_f 29 rfl (by kernel_rfl) _ rfl rfl (fun hc => q_or (ev_yes rfl hc) rfl (fun h => gf hc h)) ?_
         refine aC_f 30 rfl (by kernel_rfl) true rfl rfl (fun _ => q_and rfl rfl (fun h => gt rfl h)) ?_
         refine aC_nil (by kernel_rfl) ?_
         refine thn_n ?_
         refine awp_cond _ rfl (fun h8 => ?_) (fun h8 => ?_)
         ·skip
          exfalso
          rw [Bool.and_eq_true, decide_eq_true_eq] at h8
          obtain ⟨hp, h8⟩ := h8
          have he := way_ends (ad := ad2) (cap := cap2) (hlive.1 (hwl.1 (by omega)))
          rw [← hw] at he
          rw [he.1, he.2] at h8
          rw [show (Try.prog.fieldsOf 36).toList.map (fun x => x.offset) = [0, 1] by kernel_rfl] at h8
          rw [show eqInts #[Value.int .i64 (i : Int), Value.int .i64 (k : Int)] #[Value.int .i64 (i : Int), Value.int .i64 (k : Int)] [0, 1] = true by simp [eqInts, intAt]] at h8
          simp at h8
         ·skip
          refine awp_skip (thn_n (awp_seq (awp_region (aL_s true rfl rfl (fun _ => q_assign rfl) (aL_nil (thn_n (awp_block ?_)))))))
          refine awp_loopK [1, 2, 3, 4, 8, 9, 10, 11, 12, 13, 14] [9, 1, 0] [0] (fun (n : Nat) st => (n = 0 ∨ n < w.l.length) ∧ st = ⟨[(1, true, x.objs.val), (2, true, x.keep.val), (3, true, x.choices.val), (4, true, .pointer (some ⟨b0_0, 0, none⟩)), (8, true, .bool false), (9, true, .bool true), (10, true, t.val), (11, true, .int .i64 i), (12, true, .int .i64 k), (13, true, w.val), (14, true, .int .i64 n)], [ShF GPlace.row w, TabF t, x.ok], [Box b0_0 25 x.r.vs]⟩) (fun n => w.l.length - n) rfl (⟨0, .inl rfl, rfl⟩) ?_
          rintro n st ⟨hnb, rfl⟩
          refine awp_seq (awp_seq (awp_region (aL_s true rfl rfl (fun _ => q_move rfl) ?_)))
          refine aL_s true rfl rfl (fun _ => q_addi rfl rfl (by omega)) ?_
          refine aL_s true rfl rfl (fun _ => q_move rfl) (aL_s true rfl rfl (fun _ => q_lenS Try.underlying31 rfl) (aL_s true rfl rfl (fun _ => q_lss rfl rfl) (aL_nil (thn_n ?_))))
          refine awp_cond _ rfl (fun h9 => ?_) (fun h9 => ?_)
          ·skip
           have hn1 : n + 1 < w.l.length := by simp at h9; omega
           refine awp_skip (thn_n (awp_seq (awp_block (awp_seq ?_))))
           refine awp_drawn [] (by kernel_rfl) ?_
           show aB _ _ _ _ _ 27 #[false, false, false, false, false, false, false, false, false, false, false, false, false, false, false, false, false, false, false, false, false, false, false, false, false, false, false] _
           refine aB_s 0 rfl (by kernel_rfl) true rfl rfl (fun _ => q_move rfl) ?_
           refine aB_hp (by simp only [nO, nK, nL]; rfl) rfl ?_
           refine aB_s 1 rfl (by kernel_rfl) true rfl rfl (fun _ => q_move rfl) ?_
           refine aB_hp (by simp only [nO, nK, nL]; rfl) rfl ?_
           refine aB_s 2 rfl (by kernel_rfl) true rfl rfl (fun _ => q_move rfl) ?_
           refine aB_hp (by simp only [nO, nK, nL]; rfl) rfl ?_
           refine aB_s 3 rfl (by kernel_rfl) true rfl rfl (fun _ => q_move rfl) ?_
           refine aB_hp (by simp only [nO, nK, nL]; rfl) rfl ?_
           refine aB_s 4 rfl (by kernel_rfl) true rfl rfl (fun _ => q_move rfl) ?_
           refine aB_hp (by simp only [nO, nK, nL]; rfl) rfl ?_
           refine aB_E 5 rfl (by kernel_rfl) true rfl rfl (fun _ => q_indexAddrG Try.underlying31 tk36 rfl ((.of (psAt 0 rfl))) rfl (rows_elt (i := (n : Int)) (by omega) (by omega)) (by omega) rfl) (fun h => absurd h (by decide)) (fun ⟨b25_5, o25_5⟩ => ?_)
           refine aB_hp (by simp only [nO, nK, nL]; rfl) rfl ?_
           refine aB_s 6 rfl (by kernel_rfl) true rfl rfl (fun _ => q_fieldAddr (off := 0) (by kernel_rfl) rfl) ?_
           refine aB_hp (by simp only [nO, nK, nL]; rfl) rfl ?_
           refine aB_s 7 rfl (by kernel_rfl) true rfl rfl (fun _ => q_loadD (o := 0) tk3 rfl (psAt 0 rfl) rfl rfl) ?_
           refine aB_hp (by simp only [nO, nK, nL]; rfl) rfl ?_
           refine aB_s 8 rfl (by kernel_rfl) true rfl rfl (fun _ => q_move rfl) ?_
           refine aB_hp (by simp only [nO, nK, nL]; rfl) rfl ?_
           refine aB_s 9 rfl (by kernel_rfl) true rfl rfl (fun _ => q_move rfl) ?_
           refine aB_hp (by simp only [nO, nK, nL]; rfl) rfl ?_
           refine aB_E 10 rfl (by kernel_rfl) true rfl rfl (fun _ => q_indexAddrG Try.underlying31 tk36 rfl ((.of (psAt 1 rfl))) rfl (rows_elt (i := (n : Int)) (by omega) (by omega)) (by omega) rfl) (fun h => absurd h (by decide)) (fun ⟨b25_10, o25_10⟩ => ?_)
           refine aB_hp (by simp only [nO, nK, nL]; rfl) rfl ?_
           refine aB_s 11 rfl (by kernel_rfl) true rfl rfl (fun _ => q_fieldAddr (off := 1) (by kernel_rfl) rfl) ?_
           refine aB_hp (by simp only [nO, nK, nL]; rfl) rfl ?_
           refine aB_s 12 rfl (by kernel_rfl) true rfl rfl (fun _ => q_loadD (o := 1) tk3 rfl (psAt 0 rfl) rfl rfl) ?_
           refine aB_hp (by simp only [nO, nK, nL]; rfl) rfl ?_
           refine aB_s 13 rfl (by kernel_rfl) true rfl rfl (fun _ => q_move rfl) ?_
           refine aB_hp (by simp only [nO, nK, nL]; rfl) rfl ?_
           refine aB_s 14 rfl (by kernel_rfl) true rfl rfl (fun _ => q_move rfl) ?_
           refine aB_hp (by simp only [nO, nK, nL]; rfl) rfl ?_
           refine aB_s 15 rfl (by kernel_rfl) true rfl rfl (fun _ => q_addi rfl rfl (by omega)) ?_
           refine aB_hp (by simp only [nO, nK, nL]; rfl) rfl ?_
           refine aB_E 16 rfl (by kernel_rfl) true rfl rfl (fun _ => q_indexAddrG Try.underlying31 tk36 rfl ((.of (psAt 2 rfl))) rfl (rows_elt (i := (n : Int) + 1) (by omega) (by omega)) (by omega) rfl) (fun h => absurd h (by decide)) (fun ⟨b25_16, o25_16⟩ => ?_)
           refine aB_hp (by simp only [nO, nK, nL]; rfl) rfl ?_
           refine aB_s 17 rfl (by kernel_rfl) true rfl rfl (fun _ => q_fieldAddr (off := 0) (by kernel_rfl) rfl) ?_
           refine aB_hp (by simp only [nO, nK, nL]; rfl) rfl ?_
           refine aB_s 18 rfl (by kernel_rfl) true rfl rfl (fun _ => q_loadD (o := 0) tk3 rfl (psAt 0 rfl) rfl rfl) ?_
           refine aB_hp (by simp only [nO, nK, nL]; rfl) rfl ?_
           refine aB_s 19 rfl (by kernel_rfl) true rfl rfl (fun _ => q_move rfl) ?_
           refine aB_hp (by simp only [nO, nK, nL]; rfl) rfl ?_
           refine aB_s 20 rfl (by kernel_rfl) true rfl rfl (fun _ => q_move rfl) ?_
           refine aB_hp (by simp only [nO, nK, nL]; rfl) rfl ?_
           refine aB_s 21 rfl (by kernel_rfl) true rfl rfl (fun _ => q_addi rfl rfl (by omega)) ?_
           refine aB_hp (by simp only [nO, nK, nL]; rfl) rfl ?_
           refine aB_E 22 rfl (by kernel_rfl) true rfl rfl (fun _ => q_indexAddrG Try.underlying31 tk36 rfl ((.of (psAt 3 rfl))) rfl (rows_elt (i := (n : Int) + 1) (by omega) (by omega)) (by omega) rfl) (fun h => absurd h (by decide)) (fun ⟨b25_22, o25_22⟩ => ?_)
           refine aB_hp (by simp only [nO, nK, nL]; rfl) rfl ?_
           refine aB_s 23 rfl (by kernel_rfl) true rfl rfl (fun _ => q_fieldAddr (off := 1) (by kernel_rfl) rfl) ?_
           refine aB_hp (by simp only [nO, nK, nL]; rfl) rfl ?_
           refine aB_s 24 rfl (by kernel_rfl) true rfl rfl (fun _ => q_loadD (o := 1) tk3 rfl (psAt 0 rfl) rfl rfl) ?_
           refine aB_hp (by simp only [nO, nK, nL]; rfl) rfl ?_
           refine aB_s 25 rfl (by kernel_rfl) true rfl rfl (fun _ => q_call (by kernel_rfl) rfl (fun w S fp hst => (con_needs x _ _ _ _).quiet1 (psAt 6 rfl) hst)) ?_
           refine aB_hp (by simp only [nO, nK, nL]; rfl) rfl ?_
           refine aB_s 26 rfl (by kernel_rfl) true rfl rfl (fun _ => q_not rfl) ?_
           refine aB_hp (by simp only [nO, nK, nL]; rfl) rfl ?_
           refine aB_nil (by kernel_rfl) ?_
           refine thn_n ?_
           refine awp_cond _ rfl (fun h10 => ?_) (fun h10 => ?_)
           ·skip
            exfalso
            have hst := (way_live (ad := ad2) (cap := cap2) (hlive.1 (hwl.1 (by omega)))).2.2 n (elt w.l (n : Int)) (elt w.l ((n + 1 : Nat) : Int)) (by rw [← hw]; exact elt_nat (by omega)) (by rw [← hw]; exact elt_nat hn1)
            rw [Int.natCast_add, Int.natCast_one] at hst
            rw [hst] at h10
            cases h10
           ·skip
            refine awp_skip (blk_n (thn_n (awp_region (aL_s true rfl rfl (fun _ => q_move rfl) ?_))))
            refine aL_s true rfl rfl (fun _ => q_addi rfl rfl (by omega)) ?_
            refine aL_s true rfl rfl (fun _ => q_assign rfl) (aL_nil (thn_n ?_))
            refine ⟨[1, 2, 3, 4, 8, 9, 10, 11, 12, 13, 14], [2, 1, 0], [0], rfl, ?_⟩
            exact ⟨n + 1, ⟨.inr hn1, rfl⟩, by omega⟩
          ·skip
           refine awp_exit (thn_e (thn_e (blk_hit (blk_n (thn_n (awp_region (aL_s true rfl rfl (fun _ => q_move rfl) ?_)))))))
           refine aL_s true rfl rfl (fun _ => q_addi rfl rfl (by omega)) ?_
           refine aL_s true rfl rfl (fun _ => q_assign rfl) (aL_nil (thn_n ?_))
           refine ⟨[1, 2, 3, 4, 8, 9, 10, 11, 12], [1, 0], [0], rfl, ?_⟩
           exact ⟨k + 1, ⟨by omega, rfl⟩, by omega⟩
     ·skip
      refine awp_exit (thn_e (thn_e (blk_hit (blk_n (thn_n (awp_region (aL_s true rfl rfl (fun _ => q_move rfl) ?_)))))))
      refine aL_s true rfl rfl (fun _ => q_addi rfl rfl (by omega)) ?_
      refine aL_s true rfl rfl (fun _ => q_assign rfl) (aL_nil (thn_n ?_))
      refine ⟨[1, 2, 3, 4, 8, 9, 10, 11], [1, 0], [0], rfl, ?_⟩
      exact ⟨i + 1, ⟨by omega, rfl⟩, by omega⟩
    ·skip
     refine awp_exit (thn_e (thn_e (blk_hit (thn_n (awp_seq (awp_region (aL_s true rfl rfl (fun _ => q_move rfl) ?_)))))))
     refine aL_s true rfl rfl (fun _ => q_assign rfl) (aL_nil (thn_n (awp_ret ?_)))
     refine fin1 [] [] rfl Try.results4 rfl ?_ (.inr rfl)
     rfl
end Go.Proofs.Ytnbochlghdkfkaa
namespace Go.Proofs.Ytnbochlghdkfkaa.liveLeast
open Go.ChangeShapes Go.WideShapes Go.ChangeAt Go.RowKit
open Go.Lp Go.Sy
open Go.ChangeMaps (open_string shut_string)
theorem own : ownKnob Try.prog.godebug = none := by kernel_rfl
theorem laidOut : laidOutB Try.prog = true := by kernel_rfl
set_option maxRecDepth 100000 in
theorem lifted (os : Os) (started : os.Started) (H : Type) (enc : TypeId × Value → H) :
    ReturnsInHanded {} Try.checked os 4 .any (Rows.liveLeastSpec.pre6 enc Try.prog Try.f4 Rows.liveLeastRow.domain false) (Rows.liveLeastSpec.post enc Try.prog Try.f4 false true false false) := by
  refine returnsInHanded_of_change (C := Try.checked) own started (by kernel_rfl) Try.func4
    (ChangeSpec.witness6 (enc := enc) (C := Try.checked) false ⟨#[], #[.agg #[.string .empty, .bool false, .slice none 0 0, .slice none 0 0, .string .empty, .int .i64 0, .slice none 0 0], .slice none 0 0, .slice none 0 0, .slice none 0 0], []⟩ 12 (by kernel_rfl) (by kernel_rfl) (by kernel_rfl) (by kernel_rfl)) ?_
  intro W base args ds gs before hval0 hW hcnd _
  have hval : ∀ (j : Nat) t v, Try.f4.params[j]? = some t → args[j]? = some v → Value.okWide Try.prog W .any base t v := hval0
  have hW' := hW
  obtain ⟨p, q, hA0, hV, rfl, hfz, hnd⟩ := hW
  have hA : DataW.TrodAll enc Try.prog W 0 (fun _ => true) true Try.f4.params.toList args.toList ds p := hA0
  rw [Try.params4] at hA hval
  obtain ⟨v0, vs0, d0, ds0, p0, q0, hargs, rfl, rfl, h0, r0⟩ := trodAll_cons hA
  obtain ⟨v1, vs1, d1, ds1, p1, q1, rfl, rfl, rfl, h1, r1⟩ := trodAll_cons r0
  obtain ⟨v2, vs2, d2, ds2, p2, q2, rfl, rfl, rfl, h2, r2⟩ := trodAll_cons r1
  obtain ⟨v3, vs3, d3, ds3, p3, q3, rfl, rfl, rfl, h3, r3⟩ := trodAll_cons r2
  obtain ⟨rfl, rfl, rfl⟩ := trodAll_nil r3
  obtain rfl : args = #[v0, v1, v2, v3] := by cases args; simp_all
  obtain ⟨rfl, rfl⟩ := trodVars_none hV
  obtain ⟨cs0, rfl, hsz0⟩ := okWide_struct Try.underlying25 (hval 0 25 v0 rfl rfl)
  obtain ⟨a1, l1, c1, rfl⟩ := okWide_slice Try.underlying26 (hval 1 26 v1 rfl rfl)
  obtain ⟨a2, l2, c2, rfl⟩ := okWide_slice Try.underlying27 (hval 2 27 v2 rfl rfl)
  obtain ⟨a3, l3, c3, rfl⟩ := okWide_slice Try.underlying28 (hval 3 28 v3 rfl rfl)
  have k0 := h0; have k1 := h1; have k2 := h2; have k3 := h3
  have lt0 : ∀ x ∈ p0, x.block < W.heap.size := by obtain ⟨m, hm⟩ := k0; exact DataW.trod_lt m _ _ _ hm
  have lt1 : ∀ x ∈ p1, x.block < W.heap.size := by obtain ⟨m, hm⟩ := k1; exact DataW.trod_lt m _ _ _ hm
  have lt2 : ∀ x ∈ p2, x.block < W.heap.size := by obtain ⟨m, hm⟩ := k2; exact DataW.trod_lt m _ _ _ hm
  have lt3 : ∀ x ∈ p3, x.block < W.heap.size := by obtain ⟨m, hm⟩ := k3; exact DataW.trod_lt m _ _ _ hm
  obtain ⟨x, e0, e1, e2, e3, hok⟩ : ∃ x : GLink, Value.agg cs0 = x.r.val ∧ Value.slice a1 l1 c1 = x.objs.val ∧ Value.slice a2 l2 c2 = x.keep.val ∧ Value.slice a3 l3 c3 = x.choices.val ∧ x.ok.holds W (fun b => b < W.heap.size) := by
    obtain ⟨f0, g0⟩ := h0
    obtain ⟨f1, g1⟩ := h1
    obtain ⟨f2, g2⟩ := h2
    obtain ⟨f3, g3⟩ := h3
    exact link_in (by simpa [Value.cells] using g0) (by simpa [Value.cells] using g1) (by simpa [Value.cells] using g2) (by simpa [Value.cells] using g3)
  clear hA0 hval0
  have hc := (con_least x).quiet1 (List.mem_singleton.2 rfl) (st_in (w := W) (ps := [x.ok]) fun p hp => by rw [List.mem_singleton.1 hp]; exact hok)
  rw [← e0, ← e1, ← e2, ← e3] at hc
  refine hc.mono fun e W' ⟨he, bel⟩ => ?_
  subst he
  exact ⟨_, rfl, _, _, _, [], _, [], hW', trodAll_mk1 (shut_bool Try.underlying4 _), (trodAll_cons_mk (Below.trod laidOut (by kernel_rfl) (of_decide_eq_true (by kernel_rfl)) k0 bel lt0) (trodAll_cons_mk (Below.trod laidOut (by kernel_rfl) (of_decide_eq_true (by kernel_rfl)) k1 bel lt1) (trodAll_cons_mk (Below.trod laidOut (by kernel_rfl) (of_decide_eq_true (by kernel_rfl)) k2 bel lt2) (trodAll_cons_mk (Below.trod laidOut (by kernel_rfl) (of_decide_eq_true (by kernel_rfl)) k3 bel lt3) trodAll_mk0)))), rfl, bel.frame _, fun h => by cases h⟩
theorem over : Rows.liveLeastRow.holds Try.pinned (OpenSpec.ofChange Rows.liveLeastSpec) :=
  OpenClaim.holds_of_wide 4 Try.f4 rfl rfl rfl rfl rfl rfl rfl ⟨rfl, rfl, rfl, rfl, rfl⟩ rfl rfl rfl rfl rfl (by kernel_rfl) Try.func4 (by kernel_rfl)
    (of_decide_eq_true (by kernel_rfl)) (by unfold Func.isWrapper; first | (rw [if_pos (by decide +kernel)]; kernel_rfl) | (rw [if_neg (by decide +kernel)]; exact ⟨rfl, rfl⟩))
    (fun os started H enc _ => lifted os started H enc)
theorem proved : Rows.LiveLeastSaid := over
end Go.Proofs.Ytnbochlghdkfkaa.liveLeast
