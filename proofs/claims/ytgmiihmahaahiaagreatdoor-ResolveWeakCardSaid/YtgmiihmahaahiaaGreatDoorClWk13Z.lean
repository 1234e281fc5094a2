/- Proved: for all objects, interfaces, versions and places the law ResolveWeak of the given program answers true and leaves what it was handed as it was; the card, tied to the program's text. Conditions: none but those in the given statement itself. -/
import Derived.Test.YtgmiihmahaahiaaGreatDoorQa16
import Derived.Test.YtgmiihmahaahiaaGreatDoorQa03
import Derived.Test.YtgmiihmahaahiaaGreatDoorCards
import Derived.Test.YtgmiihmahaahiaaGreatDoorTie
import Derived.Test.YtgmiihmahaahiaaGreatDoorQa15
import Derived.SevenTiedAt
set_option linter.unusedSimpArgs false
set_option linter.unusedVariables false
set_option maxHeartbeats 1000000
set_option maxRecDepth 20000
namespace Go.Proofs.YtgmiihmahaahiaaGreatDoor
open Go.RowKit Go.Lp Go.Sy
open Go.Proofs.Tryz
section
variable {P : Program} {n : Fr} {env : Env} {ps : List Per} {hp : List Res} {E : TypeId} {sz : Nat} {c : Code} {Q : Exit → Sta → Prop}
theorem awp_formV (i : Nat) {v : Value} {rows : List (List D)} (hi : hp[i]? = some (OwnS v E sz rows)) (h0 : rows ≠ []) (h : ∀ B cp, v = .slice (some ⟨B, 0, none⟩) rows.length cp → awp P n c Q ⟨env, ps, hp⟩) : awp P n c Q ⟨env, ps, hp⟩ :=
 awp_knowR (φ := ∃ B cp, v = .slice (some ⟨B, 0, none⟩) rows.length cp) i hi (fun w S F hh => by
   rcases hh with ⟨_, h1, _⟩ | ⟨B, cp, h1, _⟩
   · exact (h0 h1).elim
   · exact ⟨B, cp, h1⟩) (fun ⟨B, cp, e⟩ => h B cp e)
end
theorem rowD_getQ (i : Int) (l : List GSymbol) (k : Nat) : (rowD i l)[k]? = (l[k]?).map fun s => ⟨⟨i, (k : Int)⟩, s⟩ := by
 unfold rowD
 rw [List.getElem?_map, List.getElem?_zipIdx]
 cases l[k]? <;> simp
def refS (s : GSymbol) : GSymbol := ⟨s.name, s.version, false, s.bind, s.vis, s.kind, -1, 0, 0, 0⟩
def wkO (o : GObject) (ad : Option Addr) (cp b : Nat) (s0 : GSymbol) : GObject := ⟨o.name, o.secs, ⟨ad, cp, o.syms.l.set b s0⟩, o.rels, o.groups, o.inits, o.lines, o.inlines, o.vars, o.depths, o.converts⟩
theorem rowD_set (a : Nat) (l : List GSymbol) (b : Nat) (s0 : GSymbol) : rowD (a : Int) (l.set b s0) = (rowD (a : Int) l).map (rpD ⟨(a : Int), (b : Int)⟩ s0) := by
 apply List.ext_getElem?
 intro k
 rw [List.getElem?_map, rowD_getQ, rowD_getQ, List.getElem?_set]
 by_cases hk : b = k
 · subst hk
   rw [if_pos rfl]
   by_cases hl : b < l.length
   · rw [if_pos hl, List.getElem?_eq_getElem hl]
     simp [rpD]
   · rw [if_neg hl, List.getElem?_eq_none (by omega)]; rfl
 · rw [if_neg hk]
   cases hl : l[k]? with
   | none => rfl
   | some s =>
     simp only [Option.map_some]
     unfold rpD
     rw [if_neg]
     intro h
     have := congrArg GCulprit.sym h
     simp only at this
     omega
theorem elt_set_ne {α : Type} [Inhabited α] {l : List α} {a i : Nat} {v : α} (h : a ≠ i) : elt (l.set a v) (i : Int) = elt l (i : Int) := by
 unfold elt
 rw [List.getD_eq_getElem?_getD, List.getD_eq_getElem?_getD, show ((i : Nat) : Int).toNat = i from rfl, List.getElem?_set_ne h]
theorem elt_set_eq {α : Type} [Inhabited α] {l : List α} {a : Nat} {v : α} (h : a < l.length) : elt (l.set a v) (a : Int) = v := by
 unfold elt
 rw [List.getD_eq_getElem?_getD, show ((a : Nat) : Int).toNat = a from rfl, List.getElem?_set_self h]; rfl
theorem flat_set {os : List GObject} {a b : Nat} {ad : Option Addr} {cp : Nat} {s0 : GSymbol} (ha : a < os.length) :
   flatF (os.set a (wkO (elt os (a : Int)) ad cp b s0)) = (flatF os).map (rpD ⟨(a : Int), (b : Int)⟩ s0) := by
 unfold flatF flatTo
 rw [List.length_set, List.map_flatMap]
 congr 1
 funext i
 by_cases hi : a = i
 · subst hi
   rw [elt_set_eq ha]
   exact rowD_set a _ b s0
 · rw [elt_set_ne hi]
   rw [eq_comm]
   refine (List.map_congr_left fun d hd => ?_).trans (List.map_id _)
   obtain ⟨k, _, hp⟩ := rowD_get hd
   unfold rpD
   rw [if_neg]
   · rfl
   · rw [hp]; intro h
     have := congrArg GCulprit.obj h
     simp only at this
     omega
abbrev wkX (x : G13) (am as_ : Option Addr) (cm cs a b : Nat) (s0 : GSymbol) : G13 := ⟨⟨am, cm, x.os.l.set a (wkO (elt x.os.l (a : Int)) as_ cs b s0)⟩, x.lib, x.ifs, x.vs⟩
theorem wk_ok {x : G13} {am as_ : Option Addr} {cm cs a b : Nat} {s : GSymbol} {w : World} {S : Blks} (h : x.ok.holds w S) (ha : a < x.os.l.length) (hs : (elt x.os.l (a : Int)).syms.l[b]? = some s)
   (h1 : (ShF GObject.row (wkX x am as_ cm cs a b (refS s)).os).holds w S) (h2 : (ShF GSymbol.row ⟨as_, cs, (elt x.os.l (a : Int)).syms.l.set b (refS s)⟩).holds w S) : (wkX x am as_ cm cs a b (refS s)).ok.holds w S := by
 obtain ⟨g1, g2, g3, g4, g5, g6⟩ := h
 refine ⟨g1, g2, g3, h1, fun o ho => ?_, g6⟩
 rcases List.mem_or_eq_of_mem_set ho with ho | rfl
 · exact g5 o ho
 · have k := g5 _ (List.mem_of_getElem? (elt_nat ha))
   refine ⟨k.1, k.2.1, k.2.2.1, h2, fun y hy => ?_, k.2.2.2.2.2⟩
   rcases List.mem_or_eq_of_mem_set hy with hy | rfl
   · exact k.2.2.2.2.1 y hy
   · exact k.2.2.2.2.1 s (List.mem_of_getElem? hs)
theorem wk_rs {x : G13} {K : List (Sl Bool)} {as_ : Option Addr} {cs a b : Nat} {s : GSymbol} (h : RsOk x.os.l K) (ha : a < x.os.l.length) (hb : s.bind = 2) : RsOk (x.os.l.set a (wkO (elt x.os.l (a : Int)) as_ cs b (refS s))) K where
 n := by rw [List.length_set]; exact h.n
 sy o ho := by
   rcases List.mem_or_eq_of_mem_set ho with ho | rfl
   · exact h.sy o ho
   · show ((elt x.os.l (a : Int)).syms.l.set b (refS s)).length ≤ 14
     rw [List.length_set]; exact h.sy _ (List.mem_of_getElem? (elt_nat ha))
 kn := by rw [List.length_set]; exact h.kn
 ks i hi := by
   rw [List.length_set] at hi
   rw [h.ks i hi]
   by_cases hai : a = i
   · subst hai; rw [elt_set_eq ha]; rfl
   · rw [elt_set_ne hai]
 sec o ho y hy := by
   rcases List.mem_or_eq_of_mem_set ho with ho | rfl
   · exact h.sec o ho y hy
   · rcases List.mem_or_eq_of_mem_set (show y ∈ (elt x.os.l (a : Int)).syms.l.set b (refS s) from hy) with hy | rfl
     · exact h.sec _ (List.mem_of_getElem? (elt_nat ha)) y hy
     · exact .inl ⟨rfl, by show s.bind ≠ 0; omega⟩
structure Wk2 (os : List GObject) (kp : List (Sl Bool)) (sv : ByteArray → ByteArray → Bool) (lf : ByteArray → ByteArray → Int) (lib : Bool) (S2 : List (Sl GChoice)) : Prop where
 fits : Fits os S2
 get : ∀ (i k : Nat) (s : GSymbol) (r : Sl GChoice), (elt os (i : Int)).syms.l[k]? = some s → S2[i]? = some r → ∃ z, r.l[k]? = some z ∧ noWhy z = noWhy (chD kp (flatF os) sv lf lib ⟨⟨(i : Int), (k : Int)⟩, s⟩)
theorem wk2_of {os : List GObject} {kp : List (Sl Bool)} {sv : ByteArray → ByteArray → Bool} {lf : ByteArray → ByteArray → Int} {lib : Bool} {S S2 : List (Sl GChoice)} {ad : Option Addr} {cp a b : Nat} {s : GSymbol}
   (h : Bd13 os kp sv lf lib S) (ha : a < os.length) (hs : (elt os (a : Int)).syms.l[b]? = some s) (hb : s.bind = 2)
   (hk : (chD kp (flatF os) sv lf lib ⟨⟨(a : Int), (b : Int)⟩, s⟩).kind = 2 ∨ (chD kp (flatF os) sv lf lib ⟨⟨(a : Int), (b : Int)⟩, s⟩).kind = 3)
   (hno : ¬ ((chD kp (flatF os) sv lf lib ⟨⟨(a : Int), (b : Int)⟩, s⟩).obj = (a : Int) ∧ (chD kp (flatF os) sv lf lib ⟨⟨(a : Int), (b : Int)⟩, s⟩).sym = (b : Int)))
   (hS : S2.map (·.l) = if bindE kp (flatF (os.set a (wkO (elt os (a : Int)) ad cp b (refS s)))) sv lf lib = none then bindC (os.set a (wkO (elt os (a : Int)) ad cp b (refS s))) kp sv lf lib else []) :
   bindE kp (flatF (os.set a (wkO (elt os (a : Int)) ad cp b (refS s)))) sv lf lib = none ∧ Wk2 os kp sv lf lib S2 := by
 have hm : (⟨⟨(a : Int), (b : Int)⟩, s⟩ : Dfn) ∈ flatF os := flatTo_mem.2 ⟨a, b, ha, hs, rfl⟩
 have hW : Wk kp (flatF os) ⟨⟨(a : Int), (b : Int)⟩, s⟩ (refS s) := ⟨hm, hb, rfl, rfl, hb, rfl, rfl, by
   cases hc : isCh kp (flatF os) ⟨⟨(a : Int), (b : Int)⟩, s⟩ with
   | false => rfl
   | true => exact (hno ((own_iff h.rb hm).2 hc).2).elim⟩
 obtain ⟨_, e, he, _⟩ := chD_def hk
 have hrb := hW.rb (lf := lf) (lib := lib) h.rb ⟨e, he⟩
 have hbe := hrb.to
 have hfl := flat_set (os := os) (b := b) (ad := ad) (cp := cp) (s0 := refS s) ha
 rw [hfl] at hS ⊢
 refine ⟨hbe, ?_⟩
 have hB2 := bd13_of (os := os.set a (wkO (elt os (a : Int)) ad cp b (refS s))) (by rw [hfl]; exact hS) (by rw [hfl]; exact hbe)
 have hsy : ∀ i : Nat, (elt (os.set a (wkO (elt os (a : Int)) ad cp b (refS s))) (i : Int)).syms.l = if a = i then (elt os (a : Int)).syms.l.set b (refS s) else (elt os (i : Int)).syms.l := fun i => by
   by_cases hi : a = i
   · subst hi; rw [if_pos rfl, elt_set_eq ha]; rfl
   · rw [if_neg hi, elt_set_ne hi]
 refine ⟨⟨by rw [hB2.fits.1, List.length_set], fun i hi => ?_⟩, fun i k t r ht hr => ?_⟩
 · rw [hB2.fits.2 i (by rw [List.length_set]; exact hi), hsy]
   split
   · rename_i h1; subst h1; rw [List.length_set]
   · rfl
 · have hi : i < os.length := by
     have h1 := (List.getElem?_eq_some_iff.1 hr).1
     rw [hB2.fits.1, List.length_set] at h1; exact h1
   have hmt : (⟨⟨(i : Int), (k : Int)⟩, t⟩ : Dfn) ∈ flatF os := flatTo_mem.2 ⟨i, k, hi, ht, rfl⟩
   have heq := hW.chD_eq (lf := lf) (lib := lib) h.rb hmt ⟨e, he⟩
   have hg : (elt (os.set a (wkO (elt os (a : Int)) ad cp b (refS s))) (i : Int)).syms.l[k]? = some (rpD ⟨(a : Int), (b : Int)⟩ (refS s) ⟨⟨(i : Int), (k : Int)⟩, t⟩).s := by
     rw [hsy]
     unfold rpD
     by_cases h1 : a = i
     · subst h1
       rw [if_pos rfl, List.getElem?_set]
       by_cases h2 : b = k
       · subst h2
         rw [if_pos rfl, if_pos (List.getElem?_eq_some_iff.1 ht).1, if_pos rfl]
       · rw [if_neg h2, if_neg (fun h => h2 (by have := congrArg GCulprit.sym h; simp only at this; omega))]; exact ht
     · rw [if_neg h1, if_neg (fun h => h1 (by have := congrArg GCulprit.obj h; simp only at this; omega))]; exact ht
   have hz := hB2.get i k _ r hg hr
   rw [hfl] at hz
   have hrp : (⟨⟨(i : Int), (k : Int)⟩, (rpD ⟨(a : Int), (b : Int)⟩ (refS s) ⟨⟨(i : Int), (k : Int)⟩, t⟩).s⟩ : Dfn) = rpD ⟨(a : Int), (b : Int)⟩ (refS s) ⟨⟨(i : Int), (k : Int)⟩, t⟩ := by
     unfold rpD; split <;> rfl
   rw [hrp] at hz
   exact ⟨_, hz, heq⟩
theorem con_bindW (x : G13) (K : Sl (Sl Bool)) (hok : RsOk x.os.l K.l) (S : Sl (Sl GChoice)) (hB : Bd13 x.os.l K.l (srvB x.vs.l) (libR x.ifs.l) x.lib S.l) (am as_ : Option Addr) (cm cs a b : Nat) (s : GSymbol) (ha : a < x.os.l.length) (hs : (elt x.os.l (a : Int)).syms.l[b]? = some s) (hb : s.bind = 2)
   (hk : (chD K.l (flatF x.os.l) (srvB x.vs.l) (libR x.ifs.l) x.lib ⟨⟨(a : Int), (b : Int)⟩, s⟩).kind = 2 ∨ (chD K.l (flatF x.os.l) (srvB x.vs.l) (libR x.ifs.l) x.lib ⟨⟨(a : Int), (b : Int)⟩, s⟩).kind = 3)
   (hno : ¬ ((chD K.l (flatF x.os.l) (srvB x.vs.l) (libR x.ifs.l) x.lib ⟨⟨(a : Int), (b : Int)⟩, s⟩).obj = (a : Int) ∧ (chD K.l (flatF x.os.l) (srvB x.vs.l) (libR x.ifs.l) x.lib ⟨⟨(a : Int), (b : Int)⟩, s⟩).sym = (b : Int))) :
   Con Tryz.prog 13 [.slice am x.os.l.length cm, K.val, .bool x.lib, x.ifs.val, x.vs.val] [AllF (ShF bR) K.l, ShF slR K, (wkX x am as_ cm cs a b (refS s)).ok] [] fun r ps hp => hp = [] ∧ ∃ S2 : Sl (Sl GChoice), ps = [AllF (ShF GChoice.row) S2.l, ShF slR S2] ∧
     r = .tuple #[S2.val, .int .i64 0, (⟨0, 0⟩ : GCulprit).val] ∧ Wk2 x.os.l K.l (srvB x.vs.l) (libR x.ifs.l) x.lib S2.l := by
 have h := con_bind13 (wkX x am as_ cm cs a b (refS s)) K (wk_rs hok ha hb)
 rw [show (wkX x am as_ cm cs a b (refS s)).os.val = .slice am x.os.l.length cm by simp [Sl.val]] at h
 refine h.post ?_
 rintro r ps hp ⟨h1, S2, h2, h3, h4⟩
 obtain ⟨g1, g2⟩ := wk2_of hB ha hs hb hk hno h4
 refine ⟨h1, S2, h2, ?_, g2⟩
 rw [h3, show bindE K.l (flatF (wkX x am as_ cm cs a b (refS s)).os.l) (srvB (wkX x am as_ cm cs a b (refS s)).vs.l) (libR (wkX x am as_ cm cs a b (refS s)).ifs.l) (wkX x am as_ cm cs a b (refS s)).lib = none from g1]; rfl
theorem ent_elt {α : Type} [Inhabited α] {ps : List Per} {f : α → Per} {l : List α} {i : Int} (h : Ent ps (AllF f l)) (h0 : 0 ≤ i) (h1 : i < l.length) : Ent ps (f (elt l i)) := by
 obtain ⟨k, rfl⟩ : ∃ k : Nat, i = k := ⟨i.toNat, by omega⟩
 exact Ent.all h (elt_nat (by omega))
theorem there_in {os : List GObject} {i k : Int} (h : thereB os i k = true) (hb : (elt (elt os i).syms.l k).bind = 2) : ∃ a b : Nat, i = (a : Int) ∧ k = (b : Int) ∧ a < os.length ∧ ∃ s, (elt os (a : Int)).syms.l[b]? = some s ∧ s.bind = 2 := by
 unfold thereB at h
 simp only [Bool.and_eq_true, decide_eq_true_eq] at h
 obtain ⟨⟨⟨h1, h2⟩, h3⟩, h4⟩ := h
 obtain ⟨a, rfl⟩ : ∃ a : Nat, i = a := ⟨i.toNat, by omega⟩
 obtain ⟨b, rfl⟩ : ∃ b : Nat, k = b := ⟨k.toNat, by omega⟩
 exact ⟨a, b, rfl, rfl, by omega, _, elt_nat (by omega), hb⟩
theorem rows_set {α : Type} (row : α → List D) (l : List α) (i : Nat) (v : α) : (l.set i v).map row = (l.map row).set i (row v) := by rw [List.map_set]
end Go.Proofs.YtgmiihmahaahiaaGreatDoor

namespace Go.Proofs.YtgmiihmahaahiaaGreatDoor
open Go.RowKit Go.Lp Go.Sy
open Go.Proofs.Tryz
attribute [local irreducible] aL aB awp aC fwp
set_option maxHeartbeats 1000000 in
theorem con_weak13 (x : G13) (pi pk : Int) : Con Tryz.prog 7 [x.os.val, .bool x.lib, x.ifs.val, x.vs.val, .int .i64 pi, .int .i64 pk] [x.ok] [] fun r _ _ => r = .bool true := by
 refine Con.enter Tryz.func7 rfl (by simp [Tryz.ntmps7]) ?_
 show awp _ _ _ _ ⟨[(0, true, _), (1, true, _), (2, true, _), (3, true, _), (4, true, _), (5, true, _)], _, _⟩
 refine aSR (aA rfl (aNn (aSR ?_)))
 refine aU rfl (q_call (by kernel_rfl) rfl (fun w S fp hst => con_small13.quiet0 hst)) ?_
 refine aA rfl (aNn (aSR (aM rfl (aM rfl (aM rfl ?_)))))
 refine aL_callN (caps := []) [0] (false) (by kernel_rfl) true rfl rfl (fun _ => rfl) (fun hc => rfl) (fun hc => by rw [List.append_nil]; exact con_few13 x) (fun cf hcf => ?_)
 refine aA rfl (aNs (aSR (aM rfl (aU rfl (q_not rfl) (aM rfl (aG rfl rfl (fun hc => q_move rfl) (aG rfl rfl (fun hc => q_move rfl) (aG rfl rfl (fun hc => q_move rfl) ?_))))))))
 refine aG rfl rfl (fun hc => q_call (by kernel_rfl) (evs_cons (ev_yes rfl hc) (evs_cons (ev_yes rfl hc) (evs_cons (ev_yes rfl hc) rfl))) (fun w S fp hst => (con_there13 x _ _).quiet1 (psAt 0 rfl) hst)) ?_
 refine aG rfl rfl (fun hc => q_not (ev_yes rfl hc)) (aU rfl (q_or rfl rfl (fun h => gf rfl h)) (aM rfl (aG rfl rfl (fun hc => q_move rfl) (aG rfl rfl (fun hc => q_move rfl) ?_))))
 refine aL_E _ rfl rfl (fun hc => q_indexAddrG Tryz.underlying22 tk61 (ev_yes rfl hc) ((G13.f_os (.of (psAt 0 rfl)))) (ev_yes rfl hc) (rows_elt (i := pi) (by unfold thereB at hc; simp at hc; omega) (by unfold thereB at hc; simp at hc; omega)) (by unfold thereB at hc; simp at hc; omega) rfl) (fun _ => ⟨(0, 0)⟩) (fun ⟨b3_12, o3_12⟩ => ?_)
 refine aG rfl rfl (fun hc => q_fieldAddr (off := 2) (by kernel_rfl) (ev_yes rfl hc)) ?_
 refine aG rfl rfl (fun hc => q_loadD (o := 2) tk51 (ev_yes rfl hc) (psAt 0 rfl) hc rfl) (aG rfl rfl (fun hc => q_move rfl) ?_)
 refine aL_E _ rfl rfl (fun hc => q_indexAddrG Tryz.underlying51 tk63 (ev_yes rfl hc) ((GObject.f_syms (ent_elt (i := pi) (G13.f_osA (.of (psAt 1 rfl))) (by unfold thereB at hc; simp at hc; omega) (by unfold thereB at hc; simp at hc; omega)))) (ev_yes rfl hc) (rows_elt (i := pk) (by unfold thereB at hc; simp at hc; omega) (by unfold thereB at hc; simp at hc; omega)) (by unfold thereB at hc; simp at hc; omega) rfl) (fun _ => ⟨(0, 0)⟩) (fun ⟨b3_16, o3_16⟩ => ?_)
 refine aG rfl rfl (fun hc => q_fieldAddr (off := 3) (by kernel_rfl) (ev_yes rfl hc)) ?_
 refine aG rfl rfl (fun hc => q_loadD (o := 3) tk3 (ev_yes rfl hc) (psAt 0 rfl) hc rfl) (aG rfl rfl (fun hc => q_neq (ev_yes rfl hc) rfl) (aU rfl (q_or rfl rfl (fun h => gf rfl h)) (aM rfl (aG rfl rfl (fun hc => q_move rfl) (aG rfl rfl (fun hc => q_move rfl) ?_)))))
 refine aL_E _ rfl rfl (fun hc => q_indexAddrG Tryz.underlying22 tk61 (ev_yes rfl hc) ((G13.f_os (.of (psAt 2 rfl)))) (ev_yes rfl hc) (rows_elt (i := pi) (by unfold thereB at hc; simp at hc; omega) (by unfold thereB at hc; simp at hc; omega)) (by unfold thereB at hc; simp at hc; omega) rfl) (fun _ => ⟨(0, 0)⟩) (fun ⟨b3_24, o3_24⟩ => ?_)
 refine aG rfl rfl (fun hc => q_fieldAddr (off := 2) (by kernel_rfl) (ev_yes rfl hc)) ?_
 refine aG rfl rfl (fun hc => q_loadD (o := 2) tk51 (ev_yes rfl hc) (psAt 0 rfl) hc rfl) (aG rfl rfl (fun hc => q_move rfl) ?_)
 refine aL_E _ rfl rfl (fun hc => q_indexAddrG Tryz.underlying51 tk63 (ev_yes rfl hc) ((GObject.f_syms (ent_elt (i := pi) (G13.f_osA (.of (psAt 3 rfl))) (by unfold thereB at hc; simp at hc; omega) (by unfold thereB at hc; simp at hc; omega)))) (ev_yes rfl hc) (rows_elt (i := pk) (by unfold thereB at hc; simp at hc; omega) (by unfold thereB at hc; simp at hc; omega)) (by unfold thereB at hc; simp at hc; omega) rfl) (fun _ => ⟨(0, 0)⟩) (fun ⟨b3_28, o3_28⟩ => ?_)
 refine aG rfl rfl (fun hc => q_fieldAddr (off := 6) (by kernel_rfl) (ev_yes rfl hc)) ?_
 refine aG rfl rfl (fun hc => q_loadD (o := 6) tk3 (ev_yes rfl hc) (psAt 0 rfl) hc rfl) (aG rfl rfl (fun hc => q_lss (ev_yes rfl hc) rfl) (aU rfl (q_or rfl rfl (fun h => gf rfl h)) (aNn ?_)))
 refine awp_cond _ rfl (fun h1 => ?_) (fun h1 => ?_)
 ·skip
  refine aSR (aM rfl (aA rfl (aNn (awp_ret (thn_r ?_)))))
  refine fin1 [] [] rfl Tryz.results7 rfl ?_ (.inr rfl)
  rfl
 ·skip
  have hh : cf = true ∧ thereB x.os.l pi pk = true ∧ (elt (elt x.os.l pi).syms.l pk).bind = 2 := by simp at h1; exact ⟨h1.1.1.1, h1.1.1.2, h1.1.2⟩
  have hF := hcf rfl hh.1
  obtain ⟨a, b, hpa, hpb, ha, s, hsk, hsb⟩ := there_in hh.2.1 hh.2.2
  subst hpa hpb
  refine awp_skip (thn_n (aSR (aM rfl ?_)))
  refine aL_eff (q := true) rfl (e_call [0] [] (by kernel_rfl) rfl rfl rfl rfl (con_keep13 x hF) ?_)
  rintro _ _ _ ⟨rfl, K, dv, rfl, hok, rfl⟩
  refine aL_st (by (try simp only [nM, nN]); rfl) (by (try simp only [putB, place, Nat.reduceBEq, if_true, if_false, reduceIte, Nat.reduceAdd, nW]); rfl) ?_
  refine aM rfl (aU rfl (q_extract rfl rfl) (aU rfl (q_extract rfl rfl) (aA rfl (aA rfl (aNn (aSR (aM rfl (aM rfl (aM rfl (aM rfl (aM rfl ?_)))))))))))
  refine aL_eff (q := true) rfl (e_call [6, 5, 0] [] (by kernel_rfl) rfl rfl rfl rfl (con_bind13 x K hok) ?_)
  rintro _ _ _ ⟨rfl, Cs, rfl, rfl, hS⟩
  refine aL_st (by (try simp only [nM, nN]); rfl) (by (try simp only [putB, place, Nat.reduceBEq, if_true, if_false, reduceIte, Nat.reduceAdd, nW]); rfl) ?_
  refine aM rfl (aU rfl (q_extract rfl rfl) (aU rfl (q_extract rfl rfl) (aU rfl (q_extract rfl rfl) ?_)))
  refine aL_eff (q := true) rfl (x_alloc (zs := [.int .i64 0, .int .i64 0]) (by kernel_rfl) rfl (fun b6_10 => ?_))
  refine aL_hp (by (try simp only [nM, nN]); rfl) ?_
  refine aA rfl (aA rfl ?_)
  refine aL_eff rfl (x_store 0 tk34 rfl rfl rfl rfl ?_)
  refine aL_hp (by (try simp only [nK, nL]); rfl) ?_
  refine aNs (aSR (aM rfl (aU rfl (q_neq rfl rfl) (aNn ?_))))
  refine awp_cond _ rfl (fun h2 => ?_) (fun h2 => ?_)
  ·skip
   refine aSR (aM rfl (aA rfl (aNn (awp_ret (thn_r ?_)))))
   refine fin1 [] [] rfl Tryz.results7 rfl ?_ (.inr rfl)
   rfl
  ·skip
   have hB := bd13_of hS (codeE_0 (by simpa using h2))
   have hn5 := hF.n
   have hsa := elt_nat (l := Cs.l) (i := a) (by have := hB.fits.1; omega)
   have hxa := hB.get a b s _ hsk hsa
   refine awp_skip (thn_n (awp_seq (aSR (aM rfl (aM rfl ?_)))))
   refine aU rfl (q_call (by kernel_rfl) rfl (fun w S fp hst => quiet3 (con_fits13' x Cs hB.fits) (psAt 0 rfl) (psAt 1 rfl) (psAt 8 rfl) hst)) ?_
   refine aU rfl (q_not rfl) (aNn ?_)
   refine awp_cond _ rfl (fun h3 => ?_) (fun h3 => ?_)
   ·skip
    exact absurd h3 (by decide)
   ·skip
    refine awp_skip (thn_n (awp_seq (aSR (aM rfl (aM rfl ?_)))))
    refine aL_E true rfl rfl (fun _ => q_indexAddrG Tryz.underlying31 tk66 rfl ((.of (psAt 1 rfl))) rfl (rows_get hsa) rfl rfl) (fun h => absurd h (by decide)) (fun ⟨b11_2, o11_2⟩ => ?_)
    refine aU rfl (q_loadD (o := 0) tk66 rfl (psAt 0 rfl) rfl rfl) (aM rfl ?_)
    refine aL_E true rfl rfl (fun _ => q_indexAddrG Tryz.underlying66 tk65 rfl ((Ent.all (f := ShF GChoice.row) (.of (psAt 1 rfl)) hsa)) rfl (rows_get hxa) rfl rfl) (fun h => absurd h (by decide)) (fun ⟨b11_5, o11_5⟩ => ?_)
    refine aU rfl (q_fieldAddr (off := 0) (by kernel_rfl) rfl) ?_
    refine aU rfl (q_loadD (o := 0) tk3 rfl (psAt 0 rfl) rfl rfl) (aU rfl (q_neq rfl rfl) (aM rfl (aG rfl rfl (fun hc => q_move rfl) (aG rfl rfl (fun hc => q_move rfl) ?_))))
    refine aL_E _ rfl rfl (fun hc => q_indexAddrG Tryz.underlying31 tk66 (ev_yes rfl hc) ((.of (psAt 3 rfl))) (ev_yes rfl hc) (rows_get hsa) rfl rfl) (fun _ => ⟨(0, 0)⟩) (fun ⟨b11_12, o11_12⟩ => ?_)
    refine aG rfl rfl (fun hc => q_loadD (o := 0) tk66 (ev_yes rfl hc) (psAt 0 rfl) hc rfl) (aG rfl rfl (fun hc => q_move rfl) ?_)
    refine aL_E _ rfl rfl (fun hc => q_indexAddrG Tryz.underlying66 tk65 (ev_yes rfl hc) ((Ent.all (f := ShF GChoice.row) (.of (psAt 3 rfl)) hsa)) (ev_yes rfl hc) (rows_get hxa) rfl rfl) (fun _ => ⟨(0, 0)⟩) (fun ⟨b11_15, o11_15⟩ => ?_)
    refine aG rfl rfl (fun hc => q_fieldAddr (off := 0) (by kernel_rfl) (ev_yes rfl hc)) ?_
    refine aG rfl rfl (fun hc => q_loadD (o := 0) tk3 (ev_yes rfl hc) (psAt 0 rfl) hc rfl) (aG rfl rfl (fun hc => q_neq (ev_yes rfl hc) rfl) (aU rfl (q_and rfl rfl (fun h => gt rfl h)) (aM rfl (aG rfl rfl (fun hc => q_move rfl) (aG rfl rfl (fun hc => q_move rfl) ?_)))))
    refine aL_E _ rfl rfl (fun hc => q_indexAddrG Tryz.underlying31 tk66 (ev_yes rfl hc) ((.of (psAt 5 rfl))) (ev_yes rfl hc) (rows_get hsa) rfl rfl) (fun _ => ⟨(0, 0)⟩) (fun ⟨b11_23, o11_23⟩ => ?_)
    refine aG rfl rfl (fun hc => q_loadD (o := 0) tk66 (ev_yes rfl hc) (psAt 0 rfl) hc rfl) (aG rfl rfl (fun hc => q_move rfl) ?_)
    refine aL_E _ rfl rfl (fun hc => q_indexAddrG Tryz.underlying66 tk65 (ev_yes rfl hc) ((Ent.all (f := ShF GChoice.row) (.of (psAt 5 rfl)) hsa)) (ev_yes rfl hc) (rows_get hxa) rfl rfl) (fun _ => ⟨(0, 0)⟩) (fun ⟨b11_26, o11_26⟩ => ?_)
    refine aG rfl rfl (fun hc => q_fieldAddr (off := 1) (by kernel_rfl) (ev_yes rfl hc)) ?_
    refine aG rfl rfl (fun hc => q_loadD (o := 1) tk3 (ev_yes rfl hc) (psAt 0 rfl) hc rfl) (aG rfl rfl (fun hc => q_move rfl) (aG rfl rfl (fun hc => q_eql (ev_yes rfl hc) (ev_yes rfl hc)) (aG rfl rfl (fun hc => q_move (ev_yes rfl hc)) (aG rfl rfl (fun hc => q_move rfl) (aG rfl rfl (fun hc => q_move rfl) ?_)))))
    refine aL_E _ rfl rfl (fun hc => q_indexAddrG Tryz.underlying31 tk66 (ev_yes rfl hc) ((.of (psAt 7 rfl))) (ev_yes rfl hc) (rows_get hsa) rfl rfl) (fun _ => ⟨(0, 0)⟩) (fun ⟨b11_34, o11_34⟩ => ?_)
    refine aG rfl rfl (fun hc => q_loadD (o := 0) tk66 (ev_yes rfl hc) (psAt 0 rfl) hc rfl) (aG rfl rfl (fun hc => q_move rfl) ?_)
    refine aL_E _ rfl rfl (fun hc => q_indexAddrG Tryz.underlying66 tk65 (ev_yes rfl hc) ((Ent.all (f := ShF GChoice.row) (.of (psAt 7 rfl)) hsa)) (ev_yes rfl hc) (rows_get hxa) rfl rfl) (fun _ => ⟨(0, 0)⟩) (fun ⟨b11_37, o11_37⟩ => ?_)
    refine aG rfl rfl (fun hc => q_fieldAddr (off := 2) (by kernel_rfl) (ev_yes rfl hc)) ?_
    refine aG rfl rfl (fun hc => q_loadD (o := 2) tk3 (ev_yes rfl hc) (psAt 0 rfl) hc rfl) (aG rfl rfl (fun hc => q_move rfl) (aG rfl rfl (fun hc => q_eql (ev_yes rfl hc) (ev_yes rfl hc)) (aG rfl rfl (fun hc => q_and (ev_yes rfl hc) rfl (fun h => gt hc h)) (aU rfl (q_or rfl rfl (fun h => gf rfl h)) (aNn ?_)))))
    refine awp_cond _ rfl (fun h4 => ?_) (fun h4 => ?_)
    ·skip
     refine aSR (aM rfl (aA rfl (aNn (awp_ret (thn_r ?_)))))
     refine fin1 [] [] rfl Tryz.results7 rfl ?_ (.inr rfl)
     rfl
    ·skip
     rw [Bool.or_eq_false_iff] at h4
     have hk23 : (chD K.l (flatF x.os.l) (srvB x.vs.l) (libR x.ifs.l) x.lib ⟨⟨(a : Int), (b : Int)⟩, s⟩).kind = 2 ∨ (chD K.l (flatF x.os.l) (srvB x.vs.l) (libR x.ifs.l) x.lib ⟨⟨(a : Int), (b : Int)⟩, s⟩).kind = 3 := by
       have h := h4.1
       simp at h; omega
     have hno : ¬ ((chD K.l (flatF x.os.l) (srvB x.vs.l) (libR x.ifs.l) x.lib ⟨⟨(a : Int), (b : Int)⟩, s⟩).obj = (a : Int) ∧ (chD K.l (flatF x.os.l) (srvB x.vs.l) (libR x.ifs.l) x.lib ⟨⟨(a : Int), (b : Int)⟩, s⟩).sym = (b : Int)) := by
       have h := h4.2
       simp at h
       exact fun hh => h hh.1 hh.2
     have ho := elt_nat ha
     have ho12 := (hF.o _ (List.mem_of_getElem? ho)).syms
     have hjn := ha
     have hsn := (List.getElem?_eq_some_iff.1 hsk).1
     refine awp_skip (thn_n (awp_seq ?_))
     refine awp_fact (ShF GObject.row x.os) (fun w S hps => (hps x.ok (by simp)).2.2.2.1) ?_
     refine awp_fact (ShF GSymbol.row (elt x.os.l (a : Int)).syms) (fun w S hps => ((hps x.ok (by simp)).2.2.2.2.1 _ (List.mem_of_getElem? ho)).2.2.2.1) ?_
     refine awp_region ?_
     refine aL_eff (q := true) rfl (w_lit0 el22 rfl (fun v13_0 => ?_))
     refine aL_hp (by (try simp only [nM, nN]); rfl) ?_
     refine aM rfl ?_
     refine aL_eff (q := true) rfl (w_appendQ 1 el22 el22 rfl rfl rfl rfl (psAt 1 rfl) ((fun r hr => by obtain ⟨o, _, rfl⟩ := List.mem_map.1 hr; rfl)) (by simp; omega) (x.os.l.length) (by simp; try omega) (fun v13_2 c13_2 => ?_))
     refine aL_hp (by (try simp only [nK, nL]); rfl) ?_
     refine aA rfl (aNs ?_)
     refine awp_formV 1 rfl (fun h0 => by have := congrArg List.length h0; simp at this; rw [this] at hjn; simp at hjn) (fun B cpb hvb => ?_)
     obtain ⟨rfl, rfl⟩ : v13_2 = some ⟨B, 0, none⟩ ∧ c13_2 = cpb := by simp at hvb; exact ⟨hvb.1, hvb.2⟩
     refine awp_region (aM rfl (aM rfl ?_))
     refine aL_eff (q := true) rfl (w_lit0 el51 rfl (fun v14_2 => ?_))
     refine aL_hp (by (try simp only [nM, nN]); rfl) ?_
     refine aM rfl (aM rfl ?_)
     refine aL_E true rfl rfl (fun _ => q_indexAddrG Tryz.underlying22 tk61 rfl ((G13.f_os (.of (psAt 18 rfl)))) rfl (rows_get ho) rfl rfl) (fun h => absurd h (by decide)) (fun ⟨b14_5, o14_5⟩ => ?_)
     refine aU rfl (q_fieldAddr (off := 2) (by kernel_rfl) rfl) ?_
     refine aU rfl (q_loadD (o := 2) tk51 rfl (psAt 0 rfl) rfl rfl) ?_
     refine aL_eff (q := true) rfl (w_appendQ 2 el51 el51 rfl rfl rfl rfl (psAt 1 rfl) ((fun r hr => by obtain ⟨o, _, rfl⟩ := List.mem_map.1 hr; rfl)) (by simp; omega) ((elt x.os.l (a : Int)).syms.l.length) (by simp; try omega) (fun v14_8 c14_8 => ?_))
     refine aL_hp (by (try simp only [nK, nL]); rfl) ?_
     refine aU rfl (q_idxVV a el22 rfl rfl rfl hjn) ?_
     refine aU rfl (q_fieldAddr (off := 2) (by kernel_rfl) rfl) ?_
     refine aL_eff (q := false) rfl (e_storeO 1 a 2 tk51 rfl rfl rfl (rows_get ho) rfl (.v rfl .nil) rfl (by decide) ?_)
     refine aNs ?_
     refine awp_formV 2 rfl (fun h0 => by have := congrArg List.length h0; simp at this; rw [this] at hsn; simp at hsn) (fun B2 cpb2 hvb2 => ?_)
     obtain ⟨rfl, rfl⟩ : v14_8 = some ⟨B2, 0, none⟩ ∧ c14_8 = cpb2 := by simp at hvb2; exact ⟨hvb2.1, hvb2.2⟩
     have hrow2 : ((x.os.l.map GObject.row).set a (setD (GObject.row (elt x.os.l (a : Int))) 2 [D.v (.slice (some ⟨B2, 0, none⟩) (elt x.os.l (a : Int)).syms.l.length c14_8)]))[a]? = some (setD (GObject.row (elt x.os.l (a : Int))) 2 [D.v (.slice (some ⟨B2, 0, none⟩) (elt x.os.l (a : Int)).syms.l.length c14_8)]) := List.getElem?_set_self (by simpa using hjn)
     refine awp_region (aM rfl (aM rfl (aU rfl (q_idxVV a el22 rfl rfl rfl hjn) ?_)))
     refine aU rfl (q_fieldAddr (off := 2) (by kernel_rfl) rfl) ?_
     refine aU rfl (q_loadO (v := .slice (some ⟨B, 0, none⟩) x.os.l.length c13_2) (u := .slice (some ⟨B2, 0, none⟩) (elt x.os.l (a : Int)).syms.l.length c14_8) 1 a 2 tk51 rfl rfl hrow2 rfl rfl) (aM rfl (aU rfl (q_idxVV b el51 rfl rfl rfl hsn) (aU rfl (q_loadO (v := .slice (some ⟨B2, 0, none⟩) (elt x.os.l (a : Int)).syms.l.length c14_8) (u := s.val) 2 b 0 tk63 rfl rfl (rows_get hsk) rfl rfl) ?_)))
     refine aL_eff (q := true) rfl (x_alloc (zs := [.string .empty, .string .empty, .bool false, .int .i64 0, .int .i64 0, .int .i64 0, .int .i64 0, .int .i64 0, .int .i64 0, .int .i64 0]) (by kernel_rfl) rfl (fun b15_8 => ?_))
     refine aL_hp (by (try simp only [nM, nN]); rfl) ?_
     refine aL_eff rfl (x_store 3 tk63 rfl rfl rfl rfl ?_)
     refine aL_hp (by (try simp only [nK, nL]); rfl) ?_
     refine aNs ?_
     refine awp_drawn [18] (by kernel_rfl) ?_
     show aB _ _ _ _ _ 19 #[false, false, false, false, false, false, false, false, false, false, false, false, false, false, false, false, false, false, false] _
     refine bU 0 rfl (by kernel_rfl) rfl (q_move rfl) ?_
     refine bU 1 rfl (by kernel_rfl) rfl (q_move rfl) ?_
     refine bU 2 rfl (by kernel_rfl) rfl (q_idxVV a el22 rfl rfl rfl hjn) ?_
     refine bU 3 rfl (by kernel_rfl) rfl (q_fieldAddr (off := 2) (by kernel_rfl) rfl) ?_
     refine bU 4 rfl (by kernel_rfl) rfl (q_loadO (v := .slice (some ⟨B, 0, none⟩) x.os.l.length c13_2) (u := .slice (some ⟨B2, 0, none⟩) (elt x.os.l (a : Int)).syms.l.length c14_8) 1 a 2 tk51 rfl rfl hrow2 rfl rfl) ?_
     refine bU 5 rfl (by kernel_rfl) rfl (q_move rfl) ?_
     refine bU 6 rfl (by kernel_rfl) rfl (q_fieldAddr (off := 0) (by kernel_rfl) rfl) ?_
     refine bU 7 rfl (by kernel_rfl) rfl (q_load 3 tk9 rfl rfl rfl) ?_
     refine bU 8 rfl (by kernel_rfl) rfl (q_fieldAddr (off := 1) (by kernel_rfl) rfl) ?_
     refine bU 9 rfl (by kernel_rfl) rfl (q_load 3 tk9 rfl rfl rfl) ?_
     refine bU 10 rfl (by kernel_rfl) rfl (q_fieldAddr (off := 3) (by kernel_rfl) rfl) ?_
     refine bU 11 rfl (by kernel_rfl) rfl (q_load 3 tk3 rfl rfl rfl) ?_
     refine bU 12 rfl (by kernel_rfl) rfl (q_fieldAddr (off := 4) (by kernel_rfl) rfl) ?_
     refine bU 13 rfl (by kernel_rfl) rfl (q_load 3 tk3 rfl rfl rfl) ?_
     refine bU 14 rfl (by kernel_rfl) rfl (q_fieldAddr (off := 5) (by kernel_rfl) rfl) ?_
     refine bU 15 rfl (by kernel_rfl) rfl (q_load 3 tk3 rfl rfl rfl) ?_
     refine bU 16 rfl (by kernel_rfl) rfl (q_bld (l := [(0, .tmp 164), (1, .tmp 166), (3, .tmp 168), (4, .tmp 170), (5, .tmp 172), (6, .const (.int .i64 (-1)))]) (zs := [.string .empty, .string .empty, .bool false, .int .i64 0, .int .i64 0, .int .i64 0, .int .i64 0, .int .i64 0, .int .i64 0, .int .i64 0]) (pl := [(0, 1), (1, 1), (2, 1), (3, 1), (4, 1), (5, 1), (6, 1), (7, 1), (8, 1), (9, 1)]) (by kernel_rfl) (by kernel_rfl) (by kernel_rfl) rfl rfl rfl) ?_
     refine bU 17 rfl (by kernel_rfl) rfl (q_idxVV b el51 rfl rfl rfl hsn) ?_
     refine aB_eff (q := false) 18 rfl (by kernel_rfl) rfl rfl (e_storeO 2 b 0 tk63 rfl rfl rfl (rows_get hsk) rfl (.v rfl (.v rfl (.v rfl (.v rfl (.v rfl (.v rfl (.v rfl (.v rfl (.v rfl (.v rfl .nil)))))))))) rfl (by decide) ?_)
     refine aB_st rfl (by (try simp only [nM, nN]); rfl) (by (try simp only [putB, place, Nat.reduceBEq, if_true, if_false, reduceIte, Nat.reduceAdd, nW]); rfl) ?_
     refine aB_nil (by kernel_rfl) ?_
     refine thn_n (awp_seq ?_)
     refine aw_hp (hp' := [_, OwnS (.slice (some ⟨B, 0, none⟩) x.os.l.length c13_2) 61 11 ((wkX x (some ⟨B, 0, none⟩) (some ⟨B2, 0, none⟩) c13_2 c14_8 a b (refS s)).os.l.map GObject.row), OwnS (.slice (some ⟨B2, 0, none⟩) (elt x.os.l (a : Int)).syms.l.length c14_8) 63 10 (((elt x.os.l (a : Int)).syms.l.set b (refS s)).map GSymbol.row), _]) (by
       show _ = [_, OwnS _ _ _ ((x.os.l.set a _).map GObject.row), OwnS _ _ _ (((elt x.os.l (a : Int)).syms.l.set b _).map GSymbol.row), _]
       rw [rows_set, rows_set]
       show _ = [_, OwnS _ _ _ ((x.os.l.map GObject.row).set a [_, _, D.v (.slice _ ((elt x.os.l (a : Int)).syms.l.set b _).length _), _, _, _, _, _, _, _, _]), _, _]
       rw [List.length_set]; rfl) ?_
     refine awp_share 1 rfl (awp_share 2 rfl ?_)
     refine awp_fact (wkX x (some ⟨B, 0, none⟩) (some ⟨B2, 0, none⟩) c13_2 c14_8 a b (refS s)).ok (fun w S hps => wk_ok (hps x.ok (by simp)) hjn hsk (by have h := hps (Sh (.slice (some ⟨B, 0, none⟩) x.os.l.length c13_2) (.sl ((wkX x (some ⟨B, 0, none⟩) (some ⟨B2, 0, none⟩) c13_2 c14_8 a b (refS s)).os.l.map GObject.row))) (by simp); show RepD w S (.slice (some ⟨B, 0, none⟩) (x.os.l.set a _).length c13_2) _; rw [List.length_set]; exact h) (by have h := hps (Sh (.slice (some ⟨B2, 0, none⟩) (elt x.os.l (a : Int)).syms.l.length c14_8) (.sl (((elt x.os.l (a : Int)).syms.l.set b (refS s)).map GSymbol.row))) (by simp); show RepD w S (.slice (some ⟨B2, 0, none⟩) ((elt x.os.l (a : Int)).syms.l.set b (refS s)).length c14_8) _; rw [List.length_set]; exact h)) ?_
     refine awp_region (aM rfl (aM rfl (aM rfl (aM rfl (aM rfl ?_)))))
     refine aL_eff (q := true) rfl (e_call [6, 5, 22] [] (by kernel_rfl) rfl rfl rfl rfl (con_bindW x K hok Cs hB (some ⟨B, 0, none⟩) (some ⟨B2, 0, none⟩) c13_2 c14_8 a b s hjn hsk hsb hk23 hno) ?_)
     rintro _ _ _ ⟨rfl, Ds, rfl, rfl, hD⟩
     refine aL_st (by (try simp only [nM, nN]); rfl) (by (try simp only [putB, place, Nat.reduceBEq, if_true, if_false, reduceIte, Nat.reduceAdd, nW]); rfl) ?_
     refine aM rfl (aU rfl (q_extract rfl rfl) (aU rfl (q_extract rfl rfl) (aU rfl (q_extract rfl rfl) ?_)))
     refine aL_eff (q := true) rfl (x_alloc (zs := [.int .i64 0, .int .i64 0]) (by kernel_rfl) rfl (fun b17_10 => ?_))
     refine aL_hp (by (try simp only [nM, nN]); rfl) ?_
     refine aA rfl (aA rfl ?_)
     refine aL_eff rfl (x_store 4 tk34 rfl rfl rfl rfl ?_)
     refine aL_hp (by (try simp only [nK, nL]); rfl) ?_
     refine aNs (aSR (aM rfl (aU rfl (q_neq rfl rfl) (aM rfl (aG rfl rfl (fun hc => q_move rfl) (aG rfl rfl (fun hc => q_move rfl) ?_))))))
     refine aG rfl rfl (fun hc => q_call (by kernel_rfl) (evs_cons (ev_yes rfl hc) (evs_cons (ev_yes rfl hc) rfl)) (fun w S fp hst => quiet3 (con_fits13' x Ds hD.fits) (psAt 0 rfl) (psAt 1 rfl) (psAt 24 rfl) hst)) ?_
     refine aG rfl rfl (fun hc => q_not (ev_yes rfl hc)) (aU rfl (q_or rfl rfl (fun h => gf rfl h)) (aNn ?_))
     refine awp_cond _ rfl (fun h5 => ?_) (fun h5 => ?_)
     ·skip
      exact absurd h5 (by decide)
     ·skip
      refine awp_skip (thn_n (awp_seq (aSR (aA rfl (aNn ?_)))))
      refine awp_block (awp_loopK [0, 13, 17, 22, 25] [24, 23, 8, 7, 0] [] (fun (i : Nat) st => i ≤ x.os.l.length ∧ st = ⟨[(0, true, x.os.val), (13, true, .bool true), (17, true, Cs.val), (22, true, Ds.val), (25, true, .int .i64 i)], [AllF (ShF GChoice.row) Ds.l, ShF slR Ds, AllF (ShF GChoice.row) Cs.l, ShF slR Cs, x.ok], []⟩) (fun i => x.os.l.length - i) rfl (⟨0, Nat.zero_le _, rfl⟩) ?_)
      rintro i st ⟨hi, rfl⟩
      refine awp_seq (aSR (aM rfl (aM rfl (aU rfl (q_lenS Tryz.underlying22 rfl) (aU rfl (q_lss rfl rfl) (aNn ?_))))))
      refine awp_cond _ rfl (fun h6 => ?_) (fun h6 => ?_)
      ·skip
       have hi' : i < x.os.l.length := by simp at h6; omega
       have hoi := elt_nat hi'
       have hs := elt_nat (l := Cs.l) (i := i) (by have := hB.fits.1; omega)
       have hd := elt_nat (l := Ds.l) (i := i) (by have := hD.fits.1; omega)
       have hget := fun k s hk => hB.get i k s (elt Cs.l (i : Int)) hk hs
       have hgetd := fun k s hk => hD.get i k s (elt Ds.l (i : Int)) hk hd
       generalize elt x.os.l (i : Int) = o at hoi hget hgetd
       generalize elt Cs.l (i : Int) = r at hs hget
       generalize elt Ds.l (i : Int) = rd at hd hgetd
       have hoi12 := (hF.o o (List.mem_of_getElem? hoi)).syms
       refine awp_skip (thn_n (awp_seq (awp_block (aSR (aA rfl (aL_nil ?_))))))
       refine thn_n (awp_block (awp_loopK [0, 13, 17, 22, 25, 26] [4, 3, 2, 1, 0] [] (fun (k : Nat) st => k ≤ o.syms.l.length ∧ st = ⟨[(0, true, x.os.val), (13, true, .bool true), (17, true, Cs.val), (22, true, Ds.val), (25, true, .int .i64 i), (26, true, .int .i64 k)], [AllF (ShF GChoice.row) Ds.l, ShF slR Ds, AllF (ShF GChoice.row) Cs.l, ShF slR Cs, x.ok], []⟩) (fun k => o.syms.l.length - k) rfl (⟨0, Nat.zero_le _, rfl⟩) ?_))
       rintro k st ⟨hk, rfl⟩
       refine awp_seq (aSR (aM rfl (aM rfl (aM rfl ?_))))
       refine aL_E true rfl rfl (fun _ => q_indexAddrG Tryz.underlying22 tk61 rfl ((G13.f_os (.of (psAt 4 rfl)))) rfl (rows_get hoi) rfl rfl) (fun h => absurd h (by decide)) (fun ⟨b24_3, o24_3⟩ => ?_)
       refine aU rfl (q_fieldAddr (off := 2) (by kernel_rfl) rfl) ?_
       refine aU rfl (q_loadD (o := 2) tk51 rfl (psAt 0 rfl) rfl rfl) (aU rfl (q_lenS Tryz.underlying51 rfl) (aU rfl (q_lss rfl rfl) (aNn ?_)))
       refine awp_cond _ rfl (fun h7 => ?_) (fun h7 => ?_)
       ·skip
        have hk' : k < o.syms.l.length := by simp at h7; omega
        obtain ⟨t, htk⟩ : ∃ t, o.syms.l[k]? = some t := ⟨_, List.getElem?_eq_getElem hk'⟩
        have hx := hget k t htk
        obtain ⟨z, hz, hzx⟩ := hgetd k t htk
        generalize chD K.l (flatF x.os.l) (srvB x.vs.l) (libR x.ifs.l) x.lib ⟨⟨(i : Int), (k : Int)⟩, t⟩ = y at hx hzx
        refine awp_skip (thn_n (awp_seq (awp_block (aSR (aM rfl (aM rfl ?_))))))
        refine aL_E true rfl rfl (fun _ => q_indexAddrG Tryz.underlying31 tk66 rfl ((.of (psAt 4 rfl))) rfl (rows_get hs) rfl rfl) (fun h => absurd h (by decide)) (fun ⟨b26_2, o26_2⟩ => ?_)
        refine aU rfl (q_loadD (o := 0) tk66 rfl (psAt 0 rfl) rfl rfl) (aM rfl ?_)
        refine aL_E true rfl rfl (fun _ => q_indexAddrG Tryz.underlying66 tk65 rfl ((Ent.all (f := ShF GChoice.row) (.of (psAt 4 rfl)) hs)) rfl (rows_get hx) rfl rfl) (fun h => absurd h (by decide)) (fun ⟨b26_5, o26_5⟩ => ?_)
        refine aU rfl (q_loadD (o := 0) tk65 rfl (psAt 0 rfl) rfl rfl) ?_
        refine aL_eff (q := true) rfl (x_alloc (zs := [.int .i64 0, .int .i64 0, .int .i64 0, .int .i64 0, .int .i64 0, .bool false]) (by kernel_rfl) rfl (fun b26_7 => ?_))
        refine aL_hp (by (try simp only [nM, nN]); rfl) ?_
        refine aL_eff rfl (x_store 0 tk65 rfl rfl rfl rfl ?_)
        refine aL_hp (by (try simp only [nK, nL]); rfl) ?_
        refine aNn (aSR (aM rfl (aM rfl ?_)))
        refine aL_E true rfl rfl (fun _ => q_indexAddrG Tryz.underlying31 tk66 rfl ((.of (psAt 4 rfl))) rfl (rows_get hd) rfl rfl) (fun h => absurd h (by decide)) (fun ⟨b27_2, o27_2⟩ => ?_)
        refine aU rfl (q_loadD (o := 0) tk66 rfl (psAt 0 rfl) rfl rfl) (aM rfl ?_)
        refine aL_E true rfl rfl (fun _ => q_indexAddrG Tryz.underlying66 tk65 rfl ((Ent.all (f := ShF GChoice.row) (.of (psAt 4 rfl)) hd)) rfl (rows_get hz) rfl rfl) (fun h => absurd h (by decide)) (fun ⟨b27_5, o27_5⟩ => ?_)
        refine aU rfl (q_loadD (o := 0) tk65 rfl (psAt 0 rfl) rfl rfl) ?_
        refine aL_eff (q := true) rfl (x_alloc (zs := [.int .i64 0, .int .i64 0, .int .i64 0, .int .i64 0, .int .i64 0, .bool false]) (by kernel_rfl) rfl (fun b27_7 => ?_))
        refine aL_hp (by (try simp only [nM, nN]); rfl) ?_
        refine aL_eff rfl (x_store 1 tk65 rfl rfl rfl rfl ?_)
        refine aL_hp (by (try simp only [nK, nL]); rfl) ?_
        refine aNn (aSR ?_)
        refine aU rfl (q_fieldAddr (off := 4) (by kernel_rfl) rfl) ?_
        refine aL_eff rfl (x_store 0 tk3 rfl rfl rfl rfl ?_)
        refine aL_hp (by (try simp only [nK, nL]); rfl) ?_
        refine aNn (aSR ?_)
        refine aU rfl (q_fieldAddr (off := 4) (by kernel_rfl) rfl) ?_
        refine aL_eff rfl (x_store 1 tk3 rfl rfl rfl rfl ?_)
        refine aL_hp (by (try simp only [nK, nL]); rfl) ?_
        refine aNn (aSR (aU rfl (q_load 0 tk65 rfl rfl rfl) (aU rfl (q_load 1 tk65 rfl rfl rfl) (aU rfl (q_neqC (noWhy y) (noWhy z) rfl rfl) (aNn ?_)))))
        refine awp_cond _ rfl (fun h8 => ?_) (fun h8 => ?_)
        ·skip
         exfalso
         rw [hzx] at h8
         simp at h8
        ·skip
         refine awp_skip (blk_n (thn_n (awp_region (aM rfl ?_))))
         refine aU rfl (q_addi rfl rfl (by omega)) ?_
         refine aA rfl (aNn ?_)
         refine ⟨[0, 13, 17, 22, 25, 26], [4, 3, 2, 1, 0], [], rfl, ?_⟩
         exact ⟨k + 1, ⟨by omega, rfl⟩, by omega⟩
       ·skip
        refine awp_exit (thn_e (thn_e (blk_hit (blk_n (thn_n (awp_region (aM rfl ?_)))))))
        refine aU rfl (q_addi rfl rfl (by omega)) ?_
        refine aA rfl (aNn ?_)
        refine ⟨[0, 13, 17, 22, 25], [4, 3, 2, 1, 0], [], rfl, ?_⟩
        exact ⟨i + 1, ⟨by omega, rfl⟩, by omega⟩
      ·skip
       refine awp_exit (thn_e (thn_e (blk_hit (thn_n (aSR (aM rfl (aA rfl (aNn (awp_ret ?_)))))))))
       refine fin1 [] [] rfl Tryz.results7 rfl ?_ (.inr rfl)
       rfl
end Go.Proofs.YtgmiihmahaahiaaGreatDoor

namespace Go.Proofs.YtgmiihmahaahiaaGreatDoor.resolveWeak
open Go.ChangeShapes Go.WideShapes Go.ChangeAt Go.RowKit
open Go.Lp Go.Sy
open Go.ChangeMaps (open_string shut_string)
theorem door_met (os : Os) (args : Array Value) : laidMetH Tryz.prog Rows.resolveWeakRow.laid ((World.doorLaid Tryz.prog 400 os).forCall (fun _ _ => 0) ⟨#[], args, []⟩).memory :=
 laidMetH_of_parts3 (fuel := 8) (laidMet_of_run' 8 (by kernel_rfl) (by kernel_rfl)) (by kernel_rfl) (by kernel_rfl)
set_option maxRecDepth 100000 in
theorem lifted (os : Os) (started : os.Started) (H : Type) (enc : TypeId × Value → H) :
   ReturnsInHanded {} Tryz.checked os 7 .any (fun w args => (Rows.resolveWeakSpec.pre enc Tryz.prog Tryz.f7 [] false w args ∧ laidMetH Tryz.prog Rows.resolveWeakRow.laid w) ∧ sizedMet enc Tryz.prog Tryz.f7 (OpenSpec.ofChange Rows.resolveWeakSpec) false w args)
     (Rows.resolveWeakSpec.post enc Tryz.prog Tryz.f7 false true false false) := by
 refine returnsInHanded_of_change_and (C := Tryz.checked) (X := fun w _ => laidMetH Tryz.prog Rows.resolveWeakRow.laid w) (fun _ _ _ hh h => h.of_heap hh) own started (by kernel_rfl) Tryz.func7
   (ChangeSpec.witness_shaped (enc := enc) (C := Tryz.checked) (os := os) (X := fun w _ => laidMetH Tryz.prog Rows.resolveWeakRow.laid w) false (World.doorLaid Tryz.prog 400 os) #[.slice none 0 0, .bool false, .slice none 0 0, .slice none 0 0, .int .i64 0, .int .i64 0] 12 rfl (World.shaped_of_RefB (by kernel_rfl) (by kernel_rfl)) (by kernel_rfl) (by kernel_rfl) (by kernel_rfl) (door_met os _)) ?_
 intro W base args ds gs before hval0 hW _ _ hL _
 have hval : ∀ (j : Nat) t v, Tryz.f7.params[j]? = some t → args[j]? = some v → Value.okWide Tryz.prog W .any base t v := hval0
 have hW' := hW
 obtain ⟨p, q, hA0, hV, rfl, hfz, hnd⟩ := hW
 have hA : DataW.TrodAll enc Tryz.prog W 0 (fun _ => true) true Tryz.f7.params.toList args.toList ds p := hA0
 rw [Tryz.params7] at hA hval
 obtain ⟨v0, vs0, d0, ds0, p0, q0, hargs, rfl, rfl, h0, r0⟩ := trodAll_cons hA
 obtain ⟨v1, vs1, d1, ds1, p1, q1, rfl, rfl, rfl, h1, r1⟩ := trodAll_cons r0
 obtain ⟨v2, vs2, d2, ds2, p2, q2, rfl, rfl, rfl, h2, r2⟩ := trodAll_cons r1
 obtain ⟨v3, vs3, d3, ds3, p3, q3, rfl, rfl, rfl, h3, r3⟩ := trodAll_cons r2
 obtain ⟨v4, vs4, d4, ds4, p4, q4, rfl, rfl, rfl, h4, r4⟩ := trodAll_cons r3
 obtain ⟨v5, vs5, d5, ds5, p5, q5, rfl, rfl, rfl, h5, r5⟩ := trodAll_cons r4
 obtain ⟨rfl, rfl, rfl⟩ := trodAll_nil r5
 obtain rfl : args = #[v0, v1, v2, v3, v4, v5] := by cases args; simp_all
 obtain ⟨rfl, rfl⟩ := trodVars_none hV
 have hlaid := of_laid hL
 obtain ⟨ad0, len0, cap0, rfl⟩ := okWide_slice Tryz.underlying22 (hval 0 22 v0 rfl rfl)
 have k0 := h0
 have lt0 : ∀ x ∈ p0, x.block < W.heap.size := by obtain ⟨m, hm⟩ := k0; exact DataW.trod_lt m _ _ _ hm
 obtain ⟨a1, rfl, rfl, rfl⟩ := open_bool Tryz.underlying4 (hval 1 4 v1 rfl rfl) h1
 obtain ⟨ad2, len2, cap2, rfl⟩ := okWide_slice Tryz.underlying23 (hval 2 23 v2 rfl rfl)
 have k2 := h2
 have lt2 : ∀ x ∈ p2, x.block < W.heap.size := by obtain ⟨m, hm⟩ := k2; exact DataW.trod_lt m _ _ _ hm
 obtain ⟨ad3, len3, cap3, rfl⟩ := okWide_slice Tryz.underlying24 (hval 3 24 v3 rfl rfl)
 have k3 := h3
 have lt3 : ∀ x ∈ p3, x.block < W.heap.size := by obtain ⟨m, hm⟩ := k3; exact DataW.trod_lt m _ _ _ hm
 obtain ⟨a4, rfl, rfl, rfl, w4⟩ := open_int Tryz.underlying3 (hval 4 3 v4 rfl rfl) h4
 obtain ⟨a5, rfl, rfl, rfl, w5⟩ := open_int Tryz.underlying3 (hval 5 3 v5 rfl rfl) h5
 obtain ⟨x, e0, e1, e2, e3, hok⟩ : ∃ x : G13, Value.slice ad0 len0 cap0 = x.os.val ∧ a1 = x.lib ∧ Value.slice ad2 len2 cap2 = x.ifs.val ∧ Value.slice ad3 len3 cap3 = x.vs.val ∧ x.ok.holds W (fun b => b < W.heap.size) := by
   obtain ⟨f0, g0⟩ := h0
   obtain ⟨f2, g2⟩ := h2
   obtain ⟨f3, g3⟩ := h3
   exact g13_in a1 (by simpa [Value.cells] using g0) (by simpa [Value.cells] using g2) (by simpa [Value.cells] using g3) hlaid
 clear hA0 hval0
 have hc := (con_weak13 x a4 a5).quiet1 (List.mem_singleton.2 rfl) (st_in (w := W) (ps := [x.ok]) fun p hp => by rw [List.mem_singleton.1 hp]; exact hok)
 rw [← e0, ← e1, ← e2, ← e3] at hc
 refine hc.mono fun e W' ⟨he, bel⟩ => ?_
 subst he
 exact ⟨_, rfl, _, _, _, [], _, [], hW', trodAll_mk1 (shut_bool Tryz.underlying4 _), (trodAll_cons_mk (Below.trod laidOut (by kernel_rfl) (of_decide_eq_true (by kernel_rfl)) k0 bel.kit lt0) (trodAll_cons_mk (shut_bool Tryz.underlying4 _) (trodAll_cons_mk (Below.trod laidOut (by kernel_rfl) (of_decide_eq_true (by kernel_rfl)) k2 bel.kit lt2) (trodAll_cons_mk (Below.trod laidOut (by kernel_rfl) (of_decide_eq_true (by kernel_rfl)) k3 bel.kit lt3) (trodAll_cons_mk (shut_int Tryz.underlying3 w4) (trodAll_cons_mk (shut_int Tryz.underlying3 w5) trodAll_mk0)))))), rfl, bel.kit.frame _, fun h => by cases h⟩
theorem named : Tryz.prog.funcNamed "linchpin/linchpinlaw13.ResolveWeak" = some 7 := by kernel_rfl
set_option maxHeartbeats 4000000 in
theorem closed : joinedFacts Tryz.prog 7 Tryz.f7 Rows.resolveWeakSpec Rows.resolveWeakRow = true := by
 unfold joinedFacts
 repeat' with_reducible refine Bool.and_eq_true_iff.2 ⟨?_, ?_⟩
 all_goals (as_aux_lemma => kernel_rfl)
theorem over : Rows.ResolveWeakSaid :=
 OpenClaim.holds_of_wide 7 Tryz.f7 rfl rfl rfl rfl rfl rfl rfl ⟨rfl, rfl, rfl, rfl, rfl⟩ rfl rfl rfl rfl rfl named Tryz.func7 closed
   (of_decide_eq_true (by as_aux_lemma => kernel_rfl)) (by unfold Func.isWrapper; first | (rw [if_pos (by decide +kernel)]; kernel_rfl) | (rw [if_neg (by decide +kernel)]; exact ⟨rfl, rfl⟩))
   (fun os started H enc _ => lifted os started H enc)
set_option maxHeartbeats 4000000 in
theorem proved : Rows.ResolveWeakCardSaid :=
 Claim7.holds_tied_plain_at .later [] [.data, .data, .widerDeep] true _ false
   over (fun _ h => by cases h) (by as_aux_lemma => kernel_rfl) (fun _ h => by cases h) resolveWeak_row_tie rfl ⟨rfl, rfl⟩ (by as_aux_lemma => kernel_rfl) rfl
   (fun f fn hf hfn => by
     obtain rfl : f = 7 := Option.some.inj (named.symm.trans hf) |>.symm
     obtain rfl : fn = Tryz.f7 := (Option.some.inj (Tryz.func7.symm.trans hfn)).symm
     exact ⟨by as_aux_lemma => kernel_rfl, fun j t ht => by
       rw [Tryz.params7] at ht
       have hm : t ∈ [22, 4, 23, 24, 3, 3] := by simpa using Array.mem_of_getElem? ht
       have hall : ([22, 4, 23, 24, 3, 3].all fun u => !Tryz.prog.wantsStandIn u) = true := by as_aux_lemma => kernel_rfl
       exact (show Tryz.prog.wantsStandIn t = false by simpa using List.all_eq_true.1 hall t (by simpa using hm))⟩)
   (by as_aux_lemma => kernel_rfl)
end Go.Proofs.YtgmiihmahaahiaaGreatDoor.resolveWeak

