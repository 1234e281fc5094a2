/- Parts of the proof, in build order. No condition. -/
import Derived.Test.YtgmiihmahaahiaaGreatDoorQa10
import Derived.Test.YtgmiihmahaahiaaGreatDoorQa03
import Derived.Test.YtgmiihmahaahiaaGreatDoorQa09
import Derived.Test.YtgmiihmahaahiaaGreatDoorQa04
set_option linter.unusedSimpArgs false
set_option linter.unusedVariables false
set_option maxHeartbeats 1000000
set_option maxRecDepth 20000
namespace Go.Proofs.YtgmiihmahaahiaaGreatDoor
open Go.RowKit Go.Lp Go.Sy
open Go.Proofs.Tryz
attribute [local irreducible] aL aB awp aC fwp
def cmpC (p q : GCulprit) : Int := if cmpI p.obj q.obj ≠ 0 then cmpI p.obj q.obj else cmpI p.sym q.sym
theorem cmpI_neg (a b : Int) : cmpI a b < 0 ↔ a < b := by unfold cmpI; split <;> (try split) <;> omega
theorem cmpI_zero (a b : Int) : cmpI a b = 0 ↔ a = b := by unfold cmpI; split <;> (try split) <;> omega
theorem cmpC_neg (p q : GCulprit) : cmpC p q < 0 ↔ ltC p q := by
 unfold cmpC ltC
 have h1 := cmpI_neg p.obj q.obj
 have h2 := cmpI_zero p.obj q.obj
 have h3 := cmpI_neg p.sym q.sym
 split <;> omega
theorem con_before (p q : GCulprit) : Con Tryz.prog 89 [p.val, q.val] [] [] (fun r _ _ => r = .int .i64 (cmpC p q)) := by
 refine Con.enter Tryz.func89 rfl (by simp [Tryz.ntmps89]) ?_
 show awp _ _ _ _ ⟨[(0, true, _), (1, true, _)], _, _⟩
 refine aSR ?_
 refine aL_eff (q := true) rfl (x_box rfl rfl rfl (fun b0_0 => ?_))
 refine aL_hp (by (try simp only [nM, nN]); rfl) ?_
 refine aL_eff (q := true) rfl (x_box rfl rfl rfl (fun b0_1 => ?_))
 refine aL_hp (by (try simp only [nM, nN]); rfl) ?_
 refine aA rfl (aNs ?_)
 refine awp_drawn [11] (by kernel_rfl) ?_
 show aB _ _ _ _ _ 13 #[false, false, false, false, false, false, false, false, false, false, false, false, false] _
 refine bU 0 rfl (by kernel_rfl) rfl (q_fieldAddr (off := 0) (by kernel_rfl) rfl) ?_
 refine bU 1 rfl (by kernel_rfl) rfl (q_load 0 tk3 rfl rfl rfl) ?_
 refine bU 2 rfl (by kernel_rfl) rfl (q_fieldAddr (off := 0) (by kernel_rfl) rfl) ?_
 refine bU 3 rfl (by kernel_rfl) rfl (q_load 1 tk3 rfl rfl rfl) ?_
 refine bU 4 rfl (by kernel_rfl) rfl (q_call (by kernel_rfl) rfl (fun w S fp hst => (con_cmpI _ _).quiet0 hst)) ?_
 refine bU 5 rfl (by kernel_rfl) rfl (q_fieldAddr (off := 1) (by kernel_rfl) rfl) ?_
 refine bU 6 rfl (by kernel_rfl) rfl (q_load 0 tk3 rfl rfl rfl) ?_
 refine bU 7 rfl (by kernel_rfl) rfl (q_fieldAddr (off := 1) (by kernel_rfl) rfl) ?_
 refine bU 8 rfl (by kernel_rfl) rfl (q_load 1 tk3 rfl rfl rfl) ?_
 refine bU 9 rfl (by kernel_rfl) rfl (q_call (by kernel_rfl) rfl (fun w S fp hst => (con_cmpI _ _).quiet0 hst)) ?_
 refine aB_eff (q := true) 10 rfl (by kernel_rfl) rfl rfl (w_lit (zs := [.int .i64 0]) (l := [(0, .tmp 9), (1, .tmp 14)]) el90 (by kernel_rfl) (by decide) (by decide) (by decide) rfl rfl rfl (.more rfl (.v rfl .nil) (.more rfl (.v rfl .nil) .nil)) rfl rfl (fun v1_10 => ?_))
 refine aB_st rfl (by (try simp only [nM, nN]); rfl) (by (try simp only [putB, place, Nat.reduceBEq, if_true, if_false, reduceIte, Nat.reduceAdd, nW]); rfl) ?_
 refine aB_eff (q := false) 11 rfl (by kernel_rfl) rfl rfl (e_call [] [2] (by kernel_rfl) rfl rfl rfl rfl ((con_or2 (.slice v1_10 2 2) _ _).clean (φ := fun r => r = _) (fun _ _ _ h => h)) ?_)
 rintro _ _ _ ⟨rfl, rfl, rfl⟩
 refine aB_st rfl (by (try simp only [nM, nN]); rfl) (by (try simp only [putB, place, Nat.reduceBEq, if_true, if_false, reduceIte, Nat.reduceAdd, nW]); rfl) ?_
 refine bU 12 rfl (by kernel_rfl) rfl (q_assign rfl) ?_
 refine aB_nil (by kernel_rfl) ?_
 refine thn_n (awp_ret ?_)
 refine fin1 [] [] rfl Tryz.results89 rfl ?_ (.inr rfl)
 rfl
def leastF (x : GCulprit × Bool) (p : GCulprit) : GCulprit × Bool := if x.2 = false ∨ ltC p x.1 then (p, true) else x
theorem con_least (a b : Nat) (x : GCulprit × Bool) (p : GCulprit) : Con Tryz.prog 39 [.pointer (some ⟨a, 0, none⟩), .pointer (some ⟨b, 0, none⟩), p.val] [] [Box a 34 x.1.vs, Box b 4 [.bool x.2]]
   (fun _ ps hp => ps = [] ∧ hp = [Box a 34 (leastF x p).1.vs, Box b 4 [.bool (leastF x p).2]]) := by
 refine Con.enter Tryz.func39 rfl (by simp [Tryz.ntmps39]) ?_
 show awp _ _ _ _ ⟨[(0, true, _), (1, true, _), (2, true, _)], _, _⟩
 refine aSR ?_
 refine aL_eff (q := true) rfl (x_box rfl rfl rfl (fun b0_0 => ?_))
 refine aL_hp (by (try simp only [nM, nN]); rfl) ?_
 refine aNs ?_
 refine awp_drawn [] (by kernel_rfl) ?_
 show aB _ _ _ _ _ 12 #[false, false, false, false, false, false, false, false, false, false, false, false] _
 refine bU 0 rfl (by kernel_rfl) rfl (q_move rfl) ?_
 refine bU 1 rfl (by kernel_rfl) rfl (q_nilCheck rfl) ?_
 refine bU 2 rfl (by kernel_rfl) rfl (q_load 1 tk4 rfl rfl rfl) ?_
 refine bU 3 rfl (by kernel_rfl) rfl (q_not rfl) ?_
 refine bU 4 rfl (by kernel_rfl) rfl (q_move rfl) ?_
 refine bG 5 rfl (by kernel_rfl) rfl rfl (fun hc => q_load 2 tk34 rfl rfl rfl) ?_
 refine bG 6 rfl (by kernel_rfl) rfl rfl (fun hc => q_move rfl) ?_
 refine bG 7 rfl (by kernel_rfl) rfl rfl (fun hc => q_nilCheck (ev_yes rfl hc)) ?_
 refine bG 8 rfl (by kernel_rfl) rfl rfl (fun hc => q_load 0 tk34 (ev_yes rfl hc) rfl rfl) ?_
 refine bG 9 rfl (by kernel_rfl) rfl rfl (fun hc => q_call (by kernel_rfl) (evs_cons (ev_yes rfl hc) (evs_cons (ev_yes rfl hc) rfl)) (fun w S fp hst => (con_before _ _).quiet0 hst)) ?_
 refine bG 10 rfl (by kernel_rfl) rfl rfl (fun hc => q_lss (ev_yes rfl hc) rfl) ?_
 refine bU 11 rfl (by kernel_rfl) rfl (q_or rfl rfl (fun h => gf rfl h)) ?_
 refine aB_nil (by kernel_rfl) ?_
 refine thn_n ?_
 refine awp_cond _ rfl (fun h1 => ?_) (fun h1 => ?_)
 ·skip
  refine awp_region (aM rfl (aM rfl (aU rfl (q_load 2 tk34 rfl rfl rfl) (aU rfl (q_nilCheck rfl) ?_))))
  refine aL_eff rfl (x_store 0 tk34 rfl rfl rfl rfl ?_)
  refine aL_hp (by (try simp only [nK, nL]); rfl) ?_
  refine aU rfl (q_nilCheck rfl) ?_
  refine aL_eff rfl (x_store 1 tk4 rfl rfl rfl rfl ?_)
  refine aL_hp (by (try simp only [nK, nL]); rfl) ?_
  refine aL_nil ?_
  refine fin0 [] [0, 1] rfl Tryz.results39 ?_ (.inl rfl)
  have hh : x.2 = false ∨ ltC p x.1 := by
    rw [← cmpC_neg]; simpa using h1
  exact ⟨rfl, by unfold leastF; rw [if_pos hh]; rfl⟩
 ·skip
  refine awp_skip ?_
  refine fin0 [] [0, 1] rfl Tryz.results39 ?_ (.inl rfl)
  have hh : ¬ (x.2 = false ∨ ltC p x.1) := by
    rw [← cmpC_neg]; simpa using h1
  exact ⟨rfl, by unfold leastF; rw [if_neg hh]; rfl⟩
theorem con_sym (x : RLink) (lb : Nat) (d : Dfn) (hd : InD x.objs.l d) : Con Tryz.prog 86 [.pointer (some ⟨lb, 0, none⟩), d.p.val] [At lb 0 x.row, x.ok] [] (fun r _ _ => r = d.s.val) := by
 obtain ⟨i, k, hi, hk, hp⟩ := hd
 obtain ⟨p, s⟩ := d
 dsimp only at hk hp
 subst hp
 have ho := elt_nat hi
 refine Con.enter Tryz.func86 rfl (by simp [Tryz.ntmps86]) ?_
 show awp _ _ _ _ ⟨[(0, true, _), (1, true, _)], _, _⟩
 refine aSR ?_
 refine aL_eff (q := true) rfl (x_box rfl rfl rfl (fun b0_0 => ?_))
 refine aL_hp (by (try simp only [nM, nN]); rfl) ?_
 refine aL_eff (q := true) rfl (x_alloc (zs := [.string .empty, .string .empty, .bool false, .int .i64 0, .int .i64 0, .int .i64 0, .int .i64 0, .int .i64 0, .int .i64 0, .int .i64 0]) (by kernel_rfl) rfl (fun b0_1 => ?_))
 refine aL_hp (by (try simp only [nM, nN]); rfl) ?_
 refine aNs ?_
 refine awp_drawn [13] (by kernel_rfl) ?_
 show aB _ _ _ _ _ 14 #[false, false, false, false, false, false, false, false, false, false, false, false, false, false] _
 refine bU 0 rfl (by kernel_rfl) rfl (q_move rfl) ?_
 refine bU 1 rfl (by kernel_rfl) rfl (q_nilCheck rfl) ?_
 refine bU 2 rfl (by kernel_rfl) rfl (q_fieldAddr (off := 0) (by kernel_rfl) rfl) ?_
 refine bU 3 rfl (by kernel_rfl) rfl (q_loadDE (o := 0) tk22 rfl (.of (psAt 0 rfl)) rfl) ?_
 refine bU 4 rfl (by kernel_rfl) rfl (q_fieldAddr (off := 0) (by kernel_rfl) rfl) ?_
 refine bU 5 rfl (by kernel_rfl) rfl (q_load 0 tk3 rfl rfl rfl) ?_
 refine aB_E 6 rfl (by kernel_rfl) true rfl rfl (fun _ => q_indexAddrG Tryz.underlying22 tk61 rfl ((RLink.f_objs (.of (psAt 1 rfl)))) rfl (rows_get ho) rfl rfl) (fun h => absurd h (by decide)) (fun ⟨b1_6, o1_6⟩ => ?_)
 refine bU 7 rfl (by kernel_rfl) rfl (q_fieldAddr (off := 2) (by kernel_rfl) rfl) ?_
 refine bU 8 rfl (by kernel_rfl) rfl (q_loadD (o := 2) tk51 rfl (psAt 0 rfl) rfl rfl) ?_
 refine bU 9 rfl (by kernel_rfl) rfl (q_fieldAddr (off := 1) (by kernel_rfl) rfl) ?_
 refine bU 10 rfl (by kernel_rfl) rfl (q_load 0 tk3 rfl rfl rfl) ?_
 refine aB_E 11 rfl (by kernel_rfl) true rfl rfl (fun _ => q_indexAddrG Tryz.underlying51 tk63 rfl ((GObject.f_syms (Ent.all (RLink.f_objsA (.of (psAt 2 rfl))) ho))) rfl (rows_get hk) rfl rfl) (fun h => absurd h (by decide)) (fun ⟨b1_11, o1_11⟩ => ?_)
 refine bU 12 rfl (by kernel_rfl) rfl (q_loadD (o := 0) tk63 rfl (psAt 0 rfl) rfl rfl) ?_
 refine aB_eff 13 rfl (by kernel_rfl) rfl rfl (x_store 1 tk63 rfl rfl rfl rfl ?_)
 refine aB_st rfl (by (try simp only [nM, nN]); rfl) (by (try simp only [putB, place, Nat.reduceBEq, if_true, if_false, reduceIte, Nat.reduceAdd, nW]); rfl) ?_
 refine aB_nil (by kernel_rfl) ?_
 refine thn_n (awp_ret ?_)
 refine finR1 [] [] rfl Tryz.results86 (rv_cell 1 tk63 rfl rfl rfl) ?_ (.inr rfl)
 rfl
theorem con_defines (x : RLink) (hok : RsOk x.objs.l x.kp.l) (lb : Nat) (d : Dfn) (hd : InD x.objs.l d) : Con Tryz.prog 85 [.pointer (some ⟨lb, 0, none⟩), d.p.val, d.s.val] [At lb 0 x.row, x.ok] [] (fun r _ _ => r = .bool (defB x.kp.l d)) := by
 obtain ⟨i, k, hi, hk, hp⟩ := hd
 obtain ⟨p, s⟩ := d
 dsimp only at hk hp
 subst hp
 have ho := elt_nat hi
 have hkn := hok.kn
 have hkp := elt_nat (l := x.kp.l) (i := i) (by omega)
 have hks := hok.ks i hi
 have hsec := hok.sec _ (List.mem_of_getElem? ho) s (List.mem_of_getElem? hk)
 refine Con.enter Tryz.func85 rfl (by simp [Tryz.ntmps85]) ?_
 show awp _ _ _ _ ⟨[(0, true, _), (1, true, _), (2, true, _)], _, _⟩
 refine aSR ?_
 refine aL_eff (q := true) rfl (x_box rfl rfl rfl (fun b0_0 => ?_))
 refine aL_hp (by (try simp only [nM, nN]); rfl) ?_
 refine aL_eff (q := true) rfl (x_box rfl rfl rfl (fun b0_1 => ?_))
 refine aL_hp (by (try simp only [nM, nN]); rfl) ?_
 refine aA rfl (aNs ?_)
 refine awp_drawn [] (by kernel_rfl) ?_
 show aB _ _ _ _ _ 28 #[false, false, false, false, false, false, false, false, false, false, false, false, false, false, false, false, false, false, false, false, false, false, false, false, false, false, false, false] _
 refine bU 0 rfl (by kernel_rfl) rfl (q_fieldAddr (off := 3) (by kernel_rfl) rfl) ?_
 refine bU 1 rfl (by kernel_rfl) rfl (q_load 1 tk3 rfl rfl rfl) ?_
 refine bU 2 rfl (by kernel_rfl) rfl (q_eql rfl rfl) ?_
 refine bU 3 rfl (by kernel_rfl) rfl (q_move rfl) ?_
 refine bG 4 rfl (by kernel_rfl) rfl rfl (fun hc => q_fieldAddr (off := 3) (by kernel_rfl) rfl) ?_
 refine bG 5 rfl (by kernel_rfl) rfl rfl (fun hc => q_load 1 tk3 (ev_yes rfl hc) rfl rfl) ?_
 refine bG 6 rfl (by kernel_rfl) rfl rfl (fun hc => q_neq (ev_yes rfl hc) rfl) ?_
 refine bG 7 rfl (by kernel_rfl) rfl rfl (fun hc => q_move (ev_yes rfl hc)) ?_
 refine bG 8 rfl (by kernel_rfl) rfl rfl (fun hc => q_fieldAddr (off := 6) (by kernel_rfl) rfl) ?_
 refine bG 9 rfl (by kernel_rfl) rfl rfl (fun hc => q_load 1 tk3 (ev_yes rfl hc) rfl rfl) ?_
 refine bG 10 rfl (by kernel_rfl) rfl rfl (fun hc => q_geq (ev_yes rfl hc) rfl) ?_
 refine bG 11 rfl (by kernel_rfl) rfl rfl (fun hc => q_and (ev_yes rfl hc) rfl (fun h => gt hc h)) ?_
 refine bG 12 rfl (by kernel_rfl) rfl rfl (fun hc => q_move (ev_yes rfl hc)) ?_
 refine bG 13 rfl (by kernel_rfl) rfl rfl (fun hc => q_move rfl) ?_
 refine bG 14 rfl (by kernel_rfl) rfl rfl (fun hc => q_nilCheck (ev_yes rfl hc)) ?_
 refine bG 15 rfl (by kernel_rfl) rfl rfl (fun hc => q_fieldAddr (off := 1) (by kernel_rfl) (ev_yes rfl hc)) ?_
 refine bG 16 rfl (by kernel_rfl) rfl rfl (fun hc => q_loadDE (o := 1) tk27 (ev_yes rfl hc) (.of (psAt 0 rfl)) rfl) ?_
 refine bG 17 rfl (by kernel_rfl) rfl rfl (fun hc => q_fieldAddr (off := 0) (by kernel_rfl) rfl) ?_
 refine bG 18 rfl (by kernel_rfl) rfl rfl (fun hc => q_load 0 tk3 (ev_yes rfl hc) rfl rfl) ?_
 refine aB_E 19 rfl (by kernel_rfl) _ rfl rfl (fun hc => q_indexAddrG Tryz.underlying27 tk68 (ev_yes rfl hc) ((RLink.f_kp (.of (psAt 1 rfl)))) (ev_yes rfl hc) (rows_get hkp) rfl rfl) (fun _ => ⟨(0, 0)⟩) (fun ⟨b1_19, o1_19⟩ => ?_)
 refine bG 20 rfl (by kernel_rfl) rfl rfl (fun hc => q_loadD (o := 0) tk68 (ev_yes rfl hc) (psAt 0 rfl) hc rfl) ?_
 refine bG 21 rfl (by kernel_rfl) rfl rfl (fun hc => q_fieldAddr (off := 6) (by kernel_rfl) rfl) ?_
 refine bG 22 rfl (by kernel_rfl) rfl rfl (fun hc => q_load 1 tk3 (ev_yes rfl hc) rfl rfl) ?_
 refine aB_E 23 rfl (by kernel_rfl) _ rfl rfl (fun hc => q_indexAddrG Tryz.underlying68 tk4 (ev_yes rfl hc) ((Ent.all (f := ShF bR) (RLink.f_kpA (.of (psAt 2 rfl))) hkp)) (ev_yes rfl hc) (rows_elt (i := s.sec) (by simp at hc; omega) (by simp at hc; omega)) (by simp at hc; omega) rfl) (fun _ => ⟨(0, 0)⟩) (fun ⟨b1_23, o1_23⟩ => ?_)
 refine bG 24 rfl (by kernel_rfl) rfl rfl (fun hc => q_loadD (o := 0) tk4 (ev_yes rfl hc) (psAt 0 rfl) hc rfl) ?_
 refine bG 25 rfl (by kernel_rfl) rfl rfl (fun hc => q_and (ev_yes rfl hc) rfl (fun h => gt hc h)) ?_
 refine bU 26 rfl (by kernel_rfl) rfl (q_or rfl rfl (fun h => gf rfl h)) ?_
 refine bU 27 rfl (by kernel_rfl) rfl (q_assign rfl) ?_
 refine aB_nil (by kernel_rfl) ?_
 refine thn_n (awp_ret ?_)
 refine fin1 [] [] rfl Tryz.results85 rfl ?_ (.inr rfl)
 unfold defB keptB; simp [Bool.and_assoc]
theorem rowD_app (i : Int) (l : List GSymbol) : ∀ m : List GSymbol, ∃ M, rowD i (l ++ m) = rowD i l ++ M := fun m => by
 unfold rowD; rw [List.zipIdx_append, List.map_append]; exact ⟨_, rfl⟩
theorem rowD_pre (i : Int) (l : List GSymbol) (k : Nat) : ∃ M, rowD i l = rowD i (l.take k) ++ M := by
 obtain ⟨M, h⟩ := rowD_app i (l.take k) (l.drop k)
 rw [List.take_append_drop] at h; exact ⟨M, h⟩
theorem flatTo_pre (os : List GObject) {i : Nat} : ∀ {n : Nat}, i ≤ n → ∃ M, flatTo os n = flatTo os i ++ M := fun {n} h => by
 induction n with
 | zero => obtain rfl : i = 0 := by omega
           exact ⟨[], by simp⟩
 | succ n ih =>
   by_cases hi : i = n + 1
   · subst hi; exact ⟨[], by simp⟩
   · obtain ⟨M, hM⟩ := ih (by omega)
     exact ⟨M ++ rowD (n : Int) (elt os (n : Int)).syms.l, by rw [flatTo_succ, hM, List.append_assoc]⟩
theorem con_each (x : RLink) (hn : x.objs.l.length ≤ 5) (hs : ∀ o ∈ x.objs.l, o.syms.l.length ≤ 14) (lb : Nat) (F : FuncId) (caps : List Value) (q : Per) (J : List Dfn → Res) (hF : callOk Tryz.prog F = true)
   (h : ∀ (L : List Dfn) (d : Dfn), InD x.objs.l d → L.length < 70 → (∃ M, flatF x.objs.l = (L ++ [d]) ++ M) → Con Tryz.prog F (d.p.val :: d.s.val :: caps) [q] [J L] fun _ ps hp => ps = [] ∧ hp = [J (L ++ [d])]) :
   Con Tryz.prog 36 [.pointer (some ⟨lb, 0, none⟩), .func (.func F) #[] caps.toArray] [At lb 0 x.row, x.ok, q] [J []] fun _ ps hp => ps = [] ∧ hp = [J (flatF x.objs.l)] := by
 have hfl : ∀ i, i ≤ x.objs.l.length → (flatTo x.objs.l i).length ≤ 14 * i := fun i => by
   induction i with
   | zero => intro _; exact Nat.le_refl _
   | succ i ih =>
     intro hi
     rw [flatTo_succ, List.length_append]
     have h1 := ih (by omega)
     have h2 := hs _ (List.mem_of_getElem? (elt_nat (l := x.objs.l) (i := i) (by omega)))
     have h3 : (rowD (i : Int) (elt x.objs.l (i : Int)).syms.l).length = (elt x.objs.l (i : Int)).syms.l.length := by unfold rowD; simp
     omega
 have hlt : ∀ (i k : Nat) (o : GObject), i < x.objs.l.length → elt x.objs.l (i : Int) = o → k < o.syms.l.length → (flatTo x.objs.l i ++ rowD (i : Int) (o.syms.l.take k)).length < 70 := fun i k o hi ho hk => by
   have h1 := hfl i (by omega)
   have h2 := hs _ (List.mem_of_getElem? (elt_nat (l := x.objs.l) (i := i) (by omega)))
   have h3 : (rowD (i : Int) (o.syms.l.take k)).length ≤ k := by unfold rowD; simp; omega
   rw [ho] at h2
   rw [List.length_append]; omega
 have hpre : ∀ (i k : Nat) (o : GObject) (s : GSymbol), i < x.objs.l.length → elt x.objs.l (i : Int) = o → o.syms.l[k]? = some s → ∃ M, flatF x.objs.l = ((flatTo x.objs.l i ++ rowD (i : Int) (o.syms.l.take k)) ++ [⟨⟨(i : Int), (k : Int)⟩, s⟩]) ++ M := fun i k o s hi ho hk => by
   obtain ⟨M, hM⟩ := flatTo_pre x.objs.l (i := i + 1) (n := x.objs.l.length) (by omega)
   rw [List.append_assoc _ _ [_], ← rowD_take hk]
   obtain ⟨M2, hM2⟩ := rowD_pre (i : Int) o.syms.l (k + 1)
   refine ⟨M2 ++ M, ?_⟩
   unfold flatF
   rw [hM, flatTo_succ, ho, hM2]; simp
 refine Con.enter Tryz.func36 rfl (by simp [Tryz.ntmps36]) ?_
 show awp _ _ _ _ ⟨[(0, true, _), (1, true, _)], _, _⟩
 refine awp_lenE (RLink.f_objs (.of (psAt 1 rfl))) (fun hlen => ?_)
 refine aSR (aM rfl (aU rfl (q_nilCheck rfl) ?_))
 refine aU rfl (q_fieldAddr (off := 0) (by kernel_rfl) rfl) ?_
 refine aU rfl (q_loadDE (o := 0) tk22 rfl (.of (psAt 0 rfl)) rfl) (aU rfl (q_lenS Tryz.underlying22 rfl) (aM rfl (aNn (awp_block (awp_loopK [1, 11, 12, 13] [2, 1, 0] [0] (fun (i : Nat) st => i ≤ x.objs.l.length ∧ st = ⟨[(1, true, .func (.func F) #[] caps.toArray), (11, true, x.objs.val), (12, true, .int .i64 x.objs.l.length), (13, true, .int .i64 i)], [At lb 0 x.row, x.ok, q], [J (flatTo x.objs.l i)]⟩) (fun i => x.objs.l.length - i) rfl (⟨0, Nat.zero_le _, rfl⟩) ?_)))))
 rintro i st ⟨hi, rfl⟩
 refine aSR (aU rfl (q_lss rfl rfl) (aNs ?_))
 refine awp_cond _ rfl (fun h1 => ?_) (fun h1 => ?_)
 ·skip
  have hi' : i < x.objs.l.length := by simp at h1; omega
  have ho := elt_nat hi'
  generalize hoo : elt x.objs.l (i : Int) = o at ho
  refine awp_skip (thn_n (awp_seq (awp_block (aSR (aM rfl ?_)))))
  refine aL_E true rfl rfl (fun _ => q_indexAddrG Tryz.underlying22 tk61 rfl ((RLink.f_objs (.of (psAt 1 rfl)))) rfl (rows_get ho) rfl rfl) (fun h => absurd h (by decide)) (fun ⟨b2_1, o2_1⟩ => ?_)
  refine aU rfl (q_loadD (o := 0) tk61 rfl (psAt 0 rfl) rfl rfl) ?_
  refine aL_eff (q := true) rfl (x_alloc (zs := [.string .empty, .slice none 0 0, .slice none 0 0, .slice none 0 0, .slice none 0 0, .slice none 0 0, .slice none 0 0, .slice none 0 0, .slice none 0 0, .slice none 0 0, .slice none 0 0]) (by kernel_rfl) rfl (fun b2_3 => ?_))
  refine aL_hp (by (try simp only [nM, nN]); rfl) ?_
  refine aA rfl ?_
  refine aL_eff rfl (x_store 1 tk61 rfl rfl rfl rfl ?_)
  refine aL_hp (by (try simp only [nK, nL]); rfl) ?_
  refine aNs ?_
  refine awp_lenE (GObject.f_syms (Ent.all (RLink.f_objsA (.of (psAt 2 rfl))) ho)) (fun hlen2 => ?_)
  refine awp_region ?_
  refine aU rfl (q_fieldAddr (off := 2) (by kernel_rfl) rfl) ?_
  refine aU rfl (q_load 1 tk51 rfl rfl rfl) (aU rfl (q_lenS Tryz.underlying51 rfl) (aM rfl (aNn (awp_block ?_))))
  refine awp_loopK [1, 4, 11, 12, 13, 19, 20, 21] [2, 1, 0] [0] (fun (k : Nat) st => k ≤ o.syms.l.length ∧ st = ⟨[(1, true, .func (.func F) #[] caps.toArray), (4, true, .int .i64 i), (11, true, x.objs.val), (12, true, .int .i64 x.objs.l.length), (13, true, .int .i64 i), (19, true, o.syms.val), (20, true, .int .i64 o.syms.l.length), (21, true, .int .i64 k)], [At lb 0 x.row, x.ok, q], [J (flatTo x.objs.l i ++ rowD (i : Int) (o.syms.l.take k))]⟩) (fun k => o.syms.l.length - k) rfl (⟨0, Nat.zero_le _, by rw [List.take_zero, show rowD (i : Int) [] = [] from rfl, List.append_nil]; rfl⟩) ?_
  rintro k st ⟨hk, rfl⟩
  refine aSR (aU rfl (q_lss rfl rfl) (aNs ?_))
  refine awp_cond _ rfl (fun h2 => ?_) (fun h2 => ?_)
  ·skip
   have hk' : k < o.syms.l.length := by simp at h2; omega
   obtain ⟨s, hs'⟩ : ∃ s, o.syms.l[k]? = some s := ⟨_, List.getElem?_eq_getElem hk'⟩
   refine awp_skip (thn_n (awp_seq (awp_block (aSR (aM rfl ?_)))))
   refine aL_E true rfl rfl (fun _ => q_indexAddrG Tryz.underlying51 tk63 rfl ((GObject.f_syms (Ent.all (RLink.f_objsA (.of (psAt 1 rfl))) ho))) rfl (rows_get hs') rfl rfl) (fun h => absurd h (by decide)) (fun ⟨b5_1, o5_1⟩ => ?_)
   refine aU rfl (q_loadD (o := 0) tk63 rfl (psAt 0 rfl) rfl rfl) ?_
   refine aL_eff (q := true) rfl (x_alloc (zs := [.string .empty, .string .empty, .bool false, .int .i64 0, .int .i64 0, .int .i64 0, .int .i64 0, .int .i64 0, .int .i64 0, .int .i64 0]) (by kernel_rfl) rfl (fun b5_3 => ?_))
   refine aL_hp (by (try simp only [nM, nN]); rfl) ?_
   refine aA rfl ?_
   refine aL_eff rfl (x_store 1 tk63 rfl rfl rfl rfl ?_)
   refine aL_hp (by (try simp only [nK, nL]); rfl) ?_
   refine aNn (awp_region (aM rfl (aM rfl (aM rfl ?_))))
   refine aU rfl (q_bld (l := [(0, .tmp 27), (1, .tmp 28)]) (zs := [.int .i64 0, .int .i64 0]) (pl := [(0, 1), (1, 1)]) (by kernel_rfl) (by kernel_rfl) (by kernel_rfl) rfl rfl rfl) ?_
   refine aU rfl (q_load 1 tk63 rfl rfl rfl) ?_
   refine aL_eff (q := false) rfl (e_callC [0] [0] hF rfl rfl rfl rfl rfl (h _ ⟨⟨(i : Int), (k : Int)⟩, s⟩ ⟨i, k, hi', by rw [hoo]; exact hs', rfl⟩ (hlt i k o hi' hoo hk') (hpre i k o s hi' hoo hs')) ?_)
   rintro _ _ _ ⟨rfl, rfl⟩
   refine aL_st (by (try simp only [nM, nN]); rfl) (by (try simp only [putB, place, Nat.reduceBEq, if_true, if_false, reduceIte, Nat.reduceAdd, nW]); rfl) ?_
   refine aL_nil (blk_n (thn_n (awp_region ?_)))
   refine aU rfl (q_addi rfl rfl (by omega)) ?_
   refine aM rfl (aNn ?_)
   refine ⟨[1, 4, 11, 12, 13, 19, 20, 21], [2, 1, 0], [0], rfl, ?_⟩
   exact ⟨k + 1, ⟨by omega, by rw [rowD_take hs', ← List.append_assoc]; rfl⟩, by omega⟩
  ·skip
   refine awp_exit (thn_e (thn_e (blk_hit (blk_n (thn_n (awp_region ?_))))))
   refine aU rfl (q_addi rfl rfl (by omega)) ?_
   refine aM rfl (aNn ?_)
   refine ⟨[1, 11, 12, 13], [2, 1, 0], [0], rfl, ?_⟩
   rw [List.take_of_length_le (by simp at h2; omega)]
   exact ⟨i + 1, ⟨by omega, by rw [flatTo_succ, hoo]; rfl⟩, by omega⟩
 ·skip
  refine awp_exit (thn_e (thn_e (blk_hit ?_)))
  refine fin0 [] [0] rfl Tryz.results36 ?_ (.inl rfl)
  rw [show i = x.objs.l.length by simp at h1; omega]
  exact ⟨rfl, rfl⟩
end Go.Proofs.YtgmiihmahaahiaaGreatDoor

namespace Go.Proofs.YtgmiihmahaahiaaGreatDoor
open Go.RowKit Go.Lp Go.Sy
open Go.Proofs.Tryz
attribute [local irreducible] aL aB awp aC fwp
theorem con_init1 (b : Nat) (o : GObject) (x : GInit) : Con Tryz.prog 156 [x.val, .pointer (some ⟨b, 0, none⟩)] [At b 0 o.row, o.ok] [] (YB True) := by
 refine Con.enter Tryz.func156 rfl (by simp [Tryz.ntmps156]) ?_
 show awp _ _ _ _ ⟨[(0, true, _), (1, true, _)], _, _⟩
 refine aSR ?_
 refine aL_eff (q := true) rfl (x_box rfl rfl rfl (fun b0_0 => ?_))
 refine aL_hp (by (try simp only [nM, nN]); rfl) ?_
 refine aA rfl (aNn (aSR (aU rfl (q_loadDE (o := 0) tk145 rfl (.of (psAt 0 rfl)) rfl) ?_)))
 refine aU rfl (q_fieldAddr (off := 0) (by kernel_rfl) rfl) ?_
 refine aU rfl (q_load 0 tk3 rfl rfl rfl) ?_
 refine aL_callN (caps := []) [0] (false) (by kernel_rfl) true rfl rfl (fun _ => rfl) (fun hc => rfl) (fun hc => by rw [List.append_nil]; exact con_osym o _ _) (fun c1 hc1 => ?_)
 refine aM rfl ?_
 refine aG rfl rfl (fun hc => q_fieldAddr (off := 1) (by kernel_rfl) rfl) ?_
 refine aG rfl rfl (fun hc => q_load 0 tk3 (ev_yes rfl hc) rfl rfl) (aG rfl rfl (fun hc => q_geq (ev_yes rfl hc) rfl) (aU rfl (q_and rfl rfl (fun h => gt rfl h)) (aM rfl ?_)))
 refine aG rfl rfl (fun hc => q_fieldAddr (off := 1) (by kernel_rfl) rfl) ?_
 refine aG rfl rfl (fun hc => q_load 0 tk3 (ev_yes rfl hc) rfl rfl) (aG rfl rfl (fun hc => q_leq (ev_yes rfl hc) rfl) (aU rfl (q_and rfl rfl (fun h => gt rfl h)) (aA rfl (aNn (awp_ret ?_)))))
 refine fin1 [] [] rfl Tryz.results156 rfl ?_ (.inr rfl)
 exact ⟨⟨rfl, rfl⟩, _, rfl, fun _ => trivial⟩
theorem con_oinits (o : GObject) : Con Tryz.prog 71 [o.val] [o.ok] [] (YB True) := by
 refine Con.enter Tryz.func71 rfl (by simp [Tryz.ntmps71]) ?_
 show awp _ _ _ _ ⟨[(0, true, _)], _, _⟩
 refine aSR ?_
 refine aL_eff (q := true) rfl (x_box rfl rfl rfl (fun b0_0 => ?_))
 refine aL_hp (by (try simp only [nM, nN]); rfl) ?_
 refine aA rfl (aNs (awp_shareB 0 rfl rfl ?_))
 show awp _ _ _ _ ⟨_, At _ 0 _ :: _, _⟩
 refine awp_region ?_
 refine aU rfl (q_fieldAddr (off := 0) (by kernel_rfl) rfl) ?_
 refine aU rfl (q_fieldAddr (off := 5) (by kernel_rfl) rfl) ?_
 refine aU rfl (q_loadDE (o := 5) tk54 rfl (.of (psAt 0 rfl)) rfl) (aU rfl (q_func (l := [.tmp 1]) rfl) ?_)
 refine aL_callN (caps := []) [1, 0] (false) (by kernel_rfl) true rfl rfl (fun _ => rfl) (fun hc => rfl) (fun hc => by rw [List.append_nil]; exact (con_every_init o.inits 156 [.pointer (some ⟨b0_0, 0, none⟩)] (AndP (At b0_0 0 o.row) o.ok) (fun _ => True) (by kernel_rfl) (fun x _ => (con_init1 b0_0 o x).pre (ent2 ent1.left ent1.right))).pre (ent2 (GObject.f_inits (.of (psAt 1 rfl))) (.mk2 (.of (psAt 0 rfl)) (.of (psAt 1 rfl))))) (fun c1 hc1 => ?_)
 refine aA rfl (aNn (awp_ret ?_))
 refine fin1 [] [] rfl Tryz.results71 rfl ?_ (.inr rfl)
 exact ⟨⟨rfl, rfl⟩, _, rfl, fun _ => trivial⟩
theorem con_span (o : GObject) (sec f t : Int) : Con Tryz.prog 165 [o.val, .int .i64 sec, .int .i64 f, .int .i64 t] [o.ok] [] (YB True) := by
 refine Con.enter Tryz.func165 rfl (by simp [Tryz.ntmps165]) ?_
 show awp _ _ _ _ ⟨[(0, true, _), (1, true, _), (2, true, _), (3, true, _)], _, _⟩
 refine awp_lenE (GObject.f_secs (.of (psAt 0 rfl))) (fun hlen => ?_)
 refine aSR ?_
 refine aL_eff (q := true) rfl (x_box rfl rfl rfl (fun b0_0 => ?_))
 refine aL_hp (by (try simp only [nM, nN]); rfl) ?_
 refine aA rfl (aNn (aSR (aU rfl (q_load 0 tk145 rfl rfl rfl) (aM rfl ?_))))
 refine aL_litG (zs := [.int .i64 0]) (l := [(0, .const (.int .i64 0))]) el90 (by kernel_rfl) (by decide) (by decide) (by decide) rfl _ rfl (fun hc => rfl) rfl (.more rfl (.v rfl .nil) .nil) rfl rfl (fun v1_2 => ?_)
 refine aL_callN (caps := []) [1, 0] (false) (by kernel_rfl) true rfl rfl (fun _ => rfl) (fun hc => rfl) (fun hc => by rw [List.append_nil]; exact (con_ois o ⟨v1_2, 1, [0]⟩ _).pre (ent2 (.yes (.of (psAt 0 rfl)) rfl) (.of (psAt 1 rfl)))) (fun c1 hc1 => ?_)
 refine aM rfl (aG rfl rfl (fun hc => q_move rfl) (aG rfl rfl (fun hc => q_geq (ev_yes rfl hc) rfl) (aU rfl (q_and rfl rfl (fun h => gt rfl h)) (aM rfl (aG rfl rfl (fun hc => q_move rfl) (aG rfl rfl (fun hc => q_move rfl) (aG rfl rfl (fun hc => q_lss (ev_yes rfl hc) (ev_yes rfl hc)) (aU rfl (q_and rfl rfl (fun h => gt rfl h)) (aM rfl (aG rfl rfl (fun hc => q_move rfl) ?_))))))))))
 refine aG rfl rfl (fun hc => q_fieldAddr (off := 0) (by kernel_rfl) rfl) ?_
 refine aG rfl rfl (fun hc => q_fieldAddr (off := 1) (by kernel_rfl) (ev_yes rfl hc)) ?_
 refine aG rfl rfl (fun hc => q_load 0 tk50 (ev_yes rfl hc) rfl rfl) (aG rfl rfl (fun hc => q_move rfl) ?_)
 refine aL_E _ rfl rfl (fun hc => q_indexAddrG Tryz.underlying50 tk85 (ev_yes rfl hc) ((GObject.f_secs (.of (psAt 1 rfl)))) (ev_yes rfl hc) (rows_elt (i := sec) (by have := hc1 rfl (by simp at hc; exact hc.1.1); omega) (by have := hc1 rfl (by simp at hc; exact hc.1.1); omega)) ((by have := hc1 rfl (by simp at hc; exact hc.1.1); omega)) rfl) (fun _ => ⟨(0, 0)⟩) (fun ⟨b1_19, o1_19⟩ => ?_)
 refine aG rfl rfl (fun hc => q_fieldAddr (off := 3) (by kernel_rfl) (ev_yes rfl hc)) ?_
 refine aG rfl rfl (fun hc => q_loadD (o := 3) tk3 (ev_yes rfl hc) (psAt 0 rfl) hc rfl) (aG rfl rfl (fun hc => q_leq (ev_yes rfl hc) (ev_yes rfl hc)) (aU rfl (q_and rfl rfl (fun h => gt rfl h)) (aM rfl (aG rfl rfl (fun hc => q_move rfl) ?_))))
 refine aG rfl rfl (fun hc => q_rem (ev_yes rfl hc) rfl (by decide)) ?_
 refine aG rfl rfl (fun hc => q_eql (ev_yes rfl hc) rfl) (aU rfl (q_and rfl rfl (fun h => gt rfl h)) (aM rfl (aG rfl rfl (fun hc => q_move rfl) ?_)))
 refine aG rfl rfl (fun hc => q_rem (ev_yes rfl hc) rfl (by decide)) ?_
 refine aG rfl rfl (fun hc => q_eql (ev_yes rfl hc) rfl) (aU rfl (q_and rfl rfl (fun h => gt rfl h)) (aA rfl (aNn (awp_ret ?_))))
 refine fin1 [] [] rfl Tryz.results165 rfl ?_ (.inr rfl)
 exact ⟨⟨rfl, rfl⟩, _, rfl, fun _ => trivial⟩
theorem con_line1 (b : Nat) (o : GObject) (x : GLine) : Con Tryz.prog 158 [x.val, .pointer (some ⟨b, 0, none⟩)] [At b 0 o.row, o.ok, x.ok] [] (YB True) := by
 refine Con.enter Tryz.func158 rfl (by simp [Tryz.ntmps158]) ?_
 show awp _ _ _ _ ⟨[(0, true, _), (1, true, _)], _, _⟩
 refine awp_lenE (GObject.f_secs (.of (psAt 1 rfl))) (fun hlen => ?_)
 refine awp_strE (GLine.f_file (.of (psAt 2 rfl))) (fun hnl => ?_)
 refine aSR ?_
 refine aL_eff (q := true) rfl (x_box rfl rfl rfl (fun b0_0 => ?_))
 refine aL_hp (by (try simp only [nM, nN]); rfl) ?_
 refine aA rfl (aNs ?_)
 refine awp_drawn [] (by kernel_rfl) ?_
 show aB _ _ _ _ _ 40 #[false, false, false, false, false, false, false, false, false, false, false, false, false, false, false, false, false, false, false, false, false, false, false, false, false, false, false, false, false, false, false, false, false, false, false, false, false, false, false, false] _
 refine bU 0 rfl (by kernel_rfl) rfl (q_loadDE (o := 0) tk145 rfl (.of (psAt 0 rfl)) rfl) ?_
 refine bU 1 rfl (by kernel_rfl) rfl (q_fieldAddr (off := 0) (by kernel_rfl) rfl) ?_
 refine bU 2 rfl (by kernel_rfl) rfl (q_load 0 tk3 rfl rfl rfl) ?_
 refine aB_lit1 (zs := [.int .i64 0]) (l := [(0, .const (.int .i64 0))]) 3 rfl (by kernel_rfl) el90 (by kernel_rfl) (by decide) (by decide) (by decide) rfl rfl rfl rfl (.more rfl (.v rfl .nil) .nil) rfl rfl (fun v1_3 => ?_)
 refine aB_callN (caps := []) 4 rfl (by kernel_rfl) [3, 1] (false) (by kernel_rfl) true rfl rfl (fun _ => rfl) (fun hc => rfl) (fun hc => by rw [List.append_nil]; exact con_ois o ⟨v1_3, 1, [0]⟩ _) (fun c1 hc1 => ?_)
 refine bU 5 rfl (by kernel_rfl) rfl (q_move rfl) ?_
 refine bG 6 rfl (by kernel_rfl) rfl rfl (fun hc => q_fieldAddr (off := 1) (by kernel_rfl) rfl) ?_
 refine bG 7 rfl (by kernel_rfl) rfl rfl (fun hc => q_load 0 tk3 (ev_yes rfl hc) rfl rfl) ?_
 refine bG 8 rfl (by kernel_rfl) rfl rfl (fun hc => q_fieldAddr (off := 0) (by kernel_rfl) rfl) ?_
 refine bG 9 rfl (by kernel_rfl) rfl rfl (fun hc => q_fieldAddr (off := 1) (by kernel_rfl) (ev_yes rfl hc)) ?_
 refine bG 10 rfl (by kernel_rfl) rfl rfl (fun hc => q_loadDE (o := 1) tk50 (ev_yes rfl hc) (.of (psAt 1 rfl)) rfl) ?_
 refine bG 11 rfl (by kernel_rfl) rfl rfl (fun hc => q_fieldAddr (off := 0) (by kernel_rfl) rfl) ?_
 refine bG 12 rfl (by kernel_rfl) rfl rfl (fun hc => q_load 0 tk3 (ev_yes rfl hc) rfl rfl) ?_
 refine aB_E 13 rfl (by kernel_rfl) _ rfl rfl (fun hc => q_indexAddrG Tryz.underlying50 tk85 (ev_yes rfl hc) ((GObject.f_secs (.of (psAt 2 rfl)))) (ev_yes rfl hc) (rows_elt (i := x.sec) (by have := hc1 rfl (by simp at hc; exact hc); omega) (by have := hc1 rfl (by simp at hc; exact hc); omega)) ((by have := hc1 rfl (by simp at hc; exact hc); omega)) rfl) (fun _ => ⟨(0, 0)⟩) (fun ⟨b1_13, o1_13⟩ => ?_)
 refine bG 14 rfl (by kernel_rfl) rfl rfl (fun hc => q_fieldAddr (off := 3) (by kernel_rfl) (ev_yes rfl hc)) ?_
 refine bG 15 rfl (by kernel_rfl) rfl rfl (fun hc => q_loadD (o := 3) tk3 (ev_yes rfl hc) (psAt 0 rfl) hc rfl) ?_
 refine bG 16 rfl (by kernel_rfl) rfl rfl (fun hc => q_call (by kernel_rfl) (evs_cons (ev_yes rfl hc) (evs_cons (ev_yes rfl hc) rfl)) (fun w S fp hst => (con_within _ _).quiet0 hst)) ?_
 refine bU 17 rfl (by kernel_rfl) rfl (q_and rfl rfl (fun h => gt rfl h)) ?_
 refine bU 18 rfl (by kernel_rfl) rfl (q_move rfl) ?_
 refine bG 19 rfl (by kernel_rfl) rfl rfl (fun hc => q_fieldAddr (off := 1) (by kernel_rfl) rfl) ?_
 refine bG 20 rfl (by kernel_rfl) rfl rfl (fun hc => q_load 0 tk3 (ev_yes rfl hc) rfl rfl) ?_
 refine bG 21 rfl (by kernel_rfl) rfl rfl (fun hc => q_rem (ev_yes rfl hc) rfl (by decide)) ?_
 refine bG 22 rfl (by kernel_rfl) rfl rfl (fun hc => q_eql (ev_yes rfl hc) rfl) ?_
 refine bU 23 rfl (by kernel_rfl) rfl (q_and rfl rfl (fun h => gt rfl h)) ?_
 refine bU 24 rfl (by kernel_rfl) rfl (q_move rfl) ?_
 refine bG 25 rfl (by kernel_rfl) rfl rfl (fun hc => q_fieldAddr (off := 2) (by kernel_rfl) rfl) ?_
 refine bG 26 rfl (by kernel_rfl) rfl rfl (fun hc => q_load 0 tk9 (ev_yes rfl hc) rfl rfl) ?_
 refine aB_callN (caps := []) 27 rfl (by kernel_rfl) [] (false) (by kernel_rfl) _ rfl rfl (fun _ => rfl) (fun hc => (evs_cons (ev_yes rfl hc) rfl)) (fun hc => by rw [List.append_nil]; exact con_ofile _ hnl) (fun c2 hc2 => ?_)
 refine bU 28 rfl (by kernel_rfl) rfl (q_and rfl rfl (fun h => gt rfl h)) ?_
 refine bU 29 rfl (by kernel_rfl) rfl (q_move rfl) ?_
 refine bG 30 rfl (by kernel_rfl) rfl rfl (fun hc => q_fieldAddr (off := 3) (by kernel_rfl) rfl) ?_
 refine bG 31 rfl (by kernel_rfl) rfl rfl (fun hc => q_load 0 tk3 (ev_yes rfl hc) rfl rfl) ?_
 refine bG 32 rfl (by kernel_rfl) rfl rfl (fun hc => q_geq (ev_yes rfl hc) rfl) ?_
 refine bU 33 rfl (by kernel_rfl) rfl (q_and rfl rfl (fun h => gt rfl h)) ?_
 refine bU 34 rfl (by kernel_rfl) rfl (q_move rfl) ?_
 refine bG 35 rfl (by kernel_rfl) rfl rfl (fun hc => q_fieldAddr (off := 3) (by kernel_rfl) rfl) ?_
 refine bG 36 rfl (by kernel_rfl) rfl rfl (fun hc => q_load 0 tk3 (ev_yes rfl hc) rfl rfl) ?_
 refine bG 37 rfl (by kernel_rfl) rfl rfl (fun hc => q_leq (ev_yes rfl hc) rfl) ?_
 refine bU 38 rfl (by kernel_rfl) rfl (q_and rfl rfl (fun h => gt rfl h)) ?_
 refine bU 39 rfl (by kernel_rfl) rfl (q_assign rfl) ?_
 refine aB_nil (by kernel_rfl) ?_
 refine thn_n (awp_ret ?_)
 refine fin1 [] [] rfl Tryz.results158 rfl ?_ (.inr rfl)
 exact ⟨⟨rfl, rfl⟩, _, rfl, fun _ => trivial⟩
theorem con_line2 (x y : GLine) (p : Per) : Con Tryz.prog 160 [x.val, y.val] [p] [] (YB True) := by
 refine Con.enter Tryz.func160 rfl (by simp [Tryz.ntmps160]) ?_
 show awp _ _ _ _ ⟨[(0, true, _), (1, true, _)], _, _⟩
 refine aSR ?_
 refine aL_eff (q := true) rfl (x_box rfl rfl rfl (fun b0_0 => ?_))
 refine aL_hp (by (try simp only [nM, nN]); rfl) ?_
 refine aL_eff (q := true) rfl (x_box rfl rfl rfl (fun b0_1 => ?_))
 refine aL_hp (by (try simp only [nM, nN]); rfl) ?_
 refine aA rfl (aNn (aSR ?_))
 refine aU rfl (q_fieldAddr (off := 0) (by kernel_rfl) rfl) ?_
 refine aU rfl (q_load 0 tk3 rfl rfl rfl) ?_
 refine aU rfl (q_fieldAddr (off := 0) (by kernel_rfl) rfl) ?_
 refine aU rfl (q_load 1 tk3 rfl rfl rfl) (aU rfl (q_lss rfl rfl) (aM rfl ?_))
 refine aG rfl rfl (fun hc => q_fieldAddr (off := 0) (by kernel_rfl) rfl) ?_
 refine aG rfl rfl (fun hc => q_load 0 tk3 (ev_yes rfl hc) rfl rfl) ?_
 refine aG rfl rfl (fun hc => q_fieldAddr (off := 0) (by kernel_rfl) rfl) ?_
 refine aG rfl rfl (fun hc => q_load 1 tk3 (ev_yes rfl hc) rfl rfl) (aG rfl rfl (fun hc => q_eql (ev_yes rfl hc) (ev_yes rfl hc)) (aG rfl rfl (fun hc => q_move (ev_yes rfl hc)) ?_))
 refine aG rfl rfl (fun hc => q_fieldAddr (off := 1) (by kernel_rfl) rfl) ?_
 refine aG rfl rfl (fun hc => q_load 0 tk3 (ev_yes rfl hc) rfl rfl) ?_
 refine aG rfl rfl (fun hc => q_fieldAddr (off := 1) (by kernel_rfl) rfl) ?_
 refine aG rfl rfl (fun hc => q_load 1 tk3 (ev_yes rfl hc) rfl rfl) (aG rfl rfl (fun hc => q_lss (ev_yes rfl hc) (ev_yes rfl hc)) (aG rfl rfl (fun hc => q_and (ev_yes rfl hc) rfl (fun h => gt hc h)) (aU rfl (q_or rfl rfl (fun h => gf rfl h)) (aA rfl (aNn (awp_ret ?_))))))
 refine fin1 [] [] rfl Tryz.results160 rfl ?_ (.inr rfl)
 exact ⟨⟨rfl, rfl⟩, _, rfl, fun _ => trivial⟩
theorem con_olines (o : GObject) : Con Tryz.prog 72 [o.val] [o.ok] [] (YB True) := by
 refine Con.enter Tryz.func72 rfl (by simp [Tryz.ntmps72]) ?_
 show awp _ _ _ _ ⟨[(0, true, _)], _, _⟩
 refine aSR ?_
 refine aL_eff (q := true) rfl (x_box rfl rfl rfl (fun b0_0 => ?_))
 refine aL_hp (by (try simp only [nM, nN]); rfl) ?_
 refine aA rfl (aNn (aSR (aU rfl (q_func (l := [.tmp 1]) rfl) (aA rfl (aL_nil ?_)))))
 refine thn_n (aSR (aA rfl (aNs (awp_shareB 0 rfl rfl ?_))))
 show awp _ _ _ _ ⟨_, At _ 0 _ :: _, _⟩
 refine awp_region ?_
 refine aU rfl (q_fieldAddr (off := 0) (by kernel_rfl) rfl) ?_
 refine aU rfl (q_fieldAddr (off := 6) (by kernel_rfl) rfl) ?_
 refine aU rfl (q_loadDE (o := 6) tk55 rfl (.of (psAt 0 rfl)) rfl) (aM rfl ?_)
 refine aL_callN (caps := []) [1, 0] (false) (by kernel_rfl) true rfl rfl (fun _ => rfl) (fun hc => rfl) (fun hc => by rw [List.append_nil]; exact (con_every_line o.lines 158 [.pointer (some ⟨b0_0, 0, none⟩)] (AndP (At b0_0 0 o.row) o.ok) (fun _ => True) (by kernel_rfl) (fun x hx => (con_line1 b0_0 o x).pre (ent3 ent1.left ent1.right (.allm (GObject.f_linesA ent1.right) hx)))).pre (ent2 (GObject.f_lines (.of (psAt 1 rfl))) (.mk2 (.of (psAt 0 rfl)) (.of (psAt 1 rfl))))) (fun c1 hc1 => ?_)
 refine aM rfl ?_
 refine aG rfl rfl (fun hc => q_fieldAddr (off := 0) (by kernel_rfl) rfl) ?_
 refine aG rfl rfl (fun hc => q_fieldAddr (off := 6) (by kernel_rfl) (ev_yes rfl hc)) ?_
 refine aG rfl rfl (fun hc => q_loadDE (o := 6) tk55 (ev_yes rfl hc) (.of (psAt 0 rfl)) rfl) (aG rfl rfl (fun hc => q_move rfl) ?_)
 refine aL_callN (caps := []) [0] (false) (by kernel_rfl) _ rfl rfl (fun _ => rfl) (fun hc => (evs_cons (ev_yes rfl hc) (evs_cons (ev_yes rfl hc) rfl))) (fun hc => by rw [List.append_nil]; exact (con_pairs_line o.lines 160 [] o.ok (by kernel_rfl) (fun x _ y _ => con_line2 x y _)).pre (ent2 (GObject.f_lines (.of (psAt 0 rfl))) (.of (psAt 0 rfl)))) (fun c2 hc2 => ?_)
 refine aU rfl (q_and rfl rfl (fun h => gt rfl h)) (aA rfl (aNn (awp_ret ?_)))
 refine fin1 [] [] rfl Tryz.results72 rfl ?_ (.inr rfl)
 exact ⟨⟨rfl, rfl⟩, _, rfl, fun _ => trivial⟩
theorem con_depth1 (b : Nat) (o : GObject) (x : GDepth) : Con Tryz.prog 171 [x.val, .pointer (some ⟨b, 0, none⟩)] [At b 0 o.row, o.ok] [] (YB True) := by
 refine Con.enter Tryz.func171 rfl (by simp [Tryz.ntmps171]) ?_
 show awp _ _ _ _ ⟨[(0, true, _), (1, true, _)], _, _⟩
 refine aSR ?_
 refine aL_eff (q := true) rfl (x_box rfl rfl rfl (fun b0_0 => ?_))
 refine aL_hp (by (try simp only [nM, nN]); rfl) ?_
 refine aA rfl (aNn (aSR (aU rfl (q_loadDE (o := 0) tk145 rfl (.of (psAt 0 rfl)) rfl) ?_)))
 refine aU rfl (q_fieldAddr (off := 0) (by kernel_rfl) rfl) ?_
 refine aU rfl (q_load 0 tk3 rfl rfl rfl) ?_
 refine aU rfl (q_fieldAddr (off := 1) (by kernel_rfl) rfl) ?_
 refine aU rfl (q_load 0 tk3 rfl rfl rfl) ?_
 refine aU rfl (q_fieldAddr (off := 2) (by kernel_rfl) rfl) ?_
 refine aU rfl (q_load 0 tk3 rfl rfl rfl) ?_
 refine aL_callN (caps := []) [0] (false) (by kernel_rfl) true rfl rfl (fun _ => rfl) (fun hc => rfl) (fun hc => by rw [List.append_nil]; exact con_span o _ _ _) (fun c1 hc1 => ?_)
 refine aM rfl ?_
 refine aG rfl rfl (fun hc => q_fieldAddr (off := 3) (by kernel_rfl) rfl) ?_
 refine aG rfl rfl (fun hc => q_load 0 tk3 (ev_yes rfl hc) rfl rfl) ?_
 refine aG rfl rfl (fun hc => q_call (by kernel_rfl) (evs_cons (ev_yes rfl hc) (evs_cons (ev_yes rfl rfl) rfl)) (fun w S fp hst => (con_within _ _).quiet0 hst)) ?_
 refine aU rfl (q_and rfl rfl (fun h => gt rfl h)) (aM rfl ?_)
 refine aG rfl rfl (fun hc => q_fieldAddr (off := 3) (by kernel_rfl) rfl) ?_
 refine aG rfl rfl (fun hc => q_load 0 tk3 (ev_yes rfl hc) rfl rfl) ?_
 refine aG rfl rfl (fun hc => q_rem (ev_yes rfl hc) rfl (by decide)) ?_
 refine aG rfl rfl (fun hc => q_eql (ev_yes rfl hc) rfl) (aU rfl (q_and rfl rfl (fun h => gt rfl h)) (aA rfl (aNn (awp_ret ?_))))
 refine fin1 [] [] rfl Tryz.results171 rfl ?_ (.inr rfl)
 exact ⟨⟨rfl, rfl⟩, _, rfl, fun _ => trivial⟩
theorem con_depth2 (x y : GDepth) (p : Per) : Con Tryz.prog 172 [x.val, y.val] [p] [] (YB True) := by
 refine Con.enter Tryz.func172 rfl (by simp [Tryz.ntmps172]) ?_
 show awp _ _ _ _ ⟨[(0, true, _), (1, true, _)], _, _⟩
 refine aSR ?_
 refine aL_eff (q := true) rfl (x_box rfl rfl rfl (fun b0_0 => ?_))
 refine aL_hp (by (try simp only [nM, nN]); rfl) ?_
 refine aL_eff (q := true) rfl (x_box rfl rfl rfl (fun b0_1 => ?_))
 refine aL_hp (by (try simp only [nM, nN]); rfl) ?_
 refine aA rfl (aNn (aSR ?_))
 refine aU rfl (q_fieldAddr (off := 0) (by kernel_rfl) rfl) ?_
 refine aU rfl (q_load 0 tk3 rfl rfl rfl) ?_
 refine aU rfl (q_fieldAddr (off := 0) (by kernel_rfl) rfl) ?_
 refine aU rfl (q_load 1 tk3 rfl rfl rfl) (aU rfl (q_lss rfl rfl) (aM rfl ?_))
 refine aG rfl rfl (fun hc => q_fieldAddr (off := 0) (by kernel_rfl) rfl) ?_
 refine aG rfl rfl (fun hc => q_load 0 tk3 (ev_yes rfl hc) rfl rfl) ?_
 refine aG rfl rfl (fun hc => q_fieldAddr (off := 0) (by kernel_rfl) rfl) ?_
 refine aG rfl rfl (fun hc => q_load 1 tk3 (ev_yes rfl hc) rfl rfl) (aG rfl rfl (fun hc => q_eql (ev_yes rfl hc) (ev_yes rfl hc)) (aG rfl rfl (fun hc => q_move (ev_yes rfl hc)) ?_))
 refine aG rfl rfl (fun hc => q_fieldAddr (off := 2) (by kernel_rfl) rfl) ?_
 refine aG rfl rfl (fun hc => q_load 0 tk3 (ev_yes rfl hc) rfl rfl) ?_
 refine aG rfl rfl (fun hc => q_fieldAddr (off := 1) (by kernel_rfl) rfl) ?_
 refine aG rfl rfl (fun hc => q_load 1 tk3 (ev_yes rfl hc) rfl rfl) (aG rfl rfl (fun hc => q_leq (ev_yes rfl hc) (ev_yes rfl hc)) (aG rfl rfl (fun hc => q_and (ev_yes rfl hc) rfl (fun h => gt hc h)) (aU rfl (q_or rfl rfl (fun h => gf rfl h)) (aA rfl (aNn (awp_ret ?_))))))
 refine fin1 [] [] rfl Tryz.results172 rfl ?_ (.inr rfl)
 exact ⟨⟨rfl, rfl⟩, _, rfl, fun _ => trivial⟩
theorem con_odepths (o : GObject) : Con Tryz.prog 75 [o.val] [o.ok] [] (YB True) := by
 refine Con.enter Tryz.func75 rfl (by simp [Tryz.ntmps75]) ?_
 show awp _ _ _ _ ⟨[(0, true, _)], _, _⟩
 refine aSR ?_
 refine aL_eff (q := true) rfl (x_box rfl rfl rfl (fun b0_0 => ?_))
 refine aL_hp (by (try simp only [nM, nN]); rfl) ?_
 refine aA rfl (aNn (aSR (aU rfl (q_func (l := [.tmp 1]) rfl) (aA rfl (aL_nil ?_)))))
 refine thn_n (aSR (aA rfl (aNs (awp_shareB 0 rfl rfl ?_))))
 show awp _ _ _ _ ⟨_, At _ 0 _ :: _, _⟩
 refine awp_region ?_
 refine aU rfl (q_fieldAddr (off := 0) (by kernel_rfl) rfl) ?_
 refine aU rfl (q_fieldAddr (off := 9) (by kernel_rfl) rfl) ?_
 refine aU rfl (q_loadDE (o := 9) tk58 rfl (.of (psAt 0 rfl)) rfl) (aM rfl ?_)
 refine aL_callN (caps := []) [1, 0] (false) (by kernel_rfl) true rfl rfl (fun _ => rfl) (fun hc => rfl) (fun hc => by rw [List.append_nil]; exact (con_every_depth o.depths 171 [.pointer (some ⟨b0_0, 0, none⟩)] (AndP (At b0_0 0 o.row) o.ok) (fun _ => True) (by kernel_rfl) (fun x hx => (con_depth1 b0_0 o x).pre (ent2 ent1.left ent1.right))).pre (ent2 (GObject.f_depths (.of (psAt 1 rfl))) (.mk2 (.of (psAt 0 rfl)) (.of (psAt 1 rfl))))) (fun c1 hc1 => ?_)
 refine aM rfl ?_
 refine aG rfl rfl (fun hc => q_fieldAddr (off := 0) (by kernel_rfl) rfl) ?_
 refine aG rfl rfl (fun hc => q_fieldAddr (off := 9) (by kernel_rfl) (ev_yes rfl hc)) ?_
 refine aG rfl rfl (fun hc => q_loadDE (o := 9) tk58 (ev_yes rfl hc) (.of (psAt 0 rfl)) rfl) (aG rfl rfl (fun hc => q_move rfl) ?_)
 refine aL_callN (caps := []) [0] (false) (by kernel_rfl) _ rfl rfl (fun _ => rfl) (fun hc => (evs_cons (ev_yes rfl hc) (evs_cons (ev_yes rfl hc) rfl))) (fun hc => by rw [List.append_nil]; exact (con_pairs_depth o.depths 172 [] o.ok (by kernel_rfl) (fun x _ y _ => con_depth2 x y _)).pre (ent2 (GObject.f_depths (.of (psAt 0 rfl))) (.of (psAt 0 rfl)))) (fun c2 hc2 => ?_)
 refine aU rfl (q_and rfl rfl (fun h => gt rfl h)) (aA rfl (aNn (awp_ret ?_)))
 refine fin1 [] [] rfl Tryz.results75 rfl ?_ (.inr rfl)
 exact ⟨⟨rfl, rfl⟩, _, rfl, fun _ => trivial⟩
end Go.Proofs.YtgmiihmahaahiaaGreatDoor

namespace Go.Proofs.YtgmiihmahaahiaaGreatDoor
open Go.RowKit Go.Lp Go.Sy
open Go.Proofs.Tryz
attribute [local irreducible] aL aB awp aC fwp
theorem con_orW (l : Sl Int) : Con Tryz.prog 44 [l.val] [ShF rowI l] [] (YN (fun z : Int => .int .i64 z) fun _ => True) := by
 refine Con.enter Tryz.func44 rfl (by simp [Tryz.ntmps44]) ?_
 show awp _ _ _ _ ⟨[(0, true, _)], _, _⟩
 refine awp_lenE (.of (psAt 0 rfl)) (fun hlen => ?_)
 refine aSR (aA rfl (aNn (aSR (aA rfl (aNs (aSR (aM rfl (aU rfl (q_lenS Tryz.underlying90 rfl) (aM rfl ?_)))))))))
 refine aNn (awp_block (awp_loopK [0, 3, 6, 7, 8] [0] [] (fun (k : Nat) st => k ≤ l.l.length ∧ st = ⟨[(0, true, l.val), (3, true, .int .i64 0), (6, true, l.val), (7, true, .int .i64 l.l.length), (8, true, .int .i64 k)], [ShF rowI l], []⟩) (fun k => l.l.length - k) rfl (⟨0, Nat.zero_le _, rfl⟩) ?_))
 rintro k st ⟨hk, rfl⟩
 refine aSR (aU rfl (q_lss rfl rfl) (aNs ?_))
 refine awp_cond _ rfl (fun h1 => ?_) (fun h1 => ?_)
 ·skip
  have hk' : k < l.l.length := by simp at h1; omega
  obtain ⟨a, ha⟩ : ∃ a, l.l[k]? = some a := ⟨l.l[k]'hk', by simp⟩
  refine awp_skip (thn_n (awp_seq (awp_block (aSR ?_))))
  refine aL_E true rfl rfl (fun _ => q_indexAddrG Tryz.underlying90 tk3 rfl ((.of (psAt 0 rfl))) rfl (rows_get ha) rfl rfl) (fun h => absurd h (by decide)) (fun ⟨b4_0, o4_0⟩ => ?_)
  refine aU rfl (q_loadD (o := 0) tk3 rfl (psAt 0 rfl) rfl rfl) (aA rfl (aNn (aSR (aM rfl (aM rfl (aU rfl (q_neq rfl rfl) (aNn ?_)))))))
  refine awp_cond _ rfl (fun h2 => ?_) (fun h2 => ?_)
  ·skip
   refine aSR (aM rfl (aA rfl (aNn (awp_ret (blk_r (thn_r (thn_r (blk_r (thn_r ?_)))))))))
   refine fin1 [] [] rfl Tryz.results44 rfl ?_ (.inr rfl)
   exact ⟨⟨rfl, rfl⟩, _, rfl, trivial⟩
  ·skip
   refine awp_skip (blk_n (thn_n (awp_region ?_)))
   refine aU rfl (q_addi rfl rfl (by omega)) ?_
   refine aM rfl (aNn ?_)
   refine ⟨[0, 3, 6, 7, 8], [0], [], rfl, ?_⟩
   exact ⟨k + 1, ⟨by omega, rfl⟩, by omega⟩
 ·skip
  refine awp_exit (thn_e (thn_e (blk_hit (thn_n (aSR (aM rfl (aA rfl (aNn (awp_ret ?_)))))))))
  refine fin1 [] [] rfl Tryz.results44 rfl ?_ (.inr rfl)
  exact ⟨⟨rfl, rfl⟩, _, rfl, trivial⟩
theorem con_var1 (b : Nat) (o : GObject) (x : GVar) : Con Tryz.prog 167 [x.val, .pointer (some ⟨b, 0, none⟩)] [At b 0 o.row, o.ok, x.ok] [] (YB True) := by
 refine Con.enter Tryz.func167 rfl (by simp [Tryz.ntmps167]) ?_
 show awp _ _ _ _ ⟨[(0, true, _), (1, true, _)], _, _⟩
 refine awp_strE (GVar.f_name (.of (psAt 2 rfl))) (fun hnl => ?_)
 refine aSR ?_
 refine aL_eff (q := true) rfl (x_box rfl rfl rfl (fun b0_0 => ?_))
 refine aL_hp (by (try simp only [nM, nN]); rfl) ?_
 refine aA rfl (aNs (aSR (aU rfl (q_loadDE (o := 0) tk145 rfl (.of (psAt 0 rfl)) rfl) ?_)))
 refine aU rfl (q_fieldAddr (off := 0) (by kernel_rfl) rfl) ?_
 refine aU rfl (q_load 0 tk3 rfl rfl rfl) ?_
 refine aU rfl (q_fieldAddr (off := 1) (by kernel_rfl) rfl) ?_
 refine aU rfl (q_load 0 tk3 rfl rfl rfl) ?_
 refine aU rfl (q_fieldAddr (off := 2) (by kernel_rfl) rfl) ?_
 refine aU rfl (q_load 0 tk3 rfl rfl rfl) ?_
 refine aL_callN (caps := []) [1] (false) (by kernel_rfl) true rfl rfl (fun _ => rfl) (fun hc => rfl) (fun hc => by rw [List.append_nil]; exact con_span o _ _ _) (fun c1 hc1 => ?_)
 refine aU rfl (q_not rfl) (aM rfl ?_)
 refine aG rfl rfl (fun hc => q_fieldAddr (off := 3) (by kernel_rfl) rfl) ?_
 refine aG rfl rfl (fun hc => q_load 0 tk9 (ev_yes rfl hc) rfl rfl) ?_
 refine aL_callN (caps := []) [] (false) (by kernel_rfl) _ rfl rfl (fun _ => rfl) (fun hc => (evs_cons (ev_yes rfl hc) rfl)) (fun hc => by rw [List.append_nil]; exact con_oname _ hnl) (fun c2 hc2 => ?_)
 refine aG rfl rfl (fun hc => q_not (ev_yes rfl hc)) (aU rfl (q_or rfl rfl (fun h => gf rfl h)) (aNn ?_))
 refine awp_cond _ rfl (fun h1 => ?_) (fun h1 => ?_)
 ·skip
  refine aSR (aA rfl (aNn (awp_ret (thn_r ?_))))
  refine fin1 [] [] rfl Tryz.results167 rfl ?_ (.inr rfl)
  exact ⟨⟨rfl, rfl⟩, _, rfl, fun _ => trivial⟩
 ·skip
  refine awp_skip (thn_n (awp_seq (aSR ?_)))
  refine aU rfl (q_fieldAddr (off := 4) (by kernel_rfl) rfl) ?_
  refine aU rfl (q_load 0 tk3 rfl rfl rfl) (aNn (awp_block (aSR (aU rfl (q_eql rfl rfl) (aA rfl (aNn ?_))))))
  refine awp_cond _ rfl (fun h2 => ?_) (fun h2 => ?_)
  ·skip
   refine aSR ?_
   refine aU rfl (q_fieldAddr (off := 5) (by kernel_rfl) rfl) ?_
   refine aU rfl (q_load 0 tk3 rfl rfl rfl) ?_
   refine aU rfl (q_call (by kernel_rfl) rfl (fun w S fp hst => (con_within _ _).quiet0 hst)) ?_
   refine aA rfl (aNn (awp_ret (blk_r (thn_r ?_))))
   refine fin1 [] [] rfl Tryz.results167 rfl ?_ (.inr rfl)
   exact ⟨⟨rfl, rfl⟩, _, rfl, fun _ => trivial⟩
  ·skip
   refine aSR (aU rfl (q_eql rfl rfl) (aA rfl (aNn ?_)))
   refine awp_cond _ rfl (fun h3 => ?_) (fun h3 => ?_)
   ·skip
    refine aSR ?_
    refine aU rfl (q_fieldAddr (off := 5) (by kernel_rfl) rfl) ?_
    refine aU rfl (q_load 0 tk3 rfl rfl rfl) ?_
    refine aU rfl (q_call (by kernel_rfl) rfl (fun w S fp hst => (con_within _ _).quiet0 hst)) ?_
    refine aM rfl ?_
    refine aG rfl rfl (fun hc => q_fieldAddr (off := 5) (by kernel_rfl) rfl) ?_
    refine aG rfl rfl (fun hc => q_load 0 tk3 (ev_yes rfl hc) rfl rfl) ?_
    refine aG rfl rfl (fun hc => q_rem (ev_yes rfl hc) rfl (by decide)) ?_
    refine aG rfl rfl (fun hc => q_eql (ev_yes rfl hc) rfl) (aU rfl (q_and rfl rfl (fun h => gt rfl h)) (aA rfl (aNn (awp_ret (blk_r (thn_r ?_))))))
    refine fin1 [] [] rfl Tryz.results167 rfl ?_ (.inr rfl)
    exact ⟨⟨rfl, rfl⟩, _, rfl, fun _ => trivial⟩
   ·skip
    refine aSR (aU rfl (q_eql rfl rfl) (aA rfl (aNn ?_)))
    refine awp_cond _ rfl (fun h4 => ?_) (fun h4 => ?_)
    ·skip
     refine aSR (aU rfl (q_loadDE (o := 0) tk145 rfl (.of (psAt 0 rfl)) rfl) ?_)
     refine aU rfl (q_fieldAddr (off := 5) (by kernel_rfl) rfl) ?_
     refine aU rfl (q_load 0 tk3 rfl rfl rfl) ?_
     refine aL_callN (caps := []) [1] (false) (by kernel_rfl) true rfl rfl (fun _ => rfl) (fun hc => rfl) (fun hc => by rw [List.append_nil]; exact con_osym o _ _) (fun c3 hc3 => ?_)
     refine aA rfl (aNn (awp_ret (blk_r (thn_r ?_))))
     refine fin1 [] [] rfl Tryz.results167 rfl ?_ (.inr rfl)
     exact ⟨⟨rfl, rfl⟩, _, rfl, fun _ => trivial⟩
    ·skip
     refine awp_skip (blk_n (thn_n (aSR (aA rfl (aNn (awp_ret ?_))))))
     refine fin1 [] [] rfl Tryz.results167 rfl ?_ (.inr rfl)
     exact ⟨⟨rfl, rfl⟩, _, rfl, fun _ => trivial⟩
theorem con_var2 (x y : GVar) (p : Per) : Con Tryz.prog 168 [x.val, y.val] [p] [] (YB True) := by
 refine Con.enter Tryz.func168 rfl (by simp [Tryz.ntmps168]) ?_
 show awp _ _ _ _ ⟨[(0, true, _), (1, true, _)], _, _⟩
 refine aSR ?_
 refine aL_eff (q := true) rfl (x_box rfl rfl rfl (fun b0_0 => ?_))
 refine aL_hp (by (try simp only [nM, nN]); rfl) ?_
 refine aL_eff (q := true) rfl (x_box rfl rfl rfl (fun b0_1 => ?_))
 refine aL_hp (by (try simp only [nM, nN]); rfl) ?_
 refine aA rfl (aNs ?_)
 refine awp_drawn [] (by kernel_rfl) ?_
 show aB _ _ _ _ _ 24 #[false, false, false, false, false, false, false, false, false, false, false, false, false, false, false, false, false, false, false, false, false, false, false, false] _
 refine bU 0 rfl (by kernel_rfl) rfl (q_fieldAddr (off := 0) (by kernel_rfl) rfl) ?_
 refine bU 1 rfl (by kernel_rfl) rfl (q_load 0 tk3 rfl rfl rfl) ?_
 refine bU 2 rfl (by kernel_rfl) rfl (q_fieldAddr (off := 0) (by kernel_rfl) rfl) ?_
 refine bU 3 rfl (by kernel_rfl) rfl (q_load 1 tk3 rfl rfl rfl) ?_
 refine bU 4 rfl (by kernel_rfl) rfl (q_call (by kernel_rfl) rfl (fun w S fp hst => (con_cmpI _ _).quiet0 hst)) ?_
 refine bU 5 rfl (by kernel_rfl) rfl (q_fieldAddr (off := 1) (by kernel_rfl) rfl) ?_
 refine bU 6 rfl (by kernel_rfl) rfl (q_load 0 tk3 rfl rfl rfl) ?_
 refine bU 7 rfl (by kernel_rfl) rfl (q_fieldAddr (off := 1) (by kernel_rfl) rfl) ?_
 refine bU 8 rfl (by kernel_rfl) rfl (q_load 1 tk3 rfl rfl rfl) ?_
 refine bU 9 rfl (by kernel_rfl) rfl (q_call (by kernel_rfl) rfl (fun w S fp hst => (con_cmpI _ _).quiet0 hst)) ?_
 refine bU 10 rfl (by kernel_rfl) rfl (q_fieldAddr (off := 2) (by kernel_rfl) rfl) ?_
 refine bU 11 rfl (by kernel_rfl) rfl (q_load 0 tk3 rfl rfl rfl) ?_
 refine bU 12 rfl (by kernel_rfl) rfl (q_fieldAddr (off := 2) (by kernel_rfl) rfl) ?_
 refine bU 13 rfl (by kernel_rfl) rfl (q_load 1 tk3 rfl rfl rfl) ?_
 refine bU 14 rfl (by kernel_rfl) rfl (q_call (by kernel_rfl) rfl (fun w S fp hst => (con_cmpI _ _).quiet0 hst)) ?_
 refine bU 15 rfl (by kernel_rfl) rfl (q_fieldAddr (off := 3) (by kernel_rfl) rfl) ?_
 refine bU 16 rfl (by kernel_rfl) rfl (q_load 0 tk9 rfl rfl rfl) ?_
 refine bU 17 rfl (by kernel_rfl) rfl (q_fieldAddr (off := 3) (by kernel_rfl) rfl) ?_
 refine bU 18 rfl (by kernel_rfl) rfl (q_load 1 tk9 rfl rfl rfl) ?_
 refine bU 19 rfl (by kernel_rfl) rfl (q_call (by kernel_rfl) rfl (fun w S fp hst => (con_cmpS _ _).quiet0 hst)) ?_
 refine aB_lit1 (zs := [.int .i64 0]) (l := [(0, .tmp 9), (1, .tmp 14), (2, .tmp 19), (3, .tmp 24)]) 20 rfl (by kernel_rfl) el90 (by kernel_rfl) (by decide) (by decide) (by decide) rfl rfl rfl rfl (.more rfl (.v rfl .nil) (.more rfl (.v rfl .nil) (.more rfl (.v rfl .nil) (.more rfl (.v rfl .nil) .nil)))) rfl rfl (fun v1_20 => ?_)
 refine aB_callN (caps := []) 21 rfl (by kernel_rfl) [1] ((0 : Int)) (by kernel_rfl) true rfl rfl (fun _ => rfl) (fun hc => rfl) (fun hc => by rw [List.append_nil]; exact con_orW ⟨v1_20, 4, [cmpI x.sec y.sec, cmpI x.from_ y.from_, cmpI x.to_ y.to_, cmpS x.name y.name]⟩) (fun c1 hc1 => ?_)
 refine bU 22 rfl (by kernel_rfl) rfl (q_lss rfl rfl) ?_
 refine bU 23 rfl (by kernel_rfl) rfl (q_assign rfl) ?_
 refine aB_nil (by kernel_rfl) ?_
 refine thn_n (awp_ret ?_)
 refine fin1 [] [] rfl Tryz.results168 rfl ?_ (.inr rfl)
 exact ⟨⟨rfl, rfl⟩, _, rfl, fun _ => trivial⟩
theorem con_ovars (o : GObject) : Con Tryz.prog 74 [o.val] [o.ok] [] (YB True) := by
 refine Con.enter Tryz.func74 rfl (by simp [Tryz.ntmps74]) ?_
 show awp _ _ _ _ ⟨[(0, true, _)], _, _⟩
 refine aSR ?_
 refine aL_eff (q := true) rfl (x_box rfl rfl rfl (fun b0_0 => ?_))
 refine aL_hp (by (try simp only [nM, nN]); rfl) ?_
 refine aA rfl (aNn (aSR (aU rfl (q_func (l := [.tmp 1]) rfl) (aA rfl (aL_nil ?_)))))
 refine thn_n (aSR (aA rfl (aNs (awp_shareB 0 rfl rfl ?_))))
 show awp _ _ _ _ ⟨_, At _ 0 _ :: _, _⟩
 refine awp_region ?_
 refine aU rfl (q_fieldAddr (off := 0) (by kernel_rfl) rfl) ?_
 refine aU rfl (q_fieldAddr (off := 8) (by kernel_rfl) rfl) ?_
 refine aU rfl (q_loadDE (o := 8) tk57 rfl (.of (psAt 0 rfl)) rfl) (aM rfl ?_)
 refine aL_callN (caps := []) [1, 0] (false) (by kernel_rfl) true rfl rfl (fun _ => rfl) (fun hc => rfl) (fun hc => by rw [List.append_nil]; exact (con_every_var o.vars 167 [.pointer (some ⟨b0_0, 0, none⟩)] (AndP (At b0_0 0 o.row) o.ok) (fun _ => True) (by kernel_rfl) (fun x hx => (con_var1 b0_0 o x).pre (ent3 ent1.left ent1.right (.allm (GObject.f_varsA ent1.right) hx)))).pre (ent2 (GObject.f_vars (.of (psAt 1 rfl))) (.mk2 (.of (psAt 0 rfl)) (.of (psAt 1 rfl))))) (fun c1 hc1 => ?_)
 refine aM rfl ?_
 refine aG rfl rfl (fun hc => q_fieldAddr (off := 0) (by kernel_rfl) rfl) ?_
 refine aG rfl rfl (fun hc => q_fieldAddr (off := 8) (by kernel_rfl) (ev_yes rfl hc)) ?_
 refine aG rfl rfl (fun hc => q_loadDE (o := 8) tk57 (ev_yes rfl hc) (.of (psAt 0 rfl)) rfl) (aG rfl rfl (fun hc => q_move rfl) ?_)
 refine aL_callN (caps := []) [0] (false) (by kernel_rfl) _ rfl rfl (fun _ => rfl) (fun hc => (evs_cons (ev_yes rfl hc) (evs_cons (ev_yes rfl hc) rfl))) (fun hc => by rw [List.append_nil]; exact (con_pairs_var o.vars 168 [] o.ok (by kernel_rfl) (fun x _ y _ => con_var2 x y _)).pre (ent2 (GObject.f_vars (.of (psAt 0 rfl))) (.of (psAt 0 rfl)))) (fun c2 hc2 => ?_)
 refine aU rfl (q_and rfl rfl (fun h => gt rfl h)) (aA rfl (aNn (awp_ret ?_)))
 refine fin1 [] [] rfl Tryz.results74 rfl ?_ (.inr rfl)
 exact ⟨⟨rfl, rfl⟩, _, rfl, fun _ => trivial⟩
theorem con_inl1 (b : Nat) (o : GObject) (x : GInline) : Con Tryz.prog 164 [x.val, .pointer (some ⟨b, 0, none⟩)] [At b 0 o.row, o.ok, x.ok] [] (YB True) := by
 refine Con.enter Tryz.func164 rfl (by simp [Tryz.ntmps164]) ?_
 show awp _ _ _ _ ⟨[(0, true, _), (1, true, _)], _, _⟩
 refine awp_strE (GInline.f_name (.of (psAt 2 rfl))) (fun hnl => ?_)
 refine awp_strE (GInline.f_file (.of (psAt 2 rfl))) (fun hfl => ?_)
 refine aSR ?_
 refine aL_eff (q := true) rfl (x_box rfl rfl rfl (fun b0_0 => ?_))
 refine aL_hp (by (try simp only [nM, nN]); rfl) ?_
 refine aA rfl (aNn (aSR (aU rfl (q_loadDE (o := 0) tk145 rfl (.of (psAt 0 rfl)) rfl) ?_)))
 refine aU rfl (q_fieldAddr (off := 0) (by kernel_rfl) rfl) ?_
 refine aU rfl (q_load 0 tk3 rfl rfl rfl) ?_
 refine aU rfl (q_fieldAddr (off := 1) (by kernel_rfl) rfl) ?_
 refine aU rfl (q_load 0 tk3 rfl rfl rfl) ?_
 refine aU rfl (q_fieldAddr (off := 2) (by kernel_rfl) rfl) ?_
 refine aU rfl (q_load 0 tk3 rfl rfl rfl) ?_
 refine aL_callN (caps := []) [1] (false) (by kernel_rfl) true rfl rfl (fun _ => rfl) (fun hc => rfl) (fun hc => by rw [List.append_nil]; exact con_span o _ _ _) (fun c1 hc1 => ?_)
 refine aM rfl ?_
 refine aG rfl rfl (fun hc => q_fieldAddr (off := 3) (by kernel_rfl) rfl) ?_
 refine aG rfl rfl (fun hc => q_load 0 tk9 (ev_yes rfl hc) rfl rfl) ?_
 refine aL_callN (caps := []) [] (false) (by kernel_rfl) _ rfl rfl (fun _ => rfl) (fun hc => (evs_cons (ev_yes rfl hc) rfl)) (fun hc => by rw [List.append_nil]; exact con_oname _ hnl) (fun c2 hc2 => ?_)
 refine aU rfl (q_and rfl rfl (fun h => gt rfl h)) (aM rfl ?_)
 refine aG rfl rfl (fun hc => q_fieldAddr (off := 4) (by kernel_rfl) rfl) ?_
 refine aG rfl rfl (fun hc => q_load 0 tk9 (ev_yes rfl hc) rfl rfl) ?_
 refine aL_callN (caps := []) [] (false) (by kernel_rfl) _ rfl rfl (fun _ => rfl) (fun hc => (evs_cons (ev_yes rfl hc) rfl)) (fun hc => by rw [List.append_nil]; exact con_ofile _ hfl) (fun c3 hc3 => ?_)
 refine aU rfl (q_and rfl rfl (fun h => gt rfl h)) (aM rfl ?_)
 refine aG rfl rfl (fun hc => q_fieldAddr (off := 5) (by kernel_rfl) rfl) ?_
 refine aG rfl rfl (fun hc => q_load 0 tk3 (ev_yes rfl hc) rfl rfl) (aG rfl rfl (fun hc => q_geq (ev_yes rfl hc) rfl) (aU rfl (q_and rfl rfl (fun h => gt rfl h)) (aM rfl ?_)))
 refine aG rfl rfl (fun hc => q_fieldAddr (off := 5) (by kernel_rfl) rfl) ?_
 refine aG rfl rfl (fun hc => q_load 0 tk3 (ev_yes rfl hc) rfl rfl) (aG rfl rfl (fun hc => q_leq (ev_yes rfl hc) rfl) (aU rfl (q_and rfl rfl (fun h => gt rfl h)) (aA rfl (aNn (awp_ret ?_)))))
 refine fin1 [] [] rfl Tryz.results164 rfl ?_ (.inr rfl)
 exact ⟨⟨rfl, rfl⟩, _, rfl, fun _ => trivial⟩
theorem con_oinlines (o : GObject) (hn : o.inlines.l.length ≤ 1000) : Con Tryz.prog 73 [o.val] [o.ok] [] (YB True) := by
 refine Con.enter Tryz.func73 rfl (by simp [Tryz.ntmps73]) ?_
 show awp _ _ _ _ ⟨[(0, true, _)], _, _⟩
 refine awp_lenE (GObject.f_inlines (.of (psAt 0 rfl))) (fun hlen => ?_)
 refine aSR ?_
 refine aL_eff (q := true) rfl (x_box rfl rfl rfl (fun b0_0 => ?_))
 refine aL_hp (by (try simp only [nM, nN]); rfl) ?_
 refine aA rfl (aNs (awp_seq (awp_shareB 0 rfl rfl ?_)))
 show awp _ _ _ _ ⟨_, At _ 0 _ :: _, _⟩
 refine awp_region ?_
 refine aU rfl (q_fieldAddr (off := 0) (by kernel_rfl) rfl) ?_
 refine aU rfl (q_fieldAddr (off := 7) (by kernel_rfl) rfl) ?_
 refine aU rfl (q_loadDE (o := 7) tk56 rfl (.of (psAt 0 rfl)) rfl) (aU rfl (q_func (l := [.tmp 1]) rfl) ?_)
 refine aL_callN (caps := []) [1, 0] (false) (by kernel_rfl) true rfl rfl (fun _ => rfl) (fun hc => rfl) (fun hc => by rw [List.append_nil]; exact (con_every_inline o.inlines 164 [.pointer (some ⟨b0_0, 0, none⟩)] (AndP (At b0_0 0 o.row) o.ok) (fun _ => True) (by kernel_rfl) (fun x hx => (con_inl1 b0_0 o x).pre (ent3 ent1.left ent1.right (.allm (GObject.f_inlinesA ent1.right) hx)))).pre (ent2 (GObject.f_inlines (.of (psAt 1 rfl))) (.mk2 (.of (psAt 0 rfl)) (.of (psAt 1 rfl))))) (fun c1 hc1 => ?_)
 refine aU rfl (q_not rfl) (aNn ?_)
 refine awp_cond _ rfl (fun h1 => ?_) (fun h1 => ?_)
 ·skip
  refine aSR (aA rfl (aNn (awp_ret (thn_r ?_))))
  refine fin1 [] [] rfl Tryz.results73 rfl ?_ (.inr rfl)
  exact ⟨⟨rfl, rfl⟩, _, rfl, fun _ => trivial⟩
 ·skip
  refine awp_skip (thn_n (aSR (aA rfl (aNs ?_))))
  refine awp_seq (awp_nil 200 6 ?_)
  show awp _ _ _ _ ⟨_, _, [_, _]⟩
  refine awp_region ?_
  refine aU rfl (q_fieldAddr (off := 0) (by kernel_rfl) rfl) ?_
  refine aU rfl (q_fieldAddr (off := 7) (by kernel_rfl) rfl) ?_
  refine aU rfl (q_loadDE (o := 7) tk56 rfl (.of (psAt 0 rfl)) rfl) (aU rfl (q_lenS Tryz.underlying56 rfl) (aM rfl (aNn (awp_block (awp_loopK [1, 3, 15, 16, 17] [1, 0] [1] (fun (q : Nat × (Value × List GInline)) s => (q.1 ≤ o.inlines.l.length ∧ q.2.2.length ≤ q.1) ∧ s = ⟨[(1, true, .pointer (some ⟨b0_0, 0, none⟩)), (3, true, q.2.1), (15, true, o.inlines.val), (16, true, .int .i64 o.inlines.l.length), (17, true, .int .i64 q.1)], [At b0_0 0 o.row, o.ok], [OwnS q.2.1 200 6 (q.2.2.map GInline.row)]⟩) (fun q => o.inlines.l.length - q.1) rfl (⟨(0, (_, [])), ⟨Nat.zero_le _, Nat.le_refl _⟩, rfl⟩) ?_)))))
  rintro ⟨k, v, zs⟩ s ⟨⟨hk, hz⟩, rfl⟩
  dsimp only at hk hz
  refine aSR (aU rfl (q_lss rfl rfl) (aNs ?_))
  refine awp_cond _ rfl (fun h2 => ?_) (fun h2 => ?_)
  ·skip
   have hk' : k < o.inlines.l.length := by simp at h2; omega
   obtain ⟨x, hx⟩ : ∃ x, o.inlines.l[k]? = some x := ⟨_, List.getElem?_eq_getElem hk'⟩
   refine awp_skip (thn_n (awp_seq (awp_block (aSR (aM rfl ?_)))))
   refine aL_E true rfl rfl (fun _ => q_indexAddrG Tryz.underlying56 tk200 rfl ((GObject.f_inlines (.of (psAt 1 rfl)))) rfl (rows_get hx) rfl rfl) (fun h => absurd h (by decide)) (fun ⟨b6_1, o6_1⟩ => ?_)
   refine aU rfl (q_loadD (o := 0) tk200 rfl (psAt 0 rfl) rfl rfl) ?_
   refine aL_eff (q := true) rfl (x_alloc (zs := [.int .i64 0, .int .i64 0, .int .i64 0, .string .empty, .string .empty, .int .i64 0]) (by kernel_rfl) rfl (fun b6_3 => ?_))
   refine aL_hp (by (try simp only [nM, nN]); rfl) ?_
   refine aA rfl ?_
   refine aL_eff rfl (x_store 1 tk200 rfl rfl rfl rfl ?_)
   refine aL_hp (by (try simp only [nK, nL]); rfl) ?_
   refine aNs ?_
   refine awp_join (X := Nat) (fun q => ⟨[(1, true, .pointer (some ⟨b0_0, 0, none⟩)), (3, true, v), (5, true, .pointer (some ⟨q, 0, none⟩)), (15, true, o.inlines.val), (16, true, .int .i64 o.inlines.l.length), (17, true, .int .i64 k)], [At b0_0 0 o.row, o.ok], [OwnS v 200 6 (zs.map GInline.row), Box q 200 x.vs]⟩) ?_ ?_
   ·skip
    refine aSR (aM rfl (aU rfl (q_gtr rfl rfl) (aNn ?_)))
    refine awp_cond _ rfl (fun h3 => ?_) (fun h3 => ?_)
    ·skip
     obtain ⟨j, rfl⟩ : ∃ j, k = j + 1 := ⟨k - 1, by simp at h3; omega⟩
     obtain ⟨y, hy⟩ : ∃ y, o.inlines.l[j]? = some y := ⟨_, List.getElem?_eq_getElem (by omega)⟩
     refine aSR ?_
     refine aU rfl (q_fieldAddr (off := 0) (by kernel_rfl) rfl) ?_
     refine aU rfl (q_fieldAddr (off := 7) (by kernel_rfl) rfl) ?_
     refine aU rfl (q_loadDE (o := 7) tk56 rfl (.of (psAt 1 rfl)) rfl) (aM rfl ?_)
     refine aU rfl (q_subi rfl rfl (by omega)) ?_
     refine aL_E true rfl rfl (fun _ => q_indexAddrG Tryz.underlying56 tk200 rfl ((GObject.f_inlines (.of (psAt 2 rfl)))) rfl (rows_get hy) (by omega) rfl) (fun h => absurd h (by decide)) (fun ⟨b8_5, o8_5⟩ => ?_)
     refine aU rfl (q_loadD (o := 0) tk200 rfl (psAt 0 rfl) rfl rfl) ?_
     refine aL_eff (q := true) rfl (x_alloc (zs := [.int .i64 0, .int .i64 0, .int .i64 0, .string .empty, .string .empty, .int .i64 0]) (by kernel_rfl) rfl (fun b8_7 => ?_))
     refine aL_hp (by (try simp only [nM, nN]); rfl) ?_
     refine aL_eff rfl (x_store 2 tk200 rfl rfl rfl rfl ?_)
     refine aL_hp (by (try simp only [nK, nL]); rfl) ?_
     refine aNs ?_
     refine awp_drawn [] (by kernel_rfl) ?_
     show aB _ _ _ _ _ 18 #[false, false, false, false, false, false, false, false, false, false, false, false, false, false, false, false, false, false] _
     refine bU 0 rfl (by kernel_rfl) rfl (q_fieldAddr (off := 0) (by kernel_rfl) rfl) ?_
     refine bU 1 rfl (by kernel_rfl) rfl (q_load 2 tk3 rfl rfl rfl) ?_
     refine bU 2 rfl (by kernel_rfl) rfl (q_fieldAddr (off := 0) (by kernel_rfl) rfl) ?_
     refine bU 3 rfl (by kernel_rfl) rfl (q_load 1 tk3 rfl rfl rfl) ?_
     refine bU 4 rfl (by kernel_rfl) rfl (q_call (by kernel_rfl) rfl (fun w S fp hst => (con_cmpI _ _).quiet0 hst)) ?_
     refine bU 5 rfl (by kernel_rfl) rfl (q_fieldAddr (off := 1) (by kernel_rfl) rfl) ?_
     refine bU 6 rfl (by kernel_rfl) rfl (q_load 2 tk3 rfl rfl rfl) ?_
     refine bU 7 rfl (by kernel_rfl) rfl (q_fieldAddr (off := 1) (by kernel_rfl) rfl) ?_
     refine bU 8 rfl (by kernel_rfl) rfl (q_load 1 tk3 rfl rfl rfl) ?_
     refine bU 9 rfl (by kernel_rfl) rfl (q_call (by kernel_rfl) rfl (fun w S fp hst => (con_cmpI _ _).quiet0 hst)) ?_
     refine bU 10 rfl (by kernel_rfl) rfl (q_fieldAddr (off := 2) (by kernel_rfl) rfl) ?_
     refine bU 11 rfl (by kernel_rfl) rfl (q_load 1 tk3 rfl rfl rfl) ?_
     refine bU 12 rfl (by kernel_rfl) rfl (q_fieldAddr (off := 2) (by kernel_rfl) rfl) ?_
     refine bU 13 rfl (by kernel_rfl) rfl (q_load 2 tk3 rfl rfl rfl) ?_
     refine bU 14 rfl (by kernel_rfl) rfl (q_call (by kernel_rfl) rfl (fun w S fp hst => (con_cmpI _ _).quiet0 hst)) ?_
     refine aB_lit1 (zs := [.int .i64 0]) (l := [(0, .tmp 35), (1, .tmp 40), (2, .tmp 45)]) 15 rfl (by kernel_rfl) el90 (by kernel_rfl) (by decide) (by decide) (by decide) rfl rfl rfl rfl (.more rfl (.v rfl .nil) (.more rfl (.v rfl .nil) (.more rfl (.v rfl .nil) .nil))) rfl rfl (fun v9_15 => ?_)
     refine aB_callN (caps := []) 16 rfl (by kernel_rfl) [4] ((0 : Int)) (by kernel_rfl) true rfl rfl (fun _ => rfl) (fun hc => rfl) (fun hc => by rw [List.append_nil]; exact con_orW ⟨v9_15, 3, [cmpI y.sec x.sec, cmpI y.from_ x.from_, cmpI x.to_ y.to_]⟩) (fun c2 hc2 => ?_)
     refine bU 17 rfl (by kernel_rfl) rfl (q_gtr rfl rfl) ?_
     refine aB_nil (by kernel_rfl) ?_
     refine thn_n ?_
     refine awp_cond _ rfl (fun h4 => ?_) (fun h4 => ?_)
     ·skip
      refine aSR (aA rfl (aNn (awp_ret (thn_r (blk_r (thn_r (thn_r (blk_r (thn_r ?_)))))))))
      refine fin1 [] [] rfl Tryz.results73 rfl ?_ (.inr rfl)
      exact ⟨⟨rfl, rfl⟩, _, rfl, fun _ => trivial⟩
     ·skip
      refine awp_skip (thn_n ?_)
      first
      | exact ⟨[1, 3, 5, 15, 16, 17], [1, 0], [0, 1], b6_3, rfl, rfl⟩
      | exact ⟨[1, 3, 5, 15, 16, 17], [1, 0], [0, 1], b6_3, rfl, rfl⟩
    ·skip
     refine awp_skip (thn_n ?_)
     first
     | exact ⟨[1, 3, 5, 15, 16, 17], [1, 0], [0, 1], b6_3, rfl, rfl⟩
     | exact ⟨[1, 3, 5, 15, 16, 17], [1, 0], [0, 1], b6_3, rfl, rfl⟩
   ·skip
    rintro bx
    refine awp_seq (awp_block (awp_loopK [1, 3, 5, 15, 16, 17] [1, 0] [0, 1] (fun (q : Value × List GInline) s => q.2.length ≤ k ∧ s = ⟨[(1, true, .pointer (some ⟨b0_0, 0, none⟩)), (3, true, q.1), (5, true, .pointer (some ⟨bx, 0, none⟩)), (15, true, o.inlines.val), (16, true, .int .i64 o.inlines.l.length), (17, true, .int .i64 k)], [At b0_0 0 o.row, o.ok], [OwnS q.1 200 6 (q.2.map GInline.row), Box bx 200 x.vs]⟩) (fun q => q.2.length) rfl (⟨(v, zs), hz, rfl⟩) ?_))
    rintro ⟨u, ys⟩ s ⟨hy, rfl⟩
    dsimp only at hy
    refine awp_seq (awp_seq ?_)
    refine awp_drawn [] (by kernel_rfl) ?_
    show aB _ _ _ _ _ 27 #[false, false, false, false, false, false, false, false, false, false, false, false, false, false, false, false, false, false, false, false, false, false, false, false, false, false, false] _
    refine bU 0 rfl (by kernel_rfl) rfl (q_move rfl) ?_
    refine bU 1 rfl (by kernel_rfl) rfl (q_lenO 0 Tryz.underlying56 rfl rfl) ?_
    refine bU 2 rfl (by kernel_rfl) rfl (q_gtr rfl rfl) ?_
    refine bU 3 rfl (by kernel_rfl) rfl (q_move rfl) ?_
    refine bG 4 rfl (by kernel_rfl) rfl rfl (fun hc => q_move rfl) ?_
    refine bG 5 rfl (by kernel_rfl) rfl rfl (fun hc => q_move rfl) ?_
    refine bG 6 rfl (by kernel_rfl) rfl rfl (fun hc => q_lenO 0 Tryz.underlying56 (ev_yes rfl hc) rfl) ?_
    refine bG 7 rfl (by kernel_rfl) rfl rfl (fun hc => q_subi (ev_yes rfl hc) rfl (by simp only [List.length_map] at hc ⊢; omega)) ?_
    refine bG 8 rfl (by kernel_rfl) rfl rfl (fun hc => q_idxO 0 (ys.length - 1) el56 (ev_yes rfl hc) rfl (ev_yes rfl hc) (by simp at hc ⊢; omega) (by simp at hc ⊢; omega)) ?_
    refine bG 9 rfl (by kernel_rfl) rfl rfl (fun hc => q_fieldAddr (off := 0) (by kernel_rfl) (ev_yes rfl hc)) ?_
    refine bG 10 rfl (by kernel_rfl) rfl rfl (fun hc => q_loadO 0 (ys.length - 1) 0 tk3 (ev_yes rfl hc) rfl (rows_get (elt_nat (l := ys) (i := ys.length - 1) (by simp at hc; omega))) rfl rfl) ?_
    refine bG 11 rfl (by kernel_rfl) rfl rfl (fun hc => q_fieldAddr (off := 0) (by kernel_rfl) rfl) ?_
    refine bG 12 rfl (by kernel_rfl) rfl rfl (fun hc => q_load 1 tk3 (ev_yes rfl hc) rfl rfl) ?_
    refine bG 13 rfl (by kernel_rfl) rfl rfl (fun hc => q_neq (ev_yes rfl hc) (ev_yes rfl hc)) ?_
    refine bG 14 rfl (by kernel_rfl) rfl rfl (fun hc => q_move (ev_yes rfl hc)) ?_
    refine bG 15 rfl (by kernel_rfl) rfl rfl (fun hc => q_move rfl) ?_
    refine bG 16 rfl (by kernel_rfl) rfl rfl (fun hc => q_move rfl) ?_
    refine bG 17 rfl (by kernel_rfl) rfl rfl (fun hc => q_lenO 0 Tryz.underlying56 (ev_yes rfl hc) rfl) ?_
    refine bG 18 rfl (by kernel_rfl) rfl rfl (fun hc => q_subi (ev_yes rfl hc) rfl (by simp only [List.length_map] at hc ⊢; omega)) ?_
    refine bG 19 rfl (by kernel_rfl) rfl rfl (fun hc => q_idxO 0 (ys.length - 1) el56 (ev_yes rfl hc) rfl (ev_yes rfl hc) (by simp at hc ⊢; omega) (by simp at hc ⊢; omega)) ?_
    refine bG 20 rfl (by kernel_rfl) rfl rfl (fun hc => q_fieldAddr (off := 2) (by kernel_rfl) (ev_yes rfl hc)) ?_
    refine bG 21 rfl (by kernel_rfl) rfl rfl (fun hc => q_loadO 0 (ys.length - 1) 2 tk3 (ev_yes rfl hc) rfl (rows_get (elt_nat (l := ys) (i := ys.length - 1) (by simp at hc; omega))) rfl rfl) ?_
    refine bG 22 rfl (by kernel_rfl) rfl rfl (fun hc => q_fieldAddr (off := 1) (by kernel_rfl) rfl) ?_
    refine bG 23 rfl (by kernel_rfl) rfl rfl (fun hc => q_load 1 tk3 (ev_yes rfl hc) rfl rfl) ?_
    refine bG 24 rfl (by kernel_rfl) rfl rfl (fun hc => q_leq (ev_yes rfl hc) (ev_yes rfl hc)) ?_
    refine bG 25 rfl (by kernel_rfl) rfl rfl (fun hc => q_or (ev_yes rfl hc) rfl (fun h => gf hc h)) ?_
    refine bU 26 rfl (by kernel_rfl) rfl (q_and rfl rfl (fun h => gt rfl h)) ?_
    refine aB_nil (by kernel_rfl) ?_
    refine thn_n ?_
    refine awp_cond _ rfl (fun h5 => ?_) (fun h5 => ?_)
    ·skip
     refine awp_skip (thn_n (awp_block ?_))
     have hne : ys ≠ [] := by intro h0; subst h0; simp at h5
     have hlp : 0 < ys.length := List.length_pos_iff.2 hne
     refine awp_headO 0 rfl (by simpa using hne) (fun B cp hv hcp => ?_)
     rw [List.length_map] at hv hcp
     dsimp only at hv hcp h5 ⊢
     subst hv
     refine awp_cutO 0 (ys.length - 1) rfl (by simp) ?_
     refine awp_region (aM rfl (aM rfl (aU rfl (q_lenS Tryz.underlying56 rfl) ?_)))
     refine aU rfl (q_subi rfl rfl (by omega)) ?_
     refine aU rfl (q_sliceHV (ys.length - 1) el56 rfl rfl (by omega) (by omega) hcp) ?_
     refine aA rfl (aL_nil (blk_n (thn_n ?_)))
     refine ⟨[1, 3, 5, 15, 16, 17], [1, 0], [0, 1], rfl, ?_⟩
     exact ⟨(_, ys.take (ys.length - 1)), ⟨by dsimp only; rw [List.length_take]; omega, by dsimp only; rw [List.map_take]; rfl⟩, by dsimp only; rw [List.length_take]; omega⟩
    ·skip
     refine awp_exit (thn_e (thn_e (blk_hit (thn_n (awp_seq (awp_seq ?_))))))
     refine awp_drawn [] (by kernel_rfl) ?_
     show aB _ _ _ _ _ 15 #[false, false, false, false, false, false, false, false, false, false, false, false, false, false, false] _
     refine bU 0 rfl (by kernel_rfl) rfl (q_move rfl) ?_
     refine bU 1 rfl (by kernel_rfl) rfl (q_lenO 0 Tryz.underlying56 rfl rfl) ?_
     refine bU 2 rfl (by kernel_rfl) rfl (q_gtr rfl rfl) ?_
     refine bU 3 rfl (by kernel_rfl) rfl (q_move rfl) ?_
     refine bG 4 rfl (by kernel_rfl) rfl rfl (fun hc => q_move rfl) ?_
     refine bG 5 rfl (by kernel_rfl) rfl rfl (fun hc => q_move rfl) ?_
     refine bG 6 rfl (by kernel_rfl) rfl rfl (fun hc => q_lenO 0 Tryz.underlying56 (ev_yes rfl hc) rfl) ?_
     refine bG 7 rfl (by kernel_rfl) rfl rfl (fun hc => q_subi (ev_yes rfl hc) rfl (by simp only [List.length_map] at hc ⊢; omega)) ?_
     refine bG 8 rfl (by kernel_rfl) rfl rfl (fun hc => q_idxO 0 (ys.length - 1) el56 (ev_yes rfl hc) rfl (ev_yes rfl hc) (by simp at hc ⊢; omega) (by simp at hc ⊢; omega)) ?_
     refine bG 9 rfl (by kernel_rfl) rfl rfl (fun hc => q_fieldAddr (off := 2) (by kernel_rfl) (ev_yes rfl hc)) ?_
     refine bG 10 rfl (by kernel_rfl) rfl rfl (fun hc => q_loadO 0 (ys.length - 1) 2 tk3 (ev_yes rfl hc) rfl (rows_get (elt_nat (l := ys) (i := ys.length - 1) (by simp at hc; omega))) rfl rfl) ?_
     refine bG 11 rfl (by kernel_rfl) rfl rfl (fun hc => q_fieldAddr (off := 2) (by kernel_rfl) rfl) ?_
     refine bG 12 rfl (by kernel_rfl) rfl rfl (fun hc => q_load 1 tk3 (ev_yes rfl hc) rfl rfl) ?_
     refine bG 13 rfl (by kernel_rfl) rfl rfl (fun hc => q_lss (ev_yes rfl hc) (ev_yes rfl hc)) ?_
     refine bU 14 rfl (by kernel_rfl) rfl (q_and rfl rfl (fun h => gt rfl h)) ?_
     refine aB_nil (by kernel_rfl) ?_
     refine thn_n ?_
     refine awp_cond _ rfl (fun h6 => ?_) (fun h6 => ?_)
     ·skip
      refine aSR (aA rfl (aNn (awp_ret (thn_r (blk_r (thn_r (thn_r (blk_r (thn_r ?_)))))))))
      refine fin1 [] [] rfl Tryz.results73 rfl ?_ (.inr rfl)
      exact ⟨⟨rfl, rfl⟩, _, rfl, fun _ => trivial⟩
     ·skip
      refine awp_skip (thn_n (awp_region (aM rfl (aU rfl (q_load 1 tk200 rfl rfl rfl) ?_))))
      refine aL_eff (q := true) rfl (w_lit (zs := [.int .i64 0, .int .i64 0, .int .i64 0, .string .empty, .string .empty, .int .i64 0]) (l := [(0, .tmp 97)]) el56 (by kernel_rfl) (by decide) (by decide) (by decide) rfl rfl rfl (.more rfl (.v rfl (.v rfl (.v rfl (.v rfl (.v rfl (.v rfl .nil)))))) .nil) rfl rfl (fun v15_2 => ?_))
      refine aL_hp (by (try simp only [nM, nN]); rfl) ?_
      refine aL_eff rfl (w_append 0 el56 rfl rfl rfl rfl (w_srcO 2 el56 rfl (by simp)) (by first | assumption | simp) (by show (ys.map GInline.row).length + 1 ≤ _; rw [List.length_map]; exact Nat.le_trans (show ys.length + 1 ≤ 1001 by omega) (by decide)) ((ys ++ [x]).length) (by show (ys.map GInline.row).length + 1 = _; rw [List.length_map, List.length_append]; rfl) (fun v15_3 c15_3 => ?_))
      refine aL_hp (by (try simp only [nK, nL]); rfl) ?_
      refine aA rfl (aL_nil (blk_n (thn_n (awp_region ?_))))
      refine aU rfl (q_addi rfl rfl (by omega)) ?_
      refine aM rfl (aNn ?_)
      refine ⟨[1, 3, 15, 16, 17], [1, 0], [0], rfl, ?_⟩
      exact ⟨(k + 1, (_, ys ++ [x])), ⟨⟨by dsimp only; omega, by dsimp only; rw [List.length_append]; simp; omega⟩, by dsimp only; rw [List.map_append]; rfl⟩, by dsimp only; omega⟩
  ·skip
   refine awp_exit (thn_e (thn_e (blk_hit (thn_n (aSR (aA rfl (aNn (awp_ret ?_))))))))
   refine fin1 [] [] rfl Tryz.results73 rfl ?_ (.inr rfl)
   exact ⟨⟨rfl, rfl⟩, _, rfl, fun _ => trivial⟩
end Go.Proofs.YtgmiihmahaahiaaGreatDoor

namespace Go.Proofs.YtgmiihmahaahiaaGreatDoor
open Go.RowKit Go.Lp Go.Sy
open Go.Proofs.Tryz
attribute [local irreducible] aL aB awp aC fwp
theorem tk189 : tyk Tryz.prog 189 = some (false, 1) := by kernel_rfl
theorem con_cv11 (a n s : Int) (p : Per) : Con Tryz.prog 176 [.int .i64 a, .int .i64 n, .int .i64 s] [p] [] (YB True) := by
 refine Con.enter Tryz.func176 rfl (by simp [Tryz.ntmps176]) ?_
 show awp _ _ _ _ ⟨[(0, true, _), (1, true, _), (2, true, _)], _, _⟩
 refine aSR (aA rfl (aNn (aSR (aM rfl (aU rfl (q_geq rfl rfl) (aM rfl (aG rfl rfl (fun hc => q_move rfl) (aG rfl rfl (fun hc => q_geq (ev_yes rfl hc) rfl) (aU rfl (q_and rfl rfl (fun h => gt rfl h)) (aM rfl (aG rfl rfl (fun hc => q_move rfl) (aG rfl rfl (fun hc => q_move rfl) ?_))))))))))))
 refine aG rfl rfl (fun hc => q_leq (ev_yes rfl hc) (ev_yes rfl hc)) (aU rfl (q_and rfl rfl (fun h => gt rfl h)) (aM rfl (aG rfl rfl (fun hc => q_move rfl) (aG rfl rfl (fun hc => q_move rfl) (aG rfl rfl (fun hc => q_move rfl) (aG rfl rfl (fun hc => q_sub (ev_yes rfl hc) (ev_yes rfl hc)) (aG rfl rfl (fun hc => q_leq (ev_yes rfl hc) (ev_yes rfl hc)) (aU rfl (q_and rfl rfl (fun h => gt rfl h)) (aA rfl (aNn (awp_ret ?_)))))))))))
 refine fin1 [] [] rfl Tryz.results176 rfl ?_ (.inr rfl)
 exact ⟨⟨rfl, rfl⟩, _, rfl, fun _ => trivial⟩
theorem con_cv12 (b1 b2 : Nat) (n : Int) (x : GPiece) : Con Tryz.prog 178 [x.val, .pointer (some ⟨b1, 0, none⟩), .pointer (some ⟨b2, 0, none⟩)] [At b1 0 [.v (.func (.func 176) #[] #[])], At b2 0 [.v (.int .i64 n)]] [] (YB True) := by
 refine Con.enter Tryz.func178 rfl (by simp [Tryz.ntmps178]) ?_
 show awp _ _ _ _ ⟨[(0, true, _), (1, true, _), (2, true, _)], _, _⟩
 refine aSR ?_
 refine aL_eff (q := true) rfl (x_box rfl rfl rfl (fun b0_0 => ?_))
 refine aL_hp (by (try simp only [nM, nN]); rfl) ?_
 refine aA rfl (aNn (aSR (aU rfl (q_loadDE (o := 0) tk189 rfl (.of (psAt 0 rfl)) rfl) ?_)))
 refine aU rfl (q_fieldAddr (off := 0) (by kernel_rfl) rfl) ?_
 refine aU rfl (q_load 0 tk3 rfl rfl rfl) ?_
 refine aU rfl (q_fieldAddr (off := 1) (by kernel_rfl) rfl) ?_
 refine aU rfl (q_load 0 tk3 rfl rfl rfl) ?_
 refine aL_callN [0] (false) (by kernel_rfl) true rfl rfl (fun _ => rfl) (fun hc => rfl) (fun hc => con_cv11 _ _ _ _) (fun c1 hc1 => ?_)
 refine aM rfl (aG rfl rfl (fun hc => q_loadDE (o := 0) tk189 rfl (.of (psAt 0 rfl)) rfl) ?_)
 refine aG rfl rfl (fun hc => q_fieldAddr (off := 2) (by kernel_rfl) rfl) ?_
 refine aG rfl rfl (fun hc => q_load 0 tk3 (ev_yes rfl hc) rfl rfl) ?_
 refine aG rfl rfl (fun hc => q_fieldAddr (off := 1) (by kernel_rfl) rfl) ?_
 refine aG rfl rfl (fun hc => q_load 0 tk3 (ev_yes rfl hc) rfl rfl) (aG rfl rfl (fun hc => q_loadDE (o := 0) tk3 rfl (.of (psAt 1 rfl)) rfl) ?_)
 refine aL_callN [0] (false) (by kernel_rfl) _ rfl rfl (fun hc => (ev_yes rfl hc)) (fun hc => (evs_cons (ev_yes rfl hc) (evs_cons (ev_yes rfl hc) (evs_cons (ev_yes rfl hc) rfl)))) (fun hc => con_cv11 _ _ _ _) (fun c2 hc2 => ?_)
 refine aU rfl (q_and rfl rfl (fun h => gt rfl h)) (aA rfl (aNn (awp_ret ?_)))
 refine fin1 [] [] rfl Tryz.results178 rfl ?_ (.inr rfl)
 exact ⟨⟨rfl, rfl⟩, _, rfl, fun _ => trivial⟩
theorem con_cv13 (x y : GPiece) (p : Per) : Con Tryz.prog 180 [x.val, y.val] [p] [] (YB True) := by
 refine Con.enter Tryz.func180 rfl (by simp [Tryz.ntmps180]) ?_
 show awp _ _ _ _ ⟨[(0, true, _), (1, true, _)], _, _⟩
 refine aSR ?_
 refine aL_eff (q := true) rfl (x_box rfl rfl rfl (fun b0_0 => ?_))
 refine aL_hp (by (try simp only [nM, nN]); rfl) ?_
 refine aL_eff (q := true) rfl (x_box rfl rfl rfl (fun b0_1 => ?_))
 refine aL_hp (by (try simp only [nM, nN]); rfl) ?_
 refine aA rfl (aNn (aSR ?_))
 refine aU rfl (q_fieldAddr (off := 2) (by kernel_rfl) rfl) ?_
 refine aU rfl (q_load 0 tk3 rfl rfl rfl) ?_
 refine aU rfl (q_fieldAddr (off := 1) (by kernel_rfl) rfl) ?_
 refine aU rfl (q_load 0 tk3 rfl rfl rfl) (aU rfl (q_add rfl rfl) ?_)
 refine aU rfl (q_fieldAddr (off := 2) (by kernel_rfl) rfl) ?_
 refine aU rfl (q_load 1 tk3 rfl rfl rfl) (aU rfl (q_leq rfl rfl) (aA rfl (aNn (awp_ret ?_))))
 refine fin1 [] [] rfl Tryz.results180 rfl ?_ (.inr rfl)
 exact ⟨⟨rfl, rfl⟩, _, rfl, fun _ => trivial⟩
theorem con_cv2 (x y : GConvert) (p : Per) : Con Tryz.prog 181 [x.val, y.val] [p] [] (YB True) := by
 refine Con.enter Tryz.func181 rfl (by simp [Tryz.ntmps181]) ?_
 show awp _ _ _ _ ⟨[(0, true, _), (1, true, _)], _, _⟩
 refine aSR ?_
 refine aL_eff (q := true) rfl (x_box rfl rfl rfl (fun b0_0 => ?_))
 refine aL_hp (by (try simp only [nM, nN]); rfl) ?_
 refine aL_eff (q := true) rfl (x_box rfl rfl rfl (fun b0_1 => ?_))
 refine aL_hp (by (try simp only [nM, nN]); rfl) ?_
 refine aA rfl (aNn (aSR ?_))
 refine aU rfl (q_fieldAddr (off := 0) (by kernel_rfl) rfl) ?_
 refine aU rfl (q_load 0 tk3 rfl rfl rfl) ?_
 refine aU rfl (q_fieldAddr (off := 0) (by kernel_rfl) rfl) ?_
 refine aU rfl (q_load 1 tk3 rfl rfl rfl) (aU rfl (q_lss rfl rfl) (aM rfl ?_))
 refine aG rfl rfl (fun hc => q_fieldAddr (off := 0) (by kernel_rfl) rfl) ?_
 refine aG rfl rfl (fun hc => q_load 0 tk3 (ev_yes rfl hc) rfl rfl) ?_
 refine aG rfl rfl (fun hc => q_fieldAddr (off := 0) (by kernel_rfl) rfl) ?_
 refine aG rfl rfl (fun hc => q_load 1 tk3 (ev_yes rfl hc) rfl rfl) (aG rfl rfl (fun hc => q_eql (ev_yes rfl hc) (ev_yes rfl hc)) (aG rfl rfl (fun hc => q_move (ev_yes rfl hc)) ?_))
 refine aG rfl rfl (fun hc => q_fieldAddr (off := 1) (by kernel_rfl) rfl) ?_
 refine aG rfl rfl (fun hc => q_load 0 tk9 (ev_yes rfl hc) rfl rfl) ?_
 refine aG rfl rfl (fun hc => q_fieldAddr (off := 1) (by kernel_rfl) rfl) ?_
 refine aG rfl rfl (fun hc => q_load 1 tk9 (ev_yes rfl hc) rfl rfl) (aG rfl rfl (fun hc => qs_lss (ev_yes rfl hc) (ev_yes rfl hc)) (aG rfl rfl (fun hc => q_and (ev_yes rfl hc) rfl (fun h => gt hc h)) (aU rfl (q_or rfl rfl (fun h => gf rfl h)) (aA rfl (aNn (awp_ret ?_))))))
 refine fin1 [] [] rfl Tryz.results181 rfl ?_ (.inr rfl)
 exact ⟨⟨rfl, rfl⟩, _, rfl, fun _ => trivial⟩
theorem con_cv1 (b : Nat) (o : GObject) (x : GConvert) : Con Tryz.prog 175 [x.val, .pointer (some ⟨b, 0, none⟩)] [At b 0 o.row, o.ok, x.ok] [] (YB True) := by
 refine Con.enter Tryz.func175 rfl (by simp [Tryz.ntmps175]) ?_
 show awp _ _ _ _ ⟨[(0, true, _), (1, true, _)], _, _⟩
 refine awp_lenE (GObject.f_secs (.of (psAt 1 rfl))) (fun hlen => ?_)
 refine aSR ?_
 refine aL_eff (q := true) rfl (x_box rfl rfl rfl (fun b0_0 => ?_))
 refine aL_hp (by (try simp only [nM, nN]); rfl) ?_
 refine aA rfl (aNs (aSR (aU rfl (q_loadDE (o := 0) tk145 rfl (.of (psAt 0 rfl)) rfl) ?_)))
 refine aU rfl (q_fieldAddr (off := 0) (by kernel_rfl) rfl) ?_
 refine aU rfl (q_load 0 tk3 rfl rfl rfl) ?_
 refine aL_litG (zs := [.int .i64 0]) (l := [(0, .const (.int .i64 1))]) el90 (by kernel_rfl) (by decide) (by decide) (by decide) rfl _ rfl (fun hc => rfl) rfl (.more rfl (.v rfl .nil) .nil) rfl rfl (fun v1_3 => ?_)
 refine aL_callN (caps := []) [3, 1] (false) (by kernel_rfl) true rfl rfl (fun _ => rfl) (fun hc => rfl) (fun hc => by rw [List.append_nil]; exact (con_ois o ⟨v1_3, 1, [1]⟩ _).pre (ent2 (.yes (.of (psAt 0 rfl)) rfl) (.of (psAt 1 rfl)))) (fun c1 hc1 => ?_)
 refine aU rfl (q_not rfl) (aM rfl ?_)
 refine aG rfl rfl (fun hc => q_fieldAddr (off := 1) (by kernel_rfl) rfl) ?_
 refine aG rfl rfl (fun hc => q_load 0 tk9 (ev_yes rfl hc) rfl rfl) (aG rfl rfl (fun hc => q_lenStr Tryz.underlying9 (ev_yes rfl hc)) (aG rfl rfl (fun hc => q_neq (ev_yes rfl hc) rfl) (aU rfl (q_or rfl rfl (fun h => gf rfl h)) (aM rfl ?_))))
 refine aG rfl rfl (fun hc => q_fieldAddr (off := 3) (by kernel_rfl) rfl) ?_
 refine aG rfl rfl (fun hc => q_load 0 tk3 (ev_yes rfl hc) rfl rfl) (aG rfl rfl (fun hc => q_neq (ev_yes rfl hc) rfl) (aG rfl rfl (fun hc => q_move (ev_yes rfl hc)) (aG rfl rfl (fun hc => q_loadDE (o := 0) tk145 rfl (.of (psAt 1 rfl)) rfl) ?_)))
 refine aG rfl rfl (fun hc => q_fieldAddr (off := 3) (by kernel_rfl) rfl) ?_
 refine aG rfl rfl (fun hc => q_load 0 tk3 (ev_yes rfl hc) rfl rfl) ?_
 refine aL_callN (caps := []) [1] (false) (by kernel_rfl) _ rfl rfl (fun _ => rfl) (fun hc => (evs_cons (ev_yes rfl hc) (evs_cons (ev_yes rfl hc) (evs_cons (ev_yes rfl rfl) rfl)))) (fun hc => by rw [List.append_nil]; exact con_osym o _ _) (fun c2 hc2 => ?_)
 refine aG rfl rfl (fun hc => q_not (ev_yes rfl hc)) (aG rfl rfl (fun hc => q_and (ev_yes rfl hc) rfl (fun h => gt hc h)) (aU rfl (q_or rfl rfl (fun h => gf rfl h)) (aNn ?_)))
 refine awp_cond _ rfl (fun h1 => ?_) (fun h1 => ?_)
 ·skip
  refine aSR (aA rfl (aNn (awp_ret (thn_r ?_))))
  refine fin1 [] [] rfl Tryz.results175 rfl ?_ (.inr rfl)
  exact ⟨⟨rfl, rfl⟩, _, rfl, fun _ => trivial⟩
 ·skip
  have hsec : 0 ≤ x.sec ∧ x.sec < o.secs.l.length := by
    simp only [Bool.or_eq_false_iff, Bool.not_eq_false'] at h1
    exact hc1 rfl h1.1.1
  refine awp_skip (thn_n (aSR ?_))
  refine aU rfl (q_fieldAddr (off := 0) (by kernel_rfl) rfl) ?_
  refine aU rfl (q_fieldAddr (off := 1) (by kernel_rfl) rfl) ?_
  refine aU rfl (q_loadDE (o := 1) tk50 rfl (.of (psAt 1 rfl)) rfl) ?_
  refine aU rfl (q_fieldAddr (off := 0) (by kernel_rfl) rfl) ?_
  refine aU rfl (q_load 0 tk3 rfl rfl rfl) ?_
  refine aL_E true rfl rfl (fun _ => q_indexAddrG Tryz.underlying50 tk85 rfl ((GObject.f_secs (.of (psAt 2 rfl)))) rfl (rows_elt (i := x.sec) (by omega) (by omega)) (by omega) rfl) (fun h => absurd h (by decide)) (fun ⟨b3_5, o3_5⟩ => ?_)
  refine aU rfl (q_fieldAddr (off := 3) (by kernel_rfl) rfl) ?_
  refine aU rfl (q_loadD (o := 3) tk3 rfl (psAt 0 rfl) rfl rfl) ?_
  refine aL_eff (q := true) rfl (x_alloc (zs := [.int .i64 0]) (by kernel_rfl) rfl (fun b3_8 => ?_))
  refine aL_hp (by (try simp only [nM, nN]); rfl) ?_
  refine aL_eff rfl (x_store 1 tk3 rfl rfl rfl rfl ?_)
  refine aL_hp (by (try simp only [nK, nL]); rfl) ?_
  refine aNs (awp_shareB 1 rfl rfl ?_)
  show awp _ _ _ _ ⟨_, At _ 0 _ :: _, _⟩
  refine awp_region ?_
  refine aL_eff (q := true) rfl (x_alloc (zs := [.nilFunc]) (by kernel_rfl) rfl (fun b4_0 => ?_))
  refine aL_hp (by (try simp only [nM, nN]); rfl) ?_
  refine aL_eff rfl (x_store 2 tk189 rfl rfl rfl rfl ?_)
  refine aL_hp (by (try simp only [nK, nL]); rfl) ?_
  refine aNs (awp_shareB 2 rfl rfl ?_)
  show awp _ _ _ _ ⟨_, At _ 0 _ :: _, _⟩
  refine awp_region ?_
  refine aU rfl (q_fieldAddr (off := 2) (by kernel_rfl) rfl) ?_
  refine aU rfl (q_load 0 tk208 rfl rfl rfl) (aU rfl (q_func (l := [.tmp 5, .tmp 4]) rfl) ?_)
  refine aL_callN (caps := []) [6, 5, 0] (false) (by kernel_rfl) true rfl rfl (fun _ => rfl) (fun hc => rfl) (fun hc => by rw [List.append_nil]; exact (con_every_piece x.pieces 178 [.pointer (some ⟨b4_0, 0, none⟩), .pointer (some ⟨b3_8, 0, none⟩)] (AndP (At b4_0 0 [.v (.func (.func 176) #[] #[])]) (At b3_8 0 [.v (.int .i64 (elt o.secs.l x.sec).size)])) (fun _ => True) (by kernel_rfl) (fun y _ => (con_cv12 b4_0 b3_8 _ y).pre (ent2 ent1.left ent1.right))).pre (ent2 (GConvert.f_pieces (.of (psAt 2 rfl))) (.mk2 (.of (psAt 0 rfl)) (.of (psAt 1 rfl))))) (fun c3 hc3 => ?_)
  refine aM rfl ?_
  refine aG rfl rfl (fun hc => q_fieldAddr (off := 2) (by kernel_rfl) rfl) ?_
  refine aG rfl rfl (fun hc => q_load 0 tk208 (ev_yes rfl hc) rfl rfl) ?_
  refine aL_callN (caps := []) [0] (false) (by kernel_rfl) _ rfl rfl (fun _ => rfl) (fun hc => (evs_cons (ev_yes rfl hc) (evs_cons (ev_yes rfl rfl) rfl))) (fun hc => by rw [List.append_nil]; exact (con_pairs_piece x.pieces 180 [] x.ok (by kernel_rfl) (fun y _ z _ => con_cv13 y z _)).pre (ent2 (GConvert.f_pieces (.of (psAt 0 rfl))) (.of (psAt 0 rfl)))) (fun c4 hc4 => ?_)
  refine aU rfl (q_and rfl rfl (fun h => gt rfl h)) (aA rfl (aNn (awp_ret ?_)))
  refine fin1 [] [] rfl Tryz.results175 rfl ?_ (.inr rfl)
  exact ⟨⟨rfl, rfl⟩, _, rfl, fun _ => trivial⟩
theorem con_oconverts (o : GObject) : Con Tryz.prog 76 [o.val] [o.ok] [] (YB True) := by
 refine Con.enter Tryz.func76 rfl (by simp [Tryz.ntmps76]) ?_
 show awp _ _ _ _ ⟨[(0, true, _)], _, _⟩
 refine aSR ?_
 refine aL_eff (q := true) rfl (x_box rfl rfl rfl (fun b0_0 => ?_))
 refine aL_hp (by (try simp only [nM, nN]); rfl) ?_
 refine aA rfl (aNn (aSR (aU rfl (q_func (l := [.tmp 1]) rfl) (aA rfl (aL_nil ?_)))))
 refine thn_n (aSR (aA rfl (aNs (awp_shareB 0 rfl rfl ?_))))
 show awp _ _ _ _ ⟨_, At _ 0 _ :: _, _⟩
 refine awp_region ?_
 refine aU rfl (q_fieldAddr (off := 0) (by kernel_rfl) rfl) ?_
 refine aU rfl (q_fieldAddr (off := 10) (by kernel_rfl) rfl) ?_
 refine aU rfl (q_loadDE (o := 10) tk59 rfl (.of (psAt 0 rfl)) rfl) (aM rfl ?_)
 refine aL_callN (caps := []) [1, 0] (false) (by kernel_rfl) true rfl rfl (fun _ => rfl) (fun hc => rfl) (fun hc => by rw [List.append_nil]; exact (con_every_convert o.converts 175 [.pointer (some ⟨b0_0, 0, none⟩)] (AndP (At b0_0 0 o.row) o.ok) (fun _ => True) (by kernel_rfl) (fun x hx => (con_cv1 b0_0 o x).pre (ent3 ent1.left ent1.right (.allm (GObject.f_convertsA ent1.right) hx)))).pre (ent2 (GObject.f_converts (.of (psAt 1 rfl))) (.mk2 (.of (psAt 0 rfl)) (.of (psAt 1 rfl))))) (fun c1 hc1 => ?_)
 refine aM rfl ?_
 refine aG rfl rfl (fun hc => q_fieldAddr (off := 0) (by kernel_rfl) rfl) ?_
 refine aG rfl rfl (fun hc => q_fieldAddr (off := 10) (by kernel_rfl) (ev_yes rfl hc)) ?_
 refine aG rfl rfl (fun hc => q_loadDE (o := 10) tk59 (ev_yes rfl hc) (.of (psAt 0 rfl)) rfl) (aG rfl rfl (fun hc => q_move rfl) ?_)
 refine aL_callN (caps := []) [0] (false) (by kernel_rfl) _ rfl rfl (fun _ => rfl) (fun hc => (evs_cons (ev_yes rfl hc) (evs_cons (ev_yes rfl hc) rfl))) (fun hc => by rw [List.append_nil]; exact (con_pairs_convert o.converts 181 [] o.ok (by kernel_rfl) (fun x _ y _ => con_cv2 x y _)).pre (ent2 (GObject.f_converts (.of (psAt 0 rfl))) (.of (psAt 0 rfl)))) (fun c2 hc2 => ?_)
 refine aU rfl (q_and rfl rfl (fun h => gt rfl h)) (aA rfl (aNn (awp_ret ?_)))
 refine fin1 [] [] rfl Tryz.results76 rfl ?_ (.inr rfl)
 exact ⟨⟨rfl, rfl⟩, _, rfl, fun _ => trivial⟩
end Go.Proofs.YtgmiihmahaahiaaGreatDoor

namespace Go.Sy
open Go.RowKit Go.Lp
section
variable {P : Program} {d : Option Tmp} {ty : TypeId} {pos : String} {af : Array Edge} {gd : Option (Nat × Bool)}
theorem exec_callB {f : FuncId} (hf : callOk P f = true) {ts : Array TypeId} {g : Operand} {fst caps : Array Value} {ρ : Operand → Value} (hg : ρ g = .func (.func f) fst caps) (w : World) :
   (execOp ρ ⟨d, .call ⟨.value g, #[], ts⟩, ty, pos, af, gd⟩).run P w = .ok (.enter f (fst ++ caps)) w := by
 unfold execOp
 dsimp only
 show ((resolve ρ ⟨.value g, #[], ts⟩ ty).bind fun x => invoke x.target x.args).run P w = _
 have : resolve ρ ⟨.value g, #[], ts⟩ ty = Sem.pure { target := .fn (.func f) caps, args := fst } := by
   unfold resolve
   dsimp only
   rw [hg]
   show Deferred.ofValue _ _ = _
   unfold Deferred.ofValue
   dsimp only
   rw [Array.map_empty, Array.append_empty]
   rfl
 rw [this]
 show (callFunc f (fst ++ caps)).run P w = _
 exact run_callFunc hf _ w
variable {n : Fr} {s : Sta}
theorem q_bind {fn : Fn} {l : List Operand} {vs : List Value} (hx : evs s.env l = some vs) :
   Quiet P n ⟨d, .makeFunc fn l.toArray #[], ty, pos, af, gd⟩ s (.func fn vs.toArray #[]) := fun w S fp a hst he hn => by
 have : (execOp a.eval ⟨d, .makeFunc fn l.toArray #[], ty, pos, af, gd⟩).run P w = .ok (.value (.func fn (l.toArray.map a.eval) #[])) w := by
   show Result.ok (Next.value (.func fn (l.toArray.map a.eval) ((#[] : Array Operand).map a.eval))) w = _
   rw [Array.map_empty]
 rw [this, List.map_toArray, evs_map he l vs hx]
 exact uponQ_ok _ _
variable {ops : Array Oper} {Q : Exit → Sta → Prop} {env : Env} {ps : List Per} {hp : List Res} {rest : List Oper}
theorem e_callB {t : Nat} {f : FuncId} {g : Operand} {fst : List Value} {ts : Array TypeId} {q : Bool} {R : Value → List Per → List Res → Prop} {K : Sta → Prop} (lp lh : List Nat) (hf : callOk P f = true) (hgv : ev env g = some (true, .func (.func f) fst.toArray #[])) (ht : fits n (some t) = true) (ok : okH hp lh = true)
   (hq : (!q || lh.isEmpty) = true) (hc : Con P f fst (keepP ps lp) (keepH hp lh) R) (hK : ∀ v ps' hp', R v ps' hp' → K ⟨(t, true, v) :: env, ps' ++ ps, putB lh hp' 0 hp⟩) :
   Eff P n ⟨some t, .call ⟨.value g, #[], ts⟩, ty, pos, af, gd⟩ ⟨env, ps, hp⟩ q K := fun w S fp a hst he hn => by
 rw [exec_callB hf (he.val hgv rfl)]
 obtain ⟨k1, k2⟩ := hst.keepH lp lh ok
 have hcc := hc w S _ k1
 rw [Array.append_empty]
 refine hcc.mono fun e w' ⟨v, ps', hp', S', fp', he', hR, hst', hE, hg⟩ => ⟨v, he', ?_⟩
 obtain ⟨m1, m2⟩ := hst.back lp lh ok hst' hE hg
 refine ⟨_, S', _, hK v ps' hp' hR, m1, ?_, hE.wider k2, m2, fun hq' => ?_⟩
 · exact he.put (g := true) (by rw [hn]; simpa [fits] using ht) v
 · rw [hq'] at hq
   have : lh = [] := by simpa using hq
   subst this
   exact hE.toX (fun b hb => tot_nil _ b hb)
theorem aL_callB {β : Type} {v : β → Value} {Φ : β → Prop} {t : Nat} {f : FuncId} {g : Operand} {fst : List Value} {ts : Array TypeId} (lp : List Nat) (hf : callOk P f = true) (hc : guardOf ops env ⟨some t, .call ⟨.value g, #[], ts⟩, ty, pos, af, gd⟩ = some true) (ht : fits n.size (some t) = true)
   (hgv : ev env g = some (true, .func (.func f) fst.toArray #[])) (hcon : Con P f fst (keepP ps lp) [] (YN v Φ))
   (h : ∀ b, Φ b → aL P n ops Q rest ⟨(t, true, v b) :: env, ps, hp⟩) : aL P n ops Q (⟨some t, .call ⟨.value g, #[], ts⟩, ty, pos, af, gd⟩ :: rest) ⟨env, ps, hp⟩ := by
 refine aL_eff (q := true) hc (e_callB lp [] hf hgv ht rfl rfl hcon ?_)
 rintro _ _ _ ⟨⟨rfl, rfl⟩, b, rfl, hb⟩
 refine aL_hp ?_ (h b hb)
 apply List.ext_getElem?; intro i; rw [putB_get]
 by_cases hi : i < hp.length
 · rw [if_pos hi]; rfl
 · rw [if_neg hi, List.getElem?_eq_none (by simp), List.getElem?_eq_none (by omega)]
end
end Go.Sy

namespace Go.Proofs.YtgmiihmahaahiaaGreatDoor
open Go.RowKit Go.Lp Go.Sy
open Go.Proofs.Tryz
attribute [local irreducible] aL aB awp aC fwp
structure RtOk (o : GObject) : Prop where
 secs : ∀ s ∈ o.secs.l, s.bytes.size ≤ 1048576
 syms : ∀ s ∈ o.syms.l, (s.sec = -1 ∧ s.bind ≠ 0) ∨ (0 ≤ s.sec ∧ s.sec < o.secs.l.length)
 groups : ∀ g ∈ o.groups.l, g.secs.l.length ≤ o.secs.l.length ∧ ∀ z ∈ g.secs.l, 0 ≤ z ∧ z < o.secs.l.length
def RtK (o : GObject) (k : Nat) : Prop := match k with
 | 0 => ∀ s ∈ o.secs.l, s.bytes.size ≤ 1048576
 | 1 => ∀ s ∈ o.syms.l, (s.sec = -1 ∧ s.bind ≠ 0) ∨ (0 ≤ s.sec ∧ s.sec < o.secs.l.length)
 | 3 => ∀ g ∈ o.groups.l, g.secs.l.length ≤ o.secs.l.length ∧ ∀ z ∈ g.secs.l, 0 ≤ z ∧ z < o.secs.l.length
 | _ => True
abbrev rtFs : List FuncId := [67, 68, 69, 70, 71, 72, 73, 74, 75, 76]
structure RtFew (o : GObject) : Prop where
 secs : o.secs.l.length ≤ 1000
 groups : o.groups.l.length ≤ 1000
 inlines : o.inlines.l.length ≤ 1000
theorem rt_fn (o : GObject) (hf : RtFew o) : ∀ k : Nat, k < 10 → ∃ f, rtFs[k]? = some f ∧ callOk Tryz.prog f = true ∧ Con Tryz.prog f [o.val] [formsAt, o.ok] [] (YN Value.bool fun b => b = true → RtK o k) := by
 have up : ∀ {f : FuncId} {Φ : Prop}, Con Tryz.prog f [o.val] [o.ok] [] (YB Φ) → Con Tryz.prog f [o.val] [formsAt, o.ok] [] (YN Value.bool fun b => b = true → Φ) := fun h => h.pre fun p hp => (List.mem_singleton.1 hp) ▸ .of (psAt 1 rfl)
 intro k hk
 rcases (by omega : k = 0 ∨ k = 1 ∨ k = 2 ∨ k = 3 ∨ k = 4 ∨ k = 5 ∨ k = 6 ∨ k = 7 ∨ k = 8 ∨ k = 9) with rfl | rfl | rfl | rfl | rfl | rfl | rfl | rfl | rfl | rfl
 · exact ⟨_, rfl, by kernel_rfl, up (con_osecs o)⟩
 · exact ⟨_, rfl, by kernel_rfl, up (con_osyms o)⟩
 · exact ⟨_, rfl, by kernel_rfl, con_orels o⟩
 · exact ⟨_, rfl, by kernel_rfl, up (con_ogroups o hf.groups hf.secs)⟩
 · exact ⟨_, rfl, by kernel_rfl, up (con_oinits o)⟩
 · exact ⟨_, rfl, by kernel_rfl, up (con_olines o)⟩
 · exact ⟨_, rfl, by kernel_rfl, up (con_oinlines o hf.inlines)⟩
 · exact ⟨_, rfl, by kernel_rfl, up (con_ovars o)⟩
 · exact ⟨_, rfl, by kernel_rfl, up (con_odepths o)⟩
 · exact ⟨_, rfl, by kernel_rfl, up (con_oconverts o)⟩
theorem tk25 : tyk Tryz.prog 25 = some (false, 1) := by kernel_rfl
theorem con_oright (o : GObject) (hf : RtFew o) : Con Tryz.prog 30 [o.val] [formsAt, o.ok] [] (YB (RtOk o)) := by
 refine Con.enter Tryz.func30 rfl (by simp [Tryz.ntmps30]) ?_
 show awp _ _ _ _ ⟨[(0, true, _)], _, _⟩
 refine awp_strE (GObject.f_name (.of (psAt 1 rfl))) (fun hnl => ?_)
 refine aSR ?_
 refine aL_eff (q := true) rfl (x_box rfl rfl rfl (fun b0_0 => ?_))
 refine aL_hp (by (try simp only [nM, nN]); rfl) ?_
 refine aA rfl (aNn (aSR (aU rfl (q_load 0 tk61 rfl rfl rfl) ?_)))
 refine aU rfl (q_bld (l := [(0, .tmp 6)]) (zs := [.string .empty, .slice none 0 0, .slice none 0 0, .slice none 0 0, .slice none 0 0, .slice none 0 0, .slice none 0 0, .slice none 0 0, .slice none 0 0, .slice none 0 0, .slice none 0 0]) (pl := [(0, 11)]) (by kernel_rfl) (by kernel_rfl) (by kernel_rfl) rfl rfl rfl) ?_
 refine aL_eff (q := true) rfl (x_alloc (zs := [.string .empty, .slice none 0 0, .slice none 0 0, .slice none 0 0, .slice none 0 0, .slice none 0 0, .slice none 0 0, .slice none 0 0, .slice none 0 0, .slice none 0 0, .slice none 0 0]) (by kernel_rfl) rfl (fun b1_2 => ?_))
 refine aL_hp (by (try simp only [nM, nN]); rfl) ?_
 refine aL_eff rfl (x_store 1 tk145 rfl rfl rfl rfl ?_)
 refine aL_hp (by (try simp only [nK, nL]); rfl) ?_
 refine aNs (aSR (aU rfl (q_load 1 tk145 rfl rfl rfl) (aU rfl (q_bind (l := [.tmp 8]) rfl) (aU rfl (q_load 1 tk145 rfl rfl rfl) (aU rfl (q_bind (l := [.tmp 10]) rfl) (aU rfl (q_load 1 tk145 rfl rfl rfl) (aU rfl (q_bind (l := [.tmp 12]) rfl) (aU rfl (q_load 1 tk145 rfl rfl rfl) (aU rfl (q_bind (l := [.tmp 14]) rfl) (aU rfl (q_load 1 tk145 rfl rfl rfl) (aU rfl (q_bind (l := [.tmp 16]) rfl) (aU rfl (q_load 1 tk145 rfl rfl rfl) ?_))))))))))))
 refine aU rfl (q_bind (l := [.tmp 18]) rfl) (aU rfl (q_load 1 tk145 rfl rfl rfl) (aU rfl (q_bind (l := [.tmp 20]) rfl) (aU rfl (q_load 1 tk145 rfl rfl rfl) (aU rfl (q_bind (l := [.tmp 22]) rfl) (aU rfl (q_load 1 tk145 rfl rfl rfl) (aU rfl (q_bind (l := [.tmp 24]) rfl) (aU rfl (q_load 1 tk145 rfl rfl rfl) (aU rfl (q_bind (l := [.tmp 26]) rfl) ?_))))))))
 refine aL_eff (q := true) rfl (w_lit (zs := [.nilFunc]) (l := [(0, .tmp 9), (1, .tmp 11), (2, .tmp 13), (3, .tmp 15), (4, .tmp 17), (5, .tmp 19), (6, .tmp 21), (7, .tmp 23), (8, .tmp 25), (9, .tmp 27)]) el146 (by kernel_rfl) (by decide) (by decide) (by decide) rfl rfl rfl (.more rfl (.v rfl .nil) (.more rfl (.v rfl .nil) (.more rfl (.v rfl .nil) (.more rfl (.v rfl .nil) (.more rfl (.v rfl .nil) (.more rfl (.v rfl .nil) (.more rfl (.v rfl .nil) (.more rfl (.v rfl .nil) (.more rfl (.v rfl .nil) (.more rfl (.v rfl .nil) .nil)))))))))) rfl rfl (fun v2_20 => ?_))
 refine aL_hp (by (try simp only [nM, nN]); rfl) ?_
 refine aU rfl (q_lenO 2 Tryz.underlying146 rfl rfl) (aM rfl (aNn (awp_block ?_)))
 refine awp_loopK [1, 28, 29, 30] [1, 0] [0, 2] (fun (k : Nat) s => (k ≤ 10 ∧ ∀ j, j < k → RtK o j) ∧ s = ⟨[(1, true, .pointer (some ⟨b0_0, 0, none⟩)), (28, true, .slice v2_20 10 10), (29, true, .int .i64 (10 : Nat)), (30, true, .int .i64 k)], [formsAt, o.ok], [Box b0_0 61 o.vs, OwnS (.slice v2_20 10 10) 25 1 (rtFs.map fun f => [.v (.func (.func f) #[o.val] #[])])]⟩) (fun k => 10 - k) rfl (⟨0, ⟨Nat.zero_le _, fun j h => by omega⟩, rfl⟩) ?_
 rintro k s ⟨⟨hk, hR⟩, rfl⟩
 refine aSR (aU rfl (q_lss rfl rfl) (aNs ?_))
 refine awp_cond _ rfl (fun h1 => ?_) (fun h1 => ?_)
 ·skip
  have hk' : k < 10 := by simp at h1; omega
  obtain ⟨f, hfk, hfo, hfc⟩ := rt_fn o hf k hk'
  have hrow : (rtFs.map fun f => [D.v (.func (.func f) #[o.val] #[])])[k]? = some [.v (.func (.func f) #[o.val] #[])] := by rw [List.getElem?_map, hfk]; rfl
  refine awp_skip (thn_n (awp_seq (awp_block (aSR (aU rfl (q_idxO 1 k el146 rfl rfl rfl rfl hk') (aU rfl (q_loadO 1 k 0 tk25 rfl rfl hrow rfl rfl) (aA rfl (aNn (aSR (aM rfl ?_))))))))))
  refine aL_callB (fst := [o.val]) [1, 0] hfo rfl rfl rfl hfc (fun c1 hc1 => ?_)
  refine aU rfl (q_not rfl) (aNn ?_)
  refine awp_cond _ rfl (fun h2 => ?_) (fun h2 => ?_)
  ·skip
   refine aSR (aA rfl (aNn (awp_ret (blk_r (thn_r (thn_r (blk_r (thn_r ?_))))))))
   refine fin1 [] [] rfl Tryz.results30 rfl ?_ (.inr rfl)
   exact ⟨⟨rfl, rfl⟩, _, rfl, fun h => by cases h⟩
  ·skip
   refine awp_skip (blk_n (thn_n (awp_region ?_)))
   refine aU rfl (q_addi rfl rfl (by omega)) ?_
   refine aM rfl (aNn ?_)
   refine ⟨[1, 28, 29, 30], [1, 0], [0, 1], rfl, ?_⟩
   refine ⟨k + 1, ⟨⟨by omega, fun j hj => ?_⟩, rfl⟩, by omega⟩
   by_cases hjk : j = k
   · subst hjk; exact hc1 (by simpa using h2)
   · exact hR j (by omega)
 ·skip
  refine awp_exit (thn_e (thn_e (blk_hit (thn_n (aSR ?_)))))
  refine aU rfl (q_fieldAddr (off := 0) (by kernel_rfl) rfl) ?_
  refine aU rfl (q_load 0 tk9 rfl rfl rfl) ?_
  refine aL_callN (caps := []) [] (false) (by kernel_rfl) true rfl rfl (fun _ => rfl) (fun hc => rfl) (fun hc => by rw [List.append_nil]; exact con_oname _ hnl) (fun c2 hc2 => ?_)
  refine aA rfl (aNn (awp_ret ?_))
  refine fin1 [] [] rfl Tryz.results30 rfl ?_ (.inr rfl)
  have hk10 : k = 10 := by simp at h1; omega
  subst hk10
  exact ⟨⟨rfl, rfl⟩, _, rfl, fun _ => ⟨hR 0 (by omega), hR 1 (by omega), hR 3 (by omega)⟩⟩
end Go.Proofs.YtgmiihmahaahiaaGreatDoor

